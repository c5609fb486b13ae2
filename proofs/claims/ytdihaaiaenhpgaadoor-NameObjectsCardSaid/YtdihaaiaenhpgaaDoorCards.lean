/-
  DERIVED. GIVEN WITH THE SEED: THE CARDS: each row of YtdihaaiaenhpgaaDoorRows.lean that lists a variable, with what it lists TIED to the program's text (the seventh form; the later family's looks); each row that meets fmt, with fmt's text TOLD by the authors' own Lean function (tested against real Go, not proved from fmt's source: count such statements apart). THE CARD IS WHAT COUNTS. Prove the row's statement (the work); the ties are given (YtdihaaiaenhpgaaDoorTie.lean); close each card by the builder's one call (the guide's Derived/Test/ToyasCard.lean, 'card_holds'). Laid BY PROGRAM, IN A SANDBOX (cutbox-door.mjs). By AI agents, Wed Nov 11 2026. No macro, syntax, notation, axiom, sorry.
-/
import Derived.Test.YtdihaaiaenhpgaaDoorRows
import GoSem.ClaimSeven
namespace Go.Proofs.YtdihaaiaenhpgaaDoor
namespace Rows

/-- THE TIED CARD OF 'deedboxlaw21.NameBuckets'. -/
def nameBucketsCard : Claim7 := { stood := { row := nameBucketsRow, standIns := [], harness := (true, "396d34b9161f03b95dd0c0b0e9380253bbad90f1cde96157bbc0caf1e8662aef"), looks := false }, kinds := [], alts := [], laidByText := true, laidKinds := [.data, .pinned], laidTests := true, laidLooks := .later }
def NameBucketsCardSaid : Prop := Claim7.holds Tryd.pinned (.plain (OpenSpec.ofChange nameBucketsSpec)) nameBucketsCard

/-- THE TIED CARD OF 'deedboxlaw21.NameObjects'. -/
def nameObjectsCard : Claim7 := { stood := { row := nameObjectsRow, standIns := [], harness := (true, "396d34b9161f03b95dd0c0b0e9380253bbad90f1cde96157bbc0caf1e8662aef"), looks := false }, kinds := [], alts := [], laidByText := true, laidKinds := [.data, .pinned], laidTests := true, laidLooks := .later }
def NameObjectsCardSaid : Prop := Claim7.holds Tryd.pinned (.plain (OpenSpec.ofChange nameObjectsSpec)) nameObjectsCard

/-- THE TIED CARD OF 'deedboxlaw21.NameNumbers'. -/
def nameNumbersCard : Claim7 := { stood := { row := nameNumbersRow, standIns := [], harness := (true, "396d34b9161f03b95dd0c0b0e9380253bbad90f1cde96157bbc0caf1e8662aef"), looks := false }, kinds := [], alts := [], laidByText := true, laidKinds := [.data, .pinned], laidTests := true, laidLooks := .later }
def NameNumbersCardSaid : Prop := Claim7.holds Tryd.pinned (.plain (OpenSpec.ofChange nameNumbersSpec)) nameNumbersCard

/-- THE TIED CARD OF 'deedboxlaw21.NameBack'. -/
def nameBackCard : Claim7 := { stood := { row := nameBackRow, standIns := [], harness := (true, "396d34b9161f03b95dd0c0b0e9380253bbad90f1cde96157bbc0caf1e8662aef"), looks := false }, kinds := [], alts := [], laidByText := true, laidKinds := [.data, .pinned], laidTests := true, laidLooks := .later }
def NameBackCardSaid : Prop := Claim7.holds Tryd.pinned (.plain (OpenSpec.ofChange nameBackSpec)) nameBackCard

/-- THE SECOND FORM's CARD OF 'deedboxlaw21.NameBuckets'. -/
def nameBucketsUptoCard : Claim7 := { stood := { row := nameBucketsUptoRow, standIns := [], harness := (true, "396d34b9161f03b95dd0c0b0e9380253bbad90f1cde96157bbc0caf1e8662aef"), looks := false }, kinds := [], alts := [], laidByText := true, laidKinds := [.data, .pinned], laidTests := true, laidLooks := .later }
def NameBucketsUptoCardSaid : Prop := Claim7.holds Tryd.pinned (.plain (OpenSpec.upto nameBucketsSpec)) nameBucketsUptoCard

/-- THE SECOND FORM's CARD OF 'deedboxlaw21.NameObjects'. -/
def nameObjectsUptoCard : Claim7 := { stood := { row := nameObjectsUptoRow, standIns := [], harness := (true, "396d34b9161f03b95dd0c0b0e9380253bbad90f1cde96157bbc0caf1e8662aef"), looks := false }, kinds := [], alts := [], laidByText := true, laidKinds := [.data, .pinned], laidTests := true, laidLooks := .later }
def NameObjectsUptoCardSaid : Prop := Claim7.holds Tryd.pinned (.plain (OpenSpec.upto nameObjectsSpec)) nameObjectsUptoCard

/-- THE SECOND FORM's CARD OF 'deedboxlaw21.NameNumbers'. -/
def nameNumbersUptoCard : Claim7 := { stood := { row := nameNumbersUptoRow, standIns := [], harness := (true, "396d34b9161f03b95dd0c0b0e9380253bbad90f1cde96157bbc0caf1e8662aef"), looks := false }, kinds := [], alts := [], laidByText := true, laidKinds := [.data, .pinned], laidTests := true, laidLooks := .later }
def NameNumbersUptoCardSaid : Prop := Claim7.holds Tryd.pinned (.plain (OpenSpec.upto nameNumbersSpec)) nameNumbersUptoCard

/-- THE SECOND FORM's CARD OF 'deedboxlaw21.NameBack'. -/
def nameBackUptoCard : Claim7 := { stood := { row := nameBackUptoRow, standIns := [], harness := (true, "396d34b9161f03b95dd0c0b0e9380253bbad90f1cde96157bbc0caf1e8662aef"), looks := false }, kinds := [], alts := [], laidByText := true, laidKinds := [.data, .pinned], laidTests := true, laidLooks := .later }
def NameBackUptoCardSaid : Prop := Claim7.holds Tryd.pinned (.plain (OpenSpec.upto nameBackSpec)) nameBackUptoCard
end Rows
end Go.Proofs.YtdihaaiaenhpgaaDoor
