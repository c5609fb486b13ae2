/-
  DERIVED. GIVEN WITH THE SEED: THE CARDS: each row of YtefmoefiamjmpaaDoorRows.lean that lists a variable, with what it lists TIED to the program's text (the seventh form; the later family's looks); each row that meets fmt, with fmt's text TOLD by the authors' own Lean function (tested against real Go, not proved from fmt's source: count such statements apart). THE CARD IS WHAT COUNTS. Prove the row's statement (the work); the ties are given (YtefmoefiamjmpaaDoorTie.lean); close each card by the builder's one call (the guide's Derived/Test/ToyasCard.lean, 'card_holds'). Laid BY PROGRAM, IN A SANDBOX (cutbox-door.mjs). By AI agents, Wed Nov 11 2026. No macro, syntax, notation, axiom, sorry.
-/
import Derived.Test.YtefmoefiamjmpaaDoorRows
import GoSem.ClaimSeven
namespace Go.Proofs.YtefmoefiamjmpaaDoor
namespace Rows

/-- THE TIED CARD OF 'deedboxlaw41.PairsPuts'. -/
def pairsPutsCard : Claim7 := { stood := { row := pairsPutsRow, standIns := [], harness := (true, "d5aaa052c17fc74257995f88126a4abc2d45a16d751aa636ecfbba98eea2b617"), looks := false }, kinds := [], alts := [], laidByText := true, laidKinds := [.data, .pinned], laidTests := true, laidLooks := .later }
def PairsPutsCardSaid : Prop := Claim7.holds Tryd.pinned (.plain (OpenSpec.ofChange pairsPutsSpec)) pairsPutsCard

/-- THE TIED CARD OF 'deedboxlaw41.PairsGets'. -/
def pairsGetsCard : Claim7 := { stood := { row := pairsGetsRow, standIns := [], harness := (true, "d5aaa052c17fc74257995f88126a4abc2d45a16d751aa636ecfbba98eea2b617"), looks := false }, kinds := [], alts := [], laidByText := true, laidKinds := [.data, .pinned], laidTests := true, laidLooks := .later }
def PairsGetsCardSaid : Prop := Claim7.holds Tryd.pinned (.plain (OpenSpec.ofChange pairsGetsSpec)) pairsGetsCard

/-- THE TIED CARD OF 'deedboxlaw41.PairsBack'. -/
def pairsBackCard : Claim7 := { stood := { row := pairsBackRow, standIns := [], harness := (true, "d5aaa052c17fc74257995f88126a4abc2d45a16d751aa636ecfbba98eea2b617"), looks := false }, kinds := [], alts := [], laidByText := true, laidKinds := [.data, .pinned], laidTests := true, laidLooks := .later }
def PairsBackCardSaid : Prop := Claim7.holds Tryd.pinned (.plain (OpenSpec.ofChange pairsBackSpec)) pairsBackCard

/-- THE SECOND FORM's CARD OF 'deedboxlaw41.PairsPuts'. -/
def pairsPutsUptoCard : Claim7 := { stood := { row := pairsPutsUptoRow, standIns := [], harness := (true, "d5aaa052c17fc74257995f88126a4abc2d45a16d751aa636ecfbba98eea2b617"), looks := false }, kinds := [], alts := [], laidByText := true, laidKinds := [.data, .pinned], laidTests := true, laidLooks := .later }
def PairsPutsUptoCardSaid : Prop := Claim7.holds Tryd.pinned (.plain (OpenSpec.upto pairsPutsSpec)) pairsPutsUptoCard

/-- THE SECOND FORM's CARD OF 'deedboxlaw41.PairsGets'. -/
def pairsGetsUptoCard : Claim7 := { stood := { row := pairsGetsUptoRow, standIns := [], harness := (true, "d5aaa052c17fc74257995f88126a4abc2d45a16d751aa636ecfbba98eea2b617"), looks := false }, kinds := [], alts := [], laidByText := true, laidKinds := [.data, .pinned], laidTests := true, laidLooks := .later }
def PairsGetsUptoCardSaid : Prop := Claim7.holds Tryd.pinned (.plain (OpenSpec.upto pairsGetsSpec)) pairsGetsUptoCard

/-- THE SECOND FORM's CARD OF 'deedboxlaw41.PairsBack'. -/
def pairsBackUptoCard : Claim7 := { stood := { row := pairsBackUptoRow, standIns := [], harness := (true, "d5aaa052c17fc74257995f88126a4abc2d45a16d751aa636ecfbba98eea2b617"), looks := false }, kinds := [], alts := [], laidByText := true, laidKinds := [.data, .pinned], laidTests := true, laidLooks := .later }
def PairsBackUptoCardSaid : Prop := Claim7.holds Tryd.pinned (.plain (OpenSpec.upto pairsBackSpec)) pairsBackUptoCard
end Rows
end Go.Proofs.YtefmoefiamjmpaaDoor
