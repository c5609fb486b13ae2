/-
  DERIVED. GIVEN WITH THE SEED: THE CARDS: each row of YtjkehapbemjnpaaDoorRows.lean that lists a variable, with what it lists TIED to the program's text (the seventh form; the later family's looks); each row that meets fmt, with fmt's text TOLD by the authors' own Lean function (tested against real Go, not proved from fmt's source: count such statements apart). THE CARD IS WHAT COUNTS. Prove the row's statement (the work); the ties are given (YtjkehapbemjnpaaDoorTie.lean); close each card by the builder's one call (the guide's Derived/Test/ToyasCard.lean, 'card_holds'). Laid BY PROGRAM, IN A SANDBOX (cutbox-door.mjs). By AI agents, Wed Nov 11 2026. No macro, syntax, notation, axiom, sorry.
-/
import Derived.Test.YtjkehapbemjnpaaDoorRows
import GoSem.ClaimSeven
namespace Go.Proofs.YtjkehapbemjnpaaDoor
namespace Rows

/-- THE TIED CARD OF 'deedboxlaw33.AskReads'. -/
def askReadsCard : Claim7 := { stood := { row := askReadsRow, standIns := [], harness := (true, "fb098ddaa108ac92ec148d9b1c2d7fcd894307f1ecd28adb8dd720fc16839960"), looks := false }, kinds := [], alts := [], laidByText := true, laidKinds := [.data, .pinned], laidTests := true, laidLooks := .later }
def AskReadsCardSaid : Prop := Claim7.holds Tryd.pinned (.plain (OpenSpec.ofChange askReadsSpec)) askReadsCard

/-- THE TIED CARD OF 'deedboxlaw33.AskWrites'. -/
def askWritesCard : Claim7 := { stood := { row := askWritesRow, standIns := [], harness := (true, "fb098ddaa108ac92ec148d9b1c2d7fcd894307f1ecd28adb8dd720fc16839960"), looks := false }, kinds := [], alts := [], laidByText := true, laidKinds := [.data, .pinned], laidTests := true, laidLooks := .later }
def AskWritesCardSaid : Prop := Claim7.holds Tryd.pinned (.plain (OpenSpec.ofChange askWritesSpec)) askWritesCard

/-- THE TIED CARD OF 'deedboxlaw33.AskBack'. -/
def askBackCard : Claim7 := { stood := { row := askBackRow, standIns := [], harness := (true, "fb098ddaa108ac92ec148d9b1c2d7fcd894307f1ecd28adb8dd720fc16839960"), looks := false }, kinds := [], alts := [], laidByText := true, laidKinds := [.data, .pinned], laidTests := true, laidLooks := .later }
def AskBackCardSaid : Prop := Claim7.holds Tryd.pinned (.plain (OpenSpec.ofChange askBackSpec)) askBackCard

/-- THE SECOND FORM's CARD OF 'deedboxlaw33.AskReads'. -/
def askReadsUptoCard : Claim7 := { stood := { row := askReadsUptoRow, standIns := [], harness := (true, "fb098ddaa108ac92ec148d9b1c2d7fcd894307f1ecd28adb8dd720fc16839960"), looks := false }, kinds := [], alts := [], laidByText := true, laidKinds := [.data, .pinned], laidTests := true, laidLooks := .later }
def AskReadsUptoCardSaid : Prop := Claim7.holds Tryd.pinned (.plain (OpenSpec.upto askReadsSpec)) askReadsUptoCard

/-- THE SECOND FORM's CARD OF 'deedboxlaw33.AskWrites'. -/
def askWritesUptoCard : Claim7 := { stood := { row := askWritesUptoRow, standIns := [], harness := (true, "fb098ddaa108ac92ec148d9b1c2d7fcd894307f1ecd28adb8dd720fc16839960"), looks := false }, kinds := [], alts := [], laidByText := true, laidKinds := [.data, .pinned], laidTests := true, laidLooks := .later }
def AskWritesUptoCardSaid : Prop := Claim7.holds Tryd.pinned (.plain (OpenSpec.upto askWritesSpec)) askWritesUptoCard

/-- THE SECOND FORM's CARD OF 'deedboxlaw33.AskBack'. -/
def askBackUptoCard : Claim7 := { stood := { row := askBackUptoRow, standIns := [], harness := (true, "fb098ddaa108ac92ec148d9b1c2d7fcd894307f1ecd28adb8dd720fc16839960"), looks := false }, kinds := [], alts := [], laidByText := true, laidKinds := [.data, .pinned], laidTests := true, laidLooks := .later }
def AskBackUptoCardSaid : Prop := Claim7.holds Tryd.pinned (.plain (OpenSpec.upto askBackSpec)) askBackUptoCard
end Rows
end Go.Proofs.YtjkehapbemjnpaaDoor
