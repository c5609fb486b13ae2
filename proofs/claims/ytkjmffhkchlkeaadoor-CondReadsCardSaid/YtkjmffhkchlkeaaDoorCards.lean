/-
  DERIVED. GIVEN WITH THE SEED: THE CARDS: each row of YtkjmffhkchlkeaaDoorRows.lean that lists a variable, with what it lists TIED to the program's text (the seventh form; the later family's looks); each row that meets fmt, with fmt's text TOLD by the authors' own Lean function (tested against real Go, not proved from fmt's source: count such statements apart). THE CARD IS WHAT COUNTS. Prove the row's statement (the work); the ties are given (YtkjmffhkchlkeaaDoorTie.lean); close each card by the builder's one call (the guide's Derived/Test/ToyasCard.lean, 'card_holds'). Laid BY PROGRAM, IN A SANDBOX (cutbox-door.mjs). By AI agents, Wed Nov 11 2026. No macro, syntax, notation, axiom, sorry.
-/
import Derived.Test.YtkjmffhkchlkeaaDoorRows
import GoSem.ClaimSeven
namespace Go.Proofs.YtkjmffhkchlkeaaDoor
namespace Rows

/-- THE TIED CARD OF 'deedboxlaw23.CondReads'. -/
def condReadsCard : Claim7 := { stood := { row := condReadsRow, standIns := [], harness := (true, "33d543d0d23f06d3609864511f7e46c148b284a77a108cf175b58aea21127356"), looks := false }, kinds := [], alts := [], laidByText := true, laidKinds := [.data, .pinned], laidTests := true, laidLooks := .later }
def CondReadsCardSaid : Prop := Claim7.holds Tryd.pinned (.plain (OpenSpec.ofChange condReadsSpec)) condReadsCard

/-- THE TIED CARD OF 'deedboxlaw23.CondBack'. -/
def condBackCard : Claim7 := { stood := { row := condBackRow, standIns := [], harness := (true, "33d543d0d23f06d3609864511f7e46c148b284a77a108cf175b58aea21127356"), looks := false }, kinds := [], alts := [], laidByText := true, laidKinds := [.data, .pinned], laidTests := true, laidLooks := .later }
def CondBackCardSaid : Prop := Claim7.holds Tryd.pinned (.plain (OpenSpec.ofChange condBackSpec)) condBackCard

/-- THE TIED CARD OF 'deedboxlaw23.CondChecks'. -/
def condChecksCard : Claim7 := { stood := { row := condChecksRow, standIns := [], harness := (true, "33d543d0d23f06d3609864511f7e46c148b284a77a108cf175b58aea21127356"), looks := false }, kinds := [], alts := [], laidByText := true, laidKinds := [.data, .pinned], laidTests := true, laidLooks := .later }
def CondChecksCardSaid : Prop := Claim7.holds Tryd.pinned (.plain (OpenSpec.ofChange condChecksSpec)) condChecksCard

/-- THE SECOND FORM's CARD OF 'deedboxlaw23.CondReads'. -/
def condReadsUptoCard : Claim7 := { stood := { row := condReadsUptoRow, standIns := [], harness := (true, "33d543d0d23f06d3609864511f7e46c148b284a77a108cf175b58aea21127356"), looks := false }, kinds := [], alts := [], laidByText := true, laidKinds := [.data, .pinned], laidTests := true, laidLooks := .later }
def CondReadsUptoCardSaid : Prop := Claim7.holds Tryd.pinned (.plain (OpenSpec.upto condReadsSpec)) condReadsUptoCard

/-- THE SECOND FORM's CARD OF 'deedboxlaw23.CondBack'. -/
def condBackUptoCard : Claim7 := { stood := { row := condBackUptoRow, standIns := [], harness := (true, "33d543d0d23f06d3609864511f7e46c148b284a77a108cf175b58aea21127356"), looks := false }, kinds := [], alts := [], laidByText := true, laidKinds := [.data, .pinned], laidTests := true, laidLooks := .later }
def CondBackUptoCardSaid : Prop := Claim7.holds Tryd.pinned (.plain (OpenSpec.upto condBackSpec)) condBackUptoCard

/-- THE SECOND FORM's CARD OF 'deedboxlaw23.CondChecks'. -/
def condChecksUptoCard : Claim7 := { stood := { row := condChecksUptoRow, standIns := [], harness := (true, "33d543d0d23f06d3609864511f7e46c148b284a77a108cf175b58aea21127356"), looks := false }, kinds := [], alts := [], laidByText := true, laidKinds := [.data, .pinned], laidTests := true, laidLooks := .later }
def CondChecksUptoCardSaid : Prop := Claim7.holds Tryd.pinned (.plain (OpenSpec.upto condChecksSpec)) condChecksUptoCard
end Rows
end Go.Proofs.YtkjmffhkchlkeaaDoor
