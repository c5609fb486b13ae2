/-
  No cell of these rows narrows 'for every input' (looked for: loops, veiled, ifaces, maps, wideKeys, modest, calm, conditions, laid).
  DERIVED. THE GIVEN ROWS OF THIS SEAT. 5 by the template 'for every input the law returns true; each argument reads behind the call as it read before'; 0 by the template 'total and deterministic' (their statements: YtllhmnohmdgblaaTotals.lean).
  GIVEN WITH THE SEED: the statements are not yours to turn. If you find one false, say at which input.
  Laid BY PROGRAM, IN A SANDBOX (cutbox-rows.mjs): the forced cells as the released guide's own fill.sh prints them over the translation a5c005823ff8db31… (all of the seat's roots in one cut). By AI agents, Wed Nov 11 2026. No macro, syntax, notation, axiom, sorry.
-/
import Derived.Test.YtllhmnohmdgblaaChecked
import GoSem.Claim
import GoSem.ClaimJoined
import GoSem.ClaimMapViews
import Derived.JoinedTies
import Derived.KernelRfl
namespace Go.Proofs.Ytllhmnohmdgblaa
/- THE CELL 'sum', in the pinned program and in every row, IS THE sha256 OF THE DUMP (.gsa) THAT YtllhmnohmdgblaaProg.lean LOADS. Nothing in Lean hashes anything: it is a label: what it is worth is what the hold of that sum in a sandbox is worth. -/
noncomputable def Try.pinned : Pinned := { name := "ytllhmnohmdgblaa", sum := "a5c005823ff8db313a1926b6cac7b9329324125aea0f3e0f6ac063b8e266365d", checked := Try.checked }
namespace Rows
def none {H : Type} : Left H := { results := [], args := [] }

/-- 'deedboxlaw39.FeedDoes': WHATEVER THE INPUT: true; the input reads as it did. -/
def feedDoesSpec : ChangeSpec := { name := "feedDoes", fn := fun _ => fun
  | [d1, d2] => { results := [.lit (.bool true)], args := [d1, d2] }
  | _ => none }
def feedDoesRow : OpenClaim := { program := "ytllhmnohmdgblaa", sum := "a5c005823ff8db313a1926b6cac7b9329324125aea0f3e0f6ac063b8e266365d", func := "deedbox/deedboxlaw39.FeedDoes", spec := "feedDoes", recurses := true, apart := false }
def FeedDoesSaid : Prop := feedDoesRow.holds Try.pinned (OpenSpec.ofChange feedDoesSpec)

/-- ITS FALSE NEIGHBOUR: 'it returns false'. Refute it at one input. -/
def feedDoesWrong : ChangeSpec := { name := "feedDoes", fn := fun _ => fun
  | [d1, d2] => { results := [.lit (.bool false)], args := [d1, d2] }
  | _ => none }
def FeedDoesWrongFalsely : Prop := feedDoesRow.holds Try.pinned (OpenSpec.ofChange feedDoesWrong)

/-- 'deedboxlaw39.FeedAll': WHATEVER THE INPUT: true; the input reads as it did. -/
def feedAllSpec : ChangeSpec := { name := "feedAll", fn := fun _ => fun
  | [d] => { results := [.lit (.bool true)], args := [d] }
  | _ => none }
def feedAllRow : OpenClaim := { program := "ytllhmnohmdgblaa", sum := "a5c005823ff8db313a1926b6cac7b9329324125aea0f3e0f6ac063b8e266365d", func := "deedbox/deedboxlaw39.FeedAll", spec := "feedAll", apart := false }
def FeedAllSaid : Prop := feedAllRow.holds Try.pinned (OpenSpec.ofChange feedAllSpec)

/-- ITS FALSE NEIGHBOUR: 'it returns false'. Refute it at one input. -/
def feedAllWrong : ChangeSpec := { name := "feedAll", fn := fun _ => fun
  | [d] => { results := [.lit (.bool false)], args := [d] }
  | _ => none }
def FeedAllWrongFalsely : Prop := feedAllRow.holds Try.pinned (OpenSpec.ofChange feedAllWrong)

/-- 'deedboxlaw07.SixtyPuts': WHATEVER THE INPUT: true; the input reads as it did. -/
def sixtyPutsSpec : ChangeSpec := { name := "sixtyPuts", fn := fun _ => fun
  | [d] => { results := [.lit (.bool true)], args := [d] }
  | _ => none }
def sixtyPutsRow : OpenClaim := { program := "ytllhmnohmdgblaa", sum := "a5c005823ff8db313a1926b6cac7b9329324125aea0f3e0f6ac063b8e266365d", func := "deedbox/deedboxlaw07.SixtyPuts", spec := "sixtyPuts", apart := false }
def SixtyPutsSaid : Prop := sixtyPutsRow.holds Try.pinned (OpenSpec.ofChange sixtyPutsSpec)

/-- ITS FALSE NEIGHBOUR: 'it returns false'. Refute it at one input. -/
def sixtyPutsWrong : ChangeSpec := { name := "sixtyPuts", fn := fun _ => fun
  | [d] => { results := [.lit (.bool false)], args := [d] }
  | _ => none }
def SixtyPutsWrongFalsely : Prop := sixtyPutsRow.holds Try.pinned (OpenSpec.ofChange sixtyPutsWrong)

/-- 'deedboxlaw07.SixtyGets': WHATEVER THE INPUT: true; the input reads as it did. -/
def sixtyGetsSpec : ChangeSpec := { name := "sixtyGets", fn := fun _ => fun
  | [d] => { results := [.lit (.bool true)], args := [d] }
  | _ => none }
def sixtyGetsRow : OpenClaim := { program := "ytllhmnohmdgblaa", sum := "a5c005823ff8db313a1926b6cac7b9329324125aea0f3e0f6ac063b8e266365d", func := "deedbox/deedboxlaw07.SixtyGets", spec := "sixtyGets", apart := false }
def SixtyGetsSaid : Prop := sixtyGetsRow.holds Try.pinned (OpenSpec.ofChange sixtyGetsSpec)

/-- ITS FALSE NEIGHBOUR: 'it returns false'. Refute it at one input. -/
def sixtyGetsWrong : ChangeSpec := { name := "sixtyGets", fn := fun _ => fun
  | [d] => { results := [.lit (.bool false)], args := [d] }
  | _ => none }
def SixtyGetsWrongFalsely : Prop := sixtyGetsRow.holds Try.pinned (OpenSpec.ofChange sixtyGetsWrong)

/-- 'deedboxlaw07.SixtyOne': WHATEVER THE INPUT: true; the input reads as it did. -/
def sixtyOneSpec : ChangeSpec := { name := "sixtyOne", fn := fun _ => fun
  | [d1, d2] => { results := [.lit (.bool true)], args := [d1, d2] }
  | _ => none }
def sixtyOneRow : OpenClaim := { program := "ytllhmnohmdgblaa", sum := "a5c005823ff8db313a1926b6cac7b9329324125aea0f3e0f6ac063b8e266365d", func := "deedbox/deedboxlaw07.SixtyOne", spec := "sixtyOne", apart := false }
def SixtyOneSaid : Prop := sixtyOneRow.holds Try.pinned (OpenSpec.ofChange sixtyOneSpec)

/-- ITS FALSE NEIGHBOUR: 'it returns false'. Refute it at one input. -/
def sixtyOneWrong : ChangeSpec := { name := "sixtyOne", fn := fun _ => fun
  | [d1, d2] => { results := [.lit (.bool false)], args := [d1, d2] }
  | _ => none }
def SixtyOneWrongFalsely : Prop := sixtyOneRow.holds Try.pinned (OpenSpec.ofChange sixtyOneWrong)

/- THE SECOND FORM. 'bulk': how many values and letters a reading holds, each counted each time it is reached (what is shared counts as often as it is met; a slice's spare places count too). A statement '..UptoSaid' is the law's where the arguments, and the package variables that the reading takes, are together of bulk at most 1048576: NARROWER than '..Said'. Prove '..Said' where nothing that the law and all that it calls make is longer than what came in: it says more and counts as full. Else prove '..UptoSaid'. A law counts once. -/
mutual
def uptoBulk {H : Type} : DataW H → Nat
  | .lit (.string bytes) => bytes.length + 1
  | .lit _ => 1
  | .nil => 1
  | .ptr d => uptoBulk d + 1
  | .slice elems spare => uptoBulkAll elems + uptoBulkAll spare + 1
  | .agg parts => uptoBulkAll parts + 1
  | .iface _ d => uptoBulk d + 1
  | .map entries => uptoBulkEntries entries + 1
  | .held _ => 1
def uptoBulkAll {H : Type} : List (DataW H) → Nat
  | [] => 0
  | d :: r => uptoBulk d + uptoBulkAll r
def uptoBulkEntries {H : Type} : List (Lit × DataW H) → Nat
  | [] => 0
  | x :: r => uptoBulkEntry x + uptoBulkEntries r
def uptoBulkEntry {H : Type} : Lit × DataW H → Nat
  | (.string bytes, d) => bytes.length + uptoBulk d + 1
  | (_, d) => uptoBulk d + 1
 end
def uptoSmall : (H : Type) → List (DataW H) → Bool := fun _ ds => decide (uptoBulkAll ds ≤ 1048576)
def OpenSpec.upto (s : _root_.Go.ChangeSpec) : _root_.Go.OpenSpec := { _root_.Go.OpenSpec.ofChange s with cond := some uptoSmall }

/-- 'deedboxlaw39.FeedDoes', WHERE WHAT IT READS IS OF BULK AT MOST 1048576: true; the input reads as it did. -/
def feedDoesUptoRow : OpenClaim := { program := "ytllhmnohmdgblaa", sum := "a5c005823ff8db313a1926b6cac7b9329324125aea0f3e0f6ac063b8e266365d", func := "deedbox/deedboxlaw39.FeedDoes", spec := "feedDoes", recurses := true, apart := false, narrowed := true }
def FeedDoesUptoSaid : Prop := feedDoesUptoRow.holds Try.pinned (OpenSpec.upto feedDoesSpec)

/-- 'deedboxlaw39.FeedAll', WHERE WHAT IT READS IS OF BULK AT MOST 1048576: true; the input reads as it did. -/
def feedAllUptoRow : OpenClaim := { program := "ytllhmnohmdgblaa", sum := "a5c005823ff8db313a1926b6cac7b9329324125aea0f3e0f6ac063b8e266365d", func := "deedbox/deedboxlaw39.FeedAll", spec := "feedAll", apart := false, narrowed := true }
def FeedAllUptoSaid : Prop := feedAllUptoRow.holds Try.pinned (OpenSpec.upto feedAllSpec)

/-- 'deedboxlaw07.SixtyPuts', WHERE WHAT IT READS IS OF BULK AT MOST 1048576: true; the input reads as it did. -/
def sixtyPutsUptoRow : OpenClaim := { program := "ytllhmnohmdgblaa", sum := "a5c005823ff8db313a1926b6cac7b9329324125aea0f3e0f6ac063b8e266365d", func := "deedbox/deedboxlaw07.SixtyPuts", spec := "sixtyPuts", apart := false, narrowed := true }
def SixtyPutsUptoSaid : Prop := sixtyPutsUptoRow.holds Try.pinned (OpenSpec.upto sixtyPutsSpec)

/-- 'deedboxlaw07.SixtyGets', WHERE WHAT IT READS IS OF BULK AT MOST 1048576: true; the input reads as it did. -/
def sixtyGetsUptoRow : OpenClaim := { program := "ytllhmnohmdgblaa", sum := "a5c005823ff8db313a1926b6cac7b9329324125aea0f3e0f6ac063b8e266365d", func := "deedbox/deedboxlaw07.SixtyGets", spec := "sixtyGets", apart := false, narrowed := true }
def SixtyGetsUptoSaid : Prop := sixtyGetsUptoRow.holds Try.pinned (OpenSpec.upto sixtyGetsSpec)

/-- 'deedboxlaw07.SixtyOne', WHERE WHAT IT READS IS OF BULK AT MOST 1048576: true; the input reads as it did. -/
def sixtyOneUptoRow : OpenClaim := { program := "ytllhmnohmdgblaa", sum := "a5c005823ff8db313a1926b6cac7b9329324125aea0f3e0f6ac063b8e266365d", func := "deedbox/deedboxlaw07.SixtyOne", spec := "sixtyOne", apart := false, narrowed := true }
def SixtyOneUptoSaid : Prop := sixtyOneUptoRow.holds Try.pinned (OpenSpec.upto sixtyOneSpec)

end Rows
end Go.Proofs.Ytllhmnohmdgblaa
