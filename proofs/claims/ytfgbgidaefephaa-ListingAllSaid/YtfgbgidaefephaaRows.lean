/-
  No cell of these rows narrows 'for every input' (looked for: loops, veiled, ifaces, maps, wideKeys, modest, calm, conditions, laid).
  DERIVED. THE GIVEN ROWS OF THIS SEAT. 3 by the template 'for every input the law returns true; each argument reads behind the call as it read before'; 0 by the template 'total and deterministic' (their statements: YtfgbgidaefephaaTotals.lean).
  GIVEN WITH THE SEED: the statements are not yours to turn. If you find one false, say at which input.
  Laid BY PROGRAM, IN A SANDBOX (cutbox-rows.mjs): the forced cells as the released guide's own fill.sh prints them over the translation 57086f32e40cd920… (all of the seat's roots in one cut). By AI agents, Wed Nov 11 2026. No macro, syntax, notation, axiom, sorry.
-/
import Derived.Test.YtfgbgidaefephaaChecked
import GoSem.Claim
import GoSem.ClaimJoined
import GoSem.ClaimMapViews
import Derived.JoinedTies
import Derived.KernelRfl
namespace Go.Proofs.Ytfgbgidaefephaa
/- THE CELL 'sum', in the pinned program and in every row, IS THE sha256 OF THE DUMP (.gsa) THAT YtfgbgidaefephaaProg.lean LOADS. Nothing in Lean hashes anything: it is a label: what it is worth is what the hold of that sum in a sandbox is worth. -/
noncomputable def Try.pinned : Pinned := { name := "ytfgbgidaefephaa", sum := "57086f32e40cd920704c87f85e0a2f1e58d750ad651fe891b577b254440907f1", checked := Try.checked }
namespace Rows
def none {H : Type} : Left H := { results := [], args := [] }

/-- 'deedboxlaw27.ListingPages': WHATEVER THE INPUT: true; the input reads as it did. -/
def listingPagesSpec : ChangeSpec := { name := "listingPages", fn := fun _ => fun
  | [d1, d2, d3, d4, d5] => { results := [.lit (.bool true)], args := [d1, d2, d3, d4, d5] }
  | _ => none }
def listingPagesRow : OpenClaim := { program := "ytfgbgidaefephaa", sum := "57086f32e40cd920704c87f85e0a2f1e58d750ad651fe891b577b254440907f1", func := "deedbox/deedboxlaw27.ListingPages", spec := "listingPages", inPlace := ["internal/bytealg.IndexByteString", "internal/bytealg.IndexString"], named := ["internal/bytealg.MaxLen"], apart := false }
def ListingPagesSaid : Prop := listingPagesRow.holds Try.pinned (OpenSpec.ofChange listingPagesSpec)

/-- ITS FALSE NEIGHBOUR: 'it returns false'. Refute it at one input. -/
def listingPagesWrong : ChangeSpec := { name := "listingPages", fn := fun _ => fun
  | [d1, d2, d3, d4, d5] => { results := [.lit (.bool false)], args := [d1, d2, d3, d4, d5] }
  | _ => none }
def ListingPagesWrongFalsely : Prop := listingPagesRow.holds Try.pinned (OpenSpec.ofChange listingPagesWrong)

/-- 'deedboxlaw27.ListingAll': WHATEVER THE INPUT: true; the input reads as it did. -/
def listingAllSpec : ChangeSpec := { name := "listingAll", fn := fun _ => fun
  | [d1, d2, d3, d4, d5] => { results := [.lit (.bool true)], args := [d1, d2, d3, d4, d5] }
  | _ => none }
def listingAllRow : OpenClaim := { program := "ytfgbgidaefephaa", sum := "57086f32e40cd920704c87f85e0a2f1e58d750ad651fe891b577b254440907f1", func := "deedbox/deedboxlaw27.ListingAll", spec := "listingAll", inPlace := ["internal/bytealg.IndexByteString", "internal/bytealg.IndexString"], named := ["internal/bytealg.MaxLen"], apart := false }
def ListingAllSaid : Prop := listingAllRow.holds Try.pinned (OpenSpec.ofChange listingAllSpec)

/-- ITS FALSE NEIGHBOUR: 'it returns false'. Refute it at one input. -/
def listingAllWrong : ChangeSpec := { name := "listingAll", fn := fun _ => fun
  | [d1, d2, d3, d4, d5] => { results := [.lit (.bool false)], args := [d1, d2, d3, d4, d5] }
  | _ => none }
def ListingAllWrongFalsely : Prop := listingAllRow.holds Try.pinned (OpenSpec.ofChange listingAllWrong)

/-- 'deedboxlaw27.ListingCovers': WHATEVER THE INPUT: true; the input reads as it did. -/
def listingCoversSpec : ChangeSpec := { name := "listingCovers", fn := fun _ => fun
  | [d1, d2, d3] => { results := [.lit (.bool true)], args := [d1, d2, d3] }
  | _ => none }
def listingCoversRow : OpenClaim := { program := "ytfgbgidaefephaa", sum := "57086f32e40cd920704c87f85e0a2f1e58d750ad651fe891b577b254440907f1", func := "deedbox/deedboxlaw27.ListingCovers", spec := "listingCovers", inPlace := ["internal/bytealg.IndexByteString", "internal/bytealg.IndexString"], named := ["internal/bytealg.MaxLen"], apart := false }
def ListingCoversSaid : Prop := listingCoversRow.holds Try.pinned (OpenSpec.ofChange listingCoversSpec)

/-- ITS FALSE NEIGHBOUR: 'it returns false'. Refute it at one input. -/
def listingCoversWrong : ChangeSpec := { name := "listingCovers", fn := fun _ => fun
  | [d1, d2, d3] => { results := [.lit (.bool false)], args := [d1, d2, d3] }
  | _ => none }
def ListingCoversWrongFalsely : Prop := listingCoversRow.holds Try.pinned (OpenSpec.ofChange listingCoversWrong)

/- THE SECOND FORM. 'bulk': how many values and letters a reading holds, each counted each time it is reached (what is shared counts as often as it is met; a slice's spare places count too). A statement '..UptoSaid' is the law's where the arguments, and the package variables that the reading takes, are together of bulk at most 1048576: NARROWER than '..Said'. Prove '..Said' where nothing that the law and all that it calls make is longer than what came in: it says more and counts as full. Else prove '..UptoSaid'. A law counts once. -/
mutual
def uptoBulk {H : Type} : DataW H → Nat
  | .lit (.string bytes) => bytes.length + 1
  | .lit _ => 1
  | .nil => 1
  | .ptr d => uptoBulk d + 1
  | .slice elems spare => uptoBulkAll elems + uptoBulkAll spare + 1
  | .agg parts => uptoBulkAll parts + 1
  | .iface _ d => uptoBulk d + 1
  | .map entries => uptoBulkEntries entries + 1
  | .held _ => 1
def uptoBulkAll {H : Type} : List (DataW H) → Nat
  | [] => 0
  | d :: r => uptoBulk d + uptoBulkAll r
def uptoBulkEntries {H : Type} : List (Lit × DataW H) → Nat
  | [] => 0
  | x :: r => uptoBulkEntry x + uptoBulkEntries r
def uptoBulkEntry {H : Type} : Lit × DataW H → Nat
  | (.string bytes, d) => bytes.length + uptoBulk d + 1
  | (_, d) => uptoBulk d + 1
 end
def uptoSmall : (H : Type) → List (DataW H) → Bool := fun _ ds => decide (uptoBulkAll ds ≤ 1048576)
def OpenSpec.upto (s : _root_.Go.ChangeSpec) : _root_.Go.OpenSpec := { _root_.Go.OpenSpec.ofChange s with cond := some uptoSmall }

/-- 'deedboxlaw27.ListingPages', WHERE WHAT IT READS IS OF BULK AT MOST 1048576: true; the input reads as it did. -/
def listingPagesUptoRow : OpenClaim := { program := "ytfgbgidaefephaa", sum := "57086f32e40cd920704c87f85e0a2f1e58d750ad651fe891b577b254440907f1", func := "deedbox/deedboxlaw27.ListingPages", spec := "listingPages", inPlace := ["internal/bytealg.IndexByteString", "internal/bytealg.IndexString"], named := ["internal/bytealg.MaxLen"], apart := false, narrowed := true }
def ListingPagesUptoSaid : Prop := listingPagesUptoRow.holds Try.pinned (OpenSpec.upto listingPagesSpec)

/-- 'deedboxlaw27.ListingAll', WHERE WHAT IT READS IS OF BULK AT MOST 1048576: true; the input reads as it did. -/
def listingAllUptoRow : OpenClaim := { program := "ytfgbgidaefephaa", sum := "57086f32e40cd920704c87f85e0a2f1e58d750ad651fe891b577b254440907f1", func := "deedbox/deedboxlaw27.ListingAll", spec := "listingAll", inPlace := ["internal/bytealg.IndexByteString", "internal/bytealg.IndexString"], named := ["internal/bytealg.MaxLen"], apart := false, narrowed := true }
def ListingAllUptoSaid : Prop := listingAllUptoRow.holds Try.pinned (OpenSpec.upto listingAllSpec)

/-- 'deedboxlaw27.ListingCovers', WHERE WHAT IT READS IS OF BULK AT MOST 1048576: true; the input reads as it did. -/
def listingCoversUptoRow : OpenClaim := { program := "ytfgbgidaefephaa", sum := "57086f32e40cd920704c87f85e0a2f1e58d750ad651fe891b577b254440907f1", func := "deedbox/deedboxlaw27.ListingCovers", spec := "listingCovers", inPlace := ["internal/bytealg.IndexByteString", "internal/bytealg.IndexString"], named := ["internal/bytealg.MaxLen"], apart := false, narrowed := true }
def ListingCoversUptoSaid : Prop := listingCoversUptoRow.holds Try.pinned (OpenSpec.upto listingCoversSpec)

end Rows
end Go.Proofs.Ytfgbgidaefephaa
