/- The row of FeedDoes: what came in is opened by hand (acts are structs of five cells); the walks are printed, for rooms that may be and for the others; the pure statements are this session's. -/
import Derived.Test.YtllhmnohmdgblaaRows
import Derived.Test.YtllhmnohmdgblaaQFeedDoesx5
import Derived.Test.YtllhmnohmdgblaaQFeedDoesBad
import Derived.Test.YtllhmnohmdgblaaPureFeedDoes
import Derived.Test.YtllhmnohmdgblaaPureFeedBad
import Derived.WalkKit
import Derived.ProofKit
import Derived.OpenShut
import Derived.ShutString
import Derived.ChangeOld
import Derived.Below
import Derived.SizedLaws
import Derived.Deep.Slices
import Derived.Lib.SmallJoins
import Derived.ChangeSame
import Derived.Test.YtllhmnohmdgblaaWSized
namespace Go.Proofs.Ytllhmnohmdgblaa.feedDoes
open Go.ChangeShapes Go.WideShapes Go.ChangeAt Go.RowKit Go.Proofs.YtllhmnohmdgblaaW.PrintWords Go.Proofs.Ytllhmnohmdgblaa.QFeedDoes
open Go.ChangeMaps (open_string shut_string)
set_option linter.unusedVariables false
theorem own : ownKnob Try.prog.godebug = none := by kernel_rfl
theorem laidOut : laidOutB Try.prog = true := by kernel_rfl
section
open Go.Deep
variable {H : Type} {enc : TypeId × Value → H} {W : World} {base : Nat} {spare : Nat → Bool} {held : Bool}
instance : Inhabited S36 := ⟨z36⟩
theorem cellsOf34 : Try.prog.cellsOf 34 = 4 := by kernel_rfl
theorem cellsOf3 : Try.prog.cellsOf 3 = 1 := by kernel_rfl
theorem cellsOf9 : Try.prog.cellsOf 9 = 1 := by kernel_rfl
theorem cellsOf25 : Try.prog.cellsOf 25 = 1 := by kernel_rfl
/-- News as they came in: what each says, and that its numbers and texts may be. -/
theorem open_new {n : Nat} {cs : List Value} {x : DataW H × List MemPlace} (h : DataW.trod enc Try.prog W base spare held n 34 cs = some x) (hl : cs.length = 4) :
    ∃ s : S34, cs = [.int .i64 s.f0, .string s.f1, .string s.f2, .int .i64 s.f3] ∧ (Lit.int .i64 s.f0).wf = true ∧ (Lit.int .i64 s.f3).wf = true := by
  obtain ⟨y0, y1, y2, y3, m, _, _, h0, h1, h2, h3⟩ := Joins.trod_struct4 Try.underlying34 h
  match cs, hl with
  | [c0, c1, c2, c3], _ =>
    simp only [cellsOf3, cellsOf9, cellsOf25, List.drop, List.take] at h0 h1 h2 h3
    obtain ⟨i0, e0, _, w0⟩ := DataW.trod_int Try.underlying3 h0
    obtain ⟨i1, e1, _, _⟩ := DataW.trod_string Try.underlying9 h1
    obtain ⟨i2, e2, _, _⟩ := DataW.trod_string Try.underlying9 h2
    obtain ⟨i3, e3, _, w3⟩ := DataW.trod_int Try.underlying25 h3
    simp only [List.cons.injEq, and_true] at e0 e1 e2 e3
    subst e0 e1 e2 e3
    exact ⟨⟨i0, i1, i2, i3⟩, rfl, w0, w3⟩
theorem cellsOf36 : Try.prog.cellsOf 36 = 5 := by kernel_rfl
theorem cellsOf4 : Try.prog.cellsOf 4 = 1 := by kernel_rfl
/-- An act as it came in. -/
theorem open_act {n : Nat} {cs : List Value} {x : DataW H × List MemPlace} (h : DataW.trod enc Try.prog W base spare held n 36 cs = some x) (hl : cs.length = 5) :
    ∃ s : S36, cs = [.bool s.f0, .int .i64 s.f1.f0, .string s.f1.f1, .string s.f1.f2, .int .i64 s.f1.f3] ∧ (Lit.int .i64 s.f1.f0).wf = true ∧ (Lit.int .i64 s.f1.f3).wf = true := by
  obtain ⟨y0, y1, m, _, _, h0, h1⟩ := trod_struct2 Try.underlying36 h
  match cs, hl with
  | [c0, c1, c2, c3, c4], _ =>
    simp only [cellsOf4, cellsOf34, List.drop, List.take] at h0 h1
    obtain ⟨b, e0, _⟩ := DataW.trod_bool Try.underlying4 h0
    obtain ⟨s, e1, w0, w3⟩ := open_new h1 rfl
    simp only [List.cons.injEq, and_true] at e0 e1
    obtain ⟨rfl, rfl, rfl, rfl⟩ := e1
    subst e0
    exact ⟨⟨b, s⟩, rfl, w0, w3⟩
theorem open_acts {a : Option Addr} {len cap : Nat} {d : DataW H} {ps : List MemPlace} (h : DataW.Trod enc Try.prog W base spare held 22 (.slice a len cap) d ps) :
    ∃ xs : List S36, xs.length = len ∧ Kd.C k36 W a len xs ∧ len ≤ cap ∧ ∀ x ∈ xs, (Lit.int .i64 x.f1.f0).wf = true ∧ (Lit.int .i64 x.f1.f3).wf = true := by
  obtain ⟨fuel, hf⟩ := h
  rcases open_slice Try.underlying22 hf with ⟨hcs, _⟩ | ⟨x, l, c, m, n, D, Pl, hcs, hb, hl, hm, hmm, _, hi⟩
  · simp [Value.cells] at hcs
    obtain ⟨rfl, rfl, rfl⟩ := hcs
    exact ⟨[], rfl, ⟨rfl, by omega, fun h => absurd h (by omega)⟩, by omega, by simp⟩
  · simp [Value.cells] at hcs
    obtain ⟨rfl, rfl, rfl⟩ := hcs
    have hlm : len ≤ m := by rw [hmm]; split <;> omega
    obtain ⟨V, hV⟩ := choose_lt (n := len) (α := S36) (p := fun i s => (∀ j u, ([.bool s.f0, .int .i64 s.f1.f0, .string s.f1.f1, .string s.f1.f2, .int .i64 s.f1.f3] : List Value)[j]? = some u → W.cell? (x.add (i * 5 + j)) = some u) ∧ (Lit.int .i64 s.f1.f0).wf = true ∧ (Lit.int .i64 s.f1.f3).wf = true) (fun i hil => by
      obtain ⟨cs', h1, h2⟩ := hi i (by omega)
      rw [cellsOf36] at h1
      obtain ⟨_, hlen, hat⟩ := World.cells?_some h1
      obtain ⟨s, rfl, w0, w3⟩ := open_act h2 hlen
      refine ⟨s, fun j u hj => ?_, w0, w3⟩
      have hj4 : j < 5 := by
        have := (List.getElem?_eq_some_iff.1 hj).1
        simpa using this
      rw [← Go.Deep.add_add, hat j hj4, hj])
    refine ⟨(List.range len).map V, by simp, ⟨by simp, ?_, fun _ => ⟨x, rfl, fun j p hp => ?_⟩⟩, hl, ?_⟩
    · have : maxLen ≤ 9223372036854775807 := by decide
      omega
    · have hj : j < len := by
        have := (List.getElem?_eq_some_iff.1 hp).1
        simpa using this
      have : p = V j := by simpa [hj] using hp.symm
      subst this
      exact ⟨_, rfl, k36_mk W _, (hV j hj).1⟩
    · intro y hy
      obtain ⟨i, hi2, rfl⟩ := List.mem_map.1 hy
      exact (hV i (by simpa using hi2)).2
end
set_option maxRecDepth 100000 in
theorem lifted (os : Os) (started : os.Started) (H : Type) (enc : TypeId × Value → H) :
    ReturnsInHanded {} Try.checked os 3 .any (Rows.feedDoesSpec.pre6 enc Try.prog Try.f3 Rows.feedDoesRow.domain false) (Rows.feedDoesSpec.post enc Try.prog Try.f3 false true false false) := by
  refine returnsInHanded_of_change_sized (C := Try.checked) own started (by kernel_rfl) Try.func3
    (ChangeSpec.witness6 (enc := enc) (C := Try.checked) false ⟨#[], #[.int .i64 0, .slice none 0 0], []⟩ 8 (by kernel_rfl) (by kernel_rfl) (by kernel_rfl) (by kernel_rfl)) ?_
  intro W base args ds gs before hval0 hW hcnd hsz0 _
  have hval : ∀ (j : Nat) t v, Try.f3.params[j]? = some t → args[j]? = some v → Value.okWide Try.prog W .any base t v := hval0
  have hW' := hW
  obtain ⟨p, q, hA0, hV, rfl, hfz, hnd⟩ := hW
  have hA : DataW.TrodAll enc Try.prog W 0 (fun _ => true) true Try.f3.params.toList args.toList ds p := hA0
  rw [Try.params3] at hA hval
  obtain ⟨v0, vs0, d0, ds0, p0, q0, hargs, rfl, rfl, h0, r0⟩ := trodAll_cons hA
  obtain ⟨v1, vs1, d1, ds1, p1, q1, rfl, rfl, rfl, h1, r1⟩ := trodAll_cons r0
  obtain ⟨rfl, rfl, rfl⟩ := trodAll_nil r1
  obtain rfl : args = #[v0, v1] := by cases args; simp_all
  obtain ⟨rfl, rfl⟩ := trodVars_none hV
  obtain ⟨a0, rfl, rfl, rfl, w0⟩ := open_int Try.underlying3 (hval 0 3 v0 rfl rfl) h0
  obtain ⟨a1, len1, cap1, rfl⟩ := okWide_slice Try.underlying22 (hval 1 22 v1 rfl rfl)
  have k1 := h1
  have lt1 : ∀ x ∈ p1, x.block < W.heap.size := by obtain ⟨m, hm⟩ := k1; exact DataW.trod_lt m _ _ _ hm
  obtain ⟨l1, rfl, hr1, hc1, hw1⟩ := open_acts h1
  clear hA0 hval0 hsz0
  have go : Calls Try.prog 3 #[.int .i64 a0, .slice a1 l1.length cap1] W fun e w' => e = .returned (.bool true) ∧ Below W.heap.size W w' := by
    by_cases hg : 0 ≤ a0 ∧ a0 ≤ 64
    · obtain ⟨k, hk⟩ := Pure.FeedDoes a0 l1 hg.1 hg.2 hw1
      exact QFeedDoes.deedboxlaw39_FeedDoes.calls k a0 a1 cap1 l1 true W hr1 hc1 hk
    · obtain ⟨k, hk⟩ := PureBad.FeedBad a0 l1 hg
      exact QFeedDoesBad.deedboxlaw39_FeedDoes.calls k a0 a1 cap1 l1 true W hr1 hc1 hk
  refine go.mono fun e W' ⟨he, bel⟩ => ?_
  subst he
  exact ⟨_, rfl, _, _, _, [], _, [], hW', trodAll_mk1 (shut_bool Try.underlying4 _), (trodAll_cons_mk (shut_int Try.underlying3 w0) (trodAll_cons_mk (Below.trod laidOut (by kernel_rfl) (of_decide_eq_true (by kernel_rfl)) k1 bel lt1) trodAll_mk0)), rfl, bel.frame _, fun h => by cases h⟩
theorem over : Rows.feedDoesRow.holds Try.pinned (OpenSpec.ofChange Rows.feedDoesSpec) :=
  OpenClaim.holds_of_wide 3 Try.f3 rfl rfl rfl rfl rfl rfl rfl ⟨rfl, rfl, rfl, rfl, rfl⟩ rfl rfl rfl rfl rfl (by kernel_rfl) Try.func3 (by kernel_rfl)
    (of_decide_eq_true (by kernel_rfl)) (by unfold Func.isWrapper; first | (rw [if_pos (by decide +kernel)]; kernel_rfl) | (rw [if_neg (by decide +kernel)]; exact ⟨rfl, rfl⟩))
    (fun os started H enc _ => lifted os started H enc)
theorem proved : Rows.FeedDoesSaid := over
#print axioms proved
end Go.Proofs.Ytllhmnohmdgblaa.feedDoes
namespace Go.Proofs.Ytllhmnohmdgblaa
/-- The row, under a short name, for the claim. -/
theorem feedDoes_holds : Rows.FeedDoesSaid := feedDoes.proved
end Go.Proofs.Ytllhmnohmdgblaa
