/- The row of FeedAll: what came in is opened by hand (news are structs of four cells); the walk is printed, the pure statement is this session's. -/
import Derived.Test.YtllhmnohmdgblaaRows
import Derived.Test.YtllhmnohmdgblaaQFeedAllx3
import Derived.Test.YtllhmnohmdgblaaPureFeedAll
import Derived.WalkKit
import Derived.ProofKit
import Derived.OpenShut
import Derived.ShutString
import Derived.ChangeOld
import Derived.Below
import Derived.SizedLaws
import Derived.Deep.Slices
import Derived.Lib.SmallJoins
import Derived.Test.YtllhmnohmdgblaaWSized
namespace Go.Proofs.Ytllhmnohmdgblaa.feedAll
open Go.ChangeShapes Go.WideShapes Go.ChangeAt Go.RowKit Go.Proofs.YtllhmnohmdgblaaW.PrintWords Go.Proofs.Ytllhmnohmdgblaa.QFeedAll
open Go.ChangeMaps (open_string shut_string)
set_option linter.unusedVariables false
theorem own : ownKnob Try.prog.godebug = none := by kernel_rfl
theorem laidOut : laidOutB Try.prog = true := by kernel_rfl
section
open Go.Deep
variable {H : Type} {enc : TypeId × Value → H} {W : World} {base : Nat} {spare : Nat → Bool} {held : Bool}
instance : Inhabited S34 := ⟨z34⟩
theorem cellsOf34 : Try.prog.cellsOf 34 = 4 := by kernel_rfl
theorem cellsOf3 : Try.prog.cellsOf 3 = 1 := by kernel_rfl
theorem cellsOf9 : Try.prog.cellsOf 9 = 1 := by kernel_rfl
theorem cellsOf25 : Try.prog.cellsOf 25 = 1 := by kernel_rfl
/-- News as they came in: what each says, and that its numbers and texts may be. -/
theorem open_new {n : Nat} {cs : List Value} {x : DataW H × List MemPlace} (h : DataW.trod enc Try.prog W base spare held n 34 cs = some x) (hl : cs.length = 4) :
    ∃ s : S34, cs = [.int .i64 s.f0, .string s.f1, .string s.f2, .int .i64 s.f3] ∧ (Lit.int .i64 s.f0).wf = true ∧ (Lit.int .i64 s.f3).wf = true := by
  obtain ⟨y0, y1, y2, y3, m, _, _, h0, h1, h2, h3⟩ := Joins.trod_struct4 Try.underlying34 h
  match cs, hl with
  | [c0, c1, c2, c3], _ =>
    simp only [cellsOf3, cellsOf9, cellsOf25, List.drop, List.take] at h0 h1 h2 h3
    obtain ⟨i0, e0, _, w0⟩ := DataW.trod_int Try.underlying3 h0
    obtain ⟨i1, e1, _, _⟩ := DataW.trod_string Try.underlying9 h1
    obtain ⟨i2, e2, _, _⟩ := DataW.trod_string Try.underlying9 h2
    obtain ⟨i3, e3, _, w3⟩ := DataW.trod_int Try.underlying25 h3
    simp only [List.cons.injEq, and_true] at e0 e1 e2 e3
    subst e0 e1 e2 e3
    exact ⟨⟨i0, i1, i2, i3⟩, rfl, w0, w3⟩
theorem open_news {a : Option Addr} {len cap : Nat} {d : DataW H} {ps : List MemPlace} (h : DataW.Trod enc Try.prog W base spare held 28 (.slice a len cap) d ps) :
    ∃ xs : List S34, xs.length = len ∧ Kd.C k34 W a len xs ∧ len ≤ cap ∧ ∀ x ∈ xs, (Lit.int .i64 x.f0).wf = true ∧ (Lit.int .i64 x.f3).wf = true := by
  obtain ⟨fuel, hf⟩ := h
  rcases open_slice Try.underlying28 hf with ⟨hcs, _⟩ | ⟨x, l, c, m, n, D, Pl, hcs, hb, hl, hm, hmm, _, hi⟩
  · simp [Value.cells] at hcs
    obtain ⟨rfl, rfl, rfl⟩ := hcs
    exact ⟨[], rfl, ⟨rfl, by omega, fun h => absurd h (by omega)⟩, by omega, by simp⟩
  · simp [Value.cells] at hcs
    obtain ⟨rfl, rfl, rfl⟩ := hcs
    have hlm : len ≤ m := by rw [hmm]; split <;> omega
    obtain ⟨V, hV⟩ := choose_lt (n := len) (α := S34) (p := fun i s => (∀ j u, ([.int .i64 s.f0, .string s.f1, .string s.f2, .int .i64 s.f3] : List Value)[j]? = some u → W.cell? (x.add (i * 4 + j)) = some u) ∧ (Lit.int .i64 s.f0).wf = true ∧ (Lit.int .i64 s.f3).wf = true) (fun i hil => by
      obtain ⟨cs', h1, h2⟩ := hi i (by omega)
      rw [cellsOf34] at h1
      obtain ⟨_, hlen, hat⟩ := World.cells?_some h1
      obtain ⟨s, rfl, w0, w3⟩ := open_new h2 hlen
      refine ⟨s, fun j u hj => ?_, w0, w3⟩
      have hj4 : j < 4 := by
        have := (List.getElem?_eq_some_iff.1 hj).1
        simpa using this
      rw [← Go.Deep.add_add, hat j hj4, hj])
    refine ⟨(List.range len).map V, by simp, ⟨by simp, ?_, fun _ => ⟨x, rfl, fun j p hp => ?_⟩⟩, hl, ?_⟩
    · have : maxLen ≤ 9223372036854775807 := by decide
      omega
    · have hj : j < len := by
        have := (List.getElem?_eq_some_iff.1 hp).1
        simpa using this
      have : p = V j := by simpa [hj] using hp.symm
      subst this
      exact ⟨_, rfl, k34_mk W _, (hV j hj).1⟩
    · intro y hy
      obtain ⟨i, hi2, rfl⟩ := List.mem_map.1 hy
      exact (hV i (by simpa using hi2)).2
end
set_option maxRecDepth 100000 in
theorem lifted (os : Os) (started : os.Started) (H : Type) (enc : TypeId × Value → H) :
    ReturnsInHanded {} Try.checked os 4 .any (Rows.feedAllSpec.pre6 enc Try.prog Try.f4 Rows.feedAllRow.domain false) (Rows.feedAllSpec.post enc Try.prog Try.f4 false true false false) := by
  refine returnsInHanded_of_change_sized (C := Try.checked) own started (by kernel_rfl) Try.func4
    (ChangeSpec.witness6 (enc := enc) (C := Try.checked) false ⟨#[], #[.slice none 0 0], []⟩ 8 (by kernel_rfl) (by kernel_rfl) (by kernel_rfl) (by kernel_rfl)) ?_
  intro W base args ds gs before hval0 hW hcnd hsz0 _
  have hval : ∀ (j : Nat) t v, Try.f4.params[j]? = some t → args[j]? = some v → Value.okWide Try.prog W .any base t v := hval0
  have hW' := hW
  obtain ⟨p, q, hA0, hV, rfl, hfz, hnd⟩ := hW
  have hA : DataW.TrodAll enc Try.prog W 0 (fun _ => true) true Try.f4.params.toList args.toList ds p := hA0
  rw [Try.params4] at hA hval
  obtain ⟨v0, vs0, d0, ds0, p0, q0, hargs, rfl, rfl, h0, r0⟩ := trodAll_cons hA
  obtain ⟨rfl, rfl, rfl⟩ := trodAll_nil r0
  obtain rfl : args = #[v0] := by cases args; simp_all
  obtain ⟨rfl, rfl⟩ := trodVars_none hV
  obtain ⟨a0, len0, cap0, rfl⟩ := okWide_slice Try.underlying28 (hval 0 28 v0 rfl rfl)
  have k0 := h0
  have lt0 : ∀ x ∈ p0, x.block < W.heap.size := by obtain ⟨m, hm⟩ := k0; exact DataW.trod_lt m _ _ _ hm
  obtain ⟨l0, rfl, hr0, hc0, hw0⟩ := open_news h0
  clear hA0 hval0 hsz0
  obtain ⟨k, hk⟩ := Pure.FeedAll l0 hw0
  refine (deedboxlaw39_FeedAll.calls k a0 cap0 l0 true W hr0 hc0 hk).mono fun e W' ⟨he, bel⟩ => ?_
  subst he
  exact ⟨_, rfl, _, _, _, [], _, [], hW', trodAll_mk1 (shut_bool Try.underlying4 _), (trodAll_cons_mk (Below.trod laidOut (by kernel_rfl) (of_decide_eq_true (by kernel_rfl)) k0 bel lt0) trodAll_mk0), rfl, bel.frame _, fun h => by cases h⟩
theorem over : Rows.feedAllRow.holds Try.pinned (OpenSpec.ofChange Rows.feedAllSpec) :=
  OpenClaim.holds_of_wide 4 Try.f4 rfl rfl rfl rfl rfl rfl rfl ⟨rfl, rfl, rfl, rfl, rfl⟩ rfl rfl rfl rfl rfl (by kernel_rfl) Try.func4 (by kernel_rfl)
    (of_decide_eq_true (by kernel_rfl)) (by unfold Func.isWrapper; first | (rw [if_pos (by decide +kernel)]; kernel_rfl) | (rw [if_neg (by decide +kernel)]; exact ⟨rfl, rfl⟩))
    (fun os started H enc _ => lifted os started H enc)
theorem proved : Rows.FeedAllSaid := over
#print axioms proved
end Go.Proofs.Ytllhmnohmdgblaa.feedAll
namespace Go.Proofs.Ytllhmnohmdgblaa
/-- The row, under a short name, for the claim. -/
theorem feedAll_holds : Rows.FeedAllSaid := feedAll.proved
end Go.Proofs.Ytllhmnohmdgblaa
