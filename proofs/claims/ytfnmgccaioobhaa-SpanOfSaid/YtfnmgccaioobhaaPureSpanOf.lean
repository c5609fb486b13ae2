/- From which byte up to which one any span goes, in a text of any size, is what the chapter says: the statement, with no condition beside its own. -/
import Derived.Test.YtfnmgccaioobhaaQSpanOfx4
import Derived.Test.YtfnmgccaioobhaaNumCore
import Derived.Test.YtfnmgccaioobhaaSplitCore
namespace Go.Proofs.Ytfnmgccaioobhaa.Pure
open Go.RowKit Go.Proofs.Ytfnmgccaioobhaa.QSpanOf Go.Proofs.YtfnmgccaioobhaaW.PrintWords Go.Proofs.YtfnmgccaioobhaaW.PrintLast Go.Proofs.Ytfnmgccaioobhaa.Kit Go.Proofs.Ytfnmgccaioobhaa.Num Go.Proofs.Ytfnmgccaioobhaa.Cut
set_option linter.unusedVariables false
set_option linter.unusedSimpArgs false


theorem works_tells : Ev (fun k => deedboxlaw22_works.f k) true :=
  Ev.of (deedboxlaw22_works.mono) (show deedboxlaw22_works.f 60 = some true by decide +kernel)

/-! ### The reference goes through all places -/
/-- Which places a span asks for: from one on, below another one. -/
def lo (kd a n : Int) : Int := if kd = 3 then (if n - a < 0 then 0 else n - a) else a
def hi (kd b n : Int) : Int := if kd = 2 then b + 1 else n
theorem in_tells (kd a b n i : Int) (hk : 1 ≤ kd ∧ kd ≤ 3) (ha : 0 ≤ a ∧ a ≤ 1099511627776) (hb : a ≤ b ∧ b ≤ 1099511627776) (hn : 0 ≤ n ∧ n < 2000) (hi0 : 0 ≤ i) (hi1 : i < n) :
    Ev (fun k => deedboxref22_In.f k kd a b n i) (decide (lo kd a n ≤ i ∧ i < hi kd b n)) := by
  have e : wrap64 (n - a) = n - a := wr (by omega) (by omega)
  unfold deedboxref22_In.f lo hi
  refine Ev.congr (f := fun k => deedboxref22_In.j0 k n i false kd a b) (fun k => by rw [if_neg (by omega), decide_eq_false (by omega)]) ?_
  by_cases k1 : kd = 1
  · refine Ev.step (f := fun _ => some (decide (i ≥ a))) (fun k => ?_) ?_
    · simp only [deedboxref22_In.j0, Bool.false_eq_true, if_false]
      rw [if_neg (by omega), if_pos k1]
    · have : decide (i ≥ a) = decide ((if kd = 3 then (if n - a < 0 then 0 else n - a) else a) ≤ i ∧ i < (if kd = 2 then b + 1 else n)) := by
        rw [if_neg (by omega), if_neg (by omega)]
        exact decide_eq_decide.2 ⟨fun h => ⟨by omega, hi1⟩, fun h => h.1⟩
      rw [← this]; exact Ev.now _
  · by_cases k2 : kd = 2
    · have : (if i ≥ a then some (decide (i ≤ b)) else some false) = some (decide ((if kd = 3 then (if n - a < 0 then 0 else n - a) else a) ≤ i ∧ i < (if kd = 2 then b + 1 else n))) := by
        rw [if_neg (show ¬ kd = 3 by omega), if_pos k2]
        by_cases c : i ≥ a
        · rw [if_pos c]
          congr 1
          exact decide_eq_decide.2 ⟨fun h => ⟨c, by omega⟩, fun h => by omega⟩
        · rw [if_neg c]
          congr 1
          exact (decide_eq_false (fun h => c h.1)).symm
      refine Ev.step (f := fun _ => some (decide ((if kd = 3 then (if n - a < 0 then 0 else n - a) else a) ≤ i ∧ i < (if kd = 2 then b + 1 else n)))) (fun k => ?_) (Ev.now _)
      simp only [deedboxref22_In.j0, Bool.false_eq_true, if_false]
      rw [if_neg (by omega), if_neg k1, if_pos k2, ← this]
    · have k3 : kd = 3 := by omega
      refine Ev.step (f := fun _ => some (decide (i ≥ n - a))) (fun k => ?_) ?_
      · simp only [deedboxref22_In.j0, Bool.false_eq_true, if_false]
        rw [if_neg (by omega), if_neg k1, if_neg k2, e]
      · have : decide (i ≥ n - a) = decide ((if kd = 3 then (if n - a < 0 then 0 else n - a) else a) ≤ i ∧ i < (if kd = 2 then b + 1 else n)) := by
          rw [if_pos k3, if_neg k2]
          exact decide_eq_decide.2 ⟨fun h => ⟨by split <;> omega, hi1⟩, fun h => by have := h.1; split at this <;> omega⟩
        rw [← this]; exact Ev.now _

/-- How far it is behind some places. -/
def st (l h i : Int) : Int × Int := if l < (if h < i then h else i) then (l, if h < i then h else i) else (-1, -1)
/-- What it tells in the end. -/
def fin (l h n : Int) : Int × Int × Int := if l < (if h < n then h else n) then (l, if h < n then h else n, 0) else (0, 0, 2)
theorem refof_l0 (kd a b n : Int) (hk : 1 ≤ kd ∧ kd ≤ 3) (ha : 0 ≤ a ∧ a ≤ 1099511627776) (hb : a ≤ b ∧ b ≤ 1099511627776) (hn : 0 ≤ n ∧ n < 2000) : ∀ (d : Nat) (i : Int), 0 ≤ i → i + d = n →
    Ev (fun k => deedboxref22_Of.l0 k n (st (lo kd a n) (hi kd b n) i).1 (st (lo kd a n) (hi kd b n) i).2 i kd a b) (fin (lo kd a n) (hi kd b n) n)
  | 0, i, h0, hd => by
    have hl : 0 ≤ lo kd a n := by unfold lo; split <;> (try split) <;> omega
    have : i = n := by omega
    subst this
    refine Ev.step (f := fun _ => some (fin (lo kd a i) (hi kd b i) i)) (fun k => ?_) (Ev.now _)
    simp only [deedboxref22_Of.l0]
    rw [if_neg (by omega)]
    unfold st fin
    by_cases c : lo kd a i < (if hi kd b i < i then hi kd b i else i)
    · rw [if_pos c, if_neg (by show ¬ (lo kd a i < 0); omega), if_pos c]
    · rw [if_neg c, if_pos (by show (-1 : Int) < 0; omega), if_neg c]
  | d + 1, i, h0, hd => by
    have hl : 0 ≤ lo kd a n := by unfold lo; split <;> (try split) <;> omega
    have ih := refof_l0 kd a b n hk ha hb hn d (i + 1) (by omega) (by omega)
    have hin := in_tells kd a b n i hk ha hb hn h0 (by omega)
    generalize lo kd a n = L at *
    generalize hi kd b n = H at *
    apply Ev.step
    · intro k
      simp only [deedboxref22_Of.l0]
      rw [if_pos (by omega), wr (n := i + 1) (by omega) (by omega)]
    · refine Ev.bind hin ?_
      refine Ev.congr (fun k => ?_) ih
      unfold st
      by_cases c : L ≤ i ∧ i < H
      · rw [decide_eq_true c, if_pos rfl]
        have e1 : (if H < i then H else i) = i := if_neg (by omega)
        have e2 : (if H < i + 1 then H else i + 1) = i + 1 := if_neg (by omega)
        rw [e1, e2, if_pos (show L < i + 1 by omega)]
        by_cases c2 : L < i
        · rw [if_pos c2, if_neg (by show ¬ L < 0; omega)]
        · rw [if_neg c2, if_pos (by show (-1 : Int) < 0; omega)]
          have : L = i := by omega
          rw [this]
      · rw [decide_eq_false c, if_neg (by simp)]
        by_cases c2 : H ≤ i
        · have e1 : (if H < i + 1 then H else i + 1) = H := if_pos (by omega)
          have e2 : (if H < i then H else i) = H := by split <;> omega
          rw [e1, e2]
        · have e1 : (if H < i then H else i) = i := if_neg (by omega)
          have e2 : (if H < i + 1 then H else i + 1) = i + 1 := if_neg (by omega)
          rw [e1, e2, if_neg (show ¬ L < i by omega), if_neg (show ¬ L < i + 1 by omega)]
theorem refof_tells (kd a b n : Int) (hk : 0 ≤ kd ∧ kd ≤ 3) (ha : 0 ≤ a ∧ a ≤ 1099511627776) (hb : a ≤ b ∧ b ≤ 1099511627776) (hn : 0 ≤ n ∧ n < 2000) :
    Ev (fun k => deedboxref22_Of.f k kd a b n) (if kd = 0 then (0, n, 0) else fin (lo kd a n) (hi kd b n) n) := by
  unfold deedboxref22_Of.f
  by_cases k0 : kd = 0
  · rw [if_pos k0]
    exact Ev.congr (fun k => by rw [if_pos k0]) (Ev.now _)
  · rw [if_neg k0]
    refine Ev.congr (fun k => by rw [if_neg k0]) ?_
    have hl : 0 ≤ lo kd a n := by unfold lo; split <;> (try split) <;> omega
    have g := refof_l0 kd a b n (by omega) ha hb hn n.toNat 0 (by omega) (by omega)
    have e : st (lo kd a n) (hi kd b n) 0 = (-1, -1) := by
      unfold st
      rw [if_neg (by split <;> omega)]
    rw [e] at g
    exact g
/-- The program's own. -/
theorem of_tells (kd a b n : Int) (hk : 0 ≤ kd ∧ kd ≤ 3) (ha : 0 ≤ a ∧ a ≤ 1099511627776) (hb : a ≤ b ∧ b ≤ 1099511627776) (hn : 0 ≤ n ∧ n < 2000) :
    span_Of.f kd a b n = some (if kd = 0 then (0, n, 0) else fin (lo kd a n) (hi kd b n) n) := by
  have e1 : wrap64 (b + 1) = b + 1 := wr (by omega) (by omega)
  have e2 : wrap64 (n - a) = n - a := wr (by omega) (by omega)
  unfold span_Of.f
  rw [e1, e2]
  by_cases k0 : kd = 0
  · rw [if_pos k0, if_pos k0]
  · rw [if_neg k0, if_neg k0]
    unfold fin lo hi
    by_cases k2 : kd = 2
    · rw [if_pos k2, if_neg (show ¬ kd = 3 by omega), if_pos k2]
      have m : mn (b + 1) n = if b + 1 < n then b + 1 else n := by unfold mn; split <;> (try split) <;> omega
      rw [m]
      generalize (if b + 1 < n then b + 1 else n) = T
      by_cases c : a ≥ T
      · rw [if_pos c, if_neg (by omega)]
      · rw [if_neg c, if_pos (by omega)]
    · rw [if_neg k2, if_neg k2]
      rw [if_neg (show ¬ n < n by omega)]
      by_cases k1 : kd = 1
      · rw [if_pos k1, if_neg (show ¬ kd = 3 by omega)]
        by_cases c : a ≥ n
        · rw [if_pos c, if_neg (by omega)]
        · rw [if_neg c, if_pos (by omega)]
      · rw [if_neg k1, if_pos (show kd = 3 by omega), if_pos (show kd = 3 by omega)]
        have m : mx (n - a) 0 = if n - a < 0 then 0 else n - a := rfl
        rw [m]
        generalize (if n - a < 0 then 0 else n - a) = T
        by_cases c : T ≥ n
        · rw [if_pos c, if_neg (by omega)]
        · rw [if_neg c, if_pos (by omega)]
theorem of_other (kd a b n : Int) (hk : ¬ (0 ≤ kd ∧ kd ≤ 3)) : span_Of.f kd a b n = some (0, 0, 4) := by
  unfold span_Of.f
  rw [if_neg (by omega), if_neg (by omega), if_neg (by omega), if_neg (by omega)]

/-- The law. -/
theorem SpanOf : deedboxlaw22_SpanOf.Pure := by
  intro kd a b s h1 h2 h3 h4
  have hs : 0 ≤ s ∧ s ≤ 65535 := by
    simp [Lit.wf, IntKind.min, IntKind.max, IntKind.signed, IntKind.bits] at h4; omega
  apply Ev.rounds
  unfold deedboxlaw22_SpanOf.f
  have end_ : Ev (fun k => (deedboxlaw22_works.f k).bind fun t => some t) true := Ev.bind works_tells (Ev.now _)
  have stop : Ev (fun k => deedboxlaw22_SpanOf.j0 k kd a b s true) true := by
    refine Ev.step (fun k => ?_) end_
    simp only [deedboxlaw22_SpanOf.j0, if_true]
  by_cases c1 : a < 0
  · exact Ev.congr (fun k => by rw [if_pos c1]) stop
  · by_cases c2 : a > 1099511627776
    · exact Ev.congr (fun k => by rw [if_neg c1, if_pos c2]) stop
    · by_cases c3 : b < a
      · exact Ev.congr (fun k => by rw [if_neg c1, if_neg c2, if_pos c3]) stop
      · by_cases c4 : b > 1099511627776
        · exact Ev.congr (fun k => by rw [if_neg c1, if_neg c2, if_neg c3, decide_eq_true c4]) stop
        · have hmod : Int.tmod (wrap64 s) 2000 = s % 2000 := by
            rw [wr (by omega) (by omega)]
            exact Int.tmod_eq_emod_of_nonneg hs.1
          have hn : 0 ≤ s % 2000 ∧ s % 2000 < 2000 := by omega
          refine Ev.congr (f := fun k => deedboxlaw22_SpanOf.j0 k kd a b s false) (fun k => by rw [if_neg c1, if_neg c2, if_neg c3, decide_eq_false c4]) ?_
          by_cases hk : 0 ≤ kd ∧ kd ≤ 3
          · have g := of_tells kd a b (s % 2000) hk (by omega) (by omega) hn
            have r := refof_tells kd a b (s % 2000) hk (by omega) (by omega) hn
            generalize (if kd = 0 then ((0 : Int), s % 2000, (0 : Int)) else fin (lo kd a (s % 2000)) (hi kd b (s % 2000)) (s % 2000)) = q at g r
            refine Ev.step (f := fun k => deedboxlaw22_SpanOf.j1 k (s % 2000) q.1 q.2.1 q.2.2 false kd a b) (fun k => ?_) ?_
            · simp only [deedboxlaw22_SpanOf.j0, Bool.false_eq_true, if_false, deedboxlaw22_own.f, Option.bind_some]
              rw [hmod, g, Option.bind_some, if_neg (by omega), decide_eq_false (by omega)]
            · apply Ev.step
              · intro k
                simp only [deedboxlaw22_SpanOf.j1, Bool.false_eq_true, if_false]
                rfl
              · refine Ev.bind r ?_
                exact Ev.congr (fun k => by rw [if_pos rfl, if_pos rfl, if_pos rfl]) end_
          · have g := of_other kd a b (s % 2000) hk
            refine Ev.step (f := fun k => deedboxlaw22_SpanOf.j1 k (s % 2000) 0 0 4 true kd a b) (fun k => ?_) ?_
            · simp only [deedboxlaw22_SpanOf.j0, Bool.false_eq_true, if_false, deedboxlaw22_own.f, Option.bind_some]
              rw [hmod, g, Option.bind_some]
              by_cases k0 : kd < 0
              · rw [if_pos k0]
              · rw [if_neg k0, decide_eq_true (by omega)]
            · refine Ev.step (fun k => ?_) end_
              simp only [deedboxlaw22_SpanOf.j1, if_true]

end Go.Proofs.Ytfnmgccaioobhaa.Pure
