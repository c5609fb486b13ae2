/- The pure statement of CondChecks: what the walk tells answers as the chapter says. -/
import Derived.Test.YtkjmffhkchlkeaaDoorQCondChecksx3
import Derived.Test.YtkjmffhkchlkeaaDoorCond
namespace Go.Proofs.YtkjmffhkchlkeaaDoor.Pure
open Go.RowKit Go.Proofs.YtkjmffhkchlkeaaDoor.QCondChecks Go.Proofs.YtkjmffhkchlkeaaDoor.Cond Go.Proofs.YtkjmffhkchlkeaaDoor.Kit Go.Proofs.YtkjmffhkchlkeaaDoor.Num Go.Proofs.YtkjmffhkchlkeaaDoor.Cut Go.Proofs.YtkjmffhkchlkeaaDoorW.PrintWords Go.Proofs.YtkjmffhkchlkeaaDoorW.PrintLast Go.Proofs.YtkjmffhkchlkeaaDoorW.PrintMore
set_option linter.unusedVariables false
set_option linter.unusedSimpArgs false

theorem Ev.fin {α : Type} {g : Nat → Option α} {r : α} (h : ∀ k, g (k + 1) = some r) : Ev g r := ⟨1, fun n hn => by
  obtain ⟨m, rfl⟩ : ∃ m, n = m + 1 := ⟨n - 1, by omega⟩
  exact h m⟩
theorem next_w {n : Nat} (h : n < 1000000) : wrap64 ((n : Int) + 1) = ((n + 1 : Nat) : Int) := by rw [wr (by omega) (by omega)]; rfl
theorem rd_at (p q : List Int) (c : Int) : rd (p ++ c :: q) (p.length : Int) = c := by unfold rd; rw [Int.toNat_natCast]; simp
theorem works_tells : Ev (fun k => deedboxlaw23_works.f k) true := Ev.of deedboxlaw23_works.mono (show deedboxlaw23_works.f 60 = some true by decide +kernel)
theorem works_end {f : Nat → Option Bool} (h : ∀ k, f k = (deedboxlaw23_works.f k).bind fun t => some t) : Ev f true :=
  Ev.congr (fun k => by rw [h]; cases deedboxlaw23_works.f k <;> rfl) works_tells
theorem has_loop (v : Int) : ∀ (q p : List Int) (b : Bool), p.length + q.length < 1000000 → Ev (fun k => cond_List_Has.l0 k v b (p ++ q) (((p ++ q).length : Nat) : Int) (p.length : Int)) (b || decide (v ∈ q))
  | [], p, b, h => by
    refine Ev.fin fun k => ?_
    simp only [cond_List_Has.l0]
    rw [if_neg (by simp)]
    simp
  | c :: q, p, b, h => by
    simp only [List.length_cons] at h
    have e : p ++ c :: q = (p ++ [c]) ++ q := by simp
    have ih := fun b => has_loop v q (p ++ [c]) b (by simp only [List.length_append, List.length_singleton]; omega)
    cases b with
    | true =>
      have := ih true
      rw [← e, show (p ++ [c]).length = p.length + 1 from by simp] at this
      rw [Bool.true_or]
      rw [Bool.true_or] at this
      refine Ev.step (fun k => ?_) this
      simp only [cond_List_Has.l0]
      have hl : (p ++ c :: q).length = p.length + q.length + 1 := by simp; omega
      rw [if_pos (by omega), if_pos (by omega), if_pos (by omega), if_pos trivial, next_w (by omega)]
    | false =>
      have := ih (c == v)
      rw [← e, show (p ++ [c]).length = p.length + 1 from by simp] at this
      have hb : (false || decide (v ∈ c :: q)) = ((c == v) || decide (v ∈ q)) := by
        cases hq : (c == v) with
        | true =>
          have := beq_iff_eq.1 hq
          subst this
          simp
        | false =>
          have : ¬ v = c := fun h => by subst h; simp at hq
          simp [this]
      rw [hb]
      refine Ev.step (fun k => ?_) this
      simp only [cond_List_Has.l0]
      have hl : (p ++ c :: q).length = p.length + q.length + 1 := by simp; omega
      rw [if_pos (by omega), if_pos (by omega), if_pos (by omega), if_neg (by simp), next_w (by omega), rd_at]
theorem has_tell (g a : Bool) (ts : List Int) (v : Int) (h : ts.length < 1000000) : Ev (fun k => cond_List_Has.f k g a ts v) (a || decide (v ∈ ts)) := has_loop v ts [] a (by simpa using h)
theorem refhas_loop (v : Int) (g a : Bool) : ∀ (q p : List Int), p.length + q.length < 1000000 → Ev (fun k => deedboxref23_Has.l0 k v (p.length : Int) g a (p ++ q)) (a || decide (v ∈ q))
  | [], p, h => by
    refine Ev.fin fun k => ?_
    simp only [deedboxref23_Has.l0]
    rw [if_neg (by simp)]
    simp
  | c :: q, p, h => by
    simp only [List.length_cons] at h
    have e : p ++ c :: q = (p ++ [c]) ++ q := by simp
    have hl : (p ++ c :: q).length = p.length + q.length + 1 := by simp; omega
    by_cases hc : c = v
    · subst hc
      refine Ev.fin fun k => ?_
      simp only [deedboxref23_Has.l0]
      rw [if_pos (by omega), if_pos (by omega), rd_at, if_pos rfl]
      simp
    · have this := refhas_loop v g a q (p ++ [c]) (by simp only [List.length_append, List.length_singleton]; omega)
      rw [← e, show (p ++ [c]).length = p.length + 1 from by simp] at this
      have hb : decide (v ∈ c :: q) = decide (v ∈ q) := by
        rw [Bool.eq_iff_iff]
        simp only [decide_eq_true_eq, List.mem_cons]
        exact ⟨fun h => h.resolve_left fun h => hc h.symm, .inr⟩
      rw [hb]
      refine Ev.step (fun k => ?_) this
      simp only [deedboxref23_Has.l0]
      rw [if_pos (by omega), if_pos (by omega), rd_at, if_neg hc, next_w (by omega)]
theorem refhas_tell (g a : Bool) (ts : List Int) (v : Int) (h : ts.length < 1000000) : Ev (fun k => deedboxref23_Has.f k g a ts v) (a || decide (v ∈ ts)) := refhas_loop v g a ts [] (by simpa using h)
/-- Whether a list has the version. -/
def hasV (a : Bool) (ts : List Int) (v : Int) : Bool := a || decide (v ∈ ts)
/-- What the two lists come to. -/
def chk (g a : Bool) (ts : List Int) (g' a' : Bool) (ts' : List Int) (there : Bool) (v : Int) (reads : Bool) : Int :=
  if g = true ∧ (there && hasV a ts v) = false then 13
  else if g' = true ∧ there = true ∧ hasV a' ts' v = true then (if reads = true then 18 else 13)
  else 0
theorem chk_none (a : Bool) (ts : List Int) (a' : Bool) (ts' : List Int) (there : Bool) (v : Int) (reads : Bool) : chk false a ts false a' ts' there v reads = 0 := by simp [chk]
theorem check_tell (g a : Bool) (ts : List Int) (g' a' : Bool) (ts' : List Int) (there : Bool) (v : Int) (reads : Bool) (h : ts.length < 1000000) (h' : ts'.length < 1000000) :
    Ev (fun k => cond_Check.f k g a ts g' a' ts' there v reads) (chk g a ts g' a' ts' there v reads) := by
  have hh := has_tell g a ts v h
  have hh' := has_tell g' a' ts' v h'
  have j1 : ∀ b, Ev (fun k => cond_Check.j1 k reads b) (if b = true then (if reads = true then 18 else 13) else 0) := fun b => Ev.fin fun k => by
    simp only [cond_Check.j1]
    cases b <;> cases reads <;> rfl
  have j0 : ∀ b, Ev (fun k => cond_Check.j0 k there v reads b g' a' ts') (if b = true then 13 else if g' = true ∧ there = true ∧ hasV a' ts' v = true then (if reads = true then 18 else 13) else 0) := by
    intro b
    cases b with
    | true => exact Ev.fin fun k => by simp only [cond_Check.j0, if_true]
    | false =>
      cases g' with
      | false =>
        refine Ev.step (fun k => ?_) (j1 false)
        simp only [cond_Check.j0, Bool.false_eq_true, if_false]
      | true =>
        cases there with
        | false =>
          refine Ev.step (fun k => ?_) (j1 false)
          simp only [cond_Check.j0, Bool.false_eq_true, if_false, if_true]
        | true =>
          refine Ev.step (f := fun k => (cond_List_Has.f k true a' ts' v).bind fun t => cond_Check.j1 k reads t) (fun k => ?_) ?_
          · simp only [cond_Check.j0, Bool.false_eq_true, if_false, if_true]
          · refine Ev.bind hh' ?_
            have := j1 (hasV a' ts' v)
            unfold hasV at this ⊢
            generalize (a' || decide (v ∈ ts')) = z at this ⊢
            cases z <;> simpa using this
  unfold chk
  cases g with
  | false => simpa [cond_Check.f] using j0 false
  | true =>
    cases there with
    | false => simpa [cond_Check.f] using j0 true
    | true =>
      simp only [cond_Check.f, if_true]
      refine Ev.bind hh ?_
      have := j0 (!hasV a ts v)
      simpa only [true_and, Bool.true_and, Bool.not_eq_true', hasV] using this
theorem refcheck_tell (g a : Bool) (ts : List Int) (g' a' : Bool) (ts' : List Int) (there : Bool) (v : Int) (reads : Bool) (h : ts.length < 1000000) (h' : ts'.length < 1000000) :
    Ev (fun k => deedboxref23_Check.f k g a ts g' a' ts' there v reads) (chk g a ts g' a' ts' there v reads) := by
  have hh := refhas_tell g a ts v h
  have hh' := refhas_tell g' a' ts' v h'
  have j1 : ∀ b, Ev (fun k => deedboxref23_Check.j1 k reads b) (if b = true then (if reads = true then 18 else 13) else 0) := fun b => Ev.fin fun k => by
    simp only [deedboxref23_Check.j1]
    cases b <;> cases reads <;> rfl
  have j0 : ∀ b, Ev (fun k => deedboxref23_Check.j0 k there v reads b g' a' ts') (if b = true then 13 else if g' = true ∧ there = true ∧ hasV a' ts' v = true then (if reads = true then 18 else 13) else 0) := by
    intro b
    cases b with
    | true => exact Ev.fin fun k => by simp only [deedboxref23_Check.j0, if_true]
    | false =>
      cases g' with
      | false =>
        refine Ev.step (fun k => ?_) (j1 false)
        simp only [deedboxref23_Check.j0, Bool.false_eq_true, if_false]
      | true =>
        cases there with
        | false =>
          refine Ev.step (fun k => ?_) (j1 false)
          simp only [deedboxref23_Check.j0, Bool.false_eq_true, if_false, if_true]
        | true =>
          refine Ev.step (f := fun k => (deedboxref23_Has.f k true a' ts' v).bind fun t => deedboxref23_Check.j1 k reads t) (fun k => ?_) ?_
          · simp only [deedboxref23_Check.j0, Bool.false_eq_true, if_false, if_true]
          · refine Ev.bind hh' ?_
            have := j1 (hasV a' ts' v)
            unfold hasV at this ⊢
            generalize (a' || decide (v ∈ ts')) = z at this ⊢
            cases z <;> simpa using this
  unfold chk
  cases g with
  | false => simpa [deedboxref23_Check.f] using j0 false
  | true =>
    cases there with
    | false => simpa [deedboxref23_Check.f] using j0 true
    | true =>
      simp only [deedboxref23_Check.f, if_true]
      refine Ev.bind hh ?_
      have := j0 (!hasV a ts v)
      simpa only [true_and, Bool.true_and, Bool.not_eq_true', hasV] using this
theorem CondChecks : deedboxlaw23_CondChecks.Pure := by
  intro s t there v reads hs ht hv
  refine Ev.rounds ?_
  have go : ∀ b, (b = true ∨ (s.size ≤ 300 ∧ t.size ≤ 300)) → Ev (fun k => deedboxlaw23_CondChecks.j0 k s t there v reads b) true := by
    intro b hb
    cases b with
    | true =>
      refine Ev.step (f := fun k => (deedboxlaw23_works.f k).bind fun t => some t) (fun k => ?_) (works_end fun k => rfl)
      simp only [deedboxlaw23_CondChecks.j0, if_true]
    | false =>
      obtain ⟨h1, h2⟩ := hb.resolve_left (by simp)
      obtain ⟨xs, hx, rfl, hxl⟩ := str_of s
      obtain ⟨ys, hy, rfl, hyl⟩ := str_of t
      obtain ⟨⟨g, a, ts, e⟩, hp, hsp⟩ := parse_str hx (by omega)
      obtain ⟨⟨g', a', ts', e'⟩, hp', hsp'⟩ := parse_str hy (by omega)
      have hl := spec_len hsp
      have hl' := spec_len hsp'
      simp only at hl hl'
      refine Ev.step (fun k => ?_) (f := fun k => (cond_Check.f k g a ts g' a' ts' there v reads).bind fun t166 => (deedboxref23_Check.f k g a ts g' a' ts' there v reads).bind fun t177 => if t166 = t177 then (if g = true then ((deedboxlaw23_works.f k).bind fun t178 => some t178) else (if g' = true then ((deedboxlaw23_works.f k).bind fun t178 => some t178) else (if t166 = 0 then ((deedboxlaw23_works.f k).bind fun t178 => some t178) else none))) else none) ?_
      · simp only [deedboxlaw23_CondChecks.j0, Bool.false_eq_true, if_false, hp, hp', Option.bind_some, deedboxlaw23_Ref.f]
      · refine Ev.bind (check_tell g a ts g' a' ts' there v reads (by omega) (by omega)) ?_
        refine Ev.bind (refcheck_tell g a ts g' a' ts' there v reads (by omega) (by omega)) ?_
        simp only [if_true]
        cases g with
        | true => exact works_end fun k => by simp only [if_true]
        | false =>
          cases g' with
          | true => exact works_end fun k => by simp only [if_true, Bool.false_eq_true, if_false]
          | false =>
            rw [chk_none]
            exact works_end fun k => by simp only [if_true, Bool.false_eq_true, if_false]
  unfold deedboxlaw23_CondChecks.f
  by_cases h1 : (s.size : Int) > 300
  · simp only [if_pos h1]
    exact go true (.inl rfl)
  · simp only [if_neg h1]
    refine go _ ?_
    by_cases h2 : (t.size : Int) > 300
    · exact .inl (decide_eq_true h2)
    · exact .inr ⟨by omega, by omega⟩

end Go.Proofs.YtkjmffhkchlkeaaDoor.Pure
