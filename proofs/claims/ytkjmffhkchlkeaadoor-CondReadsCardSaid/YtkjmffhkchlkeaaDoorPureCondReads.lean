/- The pure statement of CondReads: what the walk tells answers as the chapter says. -/
import Derived.Test.YtkjmffhkchlkeaaDoorQCondReadsx6
import Derived.Test.YtkjmffhkchlkeaaDoorCond
namespace Go.Proofs.YtkjmffhkchlkeaaDoor.Pure
open Go.RowKit Go.Proofs.YtkjmffhkchlkeaaDoor.QCondReads Go.Proofs.YtkjmffhkchlkeaaDoor.Cond Go.Proofs.YtkjmffhkchlkeaaDoor.Kit Go.Proofs.YtkjmffhkchlkeaaDoor.Num Go.Proofs.YtkjmffhkchlkeaaDoor.Cut Go.Proofs.YtkjmffhkchlkeaaDoorW.PrintWords Go.Proofs.YtkjmffhkchlkeaaDoorW.PrintLast Go.Proofs.YtkjmffhkchlkeaaDoorW.PrintMore
set_option linter.unusedVariables false
set_option linter.unusedSimpArgs false

theorem Ev.fin {α : Type} {g : Nat → Option α} {r : α} (h : ∀ k, g (k + 1) = some r) : Ev g r := ⟨1, fun n hn => by
  obtain ⟨m, rfl⟩ : ∃ m, n = m + 1 := ⟨n - 1, by omega⟩
  exact h m⟩
theorem next_w {n : Nat} (h : n < 1000000) : wrap64 ((n : Int) + 1) = ((n + 1 : Nat) : Int) := by rw [wr (by omega) (by omega)]; rfl
theorem rd_at (p q : List Int) (c : Int) : rd (p ++ c :: q) (p.length : Int) = c := by unfold rd; rw [Int.toNat_natCast]; simp
theorem works_tells : Ev (fun k => deedboxlaw23_works.f k) true := Ev.of deedboxlaw23_works.mono (show deedboxlaw23_works.f 60 = some true by decide +kernel)
theorem works_end {f : Nat → Option Bool} (h : ∀ k, f k = (deedboxlaw23_works.f k).bind fun t => some t) : Ev f true :=
  Ev.congr (fun k => by rw [h]; cases deedboxlaw23_works.f k <;> rfl) works_tells

theorem has_loop (v : Int) : ∀ (q p : List Int) (b : Bool), p.length + q.length < 1000000 → Ev (fun k => cond_List_Has.l0 k v b (p ++ q) (((p ++ q).length : Nat) : Int) (p.length : Int)) (b || decide (v ∈ q))
  | [], p, b, h => by
    refine Ev.fin fun k => ?_
    simp only [cond_List_Has.l0]
    rw [if_neg (by simp)]
    simp
  | c :: q, p, b, h => by
    simp only [List.length_cons] at h
    have e : p ++ c :: q = (p ++ [c]) ++ q := by simp
    have ih := fun b => has_loop v q (p ++ [c]) b (by simp only [List.length_append, List.length_singleton]; omega)
    cases b with
    | true =>
      have := ih true
      rw [← e, show (p ++ [c]).length = p.length + 1 from by simp] at this
      rw [Bool.true_or]
      rw [Bool.true_or] at this
      refine Ev.step (fun k => ?_) this
      simp only [cond_List_Has.l0]
      have hl : (p ++ c :: q).length = p.length + q.length + 1 := by simp; omega
      rw [if_pos (by omega), if_pos (by omega), if_pos (by omega), if_pos trivial, next_w (by omega)]
    | false =>
      have := ih (c == v)
      rw [← e, show (p ++ [c]).length = p.length + 1 from by simp] at this
      have hb : (false || decide (v ∈ c :: q)) = ((c == v) || decide (v ∈ q)) := by
        cases hq : (c == v) with
        | true =>
          have := beq_iff_eq.1 hq
          subst this
          simp
        | false =>
          have : ¬ v = c := fun h => by subst h; simp at hq
          simp [this]
      rw [hb]
      refine Ev.step (fun k => ?_) this
      simp only [cond_List_Has.l0]
      have hl : (p ++ c :: q).length = p.length + q.length + 1 := by simp; omega
      rw [if_pos (by omega), if_pos (by omega), if_pos (by omega), if_neg (by simp), next_w (by omega), rd_at]
theorem has_tell (g a : Bool) (ts : List Int) (v : Int) (h : ts.length < 1000000) : Ev (fun k => cond_List_Has.f k g a ts v) (a || decide (v ∈ ts)) := has_loop v ts [] a (by simpa using h)
theorem refhas_loop (v : Int) (g a : Bool) : ∀ (q p : List Int), p.length + q.length < 1000000 → Ev (fun k => deedboxref23_Has.l0 k v (p.length : Int) g a (p ++ q)) (a || decide (v ∈ q))
  | [], p, h => by
    refine Ev.fin fun k => ?_
    simp only [deedboxref23_Has.l0]
    rw [if_neg (by simp)]
    simp
  | c :: q, p, h => by
    simp only [List.length_cons] at h
    have e : p ++ c :: q = (p ++ [c]) ++ q := by simp
    have hl : (p ++ c :: q).length = p.length + q.length + 1 := by simp; omega
    by_cases hc : c = v
    · subst hc
      refine Ev.fin fun k => ?_
      simp only [deedboxref23_Has.l0]
      rw [if_pos (by omega), if_pos (by omega), rd_at, if_pos rfl]
      simp
    · have this := refhas_loop v g a q (p ++ [c]) (by simp only [List.length_append, List.length_singleton]; omega)
      rw [← e, show (p ++ [c]).length = p.length + 1 from by simp] at this
      have hb : decide (v ∈ c :: q) = decide (v ∈ q) := by
        rw [Bool.eq_iff_iff]
        simp only [decide_eq_true_eq, List.mem_cons]
        exact ⟨fun h => h.resolve_left fun h => hc h.symm, .inr⟩
      rw [hb]
      refine Ev.step (fun k => ?_) this
      simp only [deedboxref23_Has.l0]
      rw [if_pos (by omega), if_pos (by omega), rd_at, if_neg hc, next_w (by omega)]
theorem refhas_tell (g a : Bool) (ts : List Int) (v : Int) (h : ts.length < 1000000) : Ev (fun k => deedboxref23_Has.f k g a ts v) (a || decide (v ∈ ts)) := refhas_loop v g a ts [] (by simpa using h)

theorem refnum_l0 (most : Int) (hm0 : -9223372036854775808 ≤ most) (hm1 : most ≤ 9223372036854775807) : ∀ (t p : List Int) (n : Int), Byt (p ++ t) → (p ++ t).length ≤ 19 → 0 ≤ n → n < 10 ^ p.length →
    ∃ v b, Ev (fun k => deedboxref21_Number.l0 k (strOfNums (p ++ t)) most n (p.length : Int)) (v, b) ∧ Cond.Told most n t v b
  | [], p, n, _, hl, hn0, hn => by
    have hp : (10 : Int) ^ p.length ≤ 10 ^ 19 := by
      have := Nat.pow_le_pow_right (n := 10) (by omega) (show p.length ≤ 19 by simpa using hl)
      exact_mod_cast this
    have h19 : (10 : Int) ^ 19 = 10000000000000000000 := by decide
    rw [List.append_nil]
    have hend : ∀ k, deedboxref21_Number.l0 (k + 1) (strOfNums p) most n (p.length : Int) = if most < 0 then some (0, false) else if n > IntKind.u64.wrap most then some (0, false) else some (wrap64 n, true) := fun k => by
      simp only [deedboxref21_Number.l0]
      rw [str_size, if_neg (by omega)]
    by_cases h : most < 0
    · refine ⟨0, false, Ev.step (f := fun _ => some (0, false)) (fun k => by rw [hend, if_pos h]) (Ev.now _), told_neg h hn0⟩
    · by_cases hg : n > most
      · refine ⟨0, false, Ev.step (f := fun _ => some (0, false)) (fun k => by rw [hend, if_neg h, wru (n := most) (by omega) (by omega), if_pos hg]) (Ev.now _), ⟨fun h => by simp at h, fun q => absurd q.2 (by simp [vfrom]; omega)⟩, fun h => by simp at h⟩
      · refine ⟨n, true, Ev.step (f := fun _ => some (n, true)) (fun k => by rw [hend, if_neg h, wru (n := most) (by omega) (by omega), if_neg hg, wr (n := n) (by omega) (by omega)]) (Ev.now _), ⟨fun _ => ⟨Dig.nil, by simp [vfrom]; omega⟩, fun _ => rfl⟩, fun _ => rfl⟩
  | c :: t, p, n, hB, hl, hn0, hn => by
    have hsz := str_size (p ++ c :: t)
    have hc := bt_next hB
    have hcb := hB c (by simp)
    simp only [List.length_append, List.length_cons] at hsz hl
    by_cases h : c < 48
    · exact ⟨0, false, Ev.step (f := fun _ => some (0, false)) (fun k => by simp only [deedboxref21_Number.l0]; rw [if_pos (by omega), if_pos (by omega), hc, if_pos h]) (Ev.now _), told_bad (.inl h)⟩
    · by_cases h' : 57 < c
      · exact ⟨0, false, Ev.step (f := fun _ => some (0, false)) (fun k => by simp only [deedboxref21_Number.l0]; rw [if_pos (by omega), if_pos (by omega), hc, if_neg h, if_pos h']) (Ev.now _), told_bad (.inr h')⟩
      · have hp : (10 : Int) ^ p.length ≤ 10 ^ 18 := by
          have := Nat.pow_le_pow_right (n := 10) (by omega) (show p.length ≤ 18 by omega)
          exact_mod_cast this
        have h18 : (10 : Int) ^ 18 = 1000000000000000000 := by decide
        obtain ⟨v, b, hv, hT⟩ := refnum_l0 most hm0 hm1 t (p ++ [c]) (10 * n + (c - 48)) (by simpa using hB) (by simp only [List.length_append, List.length_cons, List.length_nil]; omega) (by omega) (by
          rw [List.length_append, List.length_singleton, Int.pow_succ]; omega)
        rw [List.append_assoc, show ((p ++ [c]).length : Int) = (p.length : Int) + 1 by simp only [List.length_append, List.length_cons, List.length_nil]; omega] at hv
        refine ⟨v, b, Ev.step (fun k => ?_) hv, told_next (by omega) hT⟩
        simp only [deedboxref21_Number.l0]
        rw [if_pos (by omega), if_pos (by omega), hc, if_neg h, if_neg h', wru (n := c) (by omega) (by omega), wru (n := 10 * n) (by omega) (by omega), wru (n := 10 * n + c) (by omega) (by omega), wru (n := 10 * n + c - 48) (by omega) (by omega), wr (n := (p.length : Int) + 1) (by omega) (by omega), show 10 * n + c - 48 = 10 * n + (c - 48) by omega]
        rfl

theorem refnumber_tell (most : Int) (hm0 : -9223372036854775808 ≤ most) (hm1 : most ≤ 9223372036854775807) (xs : List Int) (hB : Byt xs) :
    ∃ v b, Ev (fun k => deedboxref21_Number.f k (strOfNums xs) most) (v, b) ∧ (b = true ↔ NumOk xs most) ∧ (b = true → v = vfrom 0 xs) := by
  have stop : ∀ (s : ByteArray), Ev (fun k => deedboxref21_Number.j0 k s most true) (0, false) := fun s =>
    Ev.step (fun k => by simp only [deedboxref21_Number.j0, if_true]) (Ev.now _)
  have go : ∀ {r}, Ev (fun k => deedboxref21_Number.l0 k (strOfNums xs) most 0 0) r → Ev (fun k => deedboxref21_Number.j0 k (strOfNums xs) most false) r := fun g =>
    Ev.step (fun k => by simp only [deedboxref21_Number.j0, Bool.false_eq_true, if_false]) g
  unfold deedboxref21_Number.f
  have hsz := str_size xs
  by_cases hn : xs = []
  · subst hn
    refine ⟨0, false, Ev.congr (fun k => by rw [if_pos (by rw [str_size]; rfl)]) (stop _), ⟨fun h => by simp at h, fun h => absurd rfl h.1.1⟩, fun h => by simp at h⟩
  · have hlen : 1 ≤ xs.length := List.length_pos_iff.2 hn
    by_cases h19 : 19 < xs.length
    · exact ⟨0, false, Ev.congr (fun k => by rw [if_neg (by omega), if_pos (by omega)]) (stop _), ⟨fun h => by simp at h, fun h => absurd h (num_long h19 hm1)⟩, fun h => by simp at h⟩
    · by_cases h1 : 1 < xs.length
      · obtain ⟨c, t, rfl⟩ : ∃ c t, xs = c :: t := by cases xs with
          | nil => exact absurd rfl hn
          | cons c t => exact ⟨c, t, rfl⟩
        have hc : bt (strOfNums (c :: t)) 0 = c := by rw [bt_str hB]; rfl
        by_cases h48 : c = 48
        · refine ⟨0, false, Ev.congr (fun k => by rw [if_neg (by omega), if_neg (by omega), if_pos (by omega), if_pos (by omega), hc, show (c == 48) = true by simp [h48]]) (stop _), ⟨fun h => by simp at h, fun h => absurd (by simp [h48]) (h.1.2.2 h1)⟩, fun h => by simp at h⟩
        · obtain ⟨v, b, hv, hT⟩ := refnum_l0 most hm0 hm1 (c :: t) [] 0 hB (by simpa using (show (c :: t).length ≤ 19 by omega)) (by omega) (by simp)
          refine ⟨v, b, Ev.congr (fun k => by rw [if_neg (by omega), if_neg (by omega), if_pos (by omega), if_pos (by omega), hc, show (c == 48) = false by simp [h48]]) (go hv), ⟨fun h => ⟨⟨hn, (hT.1.1 h).1, fun _ => by simpa using h48⟩, (hT.1.1 h).2⟩, fun h => hT.1.2 ⟨h.1.2.1, h.2⟩⟩, hT.2⟩
      · obtain ⟨v, b, hv, hT⟩ := refnum_l0 most hm0 hm1 xs [] 0 hB (by simpa using (show xs.length ≤ 19 by omega)) (by omega) (by simp)
        exact ⟨v, b, Ev.congr (fun k => by rw [if_neg (by omega), if_neg (by omega), if_neg (by omega)]) (go hv), ⟨fun h => ⟨⟨hn, (hT.1.1 h).1, fun h2 => absurd h2 h1⟩, (hT.1.1 h).2⟩, fun h => hT.1.2 ⟨h.1.2.1, h.2⟩⟩, hT.2⟩

/-! ### The reference's trim -/
theorem reftrim_back (p : List Int) : ∀ (n : Nat) (m b : List Int), m.length = n → Byt (p ++ m ++ b) → (p ++ m ++ b).length < 100000 → (∀ x ∈ b, x = 32) → m.head? ≠ some 32 →
    ∃ t b', m ++ b = t ++ b' ∧ (∀ x ∈ b', x = 32) ∧ t.head? ≠ some 32 ∧ t.getLast? ≠ some 32 ∧ Ev (fun k => deedboxref23_trim.l1 k (strOfNums (p ++ m ++ b)) (p.length : Int) ((p ++ m).length : Int)) (strOfNums t)
  | n, m, b, hn, hB, hl, hb, hm => by
    have hsz := str_size (p ++ m ++ b)
    simp only [List.length_append] at hsz hl
    rcases List.eq_nil_or_concat m with rfl | ⟨m', c, rfl⟩
    · refine ⟨[], b, rfl, hb, by simp, by simp, Ev.fin fun k => ?_⟩
      simp only [deedboxref23_trim.l1]
      simp only [List.append_nil, List.length_append, List.length_nil] at hsz ⊢
      rw [if_neg (by omega), if_pos (by omega), if_pos (by omega), if_pos (by omega), str_cut, Int.toNat_natCast]
      congr 2
      simp
    · rw [List.concat_eq_append] at *
      have hc : bt (strOfNums (p ++ (m' ++ [c]) ++ b)) ((p ++ m').length : Int) = c := by
        have e : p ++ (m' ++ [c]) ++ b = (p ++ m') ++ c :: b := by simp
        rw [e] at hB ⊢
        exact bt_next hB
      simp only [List.length_append, List.length_singleton] at hsz hl hn
      have hw : wrap64 (((p ++ (m' ++ [c])).length : Int) - 1) = ((p ++ m').length : Int) := by
        simp only [List.length_append, List.length_singleton]
        rw [wr (by omega) (by omega)]
        omega
      by_cases h : c = 32
      · subst h
        have e : p ++ (m' ++ [32]) ++ b = p ++ m' ++ 32 :: b := by simp
        obtain ⟨n, rfl⟩ : ∃ j, n = j + 1 := ⟨n - 1, by omega⟩
        obtain ⟨t, b', h1, h2, h3, h4, h5⟩ := reftrim_back p n m' (32 :: b) (by omega) (by rw [← e]; exact hB) (by simp only [List.length_append, List.length_cons]; omega) (fun x hx => by
          rcases List.mem_cons.1 hx with h | h
          · exact h
          · exact hb x h) (by cases m' with
            | nil => simp
            | cons z m' => simpa using hm)
        refine ⟨t, b', by rw [← h1]; simp, h2, h3, h4, ?_⟩
        rw [← e] at h5
        refine Ev.step (fun k => ?_) h5
        simp only [deedboxref23_trim.l1]
        rw [hw, hc, if_pos (by simp only [List.length_append, List.length_singleton]; omega), if_pos (by omega), if_pos (by simp only [List.length_append]; omega), if_pos rfl]
      · refine ⟨m' ++ [c], b, rfl, hb, hm, by simpa using h, Ev.fin fun k => ?_⟩
        simp only [deedboxref23_trim.l1]
        rw [hw, hc, if_pos (by simp only [List.length_append, List.length_singleton]; omega), if_pos (by omega), if_pos (by simp only [List.length_append]; omega), if_neg h, if_pos (by omega), if_pos (by simp only [List.length_append]; omega), if_pos (by simp only [List.length_append, List.length_singleton]; omega), str_cut, Int.toNat_natCast, Int.toNat_natCast, List.take_left, List.drop_left]
theorem reftrim_loop : ∀ (q p : List Int), Byt (p ++ q) → (p ++ q).length < 100000 → (∀ x ∈ p, x = 32) → ∃ t, Trim (p ++ q) t ∧ Ev (fun k => deedboxref23_trim.l0 k (strOfNums (p ++ q)) (p.length : Int) ((p ++ q).length : Int)) (strOfNums t)
  | [], p, hB, hl, hp => by
    obtain ⟨t, b', h1, h2, h3, h4, h5⟩ := reftrim_back p 0 [] [] rfl (by simpa using hB) (by simpa using hl) (by simp) (by simp)
    simp only [List.append_nil] at h1 h5 hl ⊢
    refine ⟨t, ⟨p, b', by rw [List.append_assoc, ← h1, List.append_nil], hp, h2, h3, h4⟩, ?_⟩
    refine Ev.step (f := fun k => deedboxref23_trim.j1 k (strOfNums p) (p.length : Int) (p.length : Int)) (fun k => ?_) (Ev.step (fun k => ?_) h5)
    · simp only [deedboxref23_trim.l0]
      rw [if_neg (by omega)]
    · simp only [deedboxref23_trim.j1]
  | c :: q, p, hB, hl, hp => by
    have hsz := str_size (p ++ c :: q)
    have hc := bt_next hB
    have hl2 := hl
    simp only [List.length_append, List.length_cons] at hsz hl2
    by_cases h : c = 32
    · subst h
      have e : p ++ 32 :: q = (p ++ [32]) ++ q := by simp
      obtain ⟨t, ht, hE⟩ := reftrim_loop q (p ++ [32]) (by rw [← e]; exact hB) (by rw [← e]; exact hl) (fun x hx => by
        rcases List.mem_append.1 hx with hx | hx
        · exact hp x hx
        · exact List.mem_singleton.1 hx)
      rw [← e] at ht hE
      rw [show (p ++ [(32 : Int)]).length = p.length + 1 from by simp] at hE
      refine ⟨t, ht, Ev.step (fun k => ?_) hE⟩
      simp only [deedboxref23_trim.l0]
      rw [if_pos (by simp only [List.length_append, List.length_cons]; omega), if_pos (by omega), if_pos (by omega), hc, if_pos rfl, next_w (by omega)]
    · obtain ⟨t, b', h1, h2, h3, h4, h5⟩ := reftrim_back p _ (c :: q) [] rfl (by simpa using hB) (by simpa using hl) (by simp) (by simpa using h)
      simp only [List.append_nil] at h1 h5
      refine ⟨t, ⟨p, b', by rw [List.append_assoc, ← h1], hp, h2, h3, h4⟩, ?_⟩
      refine Ev.step (f := fun k => deedboxref23_trim.j1 k (strOfNums (p ++ c :: q)) (p.length : Int) ((p ++ c :: q).length : Int)) (fun k => ?_) (Ev.step (fun k => ?_) h5)
      · simp only [deedboxref23_trim.l0]
        rw [if_pos (by simp only [List.length_append, List.length_cons]; omega), if_pos (by omega), if_pos (by omega), hc, if_neg h]
      · simp only [deedboxref23_trim.j1]
theorem reftrim_tell {xs : List Int} (hB : Byt xs) (hl : xs.length < 100000) : Ev (fun k => deedboxref23_trim.f k (strOfNums xs)) (strOfNums (trimI xs)) := by
  obtain ⟨t, ht, hE⟩ := reftrim_loop xs [] hB hl (by simp)
  rw [← ht.unique (trimI_Trim xs)]
  refine Ev.congr (fun k => ?_) hE
  unfold deedboxref23_trim.f
  rw [str_size]
  rfl
/-! ### The reference's parts -/
theorem refparts_loop : ∀ (r p c : List Int) (acc : List ByteArray), Byt (p ++ c ++ r) → (p ++ c ++ r).length < 100000 → (44 : Int) ∉ c → acc.length + r.length < 200000 →
    Ev (fun k => deedboxref23_parts.l0 k (strOfNums (p ++ c ++ r)) acc (p.length : Int) ((p ++ c).length : Int)) (acc ++ (pcs (c ++ r)).map strOfNums)
  | [], p, c, acc, hB, hl, hc, ha => by
    have hsz := str_size (p ++ c ++ [])
    simp only [List.append_nil] at hsz hl hB ⊢
    simp only [List.length_append] at hsz hl
    refine Ev.fin fun k => ?_
    simp only [deedboxref23_parts.l0]
    rw [if_neg (by simp only [List.length_append]; omega)]
    by_cases h0 : c = []
    · subst h0
      rw [if_neg (by simp only [List.length_nil] at hsz; omega), pcs_nil]
      simp
    · have := List.length_pos_iff.2 h0
      simp only [List.length_nil] at ha
      rw [if_pos (by omega), if_pos (by omega), if_pos (by omega), if_pos (by omega), pcs_no hc h0, str_cut, Int.toNat_natCast, List.take_of_length_le (by simp only [List.length_append]; omega), List.drop_left]
      rfl
  | x :: r, p, c, acc, hB, hl, hc, ha => by
    have hsz := str_size (p ++ c ++ x :: r)
    have hx := bt_next hB
    have hl2 := hl
    simp only [List.length_append, List.length_cons] at hsz hl2 ha
    by_cases h : x = 44
    · subst h
      have e : p ++ c ++ 44 :: r = (p ++ c ++ [44]) ++ [] ++ r := by simp
      have ih := refparts_loop r (p ++ c ++ [44]) [] (acc ++ [strOfNums c]) (by rw [← e]; exact hB) (by rw [← e]; exact hl) (by simp) (by simp only [List.length_append, List.length_singleton]; omega)
      rw [← e, List.nil_append, List.append_nil, show (p ++ c ++ [(44 : Int)]).length = (p ++ c).length + 1 from by simp; omega] at ih
      rw [pcs_at r hc, List.map_cons, show acc ++ strOfNums c :: (pcs r).map strOfNums = acc ++ [strOfNums c] ++ (pcs r).map strOfNums from by simp]
      refine Ev.step (fun k => ?_) ih
      simp only [deedboxref23_parts.l0]
      rw [if_pos (by simp only [List.length_append]; omega), if_pos (by omega), hx, if_pos rfl, if_pos (by omega), if_pos (by simp only [List.length_append]; omega), if_pos (by simp only [List.length_append]; omega), if_pos (by omega), next_w (by simp only [List.length_append]; omega), str_cut, Int.toNat_natCast, Int.toNat_natCast, List.take_left, List.drop_left]
    · have e : p ++ c ++ x :: r = p ++ (c ++ [x]) ++ r := by simp
      have ih := refparts_loop r p (c ++ [x]) acc (by rw [← e]; exact hB) (by rw [← e]; exact hl) (fun hh => by
        rcases List.mem_append.1 hh with hh | hh
        · exact hc hh
        · exact h (List.mem_singleton.1 hh).symm) (by omega)
      rw [← e, show (p ++ (c ++ [x])).length = (p ++ c).length + 1 from by simp; omega, show c ++ [x] ++ r = c ++ x :: r from by simp] at ih
      refine Ev.step (fun k => ?_) ih
      simp only [deedboxref23_parts.l0]
      rw [if_pos (by simp only [List.length_append]; omega), if_pos (by omega), hx, if_neg h, next_w (by simp only [List.length_append]; omega)]
theorem refparts_tell {xs : List Int} (hB : Byt xs) (hl : xs.length < 100000) : Ev (fun k => deedboxref23_parts.f k (strOfNums xs)) ((pcs xs).map strOfNums) := by
  have := refparts_loop xs [] [] [] hB hl (by simp) (by simpa using by omega)
  exact this
/-! ### The reference's read -/
theorem tag_len {xs : List Int} (h : Tag xs) : 4 ≤ xs.length := by
  have h1 := congrArg List.length h.1
  have h2 := List.length_pos_iff.2 h.2.1.1
  simp only [List.length_cons, List.length_append, List.length_nil] at h1
  omega
theorem refread_tell {xs : List Int} (hB : Byt xs) (hl : xs.length < 100000) : ∃ v b, Ev (fun k => deedboxref23_read.f k (strOfNums xs)) (v, b) ∧ (b = true ↔ Tag xs) ∧ (b = true → v = tval xs) := by
  have hsz := str_size xs
  have no : ∀ {g : Nat → Option (Int × Bool)}, (∀ k, g k = some (0, false)) → ¬ Tag xs → ∃ v b, Ev g (v, b) ∧ (b = true ↔ Tag xs) ∧ (b = true → v = tval xs) := fun h hn => ⟨0, false, Ev.congr h (Ev.now _), ⟨fun h => by simp at h, fun h => absurd h hn⟩, fun h => by simp at h⟩
  by_cases h4 : xs.length < 4
  · refine no (fun k => ?_) fun ht => by have := tag_len ht; omega
    unfold deedboxref23_read.f
    rw [if_pos (by omega)]
  · have e2 : ((strOfNums xs).extract 0 2).toList = ([34, 118] : List UInt8) ↔ xs.take 2 = [34, 118] := by
      rw [str_cut, List.drop_zero, show ([34, 118] : List UInt8) = (strOfNums [34, 118]).toList from by rw [toList_str]; rfl, toList_eq (hB.take 2) (by unfold Byt; decide)]
    by_cases c1 : xs.take 2 = [34, 118]
    · obtain ⟨r, rfl⟩ : ∃ r, xs = 34 :: 118 :: r := ⟨xs.drop 2, ((List.take_append_drop 2 xs).symm.trans (congrArg (fun z => z ++ xs.drop 2) c1)).trans rfl⟩
      rcases List.eq_nil_or_concat r with rfl | ⟨m, c, rfl⟩
      · simp at h4
      · rw [List.concat_eq_append] at *
        have hw : wrap64 (((strOfNums (34 :: 118 :: (m ++ [c]))).size : Int) - 1) = ((34 :: 118 :: m).length : Int) := by
          simp only [List.length_cons, List.length_append, List.length_nil] at hl hsz ⊢
          rw [wr (by omega) (by omega)]
          omega
        have hc : bt (strOfNums (34 :: 118 :: (m ++ [c]))) ((34 :: 118 :: m).length : Int) = c := bt_next (p := 34 :: 118 :: m) (t := []) hB
        have hl2 := hl
        simp only [List.length_cons, List.length_append, List.length_nil] at hl2 hsz h4
        by_cases cc : c = 34
        · subst cc
          have hm : Byt m := hB.cons.2.cons.2.left
          have em : mid (34 :: 118 :: (m ++ [34])) = m := mid_tag m
          obtain ⟨v, b, hE, hb, hv⟩ := refnumber_tell MX (by decide) (by decide) m hm
          refine ⟨v, b, ?_, ?_, ?_⟩
          · refine Ev.congr (f := fun k => (deedboxref21_Number.f k (strOfNums m) MX).bind fun x => some (x.1, x.2)) (fun k => ?_) (Ev.bind hE (Ev.now _))
            unfold deedboxref23_read.f
            rw [if_neg (by omega), if_pos (by omega), if_pos (e2.2 c1), hw, if_pos (by omega), if_pos (by simp only [List.length_cons]; omega), hc, if_pos rfl, if_pos (by simp only [List.length_cons]; omega), if_pos (by simp only [List.length_cons]; omega), Int.toNat_natCast, str_cut]
            rw [show ((34 :: 118 :: (m ++ [34])).take (34 :: 118 :: m).length).drop 2 = m from by
              rw [show 34 :: 118 :: (m ++ [34]) = (34 :: 118 :: m) ++ [34] from rfl, List.take_left]
              rfl]
            rfl
          · rw [hb]
            exact ⟨fun h => ⟨by rw [em], by rw [em]; exact h⟩, fun h => by have := h.2; rwa [em] at this⟩
          · intro h
            rw [hv h]
            unfold tval
            rw [em]
        · refine no (fun k => ?_) fun ht => ?_
          · unfold deedboxref23_read.f
            rw [if_neg (by omega), if_pos (by omega), if_pos (e2.2 c1), hw, if_pos (by omega), if_pos (by simp only [List.length_cons]; omega), hc, if_neg cc]
          · have h1 := congrArg (fun l : List Int => l.getLast?) ht.1
            rw [show 34 :: 118 :: (m ++ [c]) = (34 :: 118 :: m) ++ [c] from rfl, show ∀ z : List Int, 34 :: 118 :: (z ++ [34]) = (34 :: 118 :: z) ++ [34] from fun _ => rfl] at h1
            simp only [List.getLast?_concat, List.getLast?_append, List.getLast?_singleton, Option.some_or, Option.some.injEq] at h1
            exact cc h1
    · refine no (fun k => ?_) fun ht => c1 (by rw [ht.1]; rfl)
      unfold deedboxref23_read.f
      rw [if_neg (by omega), if_pos (by omega), if_neg (fun h => c1 (e2.1 h))]
/-! ### The reference's Parse -/
theorem rdOf_at {α : Type} (d : α) (p q : List α) (c : α) : rdOf d (p ++ c :: q) (p.length : Int) = c := by unfold rdOf; rw [Int.toNat_natCast]; simp
theorem refparse_loop (n : Nat) : ∀ (q p : List (List Int)) (vals : List Int), vals.length = p.length → p.length + q.length < 200000 → (∀ c ∈ q, Byt c ∧ c.length < 100000) →
    ∃ r, Ev (fun k => deedboxref23_Parse.l0 k ((p ++ q).map strOfNums) (p.length : Int) true false vals) r ∧
    ((∀ c ∈ q, Tag (trimI c)) ∧ (q = [] ∨ p.length + q.length ≤ 8) → r = (true, false, vals ++ q.map (fun c => tval (trimI c)), 0)) ∧
    (¬ ((∀ c ∈ q, Tag (trimI c)) ∧ (q = [] ∨ p.length + q.length ≤ 8)) → r = (false, false, [], 4))
  | [], p, vals, hv, hl, hq => by
    refine ⟨(true, false, vals, 0), Ev.fin fun k => ?_, fun _ => by simp, fun h => absurd ⟨(fun p hp => by cases hp), Or.inl rfl⟩ h⟩
    simp only [deedboxref23_Parse.l0]
    rw [if_neg (by simp)]
  | c :: q, p, vals, hv, hl, hq => by
    have hc := hq c (by simp)
    simp only [List.length_cons] at hl
    have hlen : (((p ++ c :: q).map strOfNums).length : Int) = (p.length : Int) + q.length + 1 := by simp only [List.length_map, List.length_append, List.length_cons]; omega
    have hrd : rdOf ByteArray.empty ((p ++ c :: q).map strOfNums) (p.length : Int) = strOfNums c := by
      rw [List.map_append, List.map_cons, show (p.length : Int) = ((p.map strOfNums).length : Int) from by rw [List.length_map], rdOf_at]
    obtain ⟨v, b, hE, hb, hvv⟩ := refread_tell (xs := trimI c) (trimI_byt hc.1) (by have := trimI_len c; omega)
    have hT := reftrim_tell hc.1 hc.2
    have hstep : ∀ {g : Nat → Option (Bool × Bool × List Int × Int)} {r}, (∀ k, g k = if b = true then (if (p.length : Int) ≥ 8 then some (false, false, [], 4) else if vals.length < 17592186044416 then deedboxref23_Parse.l0 k ((p ++ c :: q).map strOfNums) (((p.length + 1 : Nat)) : Int) true false (vals ++ [v]) else none) else some (false, false, [], 4)) → Ev g r → Ev (fun k => deedboxref23_Parse.l0 k ((p ++ c :: q).map strOfNums) (p.length : Int) true false vals) r := by
      intro g r hg hr
      refine Ev.step (f := fun k => (deedboxref23_trim.f k (strOfNums c)).bind fun t158 => ((deedboxref23_read.f k t158).bind fun bt159 => (if bt159.2 = true then (if (p.length : Int) ≥ 8 then (some (false, false, ([] : List Int), 4)) else (if vals.length < 17592186044416 then (deedboxref23_Parse.l0 k ((p ++ c :: q).map strOfNums) (wrap64 ((p.length : Int) + 1)) true false (vals ++ [bt159.1])) else (none))) else (some (false, false, ([] : List Int), 4))))) (fun k => ?_) ?_
      · simp only [deedboxref23_Parse.l0]
        rw [if_pos (by omega), if_pos (by omega), hrd]
      · refine Ev.bind hT (Ev.bind hE ?_)
        refine Ev.congr (fun k => ?_) hr
        rw [hg, next_w (by omega)]
    have e : p ++ c :: q = (p ++ [c]) ++ q := by simp
    by_cases hg : b = true ∧ p.length < 8
    · obtain ⟨r, hr, h1, h2⟩ := refparse_loop n q (p ++ [c]) (vals ++ [v]) (by simp [hv]) (by simp only [List.length_append, List.length_singleton]; omega) fun d hd => hq d (List.mem_cons_of_mem _ hd)
      rw [← e, show (p ++ [c]).length = p.length + 1 from by simp] at hr
      have hlen2 : (p ++ [c]).length = p.length + 1 := by simp
      rw [hlen2] at h1 h2
      refine ⟨r, hstep (fun k => ?_) hr, ?_, ?_⟩
      · rw [if_pos hg.1, if_neg (by omega), if_pos (by omega)]
      · rintro ⟨g1, g2⟩
        rw [h1 ⟨fun d hd => g1 d (List.mem_cons_of_mem _ hd), ?_⟩, hvv hg.1]
        · simp
        · rcases g2 with g2 | g2
          · cases g2
          · simp only [List.length_cons] at g2
            exact .inr (by omega)
      · intro h3
        refine h2 fun ⟨g1, g2⟩ => h3 ⟨fun d hd => ?_, .inr ?_⟩
        · rcases List.mem_cons.1 hd with rfl | hd
          · exact hb.1 hg.1
          · exact g1 d hd
        · simp only [List.length_cons]
          rcases g2 with rfl | g2
          · simp only [List.length_nil]; omega
          · omega
    · refine ⟨(false, false, [], 4), hstep (g := fun _ => some (false, false, [], 4)) (fun k => ?_) (Ev.now _), fun ⟨g1, g2⟩ => absurd ⟨hb.2 (g1 c (by simp)), ?_⟩ hg, fun _ => rfl⟩
      · by_cases hb' : b = true
        · rw [if_pos hb', if_pos (by have : ¬ p.length < 8 := fun h => hg ⟨hb', h⟩; omega)]
        · rw [if_neg hb']
      · rcases g2 with g2 | g2
        · cases g2
        · simp only [List.length_cons] at g2
          omega
theorem refparse_str {xs : List Int} (hB : Byt xs) (hl : xs.length ≤ 90000) : ∃ r, Ev (fun k => deedboxref23_Parse.f k (strOfNums xs)) r ∧ spec xs r := by
  have hsz := str_size xs
  by_cases h0 : xs = []
  · subst h0
    refine ⟨(false, false, [], 0), Ev.congr (fun k => ?_) (Ev.now _), .inl ⟨rfl, rfl⟩⟩
    unfold deedboxref23_Parse.f
    rw [if_pos (by rw [toList_str]; rfl)]
  · have e42 : ((strOfNums (trimI xs)).toList = [42]) ↔ trimI xs = [42] := by
      rw [show ([42] : List UInt8) = (strOfNums [42]).toList from by rw [toList_str]; rfl, toList_eq (trimI_byt hB) (by unfold Byt; decide)]
    have hstart : ∀ {g : Nat → Option (Bool × Bool × List Int × Int)} {r}, (∀ k, g k = if (strOfNums (trimI xs)).toList = ([42] : List UInt8) then (some (true, true, ([] : List Int), 0)) else ((deedboxref23_parts.f k (strOfNums xs)).bind fun t154 => (deedboxref23_Parse.l0 k t154 0 true false ([] : List Int)))) → Ev g r → Ev (fun k => deedboxref23_Parse.f k (strOfNums xs)) r := by
      intro g r hg hr
      refine Ev.congr (f := fun k => (deedboxref23_trim.f k (strOfNums xs)).bind fun t152 => (if t152.toList = ([42] : List UInt8) then (some (true, true, ([] : List Int), 0)) else ((deedboxref23_parts.f k (strOfNums xs)).bind fun t154 => (deedboxref23_Parse.l0 k t154 0 true false ([] : List Int))))) (fun k => ?_) ?_
      · unfold deedboxref23_Parse.f
        rw [if_neg (fun e => h0 (toList_nil e))]
      · refine Ev.bind (reftrim_tell hB (by omega)) ?_
        exact Ev.congr (fun k => (hg k).symm) hr
    by_cases hs : trimI xs = [42]
    · exact ⟨_, hstart (g := fun _ => some (true, true, [], 0)) (fun k => by rw [if_pos (e42.2 hs)]) (Ev.now _), .inr (.inl ⟨h0, hs, rfl⟩)⟩
    · have hmem := pcs_mem xs.length (Nat.le_refl _) hB
      have hln := pcs_len xs.length (Nat.le_refl xs.length)
      obtain ⟨r, hr, h1, h2⟩ := refparse_loop 0 (pcs xs) [] [] rfl (by simp only [List.length_nil]; omega) fun c hc => ⟨(hmem c hc).1, by have := (hmem c hc).2; omega⟩
      refine ⟨r, hstart (g := fun k => (deedboxref23_parts.f k (strOfNums xs)).bind fun t154 => (deedboxref23_Parse.l0 k t154 0 true false ([] : List Int))) (fun k => by rw [if_neg (fun e => hs (e42.1 e))]) (Ev.bind (refparts_tell hB (by omega)) hr), ?_⟩
      have hiff : ((∀ c ∈ pcs xs, Tag (trimI c)) ∧ (pcs xs = [] ∨ ([] : List (List Int)).length + (pcs xs).length ≤ 8)) ↔ good xs := by
        unfold good
        rw [List.length_nil, Nat.zero_add, List.forall_mem_map]
        exact and_congr_right fun _ => ⟨fun h => h.resolve_left (pcs_ne h0), .inr⟩
      rw [hiff] at h1 h2
      by_cases hg : good xs
      · exact .inr (.inr (.inl ⟨h0, hs, hg, by rw [h1 hg]; rfl⟩))
      · exact .inr (.inr (.inr ⟨h0, hs, hg, h2 hg⟩))

/-! ### Digits -/
theorem enc_digit (d : Nat) (h : d < 10) : Go.Utf8.encode (wrap32 (wrap64 (48 + (d : Int)))) = strOfNums [48 + (d : Int)] := by
  have : ∀ d : _root_.Fin 10, (Go.Utf8.encode (wrap32 (wrap64 (48 + (d.1 : Int))))).data = (strOfNums [48 + (d.1 : Int)]).data := by decide +kernel
  exact ByteArray.ext (this ⟨d, h⟩)
theorem digits_l0 : ∀ (m n : Nat) (acc : List Int), n < 10 ^ m → n < 9223372036854775808 → acc.length + m ≤ 1000000 →
    Ev (fun k => name_Digits.l0 k (n : Int) (strOfNums acc)) (strOfNums (digits n ++ acc)) := by
  intro m
  induction m with
  | zero =>
    intro n acc hm hn hl
    have hz : n = 0 := by rw [Nat.pow_zero] at hm; omega
    subst hz
    have e1 : Int.tmod ((0 : Nat) : Int) 10 = ((0 : Nat) : Int) := rfl
    have e2 : Int.tdiv ((0 : Nat) : Int) 10 = ((0 : Nat) : Int) := rfl
    have hsz : (strOfNums [48 + ((0 : Nat) : Int)]).size + (strOfNums acc).size ≤ 9223372036854775807 := by rw [strOfNums_size, strOfNums_size]; simp only [List.length_cons, List.length_nil]; omega
    refine Ev.step (f := fun _ => some (strOfNums (digits 0 ++ acc))) (fun k => ?_) (Ev.now _)
    simp only [name_Digits.l0]
    rw [e1, e2, enc_digit 0 (by omega), if_pos hsz, wr (n := ((0 : Nat) : Int)) (by omega) (by omega), if_pos (by omega), str_app, digits_lt (by omega)]
  | succ m ih =>
    intro n acc hm hn hl
    have e1 : Int.tmod (n : Int) 10 = ((n % 10 : Nat) : Int) := by rw [Int.tmod_eq_emod_of_nonneg (by omega)]; omega
    have e2 : Int.tdiv (n : Int) 10 = ((n / 10 : Nat) : Int) := by rw [Int.tdiv_eq_ediv_of_nonneg (by omega)]; omega
    have hsz : (strOfNums [48 + ((n % 10 : Nat) : Int)]).size + (strOfNums acc).size ≤ 9223372036854775807 := by rw [strOfNums_size, strOfNums_size]; simp only [List.length_cons, List.length_nil]; omega
    by_cases h : n < 10
    · refine Ev.step (f := fun _ => some (strOfNums (digits n ++ acc))) (fun k => ?_) (Ev.now _)
      simp only [name_Digits.l0]
      rw [e1, e2, enc_digit _ (by omega), if_pos hsz, wr (n := ((n / 10 : Nat) : Int)) (by omega) (by omega), if_pos (by omega), str_app, digits_lt h, show n % 10 = n by omega]
    · have i := ih (n / 10) ([48 + ((n % 10 : Nat) : Int)] ++ acc) (by rw [Nat.pow_succ] at hm; omega) (by omega) (by simp only [List.length_append, List.length_cons, List.length_nil]; omega)
      rw [digits_ge h, List.append_assoc]
      refine Ev.step (fun k => ?_) i
      simp only [name_Digits.l0]
      rw [e1, e2, enc_digit _ (by omega), if_pos hsz, wr (n := ((n / 10 : Nat) : Int)) (by omega) (by omega), if_neg (by omega), str_app]
theorem digits_tell (n : Int) (h0 : 0 ≤ n) (h1 : n ≤ 9223372036854775807) : Ev (fun k => name_Digits.f k n) (strOfNums (digits n.toNat)) := by
  obtain ⟨m, rfl⟩ := Int.eq_ofNat_of_zero_le h0
  have := digits_l0 20 m [] (by omega) (by omega) (by simp)
  rw [List.append_nil] at this
  exact this


/-! ### A list as a line -/
def tailL (ts : List Int) : List Int := ts.flatMap fun t => 44 :: 32 :: tagL t
def lineL : List Int → List Int
  | [] => []
  | t :: ts => tagL t ++ tailL ts
def Tags (ts : List Int) : Prop := ∀ t ∈ ts, 0 ≤ t ∧ t ≤ 9223372036854775807
theorem tagL_byt (n : Int) : Byt (tagL n) := by
  intro x hx
  simp only [tagL, List.mem_cons, List.mem_append, List.not_mem_nil, or_false] at hx
  rcases hx with h | h | h | h
  · omega
  · omega
  · have := digits_dig n.toNat x h
    omega
  · omega
theorem tagL_len {n : Int} (h0 : 0 ≤ n) (h : n ≤ 9223372036854775807) : (tagL n).length ≤ 24 := by
  have := digits_len n.toNat 20 (by omega)
  simp only [tagL, List.length_cons, List.length_append, List.length_nil]
  omega
theorem tail_len : ∀ {ts : List Int}, Tags ts → (tailL ts).length ≤ 26 * ts.length
  | [], _ => by simp [tailL]
  | t :: ts, h => by
    have h1 := tagL_len (h t (by simp)).1 (h t (by simp)).2
    have h2 := tail_len (ts := ts) fun x hx => h x (List.mem_cons_of_mem _ hx)
    simp only [tailL, List.flatMap_cons, List.length_append, List.length_cons] at h2 ⊢
    omega
theorem tail_byt (ts : List Int) : Byt (tailL ts) := by
  intro x hx
  obtain ⟨t, ht, hx⟩ := List.mem_flatMap.1 hx
  rcases List.mem_cons.1 hx with rfl | hx
  · omega
  · rcases List.mem_cons.1 hx with rfl | hx
    · omega
    · exact tagL_byt t x hx
theorem line_byt : ∀ (ts : List Int), Byt (lineL ts)
  | [] => Byt.nil
  | t :: ts => (tagL_byt t).app (tail_byt ts)
theorem line_len : ∀ {ts : List Int}, Tags ts → (lineL ts).length ≤ 26 * ts.length
  | [], _ => by simp [lineL]
  | t :: ts, h => by
    have h1 := tagL_len (h t (by simp)).1 (h t (by simp)).2
    have h2 := tail_len (ts := ts) fun x hx => h x (List.mem_cons_of_mem _ hx)
    simp only [lineL, List.length_append, List.length_cons]
    omega
theorem tag_str (n : Int) : ((⟨#[34, 118]⟩ : ByteArray) ++ strOfNums (digits n.toNat)) ++ (⟨#[34]⟩ : ByteArray) = strOfNums (tagL n) := by
  rw [show (⟨#[34, 118]⟩ : ByteArray) = strOfNums [34, 118] from by apply ByteArray.ext; rfl, show (⟨#[34]⟩ : ByteArray) = strOfNums [34] from by apply ByteArray.ext; rfl, str_app, str_app]
  rfl
theorem tag_tell {n : Int} (h0 : 0 ≤ n) (h : n ≤ 9223372036854775807) : Ev (fun k => cond_Tag.f k n) (strOfNums (tagL n)) := by
  have hl := digits_len n.toNat 20 (by omega)
  refine Ev.bind (digits_tell n h0 h) (Ev.congr (fun k => ?_) (Ev.now _))
  have hs : (strOfNums (digits n.toNat)).size = (digits n.toNat).length := strOfNums_size _
  rw [if_pos (by omega), if_pos (by omega), tag_str]
def u8s (xs : List Int) : List UInt8 := xs.map fun n => UInt8.ofNat n.toNat
theorem tail_join : ∀ (ts : List Int), Lib.joinTail [44, 32] (ts.map fun t => u8s (tagL t)) = u8s (tailL ts)
  | [] => rfl
  | t :: ts => by
    have ih := tail_join ts
    unfold Lib.joinTail at ih ⊢
    rw [List.map_cons, List.map_cons, List.flatten_cons, ih]
    simp [tailL, u8s]
theorem join_tags : ∀ (ts : List Int), Lib.join (ts.map fun t => u8s (tagL t)) [44, 32] = u8s (lineL ts)
  | [] => rfl
  | t :: ts => by
    rw [List.map_cons, Lib.join_cons, tail_join]
    simp [lineL, u8s]
theorem join_tell {ts : List Int} (h : Tags ts) (hl : ts.length ≤ 1000) : strings_Join.f (ts.map fun t => strOfNums (tagL t)) (⟨#[44, 32]⟩ : ByteArray) = some (strOfNums (lineL ts)) := by
  have e : Lib.join ((ts.map fun t => strOfNums (tagL t)).map (·.data.toList)) (⟨#[44, 32]⟩ : ByteArray).data.toList = u8s (lineL ts) := by
    rw [List.map_map]
    exact join_tags ts
  have hll := line_len h
  unfold strings_Join.f
  rw [e, if_pos ⟨by rw [List.length_map]; omega, by unfold u8s; rw [List.length_map]; omega⟩]
  rfl
theorem line_loop : ∀ (q p : List Int), Tags (p ++ q) → (p ++ q).length ≤ 1000 →
    Ev (fun k => cond_List_Line.l0 k (p.map fun t => strOfNums (tagL t)) (p ++ q) (((p ++ q).length : Nat) : Int) (p.length : Int)) (strOfNums (lineL (p ++ q)))
  | [], p, h, hl => by
    simp only [List.append_nil] at h hl ⊢
    refine Ev.fin fun k => ?_
    simp only [cond_List_Line.l0]
    rw [if_neg (by omega), join_tell h hl]
    rfl
  | c :: q, p, h, hl => by
    have e : p ++ c :: q = (p ++ [c]) ++ q := by simp
    have hc := h c (by simp)
    have ih := line_loop q (p ++ [c]) (by rw [← e]; exact h) (by rw [← e]; exact hl)
    rw [← e, show (p ++ [c]).length = p.length + 1 from by simp, List.map_append, List.map_singleton] at ih
    have hl2 := hl
    simp only [List.length_append, List.length_cons] at hl2
    refine Ev.step (f := fun k => (cond_Tag.f k c).bind fun t => cond_List_Line.l0 k ((p.map fun t => strOfNums (tagL t)) ++ [t]) (p ++ c :: q) (((p ++ c :: q).length : Nat) : Int) ((p.length + 1 : Nat) : Int)) (fun k => ?_) (Ev.bind (tag_tell hc.1 hc.2) ih)
    simp only [cond_List_Line.l0]
    rw [if_pos (by simp only [List.length_append, List.length_cons]; omega), if_pos (by omega), if_pos (by simp only [List.length_append, List.length_cons]; omega), rd_at, next_w (by omega)]
    congr 1
    funext t
    rw [if_pos (by rw [List.length_map]; omega)]
/-- The line of a list. -/
def lineOf (g a : Bool) (ts : List Int) : List Int := if g = true then (if a = true then [42] else lineL ts) else []
theorem line_tell (g a : Bool) {ts : List Int} (h : Tags ts) (hl : ts.length ≤ 1000) : Ev (fun k => cond_List_Line.f k g a ts) (strOfNums (lineOf g a ts)) := by
  unfold cond_List_Line.f lineOf
  cases g with
  | false => exact Ev.congr (fun k => by simp only [Bool.false_eq_true, if_false]; rfl) (Ev.now _)
  | true =>
    cases a with
    | true => exact Ev.congr (fun k => by simp only [if_true]; rfl) (Ev.now _)
    | false =>
      have := line_loop ts [] h hl
      simp only [if_true, Bool.false_eq_true, if_false]
      exact this

/-! ### The reference's Digits and Number -/
def dtab : ByteArray := ⟨#[48, 49, 50, 51, 52, 53, 54, 55, 56, 57]⟩
theorem dtab_cut (d : Nat) (h : d < 10) : dtab.extract d (d + 1) = strOfNums [48 + (d : Int)] := by
  have : ∀ d : _root_.Fin 10, (dtab.extract d.1 (d.1 + 1)).data = (strOfNums [48 + (d.1 : Int)]).data := by decide +kernel
  exact ByteArray.ext (this ⟨d, h⟩)
theorem refdigits_nat : ∀ (m n : Nat), n < 10 ^ m → m < 1000000 → n < 9223372036854775808 → Ev (fun k => deedboxref21_Digits.f k (n : Int)) (strOfNums (digits n)) := by
  have low : ∀ n : Nat, n < 10 → Ev (fun k => deedboxref21_Digits.f k (n : Int)) (strOfNums (digits n)) := by
    intro n h
    refine Ev.step (f := fun _ => some (strOfNums (digits n))) (fun k => ?_) (Ev.now _)
    simp only [deedboxref21_Digits.f]
    rw [if_pos (by omega), if_pos (by omega), wr (n := (n : Int) + 1) (by omega) (by omega), if_pos (by omega), if_pos (by omega), show ((n : Int) + 1).toNat = n + 1 by omega, Int.toNat_natCast, digits_lt h]
    exact congrArg some (dtab_cut n h)
  intro m
  induction m with
  | zero =>
    intro n hm _ _
    exact low n (by rw [Nat.pow_zero] at hm; omega)
  | succ m ih =>
    intro n hm hm2 hn
    by_cases h : n < 10
    · exact low n h
    · have e1 : Int.tmod (n : Int) 10 = ((n % 10 : Nat) : Int) := by rw [Int.tmod_eq_emod_of_nonneg (by omega)]; omega
      have e2 : Int.tdiv (n : Int) 10 = ((n / 10 : Nat) : Int) := by rw [Int.tdiv_eq_ediv_of_nonneg (by omega)]; omega
      have i := ih (n / 10) (by rw [Nat.pow_succ] at hm; omega) (by omega) (by omega)
      have hlen := digits_len (n / 10) 30 (by omega)
      apply Ev.step
      · intro k
        simp only [deedboxref21_Digits.f]
        rw [if_neg (by omega), e2, wr (n := ((n / 10 : Nat) : Int)) (by omega) (by omega)]
      · refine Ev.bind i ?_
        refine Ev.congr (fun k => ?_) (Ev.now _)
        rw [e1, if_pos (by omega), wr (n := ((n % 10 : Nat) : Int) + 1) (by omega) (by omega), if_pos (by omega), if_pos (by omega), show (((n % 10 : Nat) : Int) + 1).toNat = n % 10 + 1 by omega, Int.toNat_natCast]
        have e3 := dtab_cut (n % 10) (by omega)
        unfold dtab at e3
        rw [e3, if_pos (by rw [strOfNums_size, strOfNums_size]; simp only [List.length_cons, List.length_nil]; omega), str_app, digits_ge h]
theorem refdigits_tell (n : Int) (h0 : 0 ≤ n) (h1 : n ≤ 9223372036854775807) : Ev (fun k => deedboxref21_Digits.f k n) (strOfNums (digits n.toNat)) := by
  obtain ⟨m, rfl⟩ := Int.eq_ofNat_of_zero_le h0
  exact refdigits_nat 20 m (by omega) (by omega) (by omega)


theorem reftag_tell {n : Int} (h0 : 0 ≤ n) (h : n ≤ 9223372036854775807) : Ev (fun k => deedboxref23_Tag.f k n) (strOfNums (tagL n)) := by
  have hl := digits_len n.toNat 20 (by omega)
  refine Ev.bind (refdigits_tell n h0 h) (Ev.congr (fun k => ?_) (Ev.now _))
  have hs : (strOfNums (digits n.toNat)).size = (digits n.toNat).length := strOfNums_size _
  rw [if_pos (by omega), if_pos (by omega), tag_str]
theorem lineL_snoc (p : List Int) (c : Int) (hp : p ≠ []) : lineL (p ++ [c]) = lineL p ++ [44, 32] ++ tagL c := by
  cases p with
  | nil => exact absurd rfl hp
  | cons t p => simp [lineL, tailL]
theorem refline_loop (g a : Bool) : ∀ (q p : List Int), Tags (p ++ q) → (p ++ q).length ≤ 1000 →
    Ev (fun k => deedboxref23_Line.l0 k (strOfNums (lineL p)) (p.length : Int) g a (p ++ q)) (strOfNums (lineL (p ++ q)))
  | [], p, h, hl => by
    simp only [List.append_nil] at h hl ⊢
    refine Ev.fin fun k => ?_
    simp only [deedboxref23_Line.l0]
    rw [if_neg (by omega)]
  | c :: q, p, h, hl => by
    have e : p ++ c :: q = (p ++ [c]) ++ q := by simp
    have hc := h c (by simp)
    have ih := refline_loop g a q (p ++ [c]) (by rw [← e]; exact h) (by rw [← e]; exact hl)
    rw [← e, show (p ++ [c]).length = p.length + 1 from by simp] at ih
    have hl2 := hl
    simp only [List.length_append, List.length_cons] at hl2
    have hp : Tags p := fun x hx => h x (List.mem_append_left _ hx)
    have hll := line_len hp
    have hs : (strOfNums (lineL p)).size = (lineL p).length := strOfNums_size _
    have htl := tagL_len hc.1 hc.2
    have hts : (strOfNums (tagL c)).size = (tagL c).length := strOfNums_size _
    by_cases h0 : p = []
    · subst h0
      refine Ev.step (f := fun k => (deedboxref23_Tag.f k c).bind fun t => if (strOfNums (lineL [])).size + t.size ≤ 9223372036854775807 then deedboxref23_Line.l0 k (strOfNums (lineL []) ++ t) ((1 : Nat) : Int) g a ([] ++ c :: q) else none) (fun k => ?_) (Ev.bind (reftag_tell hc.1 hc.2) ?_)
      · simp only [deedboxref23_Line.l0]
        rw [if_pos (by simp only [List.length_append, List.length_cons]; omega), if_neg (by simp), if_pos (by simp), rd_at, next_w (by omega)]
        rfl
      · refine Ev.congr (fun k => ?_) ih
        rw [if_pos (by omega), str_app]
        simp [lineL, tailL]
    · have hpos := List.length_pos_iff.2 h0
      refine Ev.step (f := fun k => (deedboxref23_Tag.f k c).bind fun t => if (strOfNums (lineL p)).size + 2 + t.size ≤ 9223372036854775807 then deedboxref23_Line.l0 k ((strOfNums (lineL p) ++ (⟨#[44, 32]⟩ : ByteArray)) ++ t) ((p.length + 1 : Nat) : Int) g a (p ++ c :: q) else none) (fun k => ?_) (Ev.bind (reftag_tell hc.1 hc.2) ?_)
      · simp only [deedboxref23_Line.l0]
        rw [if_pos (by simp only [List.length_append, List.length_cons]; omega), if_pos (by omega), if_pos (by omega), if_pos (by omega), rd_at, next_w (by omega)]
      · refine Ev.congr (fun k => ?_) ih
        rw [if_pos (by omega), show (⟨#[44, 32]⟩ : ByteArray) = strOfNums [44, 32] from by apply ByteArray.ext; rfl, str_app, str_app, lineL_snoc p c h0]
theorem refline_tell (g a : Bool) {ts : List Int} (h : Tags ts) (hl : ts.length ≤ 1000) : Ev (fun k => deedboxref23_Line.f k g a ts) (strOfNums (lineOf g a ts)) := by
  unfold deedboxref23_Line.f lineOf
  cases g with
  | false => exact Ev.congr (fun k => by simp only [Bool.false_eq_true, if_false]; rfl) (Ev.now _)
  | true =>
    cases a with
    | true => exact Ev.congr (fun k => by simp only [if_true]; rfl) (Ev.now _)
    | false =>
      have := refline_loop true false ts [] h hl
      simp only [if_true, Bool.false_eq_true, if_false]
      exact this

theorem same_loop (g a : Bool) : ∀ (q p : List Int), p.length + q.length < 1000000 → Ev (fun k => deedboxref23_Same.l0 k (p.length : Int) g a (p ++ q) g a (p ++ q)) true
  | [], p, h => by
    refine Ev.fin fun k => ?_
    simp only [deedboxref23_Same.l0]
    rw [if_neg (by simp)]
  | c :: q, p, h => by
    simp only [List.length_cons] at h
    have e : p ++ c :: q = (p ++ [c]) ++ q := by simp
    have ih := same_loop g a q (p ++ [c]) (by simp only [List.length_append, List.length_singleton]; omega)
    rw [← e, show (p ++ [c]).length = p.length + 1 from by simp] at ih
    refine Ev.step (fun k => ?_) ih
    simp only [deedboxref23_Same.l0]
    have hl : (p ++ c :: q).length = p.length + q.length + 1 := by simp; omega
    rw [if_pos (by omega), if_pos (by omega), if_pos (by omega), if_pos trivial, next_w (by omega)]
theorem same_tell (g a : Bool) (ts : List Int) (h : ts.length < 1000000) : Ev (fun k => deedboxref23_Same.f k g a ts g a ts) true := by
  have := same_loop g a ts [] (by simpa using h)
  refine Ev.congr (f := fun k => deedboxref23_Same.j0 k false g a ts g a ts) (fun k => ?_) (Ev.step (fun k => ?_) this)
  · unfold deedboxref23_Same.f
    simp
  · simp only [deedboxref23_Same.j0, Bool.false_eq_true, if_false]
    rfl

theorem CondReads (s : ByteArray) (v : Int) (g a : Bool) (ts : List Int) (hv : v ≤ 9223372036854775807) (hts : ∀ t ∈ ts, t ≤ 9223372036854775807) : ∃ k, deedboxlaw23_CondReads.f k s v g a ts = some true := by
  refine Ev.rounds ?_
  have go : ∀ b, (b = true ∨ (s.size ≤ 300 ∧ ts.length ≤ 40 ∧ 0 ≤ v)) → Ev (fun k => deedboxlaw23_CondReads.j0 k s v b g a ts) true := by
    intro b hb
    cases b with
    | true =>
      refine Ev.step (f := fun k => (deedboxlaw23_works.f k).bind fun t => some t) (fun k => ?_) (works_end fun k => rfl)
      simp only [deedboxlaw23_CondReads.j0, if_true]
    | false =>
      obtain ⟨h1, h2, h3⟩ := hb.resolve_left (by simp)
      obtain ⟨xs, hx, rfl, hxl⟩ := str_of s
      have loop : ∀ (q p : List Int), ts = p ++ q → (∀ t ∈ p, 0 ≤ t) → Ev (fun k => deedboxlaw23_CondReads.l0 k (strOfNums xs) v (p.length : Int) g a ts) true := by
        intro q
        induction q with
        | nil =>
          intro p hp h0
          rw [List.append_nil] at hp
          subst hp
          have hT : Tags ts := fun t ht => ⟨h0 t ht, hts t ht⟩
          obtain ⟨⟨g', a', ts', e'⟩, hp, hsp⟩ := parse_str hx (by omega)
          obtain ⟨r, hr, hsr⟩ := refparse_str hx (by omega)
          have hl := spec_len hsp
          simp only at hl
          obtain rfl := spec_unique hsp hsr
          apply Ev.step
          · intro k
            simp only [deedboxlaw23_CondReads.l0]
            rw [if_neg (by omega)]
          · simp only [hp, Option.bind_some, deedboxlaw23_Ref.f]
            refine Ev.bind hr ?_
            refine Ev.bind (same_tell g' a' ts' (by omega)) ?_
            simp only [if_true]
            refine Ev.bind (has_tell g' a' ts' v (by omega)) ?_
            refine Ev.bind (refhas_tell g' a' ts' v (by omega)) ?_
            simp only [beq_self_eq_true, if_true]
            refine Ev.bind (has_tell g a ts v (by omega)) ?_
            refine Ev.bind (refhas_tell g a ts v (by omega)) ?_
            simp only [beq_self_eq_true, if_true]
            refine Ev.bind (line_tell g a hT (by omega)) ?_
            refine Ev.bind (refline_tell g a hT (by omega)) ?_
            simp only [if_true]
            refine Ev.bind (tag_tell h3 hv) ?_
            refine Ev.bind (reftag_tell h3 hv) ?_
            simp only [if_true]
            exact works_end fun k => rfl
        | cons c q ih =>
          intro p hp h0
          have hl : ts.length = p.length + q.length + 1 := by rw [hp]; simp; omega
          have hrd : rd ts (p.length : Int) = c := by rw [hp, rd_at]
          by_cases hc : c < 0
          · refine Ev.step (f := fun k => (deedboxlaw23_works.f k).bind fun t => some t) (fun k => ?_) (works_end fun k => rfl)
            simp only [deedboxlaw23_CondReads.l0]
            rw [if_pos (by omega), if_pos (by omega), hrd, if_pos hc]
          · have := ih (p ++ [c]) (by rw [hp]; simp) (fun t ht => by
              rcases List.mem_append.1 ht with ht | ht
              · exact h0 t ht
              · rw [List.mem_singleton.1 ht]; omega)
            rw [show (p ++ [c]).length = p.length + 1 from by simp] at this
            refine Ev.step (fun k => ?_) this
            simp only [deedboxlaw23_CondReads.l0]
            rw [if_pos (by omega), if_pos (by omega), hrd, if_neg hc, next_w (by omega)]
      refine Ev.step (fun k => ?_) (loop ts [] rfl (by simp))
      simp only [deedboxlaw23_CondReads.j0, Bool.false_eq_true, if_false]
      rfl
  unfold deedboxlaw23_CondReads.f
  by_cases h1 : (s.size : Int) > 300
  · simp only [if_pos h1]
    exact go true (.inl rfl)
  · simp only [if_neg h1]
    by_cases h2 : (ts.length : Int) > 40
    · simp only [if_pos h2]
      exact go true (.inl rfl)
    · simp only [if_neg h2]
      refine go _ ?_
      by_cases h3 : v < 0
      · exact .inl (decide_eq_true h3)
      · exact .inr ⟨by omega, by omega, by omega⟩


end Go.Proofs.YtkjmffhkchlkeaaDoor.Pure
