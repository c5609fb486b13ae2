/- Plain facts of lines of tags, and of what Parse tells. -/
import Derived.Test.YtkjmffhkchlkeaaDoorParse
import Derived.Test.YtkjmffhkchlkeaaDoorNumCore
import Derived.Test.YtkjmffhkchlkeaaDoorSplitCore
namespace Go.Proofs.YtkjmffhkchlkeaaDoor.Cond
open Go.RowKit Go.Proofs.YtkjmffhkchlkeaaDoorW.PrintWords Go.Proofs.YtkjmffhkchlkeaaDoorW.PrintLast Go.Proofs.YtkjmffhkchlkeaaDoor.Kit Go.Proofs.YtkjmffhkchlkeaaDoor.Num Go.Proofs.YtkjmffhkchlkeaaDoor.Cut
set_option linter.unusedVariables false
set_option linter.unusedSimpArgs false
section
open Go.Proofs.YtkjmffhkchlkeaaDoor.Qread
theorem td10 (a : Int) : Int.tdiv a 10 = if 0 ≤ a then a / 10 else -((-a) / 10) := by
  split
  · exact Int.tdiv_eq_ediv_of_nonneg (by omega)
  · have := Int.neg_tdiv (-a) 10
    rw [Int.neg_neg] at this
    rw [this, Int.tdiv_eq_ediv_of_nonneg (by omega)]

/-- What a reading of a number tells. -/
def Told (most n : Int) (t : List Int) (v : Int) (b : Bool) : Prop := (b = true ↔ Dig t ∧ vfrom n t ≤ most) ∧ (b = true → v = vfrom n t)

theorem told_bad {most n c v : Int} {t : List Int} (h : c < 48 ∨ 57 < c) : Told most n (c :: t) v false := by
  refine ⟨⟨fun h => by simp at h, fun ⟨hd, _⟩ => ?_⟩, fun h => by simp at h⟩
  have := hd.cons.1
  omega
theorem told_great {most n c v : Int} {t : List Int} (h : most < 10 * n + (c - 48)) (h0 : 0 ≤ n) : Told most n (c :: t) v false := by
  refine ⟨⟨fun h => by simp at h, fun ⟨hd, hv⟩ => ?_⟩, fun h => by simp at h⟩
  have hc := hd.cons.1
  rw [vfrom_cons] at hv
  have := vfrom_ge hd.cons.2 (n := 10 * n + (c - 48)) (by omega)
  omega
theorem told_neg {most n v : Int} {t : List Int} (h : most < 0) (h0 : 0 ≤ n) : Told most n t v false := by
  refine ⟨⟨fun h => by simp at h, fun ⟨hd, hv⟩ => ?_⟩, fun h => by simp at h⟩
  have := vfrom_ge hd h0
  omega
theorem told_next {most n c v : Int} {t : List Int} {b : Bool} (hc : 48 ≤ c ∧ c ≤ 57) (h : Told most (10 * n + (c - 48)) t v b) : Told most n (c :: t) v b := by
  refine ⟨⟨fun hb => ?_, fun ⟨hd, hv⟩ => h.1.2 ⟨hd.cons.2, hv⟩⟩, h.2⟩
  have := h.1.1 hb
  exact ⟨fun x hx => by
    rcases List.mem_cons.1 hx with rfl | hx
    · exact hc
    · exact this.1 x hx, this.2⟩

theorem num_end {s : ByteArray} {most n i : Int} : Ev (fun k => name_Number.l0 k s most n i i) (n, decide (n ≤ most)) :=
  Ev.step (fun k => by simp only [name_Number.l0]; rw [if_neg (by omega)]) (Ev.now _)
theorem told_end {most n : Int} : Told most n [] n (decide (n ≤ most)) := by
  refine ⟨⟨fun h => ⟨Dig.nil, of_decide_eq_true h⟩, fun h => decide_eq_true h.2⟩, fun _ => rfl⟩

theorem num_bad {s : ByteArray} {most n i c : Int} (hi : 0 ≤ i) (hs : i < (s.size : Int)) (hc : bt s i = c) (h : c < 48 ∨ 57 < c) : Ev (fun k => name_Number.l0 k s most n (s.size : Int) i) (0, false) := by
  have hb := bt_range s i
  refine Ev.step (f := fun _ => some (0, false)) (fun k => ?_) (Ev.now _)
  simp only [name_Number.l0]
  rw [hc] at hb ⊢
  rw [if_pos hs, if_pos hi, if_pos hs, wr (n := c) (by omega) (by omega), wr (n := c - 48) (by omega) (by omega)]
  rcases h with h | h
  · rw [if_pos (by omega)]
  · rw [if_neg (by omega), if_pos (by omega)]
theorem num_great {s : ByteArray} {most n i c D : Int} (hi : 0 ≤ i) (hs : i < (s.size : Int)) (hc : bt s i = c) (h : 48 ≤ c ∧ c ≤ 57) (hD : wrap64 (most - (c - 48)) = D) (hD0 : -9223372036854775808 ≤ D) (hD1 : D ≤ 9223372036854775807) (hn : n > Int.tdiv D 10) :
    Ev (fun k => name_Number.l0 k s most n (s.size : Int) i) (0, false) := by
  refine Ev.step (f := fun _ => some (0, false)) (fun k => ?_) (Ev.now _)
  simp only [name_Number.l0]
  have ht := td10 D
  rw [hc]
  rw [if_pos hs, if_pos hi, if_pos hs, wr (n := c) (by omega) (by omega), wr (n := c - 48) (by omega) (by omega), if_neg (by omega), if_neg (by omega), hD, wr (n := Int.tdiv D 10) (by rw [ht]; split <;> omega) (by rw [ht]; split <;> omega), if_pos hn]
theorem num_next {s : ByteArray} {most n i c D : Int} {r : Int × Bool} (hi : 0 ≤ i) (hs : i < (s.size : Int)) (hs2 : s.size < 10000000) (hc : bt s i = c) (h : 48 ≤ c ∧ c ≤ 57) (hD : wrap64 (most - (c - 48)) = D) (hD0 : -9223372036854775808 ≤ D) (hD1 : D ≤ 9223372036854775807) (hn : ¬ n > Int.tdiv D 10)
    (hn0 : 0 ≤ n) (hn1 : 10 * n + (c - 48) ≤ 9223372036854775807) (g : Ev (fun k => name_Number.l0 k s most (10 * n + (c - 48)) (s.size : Int) (i + 1)) r) :
    Ev (fun k => name_Number.l0 k s most n (s.size : Int) i) r := by
  refine Ev.step (fun k => ?_) g
  simp only [name_Number.l0]
  have ht := td10 D
  rw [hc]
  rw [if_pos hs, if_pos hi, if_pos hs, wr (n := c) (by omega) (by omega), wr (n := c - 48) (by omega) (by omega), if_neg (by omega), if_neg (by omega), hD, wr (n := Int.tdiv D 10) (by rw [ht]; split <;> omega) (by rw [ht]; split <;> omega), if_neg hn,
    wr (n := 10 * n) (by omega) (by omega), wr (n := 10 * n + (c - 48)) (by omega) (by omega), wr (n := i + 1) (by omega) (by omega)]

/-- Up to a number from 0 on. -/
theorem num_pos (most : Int) (hm0 : 0 ≤ most) (hm1 : most ≤ 9223372036854775807) : ∀ (t p : List Int) (n : Int), Byt (p ++ t) → (p ++ t).length < 10000000 → 0 ≤ n → (n ≤ most ∨ n ≤ 9) →
    ∃ v b, Ev (fun k => name_Number.l0 k (strOfNums (p ++ t)) most n ((strOfNums (p ++ t)).size : Int) (p.length : Int)) (v, b) ∧ Told most n t v b
  | [], p, n, _, _, _, _ => by
    refine ⟨n, decide (n ≤ most), ?_, told_end⟩
    rw [str_size, List.append_nil]
    exact num_end
  | c :: t, p, n, hB, hl, hn0, hn => by
    have hsz := str_size (p ++ c :: t)
    have hc := bt_next hB
    have hcb := hB c (by simp)
    simp only [List.length_append, List.length_cons] at hsz hl
    by_cases h : c < 48 ∨ 57 < c
    · exact ⟨0, false, num_bad (by omega) (by omega) hc h, told_bad h⟩
    · have hw : wrap64 (most - (c - 48)) = most - (c - 48) := wr (by omega) (by omega)
      have ht := td10 (most - (c - 48))
      by_cases hg : n > Int.tdiv (most - (c - 48)) 10
      · refine ⟨0, false, num_great (by omega) (by omega) hc (by omega) hw (by omega) (by omega) hg, told_great ?_ hn0⟩
        rw [ht] at hg
        split at hg <;> omega
      · have hg' := hg
        rw [ht] at hg'
        have hb : 10 * n + (c - 48) ≤ most ∨ 10 * n + (c - 48) ≤ 9 := by split at hg' <;> omega
        obtain ⟨v, b, hv, hT⟩ := num_pos most hm0 hm1 t (p ++ [c]) (10 * n + (c - 48)) (by simpa using hB) (by simp only [List.length_append, List.length_cons, List.length_nil]; omega) (by omega) hb
        rw [List.append_assoc, show ((p ++ [c]).length : Int) = (p.length : Int) + 1 by simp only [List.length_append, List.length_cons, List.length_nil]; omega] at hv
        exact ⟨v, b, num_next (by omega) (by omega) (by omega) hc (by omega) hw (by omega) (by omega) hg hn0 (by omega) hv, told_next (by omega) hT⟩

/-- Up to a number below 0, which is not the least ones. -/
theorem num_neg (most : Int) (hm0 : -9223372036854775799 ≤ most) (hm1 : most < 0) : ∀ (t p : List Int) (n : Int), Byt (p ++ t) → (p ++ t).length < 10000000 → 0 ≤ n → n ≤ 9 →
    ∃ v, Ev (fun k => name_Number.l0 k (strOfNums (p ++ t)) most n ((strOfNums (p ++ t)).size : Int) (p.length : Int)) (v, false)
  | [], p, n, _, _, h0, _ => by
    refine ⟨n, ?_⟩
    rw [str_size, List.append_nil]
    have := num_end (s := strOfNums p) (most := most) (n := n) (i := (p.length : Int))
    rwa [decide_eq_false (by omega)] at this
  | c :: t, p, n, hB, hl, hn0, hn => by
    have hsz := str_size (p ++ c :: t)
    have hc := bt_next hB
    have hcb := hB c (by simp)
    simp only [List.length_append, List.length_cons] at hsz hl
    by_cases h : c < 48 ∨ 57 < c
    · exact ⟨0, num_bad (by omega) (by omega) hc h⟩
    · have hw : wrap64 (most - (c - 48)) = most - (c - 48) := wr (by omega) (by omega)
      have ht := td10 (most - (c - 48))
      by_cases hg : n > Int.tdiv (most - (c - 48)) 10
      · exact ⟨0, num_great (by omega) (by omega) hc (by omega) hw (by omega) (by omega) hg⟩
      · have hg' := hg
        rw [ht] at hg'
        have hb : 10 * n + (c - 48) ≤ 9 := by split at hg' <;> omega
        obtain ⟨v, hv⟩ := num_neg most hm0 hm1 t (p ++ [c]) (10 * n + (c - 48)) (by simpa using hB) (by simp only [List.length_append, List.length_cons, List.length_nil]; omega) (by omega) hb
        rw [List.append_assoc, show ((p ++ [c]).length : Int) = (p.length : Int) + 1 by simp only [List.length_append, List.length_cons, List.length_nil]; omega] at hv
        exact ⟨v, num_next (by omega) (by omega) (by omega) hc (by omega) hw (by omega) (by omega) hg hn0 (by omega) hv⟩

/-- Up to one of the least numbers: where 'most - d' is turned round. -/
theorem num_least (most : Int) (hm0 : -9223372036854775808 ≤ most) (hm1 : most < -9223372036854775799) : ∀ (t p : List Int) (n : Int), Byt (p ++ t) → (p ++ t).length < 10000000 → 0 ≤ n → n ≤ 9223372036854775807 → (n = 0 ∨ n % 10 > most + 9223372036854775808) →
    ∃ v, Ev (fun k => name_Number.l0 k (strOfNums (p ++ t)) most n ((strOfNums (p ++ t)).size : Int) (p.length : Int)) (v, false)
  | [], p, n, _, _, h0, _, _ => by
    refine ⟨n, ?_⟩
    rw [str_size, List.append_nil]
    have := num_end (s := strOfNums p) (most := most) (n := n) (i := (p.length : Int))
    rwa [decide_eq_false (by omega)] at this
  | c :: t, p, n, hB, hl, hn0, hn, hr => by
    have hsz := str_size (p ++ c :: t)
    have hc := bt_next hB
    have hcb := hB c (by simp)
    simp only [List.length_append, List.length_cons] at hsz hl
    by_cases h : c < 48 ∨ 57 < c
    · exact ⟨0, num_bad (by omega) (by omega) hc h⟩
    · by_cases hj : c - 48 ≤ most + 9223372036854775808
      · have hw : wrap64 (most - (c - 48)) = most - (c - 48) := wr (by omega) (by omega)
        have ht := td10 (most - (c - 48))
        refine ⟨0, num_great (by omega) (by omega) hc (by omega) hw (by omega) (by omega) ?_⟩
        rw [ht, if_neg (by omega)]
        omega
      · have hw : wrap64 (most - (c - 48)) = most - (c - 48) + 18446744073709551616 := by unfold wrap64; omega
        have ht := td10 (most - (c - 48) + 18446744073709551616)
        by_cases hg : n > Int.tdiv (most - (c - 48) + 18446744073709551616) 10
        · exact ⟨0, num_great (by omega) (by omega) hc (by omega) hw (by omega) (by omega) hg⟩
        · have hg' := hg
          rw [ht, if_pos (by omega)] at hg'
          obtain ⟨v, hv⟩ := num_least most hm0 hm1 t (p ++ [c]) (10 * n + (c - 48)) (by simpa using hB) (by simp only [List.length_append, List.length_cons, List.length_nil]; omega) (by omega) (by omega) (by omega)
          rw [List.append_assoc, show ((p ++ [c]).length : Int) = (p.length : Int) + 1 by simp only [List.length_append, List.length_cons, List.length_nil]; omega] at hv
          exact ⟨v, num_next (by omega) (by omega) (by omega) hc (by omega) hw (by omega) (by omega) hg hn0 (by omega) hv⟩

theorem num_any (most : Int) (hm0 : -9223372036854775808 ≤ most) (hm1 : most ≤ 9223372036854775807) (xs : List Int) (hB : Byt xs) (hl : xs.length < 10000000) :
    ∃ v b, Ev (fun k => name_Number.l0 k (strOfNums xs) most 0 ((strOfNums xs).size : Int) 0) (v, b) ∧ Told most 0 xs v b := by
  by_cases h0 : 0 ≤ most
  · exact num_pos most h0 hm1 xs [] 0 hB hl (by omega) (by omega)
  · by_cases h1 : -9223372036854775799 ≤ most
    · obtain ⟨v, hv⟩ := num_neg most h1 (by omega) xs [] 0 hB hl (by omega) (by omega)
      exact ⟨v, false, hv, told_neg (by omega) (by omega)⟩
    · obtain ⟨v, hv⟩ := num_least most hm0 (by omega) xs [] 0 hB hl (by omega) (by omega) (.inl rfl)
      exact ⟨v, false, hv, told_neg (by omega) (by omega)⟩

/-- What Number tells of a text. -/
theorem number_tell (most : Int) (hm0 : -9223372036854775808 ≤ most) (hm1 : most ≤ 9223372036854775807) (xs : List Int) (hB : Byt xs) (hl : xs.length < 10000000) :
    ∃ v b, Ev (fun k => name_Number.f k (strOfNums xs) most) (v, b) ∧ (b = true ↔ NumOk xs most) ∧ (b = true → v = vfrom 0 xs) := by
  have stop : ∀ (s : ByteArray), Ev (fun k => name_Number.j0 k s most true) (0, false) := fun s =>
    Ev.step (fun k => by simp only [name_Number.j0, if_true]) (Ev.now _)
  have go : ∀ {r}, Ev (fun k => name_Number.l0 k (strOfNums xs) most 0 ((strOfNums xs).size : Int) 0) r → Ev (fun k => name_Number.j0 k (strOfNums xs) most false) r := fun g =>
    Ev.step (fun k => by simp only [name_Number.j0, Bool.false_eq_true, if_false]) g
  unfold name_Number.f
  by_cases hn : xs = []
  · subst hn
    refine ⟨0, false, Ev.congr (fun k => by rw [if_pos (by rw [toList_str]; rfl)]) (stop _), ⟨fun h => by simp at h, fun h => absurd rfl h.1.1⟩, fun h => by simp at h⟩
  · have e0 : ¬ (strOfNums xs).toList = [] := fun h => hn (toList_nil h)
    have hsz := str_size xs
    by_cases h1 : 1 < xs.length
    · obtain ⟨c, t, rfl⟩ : ∃ c t, xs = c :: t := by cases xs with
        | nil => exact absurd rfl hn
        | cons c t => exact ⟨c, t, rfl⟩
      have hc : bt (strOfNums (c :: t)) 0 = c := by rw [bt_str hB]; rfl
      by_cases h48 : c = 48
      · refine ⟨0, false, Ev.congr (fun k => by rw [if_neg e0, if_pos (by omega), if_pos (by omega), hc, show (c == 48) = true by simp [h48]]) (stop _), ⟨fun h => by simp at h, fun h => absurd (by simp [h48]) (h.1.2.2 h1)⟩, fun h => by simp at h⟩
      · obtain ⟨v, b, hv, hT⟩ := num_any most hm0 hm1 (c :: t) hB hl
        refine ⟨v, b, Ev.congr (fun k => by rw [if_neg e0, if_pos (by omega), if_pos (by omega), hc, show (c == 48) = false by simp [h48]]) (go hv), ⟨fun h => ⟨⟨hn, (hT.1.1 h).1, fun _ => by simpa using h48⟩, (hT.1.1 h).2⟩, fun h => hT.1.2 ⟨h.1.2.1, h.2⟩⟩, hT.2⟩
    · obtain ⟨v, b, hv, hT⟩ := num_any most hm0 hm1 xs hB hl
      exact ⟨v, b, Ev.congr (fun k => by rw [if_neg e0, if_neg (by omega)]) (go hv), ⟨fun h => ⟨⟨hn, (hT.1.1 h).1, fun h2 => absurd h2 h1⟩, (hT.1.1 h).2⟩, fun h => hT.1.2 ⟨h.1.2.1, h.2⟩⟩, hT.2⟩

end
/-! ### trim -/
/-- t is xs without blanks ahead and behind. -/
def Trim (xs t : List Int) : Prop := ∃ a b, xs = a ++ t ++ b ∧ (∀ x ∈ a, x = 32) ∧ (∀ x ∈ b, x = 32) ∧ t.head? ≠ some 32 ∧ t.getLast? ≠ some 32
theorem drop_blanks : ∀ {a r : List Int}, (∀ x ∈ a, x = 32) → (a ++ r).dropWhile (fun x => x == 32) = r.dropWhile (fun x => x == 32)
  | [], _, _ => rfl
  | x :: a, r, h => by
    have := h x (by simp)
    subst this
    rw [List.cons_append, List.dropWhile_cons_of_pos (by rfl)]
    exact drop_blanks fun y hy => h y (List.mem_cons_of_mem _ hy)
theorem drop_none {r : List Int} (h : r.head? ≠ some 32) : r.dropWhile (fun x => x == 32) = r := by
  cases r with
  | nil => rfl
  | cons x r => rw [List.dropWhile_cons_of_neg]; simpa using h
theorem Trim.eq {xs t : List Int} (h : Trim xs t) : t = ((xs.dropWhile fun x => x == 32).reverse.dropWhile fun x => x == 32).reverse := by
  obtain ⟨a, b, rfl, ha, hb, h1, h2⟩ := h
  rw [List.append_assoc, drop_blanks ha]
  cases t with
  | nil =>
    rw [List.nil_append]
    have := drop_blanks (r := []) hb
    rw [List.append_nil] at this
    rw [this]
    rfl
  | cons x t =>
    rw [drop_none (r := (x :: t) ++ b) (by simpa using h1), List.reverse_append, drop_blanks (fun y hy => hb y (List.mem_reverse.1 hy)), drop_none, List.reverse_reverse]
    rw [List.head?_reverse]
    exact h2
theorem Trim.unique {xs t t' : List Int} (h : Trim xs t) (h' : Trim xs t') : t = t' := h.eq.trans h'.eq.symm
theorem blanks_of {l : List Int} : ∀ x ∈ l.takeWhile (fun x => x == 32), x = 32 := fun x hx => by simpa using List.all_eq_true.1 (List.all_takeWhile (p := fun x : Int => x == 32) (l := l)) x hx
theorem head_drop (l : List Int) : (l.dropWhile fun x => x == 32).head? ≠ some 32 := fun h => by
  have := List.head?_dropWhile_not (fun x : Int => x == 32) l
  rw [h] at this
  simp at this
def trimI (xs : List Int) : List Int := ((xs.reverse.dropWhile fun x => x == 32).reverse).dropWhile fun x => x == 32
theorem trimI_Trim (xs : List Int) : Trim xs (trimI xs) := by
  have e1 := List.takeWhile_append_dropWhile (p := fun x : Int => x == 32) (l := xs.reverse)
  have e2 := List.takeWhile_append_dropWhile (p := fun x : Int => x == 32) (l := (xs.reverse.dropWhile fun x => x == 32).reverse)
  refine ⟨((xs.reverse.dropWhile fun x => x == 32).reverse).takeWhile fun x => x == 32, (xs.reverse.takeWhile fun x => x == 32).reverse, ?_, blanks_of, fun x hx => blanks_of x (List.mem_reverse.1 hx), head_drop _, ?_⟩
  · unfold trimI
    rw [e2, ← List.reverse_append, e1, List.reverse_reverse]
  · intro h
    have hl : (xs.reverse.dropWhile fun x => x == 32).reverse.getLast? = some 32 := by
      rw [← e2]
      have hne : trimI xs ≠ [] := fun h0 => by rw [h0] at h; cases h
      rw [List.getLast?_append]
      have h' : (List.dropWhile (fun x => x == 32) (xs.reverse.dropWhile fun x => x == 32).reverse).getLast? = some 32 := h
      rw [h']
      rfl
    rw [List.getLast?_reverse] at hl
    exact head_drop _ hl
theorem u8_blank {x : Int} (h : 0 ≤ x ∧ x < 256) : (UInt8.ofNat x.toNat == 32) = (x == 32) := by
  by_cases e : x = 32
  · subst e; rfl
  · rw [show (x == 32) = false from beq_eq_false_iff_ne.2 e]
    exact u8_ne (b := 32) h (by omega) e
theorem drop_map : ∀ {l : List Int}, Byt l → (l.map fun n => UInt8.ofNat n.toNat).dropWhile (fun x => x == 32) = (l.dropWhile fun x => x == 32).map fun n => UInt8.ofNat n.toNat
  | [], _ => rfl
  | x :: l, h => by
    have hx := u8_blank h.cons.1
    rw [List.map_cons]
    cases hb : (x == 32) with
    | true =>
      rw [hb] at hx
      rw [List.dropWhile_cons, List.dropWhile_cons]
      simp only [hx, hb, if_true]
      exact drop_map h.cons.2
    | false =>
      rw [hb] at hx
      rw [List.dropWhile_cons, List.dropWhile_cons]
      simp only [hx, hb, Bool.false_eq_true, if_false]
      rfl
theorem byt_rev {l : List Int} (h : Byt l) : Byt l.reverse := fun x hx => h x (List.mem_reverse.1 hx)
theorem byt_dw {l : List Int} (h : Byt l) : Byt (l.dropWhile fun x => x == 32) := fun x hx => h x (List.dropWhile_sublist _ |>.subset hx)
theorem trimI_byt {xs : List Int} (h : Byt xs) : Byt (trimI xs) := byt_dw (byt_rev (byt_dw (byt_rev h)))
theorem trimI_len (xs : List Int) : (trimI xs).length ≤ xs.length := by
  obtain ⟨a, b, e, _⟩ := trimI_Trim xs
  have := congrArg List.length e
  simp only [List.length_append] at this
  omega
theorem trimS_str {xs : List Int} (h : Byt xs) : trimS (strOfNums xs) = strOfNums (trimI xs) := by
  unfold trimS
  rw [data_str]
  unfold Lib.trimB Lib.trimLeftB Lib.trimRightB trimI
  rw [← List.map_reverse, drop_map (byt_rev h), ← List.map_reverse, drop_map (byt_rev (byt_dw (byt_rev h)))]
  rfl
/-! ### the parts of a line -/
/-- The parts between commas; nothing behind a last comma is none. -/
def dropE (l : List (List Int)) : List (List Int) := if l.getLast? = some [] then l.dropLast else l
def pcs (xs : List Int) : List (List Int) := dropE (splitC 44 xs)
theorem pcs_nil : pcs [] = [] := rfl
theorem pcs_no {xs : List Int} (h : (44 : Int) ∉ xs) (hn : xs ≠ []) : pcs xs = [xs] := by
  unfold pcs dropE
  rw [split_no h, if_neg (by simpa using hn)]
theorem pcs_at {p : List Int} (q : List Int) (h : (44 : Int) ∉ p) : pcs (p ++ 44 :: q) = p :: pcs q := by
  have hne : splitC 44 q ≠ [] := fun e => by have := split_ne 44 q; rw [e] at this; simp at this
  unfold pcs dropE
  rw [split_at q h, List.getLast?_cons, List.dropLast_cons_of_ne_nil hne]
  cases hl : (splitC 44 q).getLast? with
  | none => rw [List.getLast?_eq_none_iff] at hl; exact absurd hl hne
  | some z =>
    rw [Option.getD_some]
    by_cases hz : z = []
    · rw [if_pos (by rw [hz]), if_pos (by rw [hz])]
    · rw [if_neg (by simpa using hz), if_neg (by simpa using hz)]
theorem pcs_mem : ∀ (n : Nat) {xs : List Int}, xs.length ≤ n → Byt xs → ∀ p ∈ pcs xs, Byt p ∧ p.length ≤ xs.length
  | n, xs, hn, hB, p, hp => by
    rcases first_at 44 xs with k | ⟨a, q, ha, rfl⟩
    · by_cases h0 : xs = []
      · subst h0; cases hp
      · rw [pcs_no k h0] at hp
        rw [List.mem_singleton.1 hp]
        exact ⟨hB, Nat.le_refl _⟩
    · rw [pcs_at q ha] at hp
      simp only [List.length_append, List.length_cons] at hn ⊢
      rcases List.mem_cons.1 hp with rfl | hp
      · exact ⟨hB.left, by omega⟩
      · match n, hn with
        | 0, hn => omega
        | n + 1, hn =>
          have := pcs_mem n (xs := q) (by omega) hB.right.cons.2 p hp
          exact ⟨this.1, by omega⟩
theorem pcs_len : ∀ (n : Nat) {xs : List Int}, xs.length ≤ n → (pcs xs).length ≤ xs.length
  | n, xs, hn => by
    rcases first_at 44 xs with k | ⟨a, q, ha, rfl⟩
    · by_cases h0 : xs = []
      · subst h0; simp [pcs_nil]
      · rw [pcs_no k h0]
        have := List.length_pos_iff.2 h0
        simp only [List.length_singleton]
        omega
    · rw [pcs_at q ha]
      simp only [List.length_append, List.length_cons] at hn ⊢
      match n, hn with
      | 0, hn => omega
      | n + 1, hn =>
        have := pcs_len n (xs := q) (by omega)
        omega
theorem comma_str : comma = strOfNums [44] := by
  apply ByteArray.ext
  rfl
theorem cut_at {p : List Int} (q : List Int) (hB : Byt (p ++ 44 :: q)) (h : (44 : Int) ∉ p) (hl : (p ++ 44 :: q).length < 1000000) : QCut.strings_Cut.f (strOfNums (p ++ 44 :: q)) comma = some (strOfNums p, strOfNums q, true) := by
  unfold QCut.strings_Cut.f QCut.stringslite_Cut.f QCut.stringslite_Index.f
  have h1 : comma.size = 1 := rfl
  have hsz := str_size (p ++ 44 :: q)
  have hl2 := hl
  simp only [List.length_append, List.length_cons] at hsz hl2
  rw [if_pos h1, show comma.data.toList.getD 0 0 = UInt8.ofNat (44 : Int).toNat from rfl, index_at (by omega) q hB.left h, Option.bind_some, h1, show (((1 : Nat)) : Int) = 1 from rfl, if_pos (by omega), if_pos (by omega), if_pos (by omega), wr (n := (p.length : Int) + 1) (by omega) (by omega), if_pos (by omega), if_pos (by omega), Option.bind_some, str_cut, str_cut]
  have e1 : ((p ++ 44 :: q).take (strOfNums (p ++ 44 :: q)).size).drop ((p.length : Int) + 1).toNat = q := by
    rw [List.take_of_length_le (by simp only [List.length_append, List.length_cons]; omega), show ((p.length : Int) + 1).toNat = p.length + 1 by omega]
    simp
  have e2 : ((p ++ 44 :: q).take (p.length : Int).toNat).drop 0 = p := by rw [Int.toNat_natCast]; simp
  rw [e1, e2]
theorem cut_no {p : List Int} (hB : Byt p) (h : (44 : Int) ∉ p) : QCut.strings_Cut.f (strOfNums p) comma = some (strOfNums p, strOfNums [], false) := by
  unfold QCut.strings_Cut.f QCut.stringslite_Cut.f QCut.stringslite_Index.f
  have h1 : comma.size = 1 := rfl
  rw [if_pos h1, show comma.data.toList.getD 0 0 = UInt8.ofNat (44 : Int).toNat from rfl, index_no (by omega) hB h, Option.bind_some, if_neg (by omega), Option.bind_some]
  rfl
theorem words_str : ∀ (k : Nat) {xs : List Int}, xs.length < k → xs.length < 1000000 → Byt xs → words k (strOfNums xs) = (pcs xs).map fun p => strOfNums (trimI p)
  | 0, xs, h, _, _ => by omega
  | k + 1, xs, h, hl, hB => by
    by_cases h0 : xs = []
    · subst h0
      rw [words_nil _ _ (by rw [toList_str]; rfl)]
      rfl
    · unfold words
      rw [if_neg (fun e => h0 (toList_nil e))]
      rcases first_at 44 xs with hc | ⟨a, q, ha, rfl⟩
      · rw [cut_no hB hc, pcs_no hc h0]
        simp only
        rw [words_nil _ _ (by rw [toList_str]; rfl), trimS_str hB]
        rfl
      · rw [cut_at q hB ha hl, pcs_at q ha]
        simp only
        have hlen := h
        have hl2 := hl
        simp only [List.length_append, List.length_cons] at hlen hl2
        rw [words_str k (xs := q) (by omega) (by omega) hB.right.cons.2, trimS_str hB.left]
        rfl
/-! ### tags -/
def MX : Int := 1099511627776
def mid (xs : List Int) : List Int := (xs.drop 2).dropLast
/-- A version's tag. -/
def Tag (xs : List Int) : Prop := xs = 34 :: 118 :: (mid xs ++ [34]) ∧ NumOk (mid xs) MX
def tval (xs : List Int) : Int := vfrom 0 (mid xs)
def tagL (n : Int) : List Int := 34 :: 118 :: (digits n.toNat ++ [34])
theorem mid_tag (m : List Int) : mid (34 :: 118 :: (m ++ [34])) = m := by simp [mid]
theorem tagL_Tag {n : Int} (h0 : 0 ≤ n) (h : n ≤ MX) : Tag (tagL n) ∧ tval (tagL n) = n := by
  have e : mid (tagL n) = digits n.toNat := mid_tag _
  refine ⟨⟨by rw [e]; rfl, by rw [e]; exact num_ok _ _ (by omega)⟩, ?_⟩
  unfold tval
  rw [e, digits_val]
  omega
theorem ev_at {α : Type} {g : Nat → Option α} {k : Nat} {r0 r : α} (hm : ∀ k, LeO (g k) (g (k + 1))) (h : g k = some r0) (he : Ev g r) : g k = some r := by
  obtain ⟨K, hK⟩ := he
  have h1 := at_rounds hm (Nat.le_max_left k K) h
  have h2 := hK _ (Nat.le_max_right k K)
  rw [h1] at h2
  rw [h, h2]
theorem num_fuel (s : ByteArray) (most n : Int) (hs : s.size < 1000000) : ∀ (k : Nat) (i : Int) (x : Int), 0 ≤ i → i ≤ s.size → (s.size : Int) - i < k → ∃ r, Qread.name_Number.l0 k s most x (s.size : Int) i = some r
  | 0, i, x, h0, h1, h2 => by omega
  | k + 1, i, x, h0, h1, h2 => by
    simp only [Qread.name_Number.l0]
    by_cases c1 : i < (s.size : Int)
    · rw [if_pos c1, if_pos h0, if_pos c1]
      split
      · exact ⟨_, rfl⟩
      · split
        · exact ⟨_, rfl⟩
        · split
          · exact ⟨_, rfl⟩
          · rw [wr (n := i + 1) (by omega) (by omega)]
            exact num_fuel s most n hs k (i + 1) _ (by omega) (by omega) (by omega)
    · rw [if_neg c1]
      exact ⟨_, rfl⟩
theorem number_fuel (s : ByteArray) (most : Int) (hs : s.size < 1000000) (k : Nat) (hk : s.size + 3 ≤ k) : ∃ r, Qread.name_Number.f k s most = some r := by
  obtain ⟨k, rfl⟩ : ∃ m, k = m + 1 := ⟨k - 1, by omega⟩
  have go : ∀ b, ∃ r, Qread.name_Number.j0 (k + 1) s most b = some r := by
    intro b
    simp only [Qread.name_Number.j0]
    split
    · exact ⟨_, rfl⟩
    · exact num_fuel s most 0 hs k 0 0 (by omega) (by omega) (by omega)
  unfold Qread.name_Number.f
  split
  · exact go _
  · split
    · rw [if_pos (by omega)]
      exact go _
    · exact go _
theorem readS_str {xs : List Int} (hB : Byt xs) (hl : xs.length < 100000) : ∃ v b, readS (strOfNums xs) = some (v, b) ∧ (b = true ↔ Tag xs) ∧ (b = true → v = tval xs) := by
  have hsz := str_size xs
  -- what is left of the two cuts
  have no : ∀ {g : Option (Int × Bool)}, g = some (0, false) → ¬ Tag xs → ∃ v b, g = some (v, b) ∧ (b = true ↔ Tag xs) ∧ (b = true → v = tval xs) := fun h hn => ⟨0, false, h, ⟨fun h => by simp at h, fun h => absurd h hn⟩, fun h => by simp at h⟩
  have hP : ∀ (ys : List Int) (r : List Int), Byt ys → ys.length < 100000 → Qread.stringslite_HasPrefix.f (strOfNums ys) (⟨#[34, 118]⟩ : ByteArray) = some (decide (ys.take 2 = [34, 118])) := by
    intro ys r hy hly
    have hs2 := str_size ys
    have e2 : ((⟨#[34, 118]⟩ : ByteArray).size : Int) = 2 := rfl
    unfold Qread.stringslite_HasPrefix.f
    rw [e2]
    by_cases c : (2 : Int) ≤ (strOfNums ys).size
    · rw [if_pos (by omega), if_pos (by omega), if_pos (by omega), str_cut, List.drop_zero, show (2 : Int).toNat = 2 from rfl, show (⟨#[34, 118]⟩ : ByteArray) = strOfNums [34, 118] from by apply ByteArray.ext; rfl]
      congr 1
      rw [Bool.eq_iff_iff]
      simp only [beq_iff_eq, decide_eq_true_eq]
      rw [toList_eq (hy.take 2) (by unfold Byt; decide)]
    · rw [if_neg (by omega)]
      congr 1
      symm
      rw [decide_eq_false_iff_not]
      intro e
      have := congrArg List.length e
      simp at this
      omega
  unfold readS Qread.cond_read.f Qread.strings_CutPrefix.f Qread.stringslite_CutPrefix.f
  rw [hP xs [] hB hl]
  simp only [Option.bind_some]
  by_cases c1 : xs.take 2 = [34, 118]
  · obtain ⟨r, rfl⟩ : ∃ r, xs = 34 :: 118 :: r := ⟨xs.drop 2, ((List.take_append_drop 2 xs).symm.trans (congrArg (fun z => z ++ xs.drop 2) c1)).trans rfl⟩
    simp only [List.length_cons] at hl hsz
    have e2 : ((⟨#[34, 118]⟩ : ByteArray).size : Int) = 2 := rfl
    rw [decide_eq_true c1, if_pos rfl, e2, if_pos (by omega), if_pos (by omega)]
    simp only [Option.bind_some]
    rw [str_cut, List.take_of_length_le (by simp only [List.length_cons]; omega), show (2 : Int).toNat = 2 from rfl, show (34 :: 118 :: r).drop 2 = r from rfl]
    have hr : Byt r := hB.cons.2.cons.2
    have hrs := str_size r
    have e1 : ((⟨#[34]⟩ : ByteArray).size : Int) = 1 := rfl
    unfold Qread.strings_CutSuffix.f Qread.stringslite_CutSuffix.f Qread.stringslite_HasSuffix.f
    rw [e1]
    rcases List.eq_nil_or_concat r with rfl | ⟨m, c, rfl⟩
    · rw [if_neg (by rw [hrs]; simp)]
      simp only [Option.bind_some]
      refine no rfl fun ht => ?_
      have := congrArg List.length ht.1
      simp at this
    · rw [List.concat_eq_append] at *
      simp only [List.length_append, List.length_singleton] at hl hrs hsz
      have hw : wrap64 (((strOfNums (m ++ [c])).size : Int) - 1) = (m.length : Int) := by rw [wr (by omega) (by omega)]; omega
      rw [hw, if_pos (by omega), if_pos (by omega), if_pos (by omega), str_cut, List.take_of_length_le (by simp only [List.length_append, List.length_singleton]; omega), Int.toNat_natCast, List.drop_left, show (⟨#[34]⟩ : ByteArray) = strOfNums [34] from by apply ByteArray.ext; rfl]
      have hc : Byt [c] := hr.right
      by_cases cc : c = 34
      · subst cc
        have eb : ((strOfNums [34]).toList == (strOfNums [34]).toList) = true := by simp
        simp only [Option.bind_some]
        rw [eb, if_pos rfl, if_pos (by omega), if_pos (by omega)]
        simp only [Option.bind_some, if_true]
        rw [str_cut, List.drop_zero, List.take_left]
        have hm : Byt m := hr.left
        have em : mid (34 :: 118 :: (m ++ [34])) = m := mid_tag m
        obtain ⟨v, b, hE, hb, hv⟩ := number_tell MX (by decide) (by decide) m hm (by omega)
        have hms := str_size m
        obtain ⟨r0, h0⟩ := number_fuel (strOfNums m) MX (by omega) ((strOfNums (34 :: 118 :: (m ++ [34]))).size + 10) (by omega)
        have h1 := ev_at (fun k => Qread.name_Number.mono (strOfNums m) MX k) h0 hE
        refine ⟨v, b, ?_, ?_, ?_⟩
        · show (Qread.name_Number.f _ (strOfNums m) MX).bind _ = _
          rw [h1]
          rfl
        · rw [hb]
          exact ⟨fun h => ⟨by rw [em], by rw [em]; exact h⟩, fun h => by have := h.2; rwa [em] at this⟩
        · intro h
          rw [hv h]
          unfold tval
          rw [em]
      · have eb : ((strOfNums [c]).toList == (strOfNums [34]).toList) = false := by
          rw [beq_eq_false_iff_ne]
          intro e
          have := str_inj hc (by unfold Byt; decide) e
          simp at this
          exact cc this
        simp only [Option.bind_some]
        rw [eb, if_neg (by simp)]
        simp only [Option.bind_some]
        refine no rfl fun ht => ?_
        have h1 := congrArg (fun l : List Int => l.getLast?) ht.1
        rw [show 34 :: 118 :: (m ++ [c]) = (34 :: 118 :: m) ++ [c] from rfl, show ∀ z : List Int, 34 :: 118 :: (z ++ [34]) = (34 :: 118 :: z) ++ [34] from fun _ => rfl] at h1
        simp only [List.getLast?_concat, List.getLast?_append, List.getLast?_singleton, Option.some_or, Option.some.injEq] at h1
        exact cc h1
  · rw [decide_eq_false c1, if_neg (by simp)]
    simp only [Option.bind_some]
    have hbind : ∀ (g : Option (ByteArray × Bool)), (∃ r, g = some r) → (g.bind fun bt109 => if (false : Bool) = true then if bt109.2 = true then ((Qread.name_Number.f ((strOfNums xs).size + 10) bt109.1 1099511627776).bind fun bt111 => some (bt111.1, bt111.2)) else some (0, false) else some (0, false)) = some (0, false) := by
      rintro g ⟨r, rfl⟩
      rfl
    refine no (hbind _ ?_) fun ht => c1 (by rw [ht.1]; rfl)
    have hss := str_size xs
    have e1 : ((⟨#[34]⟩ : ByteArray).size : Int) = 1 := rfl
    unfold Qread.strings_CutSuffix.f Qread.stringslite_CutSuffix.f Qread.stringslite_HasSuffix.f
    rw [e1]
    by_cases c : (1 : Int) ≤ (strOfNums xs).size
    · rw [wr (by omega) (by omega), if_pos (by omega), if_pos (by omega), if_pos (by omega)]
      simp only [Option.bind_some]
      split
      · rw [if_pos (by omega), if_pos (by omega)]
        exact ⟨_, rfl⟩
      · exact ⟨_, rfl⟩
    · rw [if_neg (by omega)]
      exact ⟨_, rfl⟩
/-- All parts are tags, and not too many. -/
theorem takes_str : ∀ (ps : List (List Int)) (vals : List Int), (∀ p ∈ ps, Byt p ∧ p.length < 100000) →
    ((∀ p ∈ ps, Tag p) ∧ (ps = [] ∨ vals.length + ps.length ≤ 8) → takes (ps.map strOfNums) vals = some (true, vals ++ ps.map tval)) ∧
    (¬ ((∀ p ∈ ps, Tag p) ∧ (ps = [] ∨ vals.length + ps.length ≤ 8)) → takes (ps.map strOfNums) vals = some (false, []))
  | [], vals, _ => ⟨fun _ => by simp [takes], fun h => absurd ⟨(fun p hp => by cases hp), Or.inl rfl⟩ h⟩
  | p :: ps, vals, h => by
    obtain ⟨v, b, hr, hb, hv⟩ := readS_str (h p (by simp)).1 (h p (by simp)).2
    have ih := takes_str ps (vals ++ [v]) fun q hq => h q (List.mem_cons_of_mem _ hq)
    have hstep : takes ((p :: ps).map strOfNums) vals = if b = true ∧ vals.length < 8 then takes (ps.map strOfNums) (vals ++ [v]) else some (false, []) := by
      rw [List.map_cons]
      conv => lhs; unfold takes
      rw [hr]
    rw [hstep]
    by_cases hg : b = true ∧ vals.length < 8
    · rw [if_pos hg]
      have hp := hb.1 hg.1
      have hlen : (vals ++ [v]).length = vals.length + 1 := by simp
      constructor
      · rintro ⟨h1, h2⟩
        rw [ih.1 ⟨fun q hq => h1 q (List.mem_cons_of_mem _ hq), by
          rcases h2 with h2 | h2
          · cases h2
          · simp only [List.length_cons] at h2
            by_cases h3 : ps = []
            · exact .inl h3
            · exact .inr (by omega)⟩, hv hg.1]
        simp
      · intro h1
        refine ih.2 fun ⟨h2, h3⟩ => h1 ⟨fun q hq => ?_, .inr ?_⟩
        · rcases List.mem_cons.1 hq with rfl | hq
          · exact hp
          · exact h2 q hq
        · simp only [List.length_cons]
          rcases h3 with rfl | h3
          · simp; omega
          · omega
    · rw [if_neg hg]
      refine ⟨fun ⟨h1, h2⟩ => absurd ⟨hb.2 (h1 p (by simp)), ?_⟩ hg, fun _ => rfl⟩
      rcases h2 with h2 | h2
      · cases h2
      · simp only [List.length_cons] at h2
        omega
/-! ### Parse -/
def good (xs : List Int) : Prop := (∀ p ∈ (pcs xs).map trimI, Tag p) ∧ (pcs xs).length ≤ 8
/-- What a line is. -/
def spec (xs : List Int) (r : Bool × Bool × List Int × Int) : Prop :=
  (xs = [] ∧ r = (false, false, [], 0)) ∨ (xs ≠ [] ∧ trimI xs = [42] ∧ r = (true, true, [], 0)) ∨
  (xs ≠ [] ∧ trimI xs ≠ [42] ∧ good xs ∧ r = (true, false, (pcs xs).map fun p => tval (trimI p), 0)) ∨ (xs ≠ [] ∧ trimI xs ≠ [42] ∧ ¬ good xs ∧ r = (false, false, [], 4))
theorem spec_unique {xs : List Int} {r r' : Bool × Bool × List Int × Int} (h : spec xs r) (h' : spec xs r') : r = r' := by
  rcases h with ⟨h1, rfl⟩ | ⟨h1, h2, rfl⟩ | ⟨h1, h2, h3, rfl⟩ | ⟨h1, h2, h3, rfl⟩ <;> rcases h' with ⟨g1, rfl⟩ | ⟨g1, g2, rfl⟩ | ⟨g1, g2, g3, rfl⟩ | ⟨g1, g2, g3, rfl⟩ <;> first | rfl | exact absurd h1 g1 | exact absurd g1 h1 | exact absurd h2 g2 | exact absurd g2 h2 | exact absurd h3 g3 | exact absurd g3 h3
theorem pcs_ne {xs : List Int} (h : xs ≠ []) : pcs xs ≠ [] := by
  rcases first_at 44 xs with k | ⟨a, q, ha, rfl⟩
  · rw [pcs_no k h]; simp
  · rw [pcs_at q ha]; simp
theorem parse_str {xs : List Int} (hB : Byt xs) (hl : xs.length ≤ 90000) : ∃ r, cond_Parse.f (strOfNums xs) = some r ∧ spec xs r := by
  have hsz := str_size xs
  unfold cond_Parse.f
  rw [if_pos (by omega)]
  by_cases h0 : xs = []
  · subst h0
    exact ⟨_, by rw [if_pos (by rw [toList_str]; rfl)], .inl ⟨rfl, rfl⟩⟩
  · rw [if_neg (fun e => h0 (toList_nil e)), trimS_str hB]
    have e42 : ((strOfNums (trimI xs)).toList = [42]) ↔ trimI xs = [42] := by
      rw [show ([42] : List UInt8) = (strOfNums [42]).toList from by rw [toList_str]; rfl, toList_eq (trimI_byt hB) (by unfold Byt; decide)]
    by_cases hs : trimI xs = [42]
    · exact ⟨_, by rw [if_pos (e42.2 hs)], .inr (.inl ⟨h0, hs, rfl⟩)⟩
    · rw [if_neg (fun e => hs (e42.1 e)), words_str _ (by omega) (by omega) hB]
      have hmem := pcs_mem xs.length (Nat.le_refl _) hB
      have ht := takes_str ((pcs xs).map trimI) [] (fun p hp => by
        obtain ⟨q, hq, rfl⟩ := List.mem_map.1 hp
        have := hmem q hq
        exact ⟨trimI_byt this.1, by have := trimI_len q; omega⟩)
      rw [List.map_map] at ht
      have hiff : ((∀ p ∈ (pcs xs).map trimI, Tag p) ∧ ((pcs xs).map trimI = [] ∨ ([] : List Int).length + ((pcs xs).map trimI).length ≤ 8)) ↔ good xs := by
        unfold good
        rw [List.length_map, List.length_nil, Nat.zero_add]
        refine and_congr_right fun _ => ⟨fun h => ?_, .inr⟩
        rcases h with h | h
        · rw [List.map_eq_nil_iff] at h
          exact absurd h (pcs_ne h0)
        · exact h
      rw [hiff] at ht
      by_cases hg : good xs
      · refine ⟨_, by rw [show (fun p => strOfNums (trimI p)) = strOfNums ∘ trimI from rfl, ht.1 hg], .inr (.inr (.inl ⟨h0, hs, hg, ?_⟩))⟩
        rw [List.nil_append, List.map_map]
        rfl
      · exact ⟨_, by rw [show (fun p => strOfNums (trimI p)) = strOfNums ∘ trimI from rfl, ht.2 hg], .inr (.inr (.inr ⟨h0, hs, hg, rfl⟩))⟩
theorem spec_len {xs : List Int} {r : Bool × Bool × List Int × Int} (h : spec xs r) : r.2.2.1.length ≤ 8 := by
  rcases h with ⟨h1, rfl⟩ | ⟨h1, h2, rfl⟩ | ⟨h1, h2, h3, rfl⟩ | ⟨h1, h2, h3, rfl⟩
  · simp
  · simp
  · simpa using h3.2
  · simp

end Go.Proofs.YtkjmffhkchlkeaaDoor.Cond
