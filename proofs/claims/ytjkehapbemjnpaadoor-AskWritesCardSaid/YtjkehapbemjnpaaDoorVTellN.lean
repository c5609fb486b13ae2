/- What the program's and the reference's digits come to, in plain words; no condition beside those in each theorem. -/
import Derived.Test.YtjkehapbemjnpaaDoorVLx2
import Derived.Test.YtjkehapbemjnpaaDoorVKit
namespace Go.Proofs.YtjkehapbemjnpaaDoor.TellN
open Go.RowKit Go.Proofs.YtjkehapbemjnpaaDoor.Lf Go.Proofs.YtjkehapbemjnpaaDoorW.PrintWords Go.Proofs.YtjkehapbemjnpaaDoorW.PrintLast Go.Proofs.YtjkehapbemjnpaaDoor.Kit Go.Proofs.YtjkehapbemjnpaaDoor.Num
set_option linter.unusedVariables false
set_option linter.unusedSimpArgs false
theorem enc_digit (d : Nat) (h : d < 10) : Go.Utf8.encode (wrap32 (wrap64 (48 + (d : Int)))) = strOfNums [48 + (d : Int)] := by
 have : ∀ d : Fin 10, (Go.Utf8.encode (wrap32 (wrap64 (48 + (d.1 : Int))))).data = (strOfNums [48 + (d.1 : Int)]).data := by decide +kernel
 exact ByteArray.ext (this ⟨d, h⟩)
theorem digits_l0 : ∀ (m n : Nat) (acc : List Int), n < 10 ^ m → n < 9223372036854775808 → acc.length + m ≤ 1000000 →
  Ev (fun k => name_Digits.l0 k (n : Int) (strOfNums acc)) (strOfNums (digits n ++ acc)) := by
 intro m
 induction m with
 | zero =>
  intro n acc hm hn hl
  have hz : n = 0 := by rw [Nat.pow_zero] at hm; omega
  subst hz
  have e1 : Int.tmod ((0 : Nat) : Int) 10 = ((0 : Nat) : Int) := rfl
  have e2 : Int.tdiv ((0 : Nat) : Int) 10 = ((0 : Nat) : Int) := rfl
  have hsz : (strOfNums [48 + ((0 : Nat) : Int)]).size + (strOfNums acc).size ≤ 9223372036854775807 := by rw [strOfNums_size, strOfNums_size]; simp only [List.length_cons, List.length_nil]; omega
  refine Ev.step (f := fun _ => some (strOfNums (digits 0 ++ acc))) (fun k => ?_) (Ev.now _)
  simp only [name_Digits.l0]
  rw [e1, e2, enc_digit 0 (by omega), if_pos hsz, wr (n := ((0 : Nat) : Int)) (by omega) (by omega), if_pos (by omega), str_app, digits_lt (by omega)]
 | succ m ih =>
  intro n acc hm hn hl
  have e1 : Int.tmod (n : Int) 10 = ((n % 10 : Nat) : Int) := by rw [Int.tmod_eq_emod_of_nonneg (by omega)]; omega
  have e2 : Int.tdiv (n : Int) 10 = ((n / 10 : Nat) : Int) := by rw [Int.tdiv_eq_ediv_of_nonneg (by omega)]; omega
  have hsz : (strOfNums [48 + ((n % 10 : Nat) : Int)]).size + (strOfNums acc).size ≤ 9223372036854775807 := by rw [strOfNums_size, strOfNums_size]; simp only [List.length_cons, List.length_nil]; omega
  by_cases h : n < 10
  ·refine Ev.step (f := fun _ => some (strOfNums (digits n ++ acc))) (fun k => ?_) (Ev.now _)
   simp only [name_Digits.l0]
   rw [e1, e2, enc_digit _ (by omega), if_pos hsz, wr (n := ((n / 10 : Nat) : Int)) (by omega) (by omega), if_pos (by omega), str_app, digits_lt h, show n % 10 = n by omega]
  ·have i := ih (n / 10) ([48 + ((n % 10 : Nat) : Int)] ++ acc) (by rw [Nat.pow_succ] at hm; omega) (by omega) (by simp only [List.length_append, List.length_cons, List.length_nil]; omega)
   rw [digits_ge h, List.append_assoc]
   refine Ev.step (fun k => ?_) i
   simp only [name_Digits.l0]
   rw [e1, e2, enc_digit _ (by omega), if_pos hsz, wr (n := ((n / 10 : Nat) : Int)) (by omega) (by omega), if_neg (by omega), str_app]
theorem digits_tell (n : Int) (h0 : 0 ≤ n) (h1 : n ≤ 9223372036854775807) : Ev (fun k => name_Digits.f k n) (strOfNums (digits n.toNat)) := by
 obtain ⟨m, rfl⟩ := Int.eq_ofNat_of_zero_le h0
 have := digits_l0 20 m [] (by omega) (by omega) (by simp)
 rw [List.append_nil] at this
 exact this
theorem td10 (a : Int) : Int.tdiv a 10 = if 0 ≤ a then a / 10 else -((-a) / 10) := by
 split
 ·exact Int.tdiv_eq_ediv_of_nonneg (by omega)
 ·have := Int.neg_tdiv (-a) 10
  rw [Int.neg_neg] at this
  rw [this, Int.tdiv_eq_ediv_of_nonneg (by omega)]
def Told (most n : Int) (t : List Int) (v : Int) (b : Bool) : Prop := (b = true ↔ Dig t ∧ vfrom n t ≤ most) ∧ (b = true → v = vfrom n t)
theorem told_bad {most n c v : Int} {t : List Int} (h : c < 48 ∨ 57 < c) : Told most n (c :: t) v false := by
 refine ⟨⟨fun h => by simp at h, fun ⟨hd, _⟩ => ?_⟩, fun h => by simp at h⟩
 have := hd.cons.1
 omega
theorem told_great {most n c v : Int} {t : List Int} (h : most < 10 * n + (c - 48)) (h0 : 0 ≤ n) : Told most n (c :: t) v false := by
 refine ⟨⟨fun h => by simp at h, fun ⟨hd, hv⟩ => ?_⟩, fun h => by simp at h⟩
 have hc := hd.cons.1
 rw [vfrom_cons] at hv
 have := vfrom_ge hd.cons.2 (n := 10 * n + (c - 48)) (by omega)
 omega
theorem told_neg {most n v : Int} {t : List Int} (h : most < 0) (h0 : 0 ≤ n) : Told most n t v false := by
 refine ⟨⟨fun h => by simp at h, fun ⟨hd, hv⟩ => ?_⟩, fun h => by simp at h⟩
 have := vfrom_ge hd h0
 omega
theorem told_next {most n c v : Int} {t : List Int} {b : Bool} (hc : 48 ≤ c ∧ c ≤ 57) (h : Told most (10 * n + (c - 48)) t v b) : Told most n (c :: t) v b := by
 refine ⟨⟨fun hb => ?_, fun ⟨hd, hv⟩ => h.1.2 ⟨hd.cons.2, hv⟩⟩, h.2⟩
 have := h.1.1 hb
 exact ⟨fun x hx => by
  rcases List.mem_cons.1 hx with rfl | hx
  ·exact hc
  ·exact this.1 x hx, this.2⟩
theorem num_end {s : ByteArray} {most n i : Int} : Ev (fun k => name_Number.l0 k s most n i i) (n, decide (n ≤ most)) :=
 Ev.step (fun k => by simp only [name_Number.l0]; rw [if_neg (by omega)]) (Ev.now _)
theorem told_end {most n : Int} : Told most n [] n (decide (n ≤ most)) := by
 refine ⟨⟨fun h => ⟨Dig.nil, of_decide_eq_true h⟩, fun h => decide_eq_true h.2⟩, fun _ => rfl⟩
theorem num_bad {s : ByteArray} {most n i c : Int} (hi : 0 ≤ i) (hs : i < (s.size : Int)) (hc : bt s i = c) (h : c < 48 ∨ 57 < c) : Ev (fun k => name_Number.l0 k s most n (s.size : Int) i) (0, false) := by
 have hb := bt_range s i
 refine Ev.step (f := fun _ => some (0, false)) (fun k => ?_) (Ev.now _)
 simp only [name_Number.l0]
 rw [hc] at hb ⊢
 rw [if_pos hs, if_pos hi, if_pos hs, wr (n := c) (by omega) (by omega), wr (n := c - 48) (by omega) (by omega)]
 rcases h with h | h
 ·rw [if_pos (by omega)]
 ·rw [if_neg (by omega), if_pos (by omega)]
theorem num_great {s : ByteArray} {most n i c D : Int} (hi : 0 ≤ i) (hs : i < (s.size : Int)) (hc : bt s i = c) (h : 48 ≤ c ∧ c ≤ 57) (hD : wrap64 (most - (c - 48)) = D) (hD0 : -9223372036854775808 ≤ D) (hD1 : D ≤ 9223372036854775807) (hn : n > Int.tdiv D 10) :
  Ev (fun k => name_Number.l0 k s most n (s.size : Int) i) (0, false) := by
 refine Ev.step (f := fun _ => some (0, false)) (fun k => ?_) (Ev.now _)
 simp only [name_Number.l0]
 have ht := td10 D
 rw [hc]
 rw [if_pos hs, if_pos hi, if_pos hs, wr (n := c) (by omega) (by omega), wr (n := c - 48) (by omega) (by omega), if_neg (by omega), if_neg (by omega), hD, wr (n := Int.tdiv D 10) (by rw [ht]; split <;> omega) (by rw [ht]; split <;> omega), if_pos hn]
theorem num_next {s : ByteArray} {most n i c D : Int} {r : Int × Bool} (hi : 0 ≤ i) (hs : i < (s.size : Int)) (hs2 : s.size < 10000000) (hc : bt s i = c) (h : 48 ≤ c ∧ c ≤ 57) (hD : wrap64 (most - (c - 48)) = D) (hD0 : -9223372036854775808 ≤ D) (hD1 : D ≤ 9223372036854775807) (hn : ¬ n > Int.tdiv D 10)
  (hn0 : 0 ≤ n) (hn1 : 10 * n + (c - 48) ≤ 9223372036854775807) (g : Ev (fun k => name_Number.l0 k s most (10 * n + (c - 48)) (s.size : Int) (i + 1)) r) :
  Ev (fun k => name_Number.l0 k s most n (s.size : Int) i) r := by
 refine Ev.step (fun k => ?_) g
 simp only [name_Number.l0]
 have ht := td10 D
 rw [hc]
 rw [if_pos hs, if_pos hi, if_pos hs, wr (n := c) (by omega) (by omega), wr (n := c - 48) (by omega) (by omega), if_neg (by omega), if_neg (by omega), hD, wr (n := Int.tdiv D 10) (by rw [ht]; split <;> omega) (by rw [ht]; split <;> omega), if_neg hn,
  wr (n := 10 * n) (by omega) (by omega), wr (n := 10 * n + (c - 48)) (by omega) (by omega), wr (n := i + 1) (by omega) (by omega)]
theorem num_pos (most : Int) (hm0 : 0 ≤ most) (hm1 : most ≤ 9223372036854775807) : ∀ (t p : List Int) (n : Int), Byt (p ++ t) → (p ++ t).length < 10000000 → 0 ≤ n → (n ≤ most ∨ n ≤ 9) →
  ∃ v b, Ev (fun k => name_Number.l0 k (strOfNums (p ++ t)) most n ((strOfNums (p ++ t)).size : Int) (p.length : Int)) (v, b) ∧ Told most n t v b
 | [], p, n, _, _, _, _ => by
  refine ⟨n, decide (n ≤ most), ?_, told_end⟩
  rw [str_size, List.append_nil]
  exact num_end
 | c :: t, p, n, hB, hl, hn0, hn => by
  have hsz := str_size (p ++ c :: t)
  have hc := bt_next hB
  have hcb := hB c (by simp)
  simp only [List.length_append, List.length_cons] at hsz hl
  by_cases h : c < 48 ∨ 57 < c
  ·exact ⟨0, false, num_bad (by omega) (by omega) hc h, told_bad h⟩
  ·have hw : wrap64 (most - (c - 48)) = most - (c - 48) := wr (by omega) (by omega)
   have ht := td10 (most - (c - 48))
   by_cases hg : n > Int.tdiv (most - (c - 48)) 10
   ·refine ⟨0, false, num_great (by omega) (by omega) hc (by omega) hw (by omega) (by omega) hg, told_great ?_ hn0⟩
    rw [ht] at hg
    split at hg <;> omega
   ·have hg' := hg
    rw [ht] at hg'
    have hb : 10 * n + (c - 48) ≤ most ∨ 10 * n + (c - 48) ≤ 9 := by split at hg' <;> omega
    obtain ⟨v, b, hv, hT⟩ := num_pos most hm0 hm1 t (p ++ [c]) (10 * n + (c - 48)) (by simpa using hB) (by simp only [List.length_append, List.length_cons, List.length_nil]; omega) (by omega) hb
    rw [List.append_assoc, show ((p ++ [c]).length : Int) = (p.length : Int) + 1 by simp only [List.length_append, List.length_cons, List.length_nil]; omega] at hv
    exact ⟨v, b, num_next (by omega) (by omega) (by omega) hc (by omega) hw (by omega) (by omega) hg hn0 (by omega) hv, told_next (by omega) hT⟩
theorem num_neg (most : Int) (hm0 : -9223372036854775799 ≤ most) (hm1 : most < 0) : ∀ (t p : List Int) (n : Int), Byt (p ++ t) → (p ++ t).length < 10000000 → 0 ≤ n → n ≤ 9 →
  ∃ v, Ev (fun k => name_Number.l0 k (strOfNums (p ++ t)) most n ((strOfNums (p ++ t)).size : Int) (p.length : Int)) (v, false)
 | [], p, n, _, _, h0, _ => by
  refine ⟨n, ?_⟩
  rw [str_size, List.append_nil]
  have := num_end (s := strOfNums p) (most := most) (n := n) (i := (p.length : Int))
  rwa [decide_eq_false (by omega)] at this
 | c :: t, p, n, hB, hl, hn0, hn => by
  have hsz := str_size (p ++ c :: t)
  have hc := bt_next hB
  have hcb := hB c (by simp)
  simp only [List.length_append, List.length_cons] at hsz hl
  by_cases h : c < 48 ∨ 57 < c
  ·exact ⟨0, num_bad (by omega) (by omega) hc h⟩
  ·have hw : wrap64 (most - (c - 48)) = most - (c - 48) := wr (by omega) (by omega)
   have ht := td10 (most - (c - 48))
   by_cases hg : n > Int.tdiv (most - (c - 48)) 10
   ·exact ⟨0, num_great (by omega) (by omega) hc (by omega) hw (by omega) (by omega) hg⟩
   ·have hg' := hg
    rw [ht] at hg'
    have hb : 10 * n + (c - 48) ≤ 9 := by split at hg' <;> omega
    obtain ⟨v, hv⟩ := num_neg most hm0 hm1 t (p ++ [c]) (10 * n + (c - 48)) (by simpa using hB) (by simp only [List.length_append, List.length_cons, List.length_nil]; omega) (by omega) hb
    rw [List.append_assoc, show ((p ++ [c]).length : Int) = (p.length : Int) + 1 by simp only [List.length_append, List.length_cons, List.length_nil]; omega] at hv
    exact ⟨v, num_next (by omega) (by omega) (by omega) hc (by omega) hw (by omega) (by omega) hg hn0 (by omega) hv⟩
theorem num_least (most : Int) (hm0 : -9223372036854775808 ≤ most) (hm1 : most < -9223372036854775799) : ∀ (t p : List Int) (n : Int), Byt (p ++ t) → (p ++ t).length < 10000000 → 0 ≤ n → n ≤ 9223372036854775807 → (n = 0 ∨ n % 10 > most + 9223372036854775808) →
  ∃ v, Ev (fun k => name_Number.l0 k (strOfNums (p ++ t)) most n ((strOfNums (p ++ t)).size : Int) (p.length : Int)) (v, false)
 | [], p, n, _, _, h0, _, _ => by
  refine ⟨n, ?_⟩
  rw [str_size, List.append_nil]
  have := num_end (s := strOfNums p) (most := most) (n := n) (i := (p.length : Int))
  rwa [decide_eq_false (by omega)] at this
 | c :: t, p, n, hB, hl, hn0, hn, hr => by
  have hsz := str_size (p ++ c :: t)
  have hc := bt_next hB
  have hcb := hB c (by simp)
  simp only [List.length_append, List.length_cons] at hsz hl
  by_cases h : c < 48 ∨ 57 < c
  ·exact ⟨0, num_bad (by omega) (by omega) hc h⟩
  ·by_cases hj : c - 48 ≤ most + 9223372036854775808
   ·have hw : wrap64 (most - (c - 48)) = most - (c - 48) := wr (by omega) (by omega)
    have ht := td10 (most - (c - 48))
    refine ⟨0, num_great (by omega) (by omega) hc (by omega) hw (by omega) (by omega) ?_⟩
    rw [ht, if_neg (by omega)]
    omega
   ·have hw : wrap64 (most - (c - 48)) = most - (c - 48) + 18446744073709551616 := by unfold wrap64; omega
    have ht := td10 (most - (c - 48) + 18446744073709551616)
    by_cases hg : n > Int.tdiv (most - (c - 48) + 18446744073709551616) 10
    ·exact ⟨0, num_great (by omega) (by omega) hc (by omega) hw (by omega) (by omega) hg⟩
    ·have hg' := hg
     rw [ht, if_pos (by omega)] at hg'
     obtain ⟨v, hv⟩ := num_least most hm0 hm1 t (p ++ [c]) (10 * n + (c - 48)) (by simpa using hB) (by simp only [List.length_append, List.length_cons, List.length_nil]; omega) (by omega) (by omega) (by omega)
     rw [List.append_assoc, show ((p ++ [c]).length : Int) = (p.length : Int) + 1 by simp only [List.length_append, List.length_cons, List.length_nil]; omega] at hv
     exact ⟨v, num_next (by omega) (by omega) (by omega) hc (by omega) hw (by omega) (by omega) hg hn0 (by omega) hv⟩
theorem num_any (most : Int) (hm0 : -9223372036854775808 ≤ most) (hm1 : most ≤ 9223372036854775807) (xs : List Int) (hB : Byt xs) (hl : xs.length < 10000000) :
  ∃ v b, Ev (fun k => name_Number.l0 k (strOfNums xs) most 0 ((strOfNums xs).size : Int) 0) (v, b) ∧ Told most 0 xs v b := by
 by_cases h0 : 0 ≤ most
 ·exact num_pos most h0 hm1 xs [] 0 hB hl (by omega) (by omega)
 ·by_cases h1 : -9223372036854775799 ≤ most
  ·obtain ⟨v, hv⟩ := num_neg most h1 (by omega) xs [] 0 hB hl (by omega) (by omega)
   exact ⟨v, false, hv, told_neg (by omega) (by omega)⟩
  ·obtain ⟨v, hv⟩ := num_least most hm0 (by omega) xs [] 0 hB hl (by omega) (by omega) (.inl rfl)
   exact ⟨v, false, hv, told_neg (by omega) (by omega)⟩
theorem number_tell (most : Int) (hm0 : -9223372036854775808 ≤ most) (hm1 : most ≤ 9223372036854775807) (xs : List Int) (hB : Byt xs) (hl : xs.length < 10000000) :
  ∃ v b, Ev (fun k => name_Number.f k (strOfNums xs) most) (v, b) ∧ (b = true ↔ NumOk xs most) ∧ (b = true → v = vfrom 0 xs) := by
 have stop : ∀ (s : ByteArray), Ev (fun k => name_Number.j0 k s most true) (0, false) := fun s =>
  Ev.step (fun k => by simp only [name_Number.j0, if_true]) (Ev.now _)
 have go : ∀ {r}, Ev (fun k => name_Number.l0 k (strOfNums xs) most 0 ((strOfNums xs).size : Int) 0) r → Ev (fun k => name_Number.j0 k (strOfNums xs) most false) r := fun g =>
  Ev.step (fun k => by simp only [name_Number.j0, Bool.false_eq_true, if_false]) g
 unfold name_Number.f
 by_cases hn : xs = []
 ·subst hn
  refine ⟨0, false, Ev.congr (fun k => by rw [if_pos (by rw [toList_str]; rfl)]) (stop _), ⟨fun h => by simp at h, fun h => absurd rfl h.1.1⟩, fun h => by simp at h⟩
 ·have e0 : ¬ (strOfNums xs).toList = [] := fun h => hn (toList_nil h)
  have hsz := str_size xs
  by_cases h1 : 1 < xs.length
  ·obtain ⟨c, t, rfl⟩ : ∃ c t, xs = c :: t := by cases xs with
    | nil => exact absurd rfl hn
    | cons c t => exact ⟨c, t, rfl⟩
   have hc : bt (strOfNums (c :: t)) 0 = c := by rw [bt_str hB]; rfl
   by_cases h48 : c = 48
   ·refine ⟨0, false, Ev.congr (fun k => by rw [if_neg e0, if_pos (by omega), if_pos (by omega), hc, show (c == 48) = true by simp [h48]]) (stop _), ⟨fun h => by simp at h, fun h => absurd (by simp [h48]) (h.1.2.2 h1)⟩, fun h => by simp at h⟩
   ·obtain ⟨v, b, hv, hT⟩ := num_any most hm0 hm1 (c :: t) hB hl
    refine ⟨v, b, Ev.congr (fun k => by rw [if_neg e0, if_pos (by omega), if_pos (by omega), hc, show (c == 48) = false by simp [h48]]) (go hv), ⟨fun h => ⟨⟨hn, (hT.1.1 h).1, fun _ => by simpa using h48⟩, (hT.1.1 h).2⟩, fun h => hT.1.2 ⟨h.1.2.1, h.2⟩⟩, hT.2⟩
  ·obtain ⟨v, b, hv, hT⟩ := num_any most hm0 hm1 xs hB hl
   exact ⟨v, b, Ev.congr (fun k => by rw [if_neg e0, if_neg (by omega)]) (go hv), ⟨fun h => ⟨⟨hn, (hT.1.1 h).1, fun h2 => absurd h2 h1⟩, (hT.1.1 h).2⟩, fun h => hT.1.2 ⟨h.1.2.1, h.2⟩⟩, hT.2⟩
def dtab : ByteArray := ⟨#[48, 49, 50, 51, 52, 53, 54, 55, 56, 57]⟩
theorem dtab_cut (d : Nat) (h : d < 10) : dtab.extract d (d + 1) = strOfNums [48 + (d : Int)] := by
 have : ∀ d : Fin 10, (dtab.extract d.1 (d.1 + 1)).data = (strOfNums [48 + (d.1 : Int)]).data := by decide +kernel
 exact ByteArray.ext (this ⟨d, h⟩)
theorem refdigits_nat : ∀ (m n : Nat), n < 10 ^ m → m < 1000000 → n < 9223372036854775808 → Ev (fun k => deedboxref21_Digits.f k (n : Int)) (strOfNums (digits n)) := by
 have low : ∀ n : Nat, n < 10 → Ev (fun k => deedboxref21_Digits.f k (n : Int)) (strOfNums (digits n)) := by
  intro n h
  refine Ev.step (f := fun _ => some (strOfNums (digits n))) (fun k => ?_) (Ev.now _)
  simp only [deedboxref21_Digits.f]
  rw [if_pos (by omega), if_pos (by omega), wr (n := (n : Int) + 1) (by omega) (by omega), if_pos (by omega), if_pos (by omega), show ((n : Int) + 1).toNat = n + 1 by omega, Int.toNat_natCast, digits_lt h]
  exact congrArg some (dtab_cut n h)
 intro m
 induction m with
 | zero =>
  intro n hm _ _
  exact low n (by rw [Nat.pow_zero] at hm; omega)
 | succ m ih =>
  intro n hm hm2 hn
  by_cases h : n < 10
  ·exact low n h
  ·have e1 : Int.tmod (n : Int) 10 = ((n % 10 : Nat) : Int) := by rw [Int.tmod_eq_emod_of_nonneg (by omega)]; omega
   have e2 : Int.tdiv (n : Int) 10 = ((n / 10 : Nat) : Int) := by rw [Int.tdiv_eq_ediv_of_nonneg (by omega)]; omega
   have i := ih (n / 10) (by rw [Nat.pow_succ] at hm; omega) (by omega) (by omega)
   have hlen := digits_len (n / 10) 30 (by omega)
   apply Ev.step
   ·intro k
    simp only [deedboxref21_Digits.f]
    rw [if_neg (by omega), e2, wr (n := ((n / 10 : Nat) : Int)) (by omega) (by omega)]
   ·refine Ev.bind i ?_
    refine Ev.congr (fun k => ?_) (Ev.now _)
    rw [e1, if_pos (by omega), wr (n := ((n % 10 : Nat) : Int) + 1) (by omega) (by omega), if_pos (by omega), if_pos (by omega), show (((n % 10 : Nat) : Int) + 1).toNat = n % 10 + 1 by omega, Int.toNat_natCast]
    have e3 := dtab_cut (n % 10) (by omega)
    unfold dtab at e3
    rw [e3, if_pos (by rw [strOfNums_size, strOfNums_size]; simp only [List.length_cons, List.length_nil]; omega), str_app, digits_ge h]
theorem refdigits_tell (n : Int) (h0 : 0 ≤ n) (h1 : n ≤ 9223372036854775807) : Ev (fun k => deedboxref21_Digits.f k n) (strOfNums (digits n.toNat)) := by
 obtain ⟨m, rfl⟩ := Int.eq_ofNat_of_zero_le h0
 exact refdigits_nat 20 m (by omega) (by omega) (by omega)
theorem refnum_l0 (most : Int) (hm0 : -9223372036854775808 ≤ most) (hm1 : most ≤ 9223372036854775807) : ∀ (t p : List Int) (n : Int), Byt (p ++ t) → (p ++ t).length ≤ 19 → 0 ≤ n → n < 10 ^ p.length →
  ∃ v b, Ev (fun k => deedboxref21_Number.l0 k (strOfNums (p ++ t)) most n (p.length : Int)) (v, b) ∧ Told most n t v b
 | [], p, n, _, hl, hn0, hn => by
  have hp : (10 : Int) ^ p.length ≤ 10 ^ 19 := by
   have := Nat.pow_le_pow_right (n := 10) (by omega) (show p.length ≤ 19 by simpa using hl)
   exact_mod_cast this
  have h19 : (10 : Int) ^ 19 = 10000000000000000000 := by decide
  rw [List.append_nil]
  have hend : ∀ k, deedboxref21_Number.l0 (k + 1) (strOfNums p) most n (p.length : Int) = if most < 0 then some (0, false) else if n > IntKind.u64.wrap most then some (0, false) else some (wrap64 n, true) := fun k => by
   simp only [deedboxref21_Number.l0]
   rw [str_size, if_neg (by omega)]
  by_cases h : most < 0
  ·refine ⟨0, false, Ev.step (f := fun _ => some (0, false)) (fun k => by rw [hend, if_pos h]) (Ev.now _), told_neg h hn0⟩
  ·by_cases hg : n > most
   ·refine ⟨0, false, Ev.step (f := fun _ => some (0, false)) (fun k => by rw [hend, if_neg h, wru (n := most) (by omega) (by omega), if_pos hg]) (Ev.now _), ⟨fun h => by simp at h, fun q => absurd q.2 (by simp [vfrom]; omega)⟩, fun h => by simp at h⟩
   ·refine ⟨n, true, Ev.step (f := fun _ => some (n, true)) (fun k => by rw [hend, if_neg h, wru (n := most) (by omega) (by omega), if_neg hg, wr (n := n) (by omega) (by omega)]) (Ev.now _), ⟨fun _ => ⟨Dig.nil, by simp [vfrom]; omega⟩, fun _ => rfl⟩, fun _ => rfl⟩
 | c :: t, p, n, hB, hl, hn0, hn => by
  have hsz := str_size (p ++ c :: t)
  have hc := bt_next hB
  have hcb := hB c (by simp)
  simp only [List.length_append, List.length_cons] at hsz hl
  by_cases h : c < 48
  ·exact ⟨0, false, Ev.step (f := fun _ => some (0, false)) (fun k => by simp only [deedboxref21_Number.l0]; rw [if_pos (by omega), if_pos (by omega), hc, if_pos h]) (Ev.now _), told_bad (.inl h)⟩
  ·by_cases h' : 57 < c
   ·exact ⟨0, false, Ev.step (f := fun _ => some (0, false)) (fun k => by simp only [deedboxref21_Number.l0]; rw [if_pos (by omega), if_pos (by omega), hc, if_neg h, if_pos h']) (Ev.now _), told_bad (.inr h')⟩
   ·have hp : (10 : Int) ^ p.length ≤ 10 ^ 18 := by
     have := Nat.pow_le_pow_right (n := 10) (by omega) (show p.length ≤ 18 by omega)
     exact_mod_cast this
    have h18 : (10 : Int) ^ 18 = 1000000000000000000 := by decide
    obtain ⟨v, b, hv, hT⟩ := refnum_l0 most hm0 hm1 t (p ++ [c]) (10 * n + (c - 48)) (by simpa using hB) (by simp only [List.length_append, List.length_cons, List.length_nil]; omega) (by omega) (by
     rw [List.length_append, List.length_singleton, Int.pow_succ]; omega)
    rw [List.append_assoc, show ((p ++ [c]).length : Int) = (p.length : Int) + 1 by simp only [List.length_append, List.length_cons, List.length_nil]; omega] at hv
    refine ⟨v, b, Ev.step (fun k => ?_) hv, told_next (by omega) hT⟩
    simp only [deedboxref21_Number.l0]
    rw [if_pos (by omega), if_pos (by omega), hc, if_neg h, if_neg h', wru (n := c) (by omega) (by omega), wru (n := 10 * n) (by omega) (by omega), wru (n := 10 * n + c) (by omega) (by omega), wru (n := 10 * n + c - 48) (by omega) (by omega), wr (n := (p.length : Int) + 1) (by omega) (by omega), show 10 * n + c - 48 = 10 * n + (c - 48) by omega]
    rfl
theorem refnumber_tell (most : Int) (hm0 : -9223372036854775808 ≤ most) (hm1 : most ≤ 9223372036854775807) (xs : List Int) (hB : Byt xs) :
  ∃ v b, Ev (fun k => deedboxref21_Number.f k (strOfNums xs) most) (v, b) ∧ (b = true ↔ NumOk xs most) ∧ (b = true → v = vfrom 0 xs) := by
 have stop : ∀ (s : ByteArray), Ev (fun k => deedboxref21_Number.j0 k s most true) (0, false) := fun s =>
  Ev.step (fun k => by simp only [deedboxref21_Number.j0, if_true]) (Ev.now _)
 have go : ∀ {r}, Ev (fun k => deedboxref21_Number.l0 k (strOfNums xs) most 0 0) r → Ev (fun k => deedboxref21_Number.j0 k (strOfNums xs) most false) r := fun g =>
  Ev.step (fun k => by simp only [deedboxref21_Number.j0, Bool.false_eq_true, if_false]) g
 unfold deedboxref21_Number.f
 have hsz := str_size xs
 by_cases hn : xs = []
 ·subst hn
  refine ⟨0, false, Ev.congr (fun k => by rw [if_pos (by rw [str_size]; rfl)]) (stop _), ⟨fun h => by simp at h, fun h => absurd rfl h.1.1⟩, fun h => by simp at h⟩
 ·have hlen : 1 ≤ xs.length := List.length_pos_iff.2 hn
  by_cases h19 : 19 < xs.length
  ·exact ⟨0, false, Ev.congr (fun k => by rw [if_neg (by omega), if_pos (by omega)]) (stop _), ⟨fun h => by simp at h, fun h => absurd h (num_long h19 hm1)⟩, fun h => by simp at h⟩
  ·by_cases h1 : 1 < xs.length
   ·obtain ⟨c, t, rfl⟩ : ∃ c t, xs = c :: t := by cases xs with
     | nil => exact absurd rfl hn
     | cons c t => exact ⟨c, t, rfl⟩
    have hc : bt (strOfNums (c :: t)) 0 = c := by rw [bt_str hB]; rfl
    by_cases h48 : c = 48
    ·refine ⟨0, false, Ev.congr (fun k => by rw [if_neg (by omega), if_neg (by omega), if_pos (by omega), if_pos (by omega), hc, show (c == 48) = true by simp [h48]]) (stop _), ⟨fun h => by simp at h, fun h => absurd (by simp [h48]) (h.1.2.2 h1)⟩, fun h => by simp at h⟩
    ·obtain ⟨v, b, hv, hT⟩ := refnum_l0 most hm0 hm1 (c :: t) [] 0 hB (by simpa using (show (c :: t).length ≤ 19 by omega)) (by omega) (by simp)
     refine ⟨v, b, Ev.congr (fun k => by rw [if_neg (by omega), if_neg (by omega), if_pos (by omega), if_pos (by omega), hc, show (c == 48) = false by simp [h48]]) (go hv), ⟨fun h => ⟨⟨hn, (hT.1.1 h).1, fun _ => by simpa using h48⟩, (hT.1.1 h).2⟩, fun h => hT.1.2 ⟨h.1.2.1, h.2⟩⟩, hT.2⟩
   ·obtain ⟨v, b, hv, hT⟩ := refnum_l0 most hm0 hm1 xs [] 0 hB (by simpa using (show xs.length ≤ 19 by omega)) (by omega) (by simp)
    exact ⟨v, b, Ev.congr (fun k => by rw [if_neg (by omega), if_neg (by omega), if_neg (by omega)]) (go hv), ⟨fun h => ⟨⟨hn, (hT.1.1 h).1, fun h2 => absurd h2 h1⟩, (hT.1.1 h).2⟩, fun h => hT.1.2 ⟨h.1.2.1, h.2⟩⟩, hT.2⟩
end Go.Proofs.YtjkehapbemjnpaaDoor.TellN
