/- Whichever bytes are asked for, they lie within the text, and there is one at least, but of a whole text without bytes: the statement, with no condition beside its own. -/
import Derived.Test.YtfnmgccaioobhaaQSpanWithinx3
import Derived.Test.YtfnmgccaioobhaaNumCore
import Derived.Test.YtfnmgccaioobhaaSplitCore
namespace Go.Proofs.Ytfnmgccaioobhaa.Pure
open Go.RowKit Go.Proofs.Ytfnmgccaioobhaa.QSpanWithin Go.Proofs.YtfnmgccaioobhaaW.PrintWords Go.Proofs.YtfnmgccaioobhaaW.PrintLast Go.Proofs.Ytfnmgccaioobhaa.Kit Go.Proofs.Ytfnmgccaioobhaa.Num Go.Proofs.Ytfnmgccaioobhaa.Cut
set_option linter.unusedVariables false
set_option linter.unusedSimpArgs false

/-! ### Digits -/
theorem enc_digit (d : Nat) (h : d < 10) : Go.Utf8.encode (wrap32 (wrap64 (48 + (d : Int)))) = strOfNums [48 + (d : Int)] := by
  have : ∀ d : Fin 10, (Go.Utf8.encode (wrap32 (wrap64 (48 + (d.1 : Int))))).data = (strOfNums [48 + (d.1 : Int)]).data := by decide +kernel
  exact ByteArray.ext (this ⟨d, h⟩)
theorem digits_l0 : ∀ (m n : Nat) (acc : List Int), n < 10 ^ m → n < 9223372036854775808 → acc.length + m ≤ 1000000 →
    Ev (fun k => name_Digits.l0 k (n : Int) (strOfNums acc)) (strOfNums (digits n ++ acc)) := by
  intro m
  induction m with
  | zero =>
    intro n acc hm hn hl
    have hz : n = 0 := by rw [Nat.pow_zero] at hm; omega
    subst hz
    have e1 : Int.tmod ((0 : Nat) : Int) 10 = ((0 : Nat) : Int) := rfl
    have e2 : Int.tdiv ((0 : Nat) : Int) 10 = ((0 : Nat) : Int) := rfl
    have hsz : (strOfNums [48 + ((0 : Nat) : Int)]).size + (strOfNums acc).size ≤ 9223372036854775807 := by rw [strOfNums_size, strOfNums_size]; simp only [List.length_cons, List.length_nil]; omega
    refine Ev.step (f := fun _ => some (strOfNums (digits 0 ++ acc))) (fun k => ?_) (Ev.now _)
    simp only [name_Digits.l0]
    rw [e1, e2, enc_digit 0 (by omega), if_pos hsz, wr (n := ((0 : Nat) : Int)) (by omega) (by omega), if_pos (by omega), str_app, digits_lt (by omega)]
  | succ m ih =>
    intro n acc hm hn hl
    have e1 : Int.tmod (n : Int) 10 = ((n % 10 : Nat) : Int) := by rw [Int.tmod_eq_emod_of_nonneg (by omega)]; omega
    have e2 : Int.tdiv (n : Int) 10 = ((n / 10 : Nat) : Int) := by rw [Int.tdiv_eq_ediv_of_nonneg (by omega)]; omega
    have hsz : (strOfNums [48 + ((n % 10 : Nat) : Int)]).size + (strOfNums acc).size ≤ 9223372036854775807 := by rw [strOfNums_size, strOfNums_size]; simp only [List.length_cons, List.length_nil]; omega
    by_cases h : n < 10
    · refine Ev.step (f := fun _ => some (strOfNums (digits n ++ acc))) (fun k => ?_) (Ev.now _)
      simp only [name_Digits.l0]
      rw [e1, e2, enc_digit _ (by omega), if_pos hsz, wr (n := ((n / 10 : Nat) : Int)) (by omega) (by omega), if_pos (by omega), str_app, digits_lt h, show n % 10 = n by omega]
    · have i := ih (n / 10) ([48 + ((n % 10 : Nat) : Int)] ++ acc) (by rw [Nat.pow_succ] at hm; omega) (by omega) (by simp only [List.length_append, List.length_cons, List.length_nil]; omega)
      rw [digits_ge h, List.append_assoc]
      refine Ev.step (fun k => ?_) i
      simp only [name_Digits.l0]
      rw [e1, e2, enc_digit _ (by omega), if_pos hsz, wr (n := ((n / 10 : Nat) : Int)) (by omega) (by omega), if_neg (by omega), str_app]
theorem digits_tell (n : Int) (h0 : 0 ≤ n) (h1 : n ≤ 9223372036854775807) : Ev (fun k => name_Digits.f k n) (strOfNums (digits n.toNat)) := by
  obtain ⟨m, rfl⟩ := Int.eq_ofNat_of_zero_le h0
  have := digits_l0 20 m [] (by omega) (by omega) (by simp)
  rw [List.append_nil] at this
  exact this

/-! ### Number -/
theorem td10 (a : Int) : Int.tdiv a 10 = if 0 ≤ a then a / 10 else -((-a) / 10) := by
  split
  · exact Int.tdiv_eq_ediv_of_nonneg (by omega)
  · have := Int.neg_tdiv (-a) 10
    rw [Int.neg_neg] at this
    rw [this, Int.tdiv_eq_ediv_of_nonneg (by omega)]

/-- What a reading of a number tells. -/
def Told (most n : Int) (t : List Int) (v : Int) (b : Bool) : Prop := (b = true ↔ Dig t ∧ vfrom n t ≤ most) ∧ (b = true → v = vfrom n t)

theorem told_bad {most n c v : Int} {t : List Int} (h : c < 48 ∨ 57 < c) : Told most n (c :: t) v false := by
  refine ⟨⟨fun h => by simp at h, fun ⟨hd, _⟩ => ?_⟩, fun h => by simp at h⟩
  have := hd.cons.1
  omega
theorem told_great {most n c v : Int} {t : List Int} (h : most < 10 * n + (c - 48)) (h0 : 0 ≤ n) : Told most n (c :: t) v false := by
  refine ⟨⟨fun h => by simp at h, fun ⟨hd, hv⟩ => ?_⟩, fun h => by simp at h⟩
  have hc := hd.cons.1
  rw [vfrom_cons] at hv
  have := vfrom_ge hd.cons.2 (n := 10 * n + (c - 48)) (by omega)
  omega
theorem told_neg {most n v : Int} {t : List Int} (h : most < 0) (h0 : 0 ≤ n) : Told most n t v false := by
  refine ⟨⟨fun h => by simp at h, fun ⟨hd, hv⟩ => ?_⟩, fun h => by simp at h⟩
  have := vfrom_ge hd h0
  omega
theorem told_next {most n c v : Int} {t : List Int} {b : Bool} (hc : 48 ≤ c ∧ c ≤ 57) (h : Told most (10 * n + (c - 48)) t v b) : Told most n (c :: t) v b := by
  refine ⟨⟨fun hb => ?_, fun ⟨hd, hv⟩ => h.1.2 ⟨hd.cons.2, hv⟩⟩, h.2⟩
  have := h.1.1 hb
  exact ⟨fun x hx => by
    rcases List.mem_cons.1 hx with rfl | hx
    · exact hc
    · exact this.1 x hx, this.2⟩

theorem num_end {s : ByteArray} {most n i : Int} : Ev (fun k => name_Number.l0 k s most n i i) (n, decide (n ≤ most)) :=
  Ev.step (fun k => by simp only [name_Number.l0]; rw [if_neg (by omega)]) (Ev.now _)
theorem told_end {most n : Int} : Told most n [] n (decide (n ≤ most)) := by
  refine ⟨⟨fun h => ⟨Dig.nil, of_decide_eq_true h⟩, fun h => decide_eq_true h.2⟩, fun _ => rfl⟩

theorem num_bad {s : ByteArray} {most n i c : Int} (hi : 0 ≤ i) (hs : i < (s.size : Int)) (hc : bt s i = c) (h : c < 48 ∨ 57 < c) : Ev (fun k => name_Number.l0 k s most n (s.size : Int) i) (0, false) := by
  have hb := bt_range s i
  refine Ev.step (f := fun _ => some (0, false)) (fun k => ?_) (Ev.now _)
  simp only [name_Number.l0]
  rw [hc] at hb ⊢
  rw [if_pos hs, if_pos hi, if_pos hs, wr (n := c) (by omega) (by omega), wr (n := c - 48) (by omega) (by omega)]
  rcases h with h | h
  · rw [if_pos (by omega)]
  · rw [if_neg (by omega), if_pos (by omega)]
theorem num_great {s : ByteArray} {most n i c D : Int} (hi : 0 ≤ i) (hs : i < (s.size : Int)) (hc : bt s i = c) (h : 48 ≤ c ∧ c ≤ 57) (hD : wrap64 (most - (c - 48)) = D) (hD0 : -9223372036854775808 ≤ D) (hD1 : D ≤ 9223372036854775807) (hn : n > Int.tdiv D 10) :
    Ev (fun k => name_Number.l0 k s most n (s.size : Int) i) (0, false) := by
  refine Ev.step (f := fun _ => some (0, false)) (fun k => ?_) (Ev.now _)
  simp only [name_Number.l0]
  have ht := td10 D
  rw [hc]
  rw [if_pos hs, if_pos hi, if_pos hs, wr (n := c) (by omega) (by omega), wr (n := c - 48) (by omega) (by omega), if_neg (by omega), if_neg (by omega), hD, wr (n := Int.tdiv D 10) (by rw [ht]; split <;> omega) (by rw [ht]; split <;> omega), if_pos hn]
theorem num_next {s : ByteArray} {most n i c D : Int} {r : Int × Bool} (hi : 0 ≤ i) (hs : i < (s.size : Int)) (hs2 : s.size < 10000000) (hc : bt s i = c) (h : 48 ≤ c ∧ c ≤ 57) (hD : wrap64 (most - (c - 48)) = D) (hD0 : -9223372036854775808 ≤ D) (hD1 : D ≤ 9223372036854775807) (hn : ¬ n > Int.tdiv D 10)
    (hn0 : 0 ≤ n) (hn1 : 10 * n + (c - 48) ≤ 9223372036854775807) (g : Ev (fun k => name_Number.l0 k s most (10 * n + (c - 48)) (s.size : Int) (i + 1)) r) :
    Ev (fun k => name_Number.l0 k s most n (s.size : Int) i) r := by
  refine Ev.step (fun k => ?_) g
  simp only [name_Number.l0]
  have ht := td10 D
  rw [hc]
  rw [if_pos hs, if_pos hi, if_pos hs, wr (n := c) (by omega) (by omega), wr (n := c - 48) (by omega) (by omega), if_neg (by omega), if_neg (by omega), hD, wr (n := Int.tdiv D 10) (by rw [ht]; split <;> omega) (by rw [ht]; split <;> omega), if_neg hn,
    wr (n := 10 * n) (by omega) (by omega), wr (n := 10 * n + (c - 48)) (by omega) (by omega), wr (n := i + 1) (by omega) (by omega)]

/-- Up to a number from 0 on. -/
theorem num_pos (most : Int) (hm0 : 0 ≤ most) (hm1 : most ≤ 9223372036854775807) : ∀ (t p : List Int) (n : Int), Byt (p ++ t) → (p ++ t).length < 10000000 → 0 ≤ n → (n ≤ most ∨ n ≤ 9) →
    ∃ v b, Ev (fun k => name_Number.l0 k (strOfNums (p ++ t)) most n ((strOfNums (p ++ t)).size : Int) (p.length : Int)) (v, b) ∧ Told most n t v b
  | [], p, n, _, _, _, _ => by
    refine ⟨n, decide (n ≤ most), ?_, told_end⟩
    rw [str_size, List.append_nil]
    exact num_end
  | c :: t, p, n, hB, hl, hn0, hn => by
    have hsz := str_size (p ++ c :: t)
    have hc := bt_next hB
    have hcb := hB c (by simp)
    simp only [List.length_append, List.length_cons] at hsz hl
    by_cases h : c < 48 ∨ 57 < c
    · exact ⟨0, false, num_bad (by omega) (by omega) hc h, told_bad h⟩
    · have hw : wrap64 (most - (c - 48)) = most - (c - 48) := wr (by omega) (by omega)
      have ht := td10 (most - (c - 48))
      by_cases hg : n > Int.tdiv (most - (c - 48)) 10
      · refine ⟨0, false, num_great (by omega) (by omega) hc (by omega) hw (by omega) (by omega) hg, told_great ?_ hn0⟩
        rw [ht] at hg
        split at hg <;> omega
      · have hg' := hg
        rw [ht] at hg'
        have hb : 10 * n + (c - 48) ≤ most ∨ 10 * n + (c - 48) ≤ 9 := by split at hg' <;> omega
        obtain ⟨v, b, hv, hT⟩ := num_pos most hm0 hm1 t (p ++ [c]) (10 * n + (c - 48)) (by simpa using hB) (by simp only [List.length_append, List.length_cons, List.length_nil]; omega) (by omega) hb
        rw [List.append_assoc, show ((p ++ [c]).length : Int) = (p.length : Int) + 1 by simp only [List.length_append, List.length_cons, List.length_nil]; omega] at hv
        exact ⟨v, b, num_next (by omega) (by omega) (by omega) hc (by omega) hw (by omega) (by omega) hg hn0 (by omega) hv, told_next (by omega) hT⟩

/-- Up to a number below 0, which is not the least ones. -/
theorem num_neg (most : Int) (hm0 : -9223372036854775799 ≤ most) (hm1 : most < 0) : ∀ (t p : List Int) (n : Int), Byt (p ++ t) → (p ++ t).length < 10000000 → 0 ≤ n → n ≤ 9 →
    ∃ v, Ev (fun k => name_Number.l0 k (strOfNums (p ++ t)) most n ((strOfNums (p ++ t)).size : Int) (p.length : Int)) (v, false)
  | [], p, n, _, _, h0, _ => by
    refine ⟨n, ?_⟩
    rw [str_size, List.append_nil]
    have := num_end (s := strOfNums p) (most := most) (n := n) (i := (p.length : Int))
    rwa [decide_eq_false (by omega)] at this
  | c :: t, p, n, hB, hl, hn0, hn => by
    have hsz := str_size (p ++ c :: t)
    have hc := bt_next hB
    have hcb := hB c (by simp)
    simp only [List.length_append, List.length_cons] at hsz hl
    by_cases h : c < 48 ∨ 57 < c
    · exact ⟨0, num_bad (by omega) (by omega) hc h⟩
    · have hw : wrap64 (most - (c - 48)) = most - (c - 48) := wr (by omega) (by omega)
      have ht := td10 (most - (c - 48))
      by_cases hg : n > Int.tdiv (most - (c - 48)) 10
      · exact ⟨0, num_great (by omega) (by omega) hc (by omega) hw (by omega) (by omega) hg⟩
      · have hg' := hg
        rw [ht] at hg'
        have hb : 10 * n + (c - 48) ≤ 9 := by split at hg' <;> omega
        obtain ⟨v, hv⟩ := num_neg most hm0 hm1 t (p ++ [c]) (10 * n + (c - 48)) (by simpa using hB) (by simp only [List.length_append, List.length_cons, List.length_nil]; omega) (by omega) hb
        rw [List.append_assoc, show ((p ++ [c]).length : Int) = (p.length : Int) + 1 by simp only [List.length_append, List.length_cons, List.length_nil]; omega] at hv
        exact ⟨v, num_next (by omega) (by omega) (by omega) hc (by omega) hw (by omega) (by omega) hg hn0 (by omega) hv⟩

/-- Up to one of the least numbers: where 'most - d' is turned round. -/
theorem num_least (most : Int) (hm0 : -9223372036854775808 ≤ most) (hm1 : most < -9223372036854775799) : ∀ (t p : List Int) (n : Int), Byt (p ++ t) → (p ++ t).length < 10000000 → 0 ≤ n → n ≤ 9223372036854775807 → (n = 0 ∨ n % 10 > most + 9223372036854775808) →
    ∃ v, Ev (fun k => name_Number.l0 k (strOfNums (p ++ t)) most n ((strOfNums (p ++ t)).size : Int) (p.length : Int)) (v, false)
  | [], p, n, _, _, h0, _, _ => by
    refine ⟨n, ?_⟩
    rw [str_size, List.append_nil]
    have := num_end (s := strOfNums p) (most := most) (n := n) (i := (p.length : Int))
    rwa [decide_eq_false (by omega)] at this
  | c :: t, p, n, hB, hl, hn0, hn, hr => by
    have hsz := str_size (p ++ c :: t)
    have hc := bt_next hB
    have hcb := hB c (by simp)
    simp only [List.length_append, List.length_cons] at hsz hl
    by_cases h : c < 48 ∨ 57 < c
    · exact ⟨0, num_bad (by omega) (by omega) hc h⟩
    · by_cases hj : c - 48 ≤ most + 9223372036854775808
      · have hw : wrap64 (most - (c - 48)) = most - (c - 48) := wr (by omega) (by omega)
        have ht := td10 (most - (c - 48))
        refine ⟨0, num_great (by omega) (by omega) hc (by omega) hw (by omega) (by omega) ?_⟩
        rw [ht, if_neg (by omega)]
        omega
      · have hw : wrap64 (most - (c - 48)) = most - (c - 48) + 18446744073709551616 := by unfold wrap64; omega
        have ht := td10 (most - (c - 48) + 18446744073709551616)
        by_cases hg : n > Int.tdiv (most - (c - 48) + 18446744073709551616) 10
        · exact ⟨0, num_great (by omega) (by omega) hc (by omega) hw (by omega) (by omega) hg⟩
        · have hg' := hg
          rw [ht, if_pos (by omega)] at hg'
          obtain ⟨v, hv⟩ := num_least most hm0 hm1 t (p ++ [c]) (10 * n + (c - 48)) (by simpa using hB) (by simp only [List.length_append, List.length_cons, List.length_nil]; omega) (by omega) (by omega) (by omega)
          rw [List.append_assoc, show ((p ++ [c]).length : Int) = (p.length : Int) + 1 by simp only [List.length_append, List.length_cons, List.length_nil]; omega] at hv
          exact ⟨v, num_next (by omega) (by omega) (by omega) hc (by omega) hw (by omega) (by omega) hg hn0 (by omega) hv⟩

theorem num_any (most : Int) (hm0 : -9223372036854775808 ≤ most) (hm1 : most ≤ 9223372036854775807) (xs : List Int) (hB : Byt xs) (hl : xs.length < 10000000) :
    ∃ v b, Ev (fun k => name_Number.l0 k (strOfNums xs) most 0 ((strOfNums xs).size : Int) 0) (v, b) ∧ Told most 0 xs v b := by
  by_cases h0 : 0 ≤ most
  · exact num_pos most h0 hm1 xs [] 0 hB hl (by omega) (by omega)
  · by_cases h1 : -9223372036854775799 ≤ most
    · obtain ⟨v, hv⟩ := num_neg most h1 (by omega) xs [] 0 hB hl (by omega) (by omega)
      exact ⟨v, false, hv, told_neg (by omega) (by omega)⟩
    · obtain ⟨v, hv⟩ := num_least most hm0 (by omega) xs [] 0 hB hl (by omega) (by omega) (.inl rfl)
      exact ⟨v, false, hv, told_neg (by omega) (by omega)⟩

/-- What Number tells of a text. -/
theorem number_tell (most : Int) (hm0 : -9223372036854775808 ≤ most) (hm1 : most ≤ 9223372036854775807) (xs : List Int) (hB : Byt xs) (hl : xs.length < 10000000) :
    ∃ v b, Ev (fun k => name_Number.f k (strOfNums xs) most) (v, b) ∧ (b = true ↔ NumOk xs most) ∧ (b = true → v = vfrom 0 xs) := by
  have stop : ∀ (s : ByteArray), Ev (fun k => name_Number.j0 k s most true) (0, false) := fun s =>
    Ev.step (fun k => by simp only [name_Number.j0, if_true]) (Ev.now _)
  have go : ∀ {r}, Ev (fun k => name_Number.l0 k (strOfNums xs) most 0 ((strOfNums xs).size : Int) 0) r → Ev (fun k => name_Number.j0 k (strOfNums xs) most false) r := fun g =>
    Ev.step (fun k => by simp only [name_Number.j0, Bool.false_eq_true, if_false]) g
  unfold name_Number.f
  by_cases hn : xs = []
  · subst hn
    refine ⟨0, false, Ev.congr (fun k => by rw [if_pos (by rw [toList_str]; rfl)]) (stop _), ⟨fun h => by simp at h, fun h => absurd rfl h.1.1⟩, fun h => by simp at h⟩
  · have e0 : ¬ (strOfNums xs).toList = [] := fun h => hn (toList_nil h)
    have hsz := str_size xs
    by_cases h1 : 1 < xs.length
    · obtain ⟨c, t, rfl⟩ : ∃ c t, xs = c :: t := by cases xs with
        | nil => exact absurd rfl hn
        | cons c t => exact ⟨c, t, rfl⟩
      have hc : bt (strOfNums (c :: t)) 0 = c := by rw [bt_str hB]; rfl
      by_cases h48 : c = 48
      · refine ⟨0, false, Ev.congr (fun k => by rw [if_neg e0, if_pos (by omega), if_pos (by omega), hc, show (c == 48) = true by simp [h48]]) (stop _), ⟨fun h => by simp at h, fun h => absurd (by simp [h48]) (h.1.2.2 h1)⟩, fun h => by simp at h⟩
      · obtain ⟨v, b, hv, hT⟩ := num_any most hm0 hm1 (c :: t) hB hl
        refine ⟨v, b, Ev.congr (fun k => by rw [if_neg e0, if_pos (by omega), if_pos (by omega), hc, show (c == 48) = false by simp [h48]]) (go hv), ⟨fun h => ⟨⟨hn, (hT.1.1 h).1, fun _ => by simpa using h48⟩, (hT.1.1 h).2⟩, fun h => hT.1.2 ⟨h.1.2.1, h.2⟩⟩, hT.2⟩
    · obtain ⟨v, b, hv, hT⟩ := num_any most hm0 hm1 xs hB hl
      exact ⟨v, b, Ev.congr (fun k => by rw [if_neg e0, if_neg (by omega)]) (go hv), ⟨fun h => ⟨⟨hn, (hT.1.1 h).1, fun h2 => absurd h2 h1⟩, (hT.1.1 h).2⟩, fun h => hT.1.2 ⟨h.1.2.1, h.2⟩⟩, hT.2⟩
/-! ### Cut and CutPrefix -/
def b6 : List Int := [98, 121, 116, 101, 115, 61]
theorem b6_byt : Byt b6 := by unfold Byt b6; decide
def one (c : Int) : ByteArray := strOfNums [c]
theorem one_size (c : Int) : (one c).size = 1 := by unfold one; rw [strOfNums_size]; rfl
theorem one_get (c : Int) : (one c).data.toList.getD 0 0 = UInt8.ofNat c.toNat := by unfold one; rw [data_str]; rfl
theorem hasprefix_yes (r : List Int) (hl : r.length < 1000000) : stringslite_HasPrefix.f (strOfNums (b6 ++ r)) (strOfNums b6) = some true := by
  unfold stringslite_HasPrefix.f
  have h1 := str_size (b6 ++ r)
  have h2 := str_size b6
  have h3 : (b6.length : Int) = 6 := rfl
  simp only [List.length_append] at h1
  rw [if_pos (by omega), if_pos (by omega), if_pos (by omega), str_cut, h2, Int.toNat_natCast, List.take_left, List.drop_zero]
  simp
theorem hasprefix_no {x : List Int} (hB : Byt x) (h : ∀ r, x ≠ b6 ++ r) : stringslite_HasPrefix.f (strOfNums x) (strOfNums b6) = some false := by
  unfold stringslite_HasPrefix.f
  have h1 := str_size x
  have h2 := str_size b6
  have h3 : (b6.length : Int) = 6 := rfl
  by_cases c : 6 ≤ x.length
  · rw [if_pos (by omega), if_pos (by omega), if_pos (by omega), str_cut, h2, Int.toNat_natCast, List.drop_zero]
    have : x.take b6.length ≠ b6 := fun e => h (x.drop b6.length) (by conv => lhs; rw [← List.take_append_drop b6.length x, e])
    have e : ((strOfNums (x.take b6.length)).toList == (strOfNums b6).toList) = false := by
      rw [beq_eq_false_iff_ne]
      exact fun k => this (str_inj (hB.take _) b6_byt k)
    rw [e]
  · rw [if_neg (by omega)]
theorem cutprefix_yes (r : List Int) (hl : r.length < 1000000) : strings_CutPrefix.f (strOfNums (b6 ++ r)) (strOfNums b6) = some (strOfNums r, true) := by
  have h1 := str_size (b6 ++ r)
  have h2 := str_size b6
  have h3 : (b6.length : Int) = 6 := rfl
  simp only [List.length_append] at h1
  unfold strings_CutPrefix.f stringslite_CutPrefix.f
  rw [hasprefix_yes r hl, Option.bind_some, if_pos rfl, if_pos (by omega), if_pos (by omega), str_cut, h2, Int.toNat_natCast, List.take_of_length_le (by simp only [List.length_append]; omega), List.drop_left]
  rfl
theorem cutprefix_no {x : List Int} (hB : Byt x) (h : ∀ r, x ≠ b6 ++ r) : strings_CutPrefix.f (strOfNums x) (strOfNums b6) = some (strOfNums x, false) := by
  unfold strings_CutPrefix.f stringslite_CutPrefix.f
  rw [hasprefix_no hB h]
  rfl
theorem cut_yes {p : List Int} (q : List Int) (hB : Byt (p ++ 45 :: q)) (h : (45 : Int) ∉ p) (hl : (p ++ 45 :: q).length < 1000000) : strings_Cut.f (strOfNums (p ++ 45 :: q)) (one 45) = some (strOfNums p, strOfNums q, true) := by
  have h1 := str_size (p ++ 45 :: q)
  have hl2 := hl
  simp only [List.length_append, List.length_cons] at h1 hl2
  have h2 : ((one 45).size : Int) = 1 := by rw [one_size]; rfl
  have hi : stringslite_Index.f (strOfNums (p ++ 45 :: q)) (one 45) = some (p.length : Int) := by
    unfold stringslite_Index.f
    rw [if_pos (one_size 45), one_get, index_at (by omega) q hB.left h]
  unfold strings_Cut.f stringslite_Cut.f
  rw [hi, Option.bind_some, if_pos (by omega), if_pos (by omega), if_pos (by omega), h2, wr (n := (p.length : Int) + 1) (by omega) (by omega), if_pos (by omega), if_pos (by omega), str_cut, str_cut]
  have e1 : ((p ++ 45 :: q).take (strOfNums (p ++ 45 :: q)).size).drop ((p.length : Int) + 1).toNat = q := by
    rw [List.take_of_length_le (by simp only [List.length_append, List.length_cons]; omega), show ((p.length : Int) + 1).toNat = p.length + 1 by omega]
    simp
  have e2 : ((p ++ 45 :: q).take (p.length : Int).toNat).drop 0 = p := by
    rw [Int.toNat_natCast]; simp
  rw [e1, e2]; rfl
theorem cut_no {p : List Int} (hB : Byt p) (h : (45 : Int) ∉ p) : strings_Cut.f (strOfNums p) (one 45) = some (strOfNums p, strOfNums [], false) := by
  have hi : stringslite_Index.f (strOfNums p) (one 45) = some (-1) := by
    unfold stringslite_Index.f
    rw [if_pos (one_size 45), one_get, index_no (by omega) hB h]
  unfold strings_Cut.f stringslite_Cut.f
  rw [hi, Option.bind_some, if_neg (by omega)]
  rfl
theorem cut_any {p : List Int} (hB : Byt p) (hl : p.length < 1000000) : ∃ a b c, strings_Cut.f (strOfNums p) (one 45) = some (a, b, c) := by
  rcases first_at 45 p with h | ⟨a, q, ha, rfl⟩
  · exact ⟨_, _, _, cut_no hB h⟩
  · exact ⟨_, _, _, cut_yes q hB ha hl⟩

/-! ### Parse -/
def M : Int := 1099511627776
open Classical in
/-- What stands before and behind the sign, as a span. -/
noncomputable def mid (a b : List Int) : Int × Int × Int × Int :=
  if NumOk a M ∧ NumOk b M then (if vfrom 0 a ≤ vfrom 0 b then (2, vfrom 0 a, vfrom 0 b, 0) else (0, 0, 0, 4))
  else if NumOk a M ∧ b = [] then (1, vfrom 0 a, 0, 0)
  else if NumOk b M ∧ a = [] then (3, vfrom 0 b, 0, 0) else (0, 0, 0, 4)

/-- How a line may look. -/
theorem shape (x : List Int) : x = [] ∨ (∃ a b, (45 : Int) ∉ a ∧ x = b6 ++ (a ++ 45 :: b)) ∨ (x ≠ [] ∧ ∃ r, (45 : Int) ∉ r ∧ x = b6 ++ r) ∨ (x ≠ [] ∧ ∀ r, x ≠ b6 ++ r) := by
  by_cases h : x = []
  · exact .inl h
  · by_cases k : ∃ r, x = b6 ++ r
    · obtain ⟨r, rfl⟩ := k
      rcases first_at 45 r with q | ⟨a, b, ha, rfl⟩
      · exact .inr (.inr (.inl ⟨h, r, q, rfl⟩))
      · exact .inr (.inl ⟨a, b, ha, rfl⟩)
    · exact .inr (.inr (.inr ⟨h, fun r e => k ⟨r, e⟩⟩))

theorem toList_empty_beq {b : List Int} : ((strOfNums b).toList == ([] : List UInt8)) = decide (b = []) := by
  by_cases h : b = []
  · subst h; rw [toList_str]; rfl
  · rw [decide_eq_false h, beq_eq_false_iff_ne]
    exact fun k => h (toList_nil k)

theorem parse_j0 (a b : List Int) (ha : Byt a) (hb : Byt b) (hla : a.length < 1000000) (hlb : b.length < 1000000) : Ev (fun k => span_Parse.j0 k (strOfNums a) (strOfNums b) false) (mid a b) := by
  obtain ⟨v, oa, hv, hoa, hva⟩ := number_tell 1099511627776 (by omega) (by omega) a ha (by omega)
  obtain ⟨w, ob, hw, hob, hwb⟩ := number_tell 1099511627776 (by omega) (by omega) b hb (by omega)
  apply Ev.step
  · intro k
    simp only [span_Parse.j0, Bool.false_eq_true, if_false]
    rfl
  · refine Ev.bind hv ?_
    refine Ev.bind hw ?_
    unfold mid M
    by_cases ca : oa = true
    · have na := hoa.1 ca
      have ev := hva ca
      refine Ev.congr (fun k => by rw [if_pos ca]) ?_
      by_cases cb : ob = true
      · have nb := hob.1 cb
        have ew := hwb cb
        rw [if_pos ⟨na, nb⟩]
        by_cases lt : w < v
        · rw [if_neg (by omega)]
          refine Ev.step (f := fun _ => some (0, 0, 0, 4)) (fun k => ?_) (Ev.now _)
          simp only [span_Parse.j1]
          rw [if_pos cb, if_pos lt]
        · rw [if_pos (by omega), ← ev, ← ew]
          refine Ev.step (f := fun _ => some (2, v, w, 0)) (fun k => ?_) (Ev.now _)
          simp only [span_Parse.j1]
          rw [if_pos cb, if_neg lt]
      · have nb : ¬ NumOk b 1099511627776 := fun q => cb (hob.2 q)
        rw [if_neg (fun q => nb q.2)]
        have cbf : ob = false := by simpa using cb
        by_cases e : b = []
        · rw [if_pos ⟨na, e⟩, ← ev]
          refine Ev.step (f := fun k => span_Parse.j2 k (strOfNums a) v w ob true) (fun k => ?_) (Ev.step (f := fun _ => some (1, v, 0, 0)) (fun k => by simp only [span_Parse.j2, if_true]) (Ev.now _))
          simp only [span_Parse.j1]
          rw [if_neg cb, if_pos ca, toList_empty_beq, decide_eq_true e]
        · rw [if_neg (fun q => e q.2), if_neg (fun q => nb q.1)]
          refine Ev.step (f := fun k => span_Parse.j2 k (strOfNums a) v w ob false) (fun k => ?_) (Ev.step (f := fun _ => some (0, 0, 0, 4)) (fun k => ?_) (Ev.now _))
          · simp only [span_Parse.j1]
            rw [if_neg cb, if_pos ca, toList_empty_beq, decide_eq_false e]
          · simp only [span_Parse.j2, Bool.false_eq_true, if_false]
            rw [if_neg cb]
    · have na : ¬ NumOk a 1099511627776 := fun q => ca (hoa.2 q)
      refine Ev.congr (fun k => by rw [if_neg ca]) ?_
      rw [if_neg (fun q => na q.1), if_neg (fun q => na q.1)]
      refine Ev.step (f := fun k => span_Parse.j2 k (strOfNums a) v w ob false) (fun k => ?_) ?_
      · simp only [span_Parse.j1, Bool.false_eq_true, if_false]
        rw [if_neg ca]
      · by_cases cb : ob = true
        · have nb := hob.1 cb
          have ew := hwb cb
          by_cases e : a = []
          · rw [if_pos ⟨nb, e⟩, ← ew]
            refine Ev.step (f := fun _ => some (3, w, 0, 0)) (fun k => ?_) (Ev.now _)
            simp only [span_Parse.j2, Bool.false_eq_true, if_false]
            rw [if_pos cb, if_pos (by rw [e, toList_str]; rfl)]
          · rw [if_neg (fun q => e q.2)]
            refine Ev.step (f := fun _ => some (0, 0, 0, 4)) (fun k => ?_) (Ev.now _)
            simp only [span_Parse.j2, Bool.false_eq_true, if_false]
            rw [if_pos cb, if_neg (fun q => e (toList_nil q))]
        · have nb : ¬ NumOk b 1099511627776 := fun q => cb (hob.2 q)
          rw [if_neg (fun q => nb q.1)]
          refine Ev.step (f := fun _ => some (0, 0, 0, 4)) (fun k => ?_) (Ev.now _)
          simp only [span_Parse.j2, Bool.false_eq_true, if_false]
          rw [if_neg cb]
theorem parse_stop (a b : ByteArray) : Ev (fun k => span_Parse.j0 k a b true) (0, 0, 0, 4) :=
  Ev.step (f := fun _ => some (0, 0, 0, 4)) (fun k => by simp only [span_Parse.j0, if_true]) (Ev.now _)
theorem parse_nil : Ev (fun k => span_Parse.f k (strOfNums [])) (0, 0, 0, 0) := by
  unfold span_Parse.f
  exact Ev.congr (fun k => by rw [if_pos (by rw [toList_str]; rfl)]) (Ev.now _)
theorem parse_mid (a b : List Int) (ha : (45 : Int) ∉ a) (hB : Byt (b6 ++ (a ++ 45 :: b))) (hl : (b6 ++ (a ++ 45 :: b)).length < 1000000) : Ev (fun k => span_Parse.f k (strOfNums (b6 ++ (a ++ 45 :: b)))) (mid a b) := by
  have hB2 := hB.right
  have hl2 := hl
  simp only [List.length_append, List.length_cons] at hl2
  unfold span_Parse.f
  refine Ev.congr (fun k => ?_) (parse_j0 a b hB2.left hB2.right.cons.2 (by omega) (by omega))
  rw [if_neg (fun q => by have := toList_nil q; simp [b6] at this)]
  rw [show (⟨#[98, 121, 116, 101, 115, 61]⟩ : ByteArray) = strOfNums b6 from rfl, show (⟨#[45]⟩ : ByteArray) = one 45 from rfl]
  rw [cutprefix_yes _ (by simp only [List.length_append, List.length_cons]; omega), Option.bind_some, cut_yes b hB2 ha (by simp only [List.length_append, List.length_cons]; omega), Option.bind_some, if_pos rfl]
  rfl
theorem parse_none (r : List Int) (hr : (45 : Int) ∉ r) (hB : Byt (b6 ++ r)) (hl : (b6 ++ r).length < 1000000) : Ev (fun k => span_Parse.f k (strOfNums (b6 ++ r))) (0, 0, 0, 4) := by
  have hl2 := hl
  simp only [List.length_append] at hl2
  unfold span_Parse.f
  refine Ev.congr (fun k => ?_) (parse_stop (strOfNums r) (strOfNums []))
  rw [if_neg (fun q => by have := toList_nil q; simp [b6] at this)]
  rw [show (⟨#[98, 121, 116, 101, 115, 61]⟩ : ByteArray) = strOfNums b6 from rfl, show (⟨#[45]⟩ : ByteArray) = one 45 from rfl]
  rw [cutprefix_yes _ (by omega), Option.bind_some, cut_no hB.right hr, Option.bind_some, if_pos rfl]
  rfl
theorem parse_other (x : List Int) (hx : x ≠ []) (hn : ∀ r, x ≠ b6 ++ r) (hB : Byt x) (hl : x.length < 1000000) : Ev (fun k => span_Parse.f k (strOfNums x)) (0, 0, 0, 4) := by
  obtain ⟨a, b, c, hc⟩ := cut_any hB hl
  unfold span_Parse.f
  refine Ev.congr (fun k => ?_) (parse_stop a b)
  rw [if_neg (fun q => hx (toList_nil q))]
  rw [show (⟨#[98, 121, 116, 101, 115, 61]⟩ : ByteArray) = strOfNums b6 from rfl, show (⟨#[45]⟩ : ByteArray) = one 45 from rfl]
  rw [cutprefix_no hB hn, Option.bind_some, hc, Option.bind_some, if_neg (by simp)]

/-! ### Line -/
/-- A span as a line. -/
def line (kind : Int) (a b : Nat) : List Int :=
  if kind = 1 then b6 ++ (digits a ++ [45]) else if kind = 2 then b6 ++ (digits a ++ 45 :: digits b) else if kind = 3 then b6 ++ (45 :: digits a) else []
theorem str6 : (⟨#[98, 121, 116, 101, 115, 61]⟩ : ByteArray) = strOfNums b6 := rfl
theorem str7 : (⟨#[98, 121, 116, 101, 115, 61, 45]⟩ : ByteArray) = strOfNums (b6 ++ [45]) := rfl
theorem str1 : (⟨#[45]⟩ : ByteArray) = strOfNums [45] := rfl
theorem line_tell (kind a b : Int) (ha : 0 ≤ a) (ha1 : a ≤ 9223372036854775807) (hb : 0 ≤ b) (hb1 : b ≤ 9223372036854775807) : Ev (fun k => span_Line.f k kind a b) (strOfNums (line kind a.toNat b.toNat)) := by
  have da := digits_tell a ha ha1
  have db := digits_tell b hb hb1
  have la := digits_len a.toNat 30 (by omega)
  have lb := digits_len b.toNat 30 (by omega)
  have sa : (strOfNums (digits a.toNat)).size = (digits a.toNat).length := strOfNums_size _
  have sb : (strOfNums (digits b.toNat)).size = (digits b.toNat).length := strOfNums_size _
  unfold span_Line.f line
  by_cases k1 : kind = 1
  · rw [if_pos k1]
    refine Ev.congr (fun k => by rw [if_pos k1]) ?_
    refine Ev.bind da ?_
    refine Ev.congr (fun k => ?_) (Ev.now _)
    rw [if_pos (by omega), if_pos (by omega), str6, str1, str_app, str_app, List.append_assoc]
  · rw [if_neg k1]
    by_cases k2 : kind = 2
    · rw [if_pos k2]
      refine Ev.congr (fun k => by rw [if_neg k1, if_pos k2]) ?_
      refine Ev.bind da ?_
      refine Ev.congr (fun k => by rw [if_pos (by omega), if_pos (by omega)]) ?_
      refine Ev.bind db ?_
      refine Ev.congr (fun k => ?_) (Ev.now _)
      rw [if_pos (by omega), str6, str1, str_app, str_app, str_app]
      simp
    · rw [if_neg k2]
      by_cases k3 : kind = 3
      · rw [if_pos k3]
        refine Ev.congr (fun k => by rw [if_neg k1, if_neg k2, if_pos k3]) ?_
        refine Ev.bind da ?_
        refine Ev.congr (fun k => ?_) (Ev.now _)
        rw [if_pos (by omega), str7, str_app]
        simp
      · rw [if_neg k3]
        exact Ev.congr (fun k => by rw [if_neg k1, if_neg k2, if_neg k3]; rfl) (Ev.now _)

theorem works_tells : Ev (fun k => deedboxlaw22_works.f k) true :=
  Ev.of (deedboxlaw22_works.mono) (show deedboxlaw22_works.f 60 = some true by decide +kernel)
theorem num_val {s : List Int} (h : NumOk s M) : 0 ≤ vfrom 0 s ∧ vfrom 0 s ≤ 1099511627776 := ⟨vfrom_nonneg h.1.2.1, h.2⟩
theorem num_digits {s : List Int} (h : NumOk s M) : digits (vfrom 0 s).toNat = s := digits_of s h.1
theorem num_nil (m : Int) : ¬ NumOk [] m := fun h => h.1.1 rfl

/-- Which bytes a line asks for: its kinds. -/
theorem parse_kinds {xs : List Int} (hx : Byt xs) (hl : xs.length < 1000) : ∃ kd a b e, Ev (fun k => span_Parse.f k (strOfNums xs)) (kd, a, b, e) ∧
    (e = 0 → (kd = 0 ∧ xs = []) ∨ (xs ≠ [] ∧ 0 ≤ a ∧ a ≤ 1099511627776 ∧ (kd = 1 ∨ kd = 3 ∨ (kd = 2 ∧ a ≤ b ∧ b ≤ 1099511627776)))) := by
  have ne : ∀ r : List Int, b6 ++ r ≠ [] := fun r => by simp [b6]
  rcases shape xs with rfl | ⟨a, b, ha, rfl⟩ | ⟨hn, r, hr, rfl⟩ | ⟨hn, hr⟩
  · exact ⟨0, 0, 0, 0, parse_nil, fun _ => .inl ⟨rfl, rfl⟩⟩
  · have g := parse_mid a b ha hx (by omega)
    unfold mid at g
    by_cases c1 : NumOk a M ∧ NumOk b M
    · rw [if_pos c1] at g
      have va := num_val c1.1
      have vb := num_val c1.2
      by_cases le : vfrom 0 a ≤ vfrom 0 b
      · rw [if_pos le] at g
        exact ⟨_, _, _, _, g, fun _ => .inr ⟨ne _, by omega, by omega, .inr (.inr ⟨rfl, by omega, by omega⟩)⟩⟩
      · rw [if_neg le] at g
        exact ⟨_, _, _, _, g, fun h => by simp at h⟩
    · rw [if_neg c1] at g
      by_cases c2 : NumOk a M ∧ b = []
      · rw [if_pos c2] at g
        have va := num_val c2.1
        exact ⟨_, _, _, _, g, fun _ => .inr ⟨ne _, by omega, by omega, .inl rfl⟩⟩
      · rw [if_neg c2] at g
        by_cases c3 : NumOk b M ∧ a = []
        · rw [if_pos c3] at g
          have vb := num_val c3.1
          exact ⟨_, _, _, _, g, fun _ => .inr ⟨ne _, by omega, by omega, .inr (.inl rfl)⟩⟩
        · rw [if_neg c3] at g
          exact ⟨_, _, _, _, g, fun h => by simp at h⟩
  · exact ⟨_, _, _, _, parse_none r hr hx (by omega), fun h => by simp at h⟩
  · exact ⟨_, _, _, _, parse_other xs hn hr hx (by omega), fun h => by simp at h⟩

/-- From where to where. -/
theorem of_tells (kd a b n : Int) (hn : 0 ≤ n ∧ n ≤ 4294967295) (h : kd = 0 ∨ (0 ≤ a ∧ a ≤ 1099511627776 ∧ (kd = 1 ∨ kd = 3 ∨ (kd = 2 ∧ a ≤ b ∧ b ≤ 1099511627776)))) :
    ∃ f t c, span_Of.f kd a b n = some (f, t, c) ∧ ((c = 0 ∧ 0 ≤ f ∧ t ≤ n ∧ (f < t ∨ (kd = 0 ∧ f = 0 ∧ t = n))) ∨ (c = 2 ∧ kd ≠ 0)) := by
  unfold span_Of.f
  rcases h with rfl | ⟨ha, ha1, rfl | rfl | ⟨rfl, hb, hb1⟩⟩
  · exact ⟨0, n, 0, by simp, .inl ⟨rfl, by omega, by omega, .inr ⟨rfl, rfl, rfl⟩⟩⟩
  · by_cases c : a ≥ n
    · exact ⟨0, 0, 2, by rw [if_neg (by omega), if_neg (by omega), if_pos rfl, if_pos c], .inr ⟨rfl, by omega⟩⟩
    · exact ⟨a, n, 0, by rw [if_neg (by omega), if_neg (by omega), if_pos rfl, if_neg c], .inl ⟨rfl, ha, by omega, .inl (by omega)⟩⟩
  · have e : wrap64 (n - a) = n - a := wr (by omega) (by omega)
    have m : mx (n - a) 0 = if n - a < 0 then 0 else n - a := rfl
    by_cases c : mx (n - a) 0 ≥ n
    · exact ⟨0, 0, 2, by rw [if_neg (by omega), if_neg (by omega), if_neg (by omega), if_pos rfl, e, if_pos c], .inr ⟨rfl, by omega⟩⟩
    · refine ⟨mx (n - a) 0, n, 0, by rw [if_neg (by omega), if_neg (by omega), if_neg (by omega), if_pos rfl, e, if_neg c], .inl ⟨rfl, ?_, by omega, .inl (by omega)⟩⟩
      rw [m]; split <;> omega
  · have e : wrap64 (b + 1) = b + 1 := wr (by omega) (by omega)
    have m : mn (b + 1) n = if n < b + 1 then n else b + 1 := rfl
    by_cases c : a ≥ mn (b + 1) n
    · exact ⟨0, 0, 2, by rw [if_neg (by omega), if_pos rfl, e, if_pos c], .inr ⟨rfl, by omega⟩⟩
    · refine ⟨a, mn (b + 1) n, 0, by rw [if_neg (by omega), if_pos rfl, e, if_neg c], .inl ⟨rfl, ha, ?_, .inl (by omega)⟩⟩
      rw [m]; split <;> omega

/-- The law. -/
theorem SpanWithin : deedboxlaw22_SpanWithin.Pure := by
  intro s n h1 h2
  obtain ⟨xs, hx, rfl, hlen⟩ := str_of s
  have hn : 0 ≤ n ∧ n ≤ 4294967295 := by
    simp [Lit.wf, IntKind.min, IntKind.max, IntKind.signed, IntKind.bits] at h2; omega
  apply Ev.rounds
  unfold deedboxlaw22_SpanWithin.f
  rw [str_size]
  have end_ : Ev (fun k => (deedboxlaw22_works.f k).bind fun t => some t) true := Ev.bind works_tells (Ev.now _)
  by_cases hl : (xs.length : Int) > 200
  · exact Ev.congr (fun k => by rw [if_pos hl]) end_
  · refine Ev.congr (fun k => by rw [if_neg hl]) ?_
    obtain ⟨kd, a, b, e, hp, he⟩ := parse_kinds hx (by omega)
    refine Ev.bind hp ?_
    by_cases e0 : e = 0
    · obtain ⟨f, t, c, hf, hc⟩ := of_tells kd a b n hn (by
        rcases he e0 with q | q
        · exact .inl q.1
        · exact .inr q.2)
      have hw : wrap64 n = n := wr (by omega) (by omega)
      have hnil : (kd = 0) → xs = [] := fun z => by
        rcases he e0 with q | q
        · exact q.2
        · exact absurd z (by
            rcases q.2.2.2 with z1 | z1 | z1
            · omega
            · omega
            · have := z1.1; omega)
      have hnil2 : xs = [] → kd = 0 := fun z => by
        rcases he e0 with q | q
        · exact q.1
        · exact absurd z q.1
      refine Ev.congr (fun k => by rw [if_pos e0, hw, hf, Option.bind_some]) ?_
      rcases hc with ⟨rfl, f0, tn, hft⟩ | ⟨rfl, hk⟩
      · refine Ev.congr (fun k => by rw [if_pos rfl, if_pos f0, if_pos tn]) ?_
        by_cases lt : f < t
        · exact Ev.congr (fun k => by rw [if_pos lt]) end_
        · rcases hft with q | ⟨k0, q0, q1⟩
          · exact absurd q lt
          · refine Ev.congr (fun k => ?_) end_
            rw [if_neg lt, if_pos (by rw [hnil k0, toList_str]; rfl), if_pos (by omega)]
      · refine Ev.congr (fun k => ?_) end_
        rw [if_neg (show ¬ ((2 : Int) = 0) by decide), if_pos rfl, if_neg (fun z => hk (hnil2 (toList_nil z)))]
    · exact Ev.congr (fun k => by rw [if_neg e0]) end_

end Go.Proofs.Ytfnmgccaioobhaa.Pure
