/- What the program's and the reference's letters and numbers come to, in plain words; no condition beside those in each theorem. -/
import Derived.Test.YtjkehapbemjnpaaDoorZLx2
import Derived.Test.YtjkehapbemjnpaaDoorZLx1
import Derived.Test.YtjkehapbemjnpaaDoorZKit
namespace Go.Proofs.YtjkehapbemjnpaaDoor.TellS
open Go.RowKit Go.Proofs.YtjkehapbemjnpaaDoor.Lf Go.Proofs.YtjkehapbemjnpaaDoorW.PrintWords Go.Proofs.YtjkehapbemjnpaaDoorW.PrintLast Go.Proofs.YtjkehapbemjnpaaDoor.Six
set_option linter.unusedVariables false
set_option linter.unusedSimpArgs false
/-! ### Words on numbers -/
theorem wraps_i64 (n : Int) (h₀ : 0 ≤ n) (h₁ : n < 2 ^ 62) : IntKind.i64.wrap n = n := by rw [IntKind.wrap_i64]; omega
theorem or_add (i : Nat) (x y : Int) (hx₀ : 0 ≤ x) (hx : x % 2 ^ i = 0) (hx₁ : x < 2 ^ 62) (hy₀ : 0 ≤ y) (hy : y < 2 ^ i) (hy₁ : y < 2 ^ 62) : Go.bits .or .i64 x y = x + y :=
  bits_join .i64 62 (by decide) wraps_i64 i x y hx₀ hx hx₁ hy₀ hy hy₁
theorem and_mod (i : Nat) (hi : i ≤ 62) (x : Int) (h₀ : 0 ≤ x) (h₁ : x < 2 ^ 62) : Go.bits .and .i64 x (2 ^ i - 1) = x % 2 ^ i :=
  bits_mask .i64 62 (by decide) wraps_i64 i hi x h₀ h₁
theorem wr {n : Int} (h0 : -9223372036854775808 ≤ n) (h1 : n ≤ 9223372036854775807) : wrap64 n = n := by unfold wrap64; omega
theorem or8 {x y : Int} (hx : 0 ≤ x) (hx1 : x < 16777216) (hy : 0 ≤ y) (hy1 : y < 256) : Go.bits .or .i64 (wrap64 (x * 256)) (wrap64 y) = x * 256 + y := by
  rw [wr (by omega) (by omega), wr (by omega) (by omega)]
  exact or_add 8 _ _ (by omega) (by omega) (by omega) hy (by omega) (by omega)
theorem or6 {x y : Int} (hx : 0 ≤ x) (hx1 : x < 16777216) (hy : 0 ≤ y) (hy1 : y < 64) : Go.bits .or .i64 (wrap64 (x * 64)) y = x * 64 + y := by
  rw [wr (by omega) (by omega)]
  exact or_add 6 _ _ (by omega) (by omega) (by omega) hy (by omega) (by omega)
theorem and63 {x : Int} (hx : 0 ≤ x) (hx1 : x < 1073741824) : Go.bits .and .i64 x 63 = x % 64 := and_mod 6 (by decide) x hx (by omega)
theorem shr_at {k : IntKind} (j : Nat) (hj : j ≤ k.bits) (x : Int) : shr k x (j : Int) = x / 2 ^ j := by
  unfold shr; rw [show ((j : Int)).toNat = j by omega, Nat.min_eq_left hj]

theorem letter_some {n : Int} (h0 : 0 ≤ n) (h1 : n < 64) : sixty_letter.f n = some (L n) := by
  unfold sixty_letter.f L
  split
  · rw [show wrap32 n = n by unfold wrap32; omega]; congr 1; unfold wrap32; omega
  · split
    · rw [wr (by omega) (by omega), show wrap32 (n - 26) = n - 26 by unfold wrap32; omega]; congr 1; unfold wrap32; omega
    · split
      · rw [wr (by omega) (by omega), show wrap32 (n - 52) = n - 52 by unfold wrap32; omega]; congr 1; unfold wrap32; omega
      · split <;> rfl

/-! ### Put -/
theorem put_in {xs acc : List Int} {n m i : Int} {r : ByteArray} (hi0 : 0 ≤ i) (hi : i < 3) (him : i < m) (hl : i < (xs.length : Int)) (hn0 : 0 ≤ n) (hn : n < 65536) (hb0 : 0 ≤ rd xs i) (hb : rd xs i < 256)
    (h : Ev (fun k => sixty_Put.l1 k xs acc (n * 256 + rd xs i) m (i + 1)) r) : Ev (fun k => sixty_Put.l1 k xs acc n m i) r :=
  Ev.step (fun k => by simp only [sixty_Put.l1]; rw [if_pos hi, if_pos him, if_pos hi0, if_pos hl, or8 hn0 (by omega) hb0 hb, wr (n := i + 1) (by omega) (by omega)]) h
theorem put_out {xs acc : List Int} {n m i : Int} {r : ByteArray} (hi0 : 0 ≤ i) (hi : i < 3) (him : ¬ i < m) (hn0 : 0 ≤ n) (hn : n < 65536)
    (h : Ev (fun k => sixty_Put.l1 k xs acc (n * 256) m (i + 1)) r) : Ev (fun k => sixty_Put.l1 k xs acc n m i) r :=
  Ev.step (fun k => by simp only [sixty_Put.l1]; rw [if_pos hi, if_neg him, wr (n := n * 256) (by omega) (by omega), wr (n := i + 1) (by omega) (by omega)]) h
theorem put_turn {xs acc : List Int} {n m : Int} {r : ByteArray}
    (h : Ev (fun k => sixty_Put.l2 k xs acc n m 0) r) : Ev (fun k => sixty_Put.l1 k xs acc n m 3) r :=
  Ev.step (fun k => by simp only [sixty_Put.l1]; rw [if_neg (by omega)]) h
theorem put_sign {xs acc : List Int} {n m i : Int} {r : ByteArray} (hi0 : 0 ≤ i) (hi : i < 4) (him : i > m) (ha : acc.length < 140737488355328)
    (h : Ev (fun k => sixty_Put.l2 k xs (acc ++ [61]) n m (i + 1)) r) : Ev (fun k => sixty_Put.l2 k xs acc n m i) r :=
  Ev.step (fun k => by simp only [sixty_Put.l2]; rw [if_pos hi, if_pos him, if_pos ha, wr (n := i + 1) (by omega) (by omega)]) h
theorem put_letter {xs acc : List Int} {n m i : Int} {r : ByteArray} (j : Nat) (hi0 : 0 ≤ i) (hi : i < 4) (hj : (j : Int) = 18 - 6 * i) (him : ¬ i > m) (ha : acc.length < 140737488355328) (hn0 : 0 ≤ n) (hn : n < 16777216)
    (h : Ev (fun k => sixty_Put.l2 k xs (acc ++ [L (n / 2 ^ j % 64)]) n m (i + 1)) r) : Ev (fun k => sixty_Put.l2 k xs acc n m i) r :=
  Ev.step (fun k => by
    simp only [sixty_Put.l2]
    have e : wrap64 (18 - wrap64 (6 * i)) = (j : Int) := by rw [wr (n := 6 * i) (by omega) (by omega), wr (by omega) (by omega), hj]
    have q0 : 0 ≤ n / 2 ^ j := Int.ediv_nonneg hn0 (Int.le_of_lt (Int.pow_pos (by omega)))
    have q1 : n / 2 ^ j ≤ n := Int.ediv_le_self _ hn0
    rw [if_pos hi, if_neg him, e, if_pos (by omega), shr_at j (by show j ≤ 64; omega), and63 q0 (by omega), letter_some (by omega) (by omega)]
    simp only [Option.bind_some]
    rw [if_pos ha, wr (n := i + 1) (by omega) (by omega)]) h
theorem put_round {xs acc : List Int} {n m : Int} {r : ByteArray} (hm : 0 ≤ m) (hl : m ≤ (xs.length : Int))
    (h : Ev (fun k => sixty_Put.l0 k (xs.drop m.toNat) acc) r) : Ev (fun k => sixty_Put.l2 k xs acc n m 4) r :=
  Ev.step (fun k => by simp only [sixty_Put.l2]; rw [if_neg (by omega), if_pos hm, if_pos hl]) h

theorem put_four {xs acc : List Int} {n : Int} {r : ByteArray} (m : Nat) (hm : 1 ≤ m) (hm3 : m ≤ 3) (hl : m ≤ xs.length) (ha : acc.length < 140737488355324) (hn0 : 0 ≤ n) (hn : n < 16777216)
    (h : Ev (fun k => sixty_Put.l0 k (xs.drop m) (acc ++ [L (n / 262144), L (n / 4096 % 64), if m ≤ 1 then 61 else L (n / 64 % 64), if m ≤ 2 then 61 else L (n % 64)])) r) :
    Ev (fun k => sixty_Put.l2 k xs acc n m 0) r := by
  refine put_letter 18 (by omega) (by omega) (by omega) (by omega) (by omega) hn0 hn ?_
  refine put_letter 12 (by omega) (by omega) (by omega) (by omega) (by simp only [List.length_append, List.length_cons, List.length_nil]; omega) hn0 hn ?_
  by_cases h1 : m ≤ 1
  · refine put_sign (by omega) (by omega) (by omega) (by simp only [List.length_append, List.length_cons, List.length_nil]; omega) ?_
    refine put_sign (by omega) (by omega) (by omega) (by simp only [List.length_append, List.length_cons, List.length_nil]; omega) ?_
    refine put_round (by omega) (by omega) ?_
    rw [if_pos h1, if_pos (by omega)] at h
    have e : n / 262144 % 64 = n / 262144 := by omega
    simpa [e, List.append_assoc] using h
  · refine put_letter 6 (by omega) (by omega) (by omega) (by omega) (by simp only [List.length_append, List.length_cons, List.length_nil]; omega) hn0 hn ?_
    by_cases h2 : m ≤ 2
    · refine put_sign (by omega) (by omega) (by omega) (by simp only [List.length_append, List.length_cons, List.length_nil]; omega) ?_
      refine put_round (by omega) (by omega) ?_
      rw [if_neg h1, if_pos h2] at h
      have e : n / 262144 % 64 = n / 262144 := by omega
      simpa [e, List.append_assoc] using h
    · refine put_letter 0 (by omega) (by omega) (by omega) (by omega) (by simp only [List.length_append, List.length_cons, List.length_nil]; omega) hn0 hn ?_
      refine put_round (by omega) (by omega) ?_
      rw [if_neg h1, if_neg h2] at h
      have e : n / 262144 % 64 = n / 262144 := by omega
      simpa [e, List.append_assoc] using h

theorem rd0 (a : Int) (r : List Int) : rd (a :: r) 0 = a := rfl

theorem put_l0 : ∀ (xs acc : List Int), Byt xs → acc.length + 4 * xs.length + 4 < 140737488355320 → Ev (fun k => sixty_Put.l0 k xs acc) (strOfNums (acc ++ enc xs))
  | [], acc, _, _ => Ev.step (f := fun _ => some (strOfNums acc)) (fun k => by simp only [sixty_Put.l0]; rw [if_neg (by simp)]) (by simpa [enc] using Ev.now _)
  | [a], acc, h, hl => by
    have ha := h.cons.1
    simp only [List.length_cons, List.length_nil] at hl
    refine Ev.step (f := fun k => sixty_Put.l1 k [a] acc 0 1 0) (fun k => by simp only [sixty_Put.l0]; rw [if_pos (by simp)]; rfl) ?_
    refine put_in (by omega) (by omega) (by omega) (by simp) (by omega) (by omega) (by rw [rd0]; omega) (by rw [rd0]; omega) ?_
    refine put_out (by omega) (by omega) (by omega) (by rw [rd0]; omega) (by rw [rd0]; omega) ?_
    refine put_out (by omega) (by omega) (by omega) (by rw [rd0]; omega) (by rw [rd0]; omega) ?_
    refine put_turn ?_
    rw [rd0]
    refine put_four 1 (by omega) (by omega) (by simp) (by omega) (by omega) (by omega) ?_
    have e1 : (0 * 256 + a) * 256 * 256 / 262144 = a / 4 := by omega
    have e2 : (0 * 256 + a) * 256 * 256 / 4096 % 64 = a % 4 * 16 := by omega
    rw [e1, e2]
    have := put_l0 [] (acc ++ [L (a / 4), L (a % 4 * 16), 61, 61]) .nil (by simp only [List.length_append, List.length_cons, List.length_nil]; omega)
    simpa [enc] using this
  | [a, b], acc, h, hl => by
    have ha := h.cons.1
    have hb := h.cons.2.cons.1
    simp only [List.length_cons, List.length_nil] at hl
    refine Ev.step (f := fun k => sixty_Put.l1 k [a, b] acc 0 2 0) (fun k => by simp only [sixty_Put.l0]; rw [if_pos (by simp)]; rfl) ?_
    refine put_in (by omega) (by omega) (by omega) (by simp) (by omega) (by omega) (by rw [rd0]; omega) (by rw [rd0]; omega) ?_
    refine put_in (by omega) (by omega) (by omega) (by simp) (by rw [rd0]; omega) (by rw [rd0]; omega) (by show 0 ≤ b; omega) (by show b < 256; omega) ?_
    refine put_out (by omega) (by omega) (by omega) (by show 0 ≤ (0 * 256 + a) * 256 + b; omega) (by show (0 * 256 + a) * 256 + b < _; omega) ?_
    refine put_turn ?_
    show Ev (fun k => sixty_Put.l2 k [a, b] acc (((0 * 256 + a) * 256 + b) * 256) ((2 : Nat) : Int) 0) _
    refine put_four 2 (by omega) (by omega) (by simp) (by omega) (by omega) (by omega) ?_
    have e1 : ((0 * 256 + a) * 256 + b) * 256 / 262144 = a / 4 := by omega
    have e2 : ((0 * 256 + a) * 256 + b) * 256 / 4096 % 64 = a % 4 * 16 + b / 16 := by omega
    have e3 : ((0 * 256 + a) * 256 + b) * 256 / 64 % 64 = b % 16 * 4 := by omega
    rw [e1, e2, e3]
    have := put_l0 [] (acc ++ [L (a / 4), L (a % 4 * 16 + b / 16), L (b % 16 * 4), 61]) .nil (by simp only [List.length_append, List.length_cons, List.length_nil]; omega)
    simpa [enc] using this
  | a :: b :: c :: t, acc, h, hl => by
    have ha := h.cons.1
    have hb := h.cons.2.cons.1
    have hc := h.cons.2.cons.2.cons.1
    simp only [List.length_cons] at hl
    refine Ev.step (f := fun k => sixty_Put.l1 k (a :: b :: c :: t) acc 0 3 0) (fun k => by
      simp only [sixty_Put.l0]
      rw [if_pos (by simp only [List.length_cons]; omega), show mn ((a :: b :: c :: t).length : Int) 3 = 3 by unfold mn; simp only [List.length_cons]; split <;> omega]) ?_
    refine put_in (by omega) (by omega) (by omega) (by simp only [List.length_cons]; omega) (by omega) (by omega) (by rw [rd0]; omega) (by rw [rd0]; omega) ?_
    refine put_in (by omega) (by omega) (by omega) (by simp only [List.length_cons]; omega) (by rw [rd0]; omega) (by rw [rd0]; omega) (by show 0 ≤ b; omega) (by show b < 256; omega) ?_
    refine put_in (by omega) (by omega) (by omega) (by simp only [List.length_cons]; omega) (by show 0 ≤ (0 * 256 + a) * 256 + b; omega) (by show (0 * 256 + a) * 256 + b < _; omega) (by show 0 ≤ c; omega) (by show c < 256; omega) ?_
    refine put_turn ?_
    show Ev (fun k => sixty_Put.l2 k (a :: b :: c :: t) acc (((0 * 256 + a) * 256 + b) * 256 + c) ((3 : Nat) : Int) 0) _
    refine put_four 3 (by omega) (by omega) (by simp only [List.length_cons]; omega) (by omega) (by omega) (by omega) ?_
    have e1 : (((0 * 256 + a) * 256 + b) * 256 + c) / 262144 = a / 4 := by omega
    have e2 : (((0 * 256 + a) * 256 + b) * 256 + c) / 4096 % 64 = a % 4 * 16 + b / 16 := by omega
    have e3 : (((0 * 256 + a) * 256 + b) * 256 + c) / 64 % 64 = b % 16 * 4 + c / 64 := by omega
    have e4 : (((0 * 256 + a) * 256 + b) * 256 + c) % 64 = c % 64 := by omega
    rw [e1, e2, e3, e4]
    have := put_l0 t (acc ++ [L (a / 4), L (a % 4 * 16 + b / 16), L (b % 16 * 4 + c / 64), L (c % 64)]) h.cons.2.cons.2.cons.2 (by simp only [List.length_append, List.length_cons, List.length_nil]; omega)
    simpa [enc, List.append_assoc] using this

theorem put_tells (xs : List Int) (h : Byt xs) (hl : xs.length ≤ 1000000) : Ev (fun k => sixty_Put.f k xs) (strOfNums (enc xs)) := by
  have := put_l0 xs [] h (by simp only [List.length_nil]; omega)
  simpa [sixty_Put.f] using this
/-! ### Get -/
theorem bytesOf_str {xs : List Int} (h : Byt xs) : bytesOf (strOfNums xs) = xs := by
  unfold bytesOf strOfNums
  simp only [List.map_map]
  conv => rhs; rw [← List.map_id xs]
  apply List.map_congr_left
  intro x hx
  have := h x hx
  simp only [Function.comp, UInt8.toNat_ofNat', id]
  omega
theorem bt_str {xs : List Int} (h : Byt xs) (i : Int) : bt (strOfNums xs) i = rd xs i := by
  rw [← rd_bytesOf, bytesOf_str h]
theorem bt_part {p t : List Int} (h : Byt (p ++ t)) (j : Nat) : bt (strOfNums (p ++ t)) ((p.length : Int) + j) = t.getD j 0 := by
  rw [bt_str h]
  unfold rd
  rw [show ((p.length : Int) + (j : Int)).toNat = p.length + j by omega, List.getD_eq_getElem?_getD, List.getD_eq_getElem?_getD, List.getElem?_append_right (by omega), Nat.add_sub_cancel_left]
theorem str_size (xs : List Int) : ((strOfNums xs).size : Int) = (xs.length : Int) := by rw [strOfNums_size]

theorem number_tells (c : Int) (h0 : 0 ≤ c) (h1 : c < 256) : Ev (fun k => sixty_number.f k c) (N c) := by
  refine ⟨3, fun k hk => ?_⟩
  obtain ⟨k, rfl⟩ : ∃ m, k = m + 3 := ⟨k - 3, by omega⟩
  unfold sixty_number.f N
  simp only [sixty_number.j0, sixty_number.j1, sixty_number.j2, decide_eq_true_eq, Bool.false_eq_true, if_false]
  repeat' split
  all_goals first | rfl | omega | (congr 1; done) | (congr 1; omega)

theorem get_far {s : ByteArray} {acc : List Int} {at_ n m : Int} {r : List Int × Int} (h0 : 0 ≤ at_) (h1 : at_ < 1000000) (hne : at_ + 4 ≠ (s.size : Int)) (h : Ev (fun k => sixty_Get.l2 k s acc at_ n m 0) r) :
    Ev (fun k => sixty_Get.l1 k s acc at_ n m) r := by
  by_cases hm : m > 2
  · refine Ev.step (f := fun k => sixty_Get.j2 k s acc at_ n m) (fun k => by simp only [sixty_Get.l1]; rw [if_pos hm, wr (n := at_ + 4) (by omega) (by omega), if_neg hne]) ?_
    exact Ev.step (fun k => by simp only [sixty_Get.j2]) h
  · refine Ev.step (f := fun k => sixty_Get.j2 k s acc at_ n m) (fun k => by simp only [sixty_Get.l1]; rw [if_neg hm]) ?_
    exact Ev.step (fun k => by simp only [sixty_Get.j2]) h
theorem get_two {s : ByteArray} {acc : List Int} {at_ n : Int} {r : List Int × Int} (h : Ev (fun k => sixty_Get.l2 k s acc at_ n 2 0) r) :
    Ev (fun k => sixty_Get.l1 k s acc at_ n 2) r := by
  refine Ev.step (f := fun k => sixty_Get.j2 k s acc at_ n 2) (fun k => by simp only [sixty_Get.l1]; rw [if_neg (by omega)]) ?_
  exact Ev.step (fun k => by simp only [sixty_Get.j2]) h
theorem get_sign {s : ByteArray} {acc : List Int} {at_ n m : Int} {r : List Int × Int} (h0 : 0 ≤ at_) (h1 : at_ < 1000000) (he : at_ + 4 = (s.size : Int)) (hm : m > 2) (hm4 : m ≤ 4) (hs : bt s (at_ + m - 1) = 61)
    (h : Ev (fun k => sixty_Get.l1 k s acc at_ n (m - 1)) r) : Ev (fun k => sixty_Get.l1 k s acc at_ n m) r :=
  Ev.step (fun k => by
    simp only [sixty_Get.l1]
    rw [if_pos hm, wr (n := at_ + 4) (by omega) (by omega), if_pos he, wr (n := at_ + m) (by omega) (by omega), wr (n := at_ + m - 1) (by omega) (by omega), if_pos (by omega), if_pos (by omega), if_pos hs, wr (n := m - 1) (by omega) (by omega)]) h
theorem get_nosign {s : ByteArray} {acc : List Int} {at_ n m : Int} {r : List Int × Int} (h0 : 0 ≤ at_) (h1 : at_ < 1000000) (he : at_ + 4 = (s.size : Int)) (hm : m > 2) (hm4 : m ≤ 4) (hs : bt s (at_ + m - 1) ≠ 61)
    (h : Ev (fun k => sixty_Get.l2 k s acc at_ n m 0) r) : Ev (fun k => sixty_Get.l1 k s acc at_ n m) r := by
  refine Ev.step (f := fun k => sixty_Get.j2 k s acc at_ n m) (fun k => by
    simp only [sixty_Get.l1]
    rw [if_pos hm, wr (n := at_ + 4) (by omega) (by omega), if_pos he, wr (n := at_ + m) (by omega) (by omega), wr (n := at_ + m - 1) (by omega) (by omega), if_pos (by omega), if_pos (by omega), if_neg hs]) ?_
  exact Ev.step (fun k => by simp only [sixty_Get.j2]) h

theorem get_num {s : ByteArray} {acc : List Int} {at_ n m i c : Int} {r : List Int × Int} (h0 : 0 ≤ at_) (h1 : at_ < 1000000) (hi0 : 0 ≤ i) (hi : i < 4) (him : i < m) (hs : at_ + i < (s.size : Int)) (hc : bt s (at_ + i) = c) (hN : 0 ≤ N c) (hn0 : 0 ≤ n) (hn : n < 262144)
    (h : Ev (fun k => sixty_Get.l2 k s acc at_ (n * 64 + N c) m (i + 1)) r) : Ev (fun k => sixty_Get.l2 k s acc at_ n m i) r := by
  have hb := bt_range s (at_ + i)
  have hr := N_range c
  apply Ev.step
  · intro k
    simp only [sixty_Get.l2]
    rw [if_pos hi, if_pos him, wr (n := at_ + i) (by omega) (by omega), if_pos (by omega), if_pos hs]
  · refine Ev.bind (number_tells _ (by omega) (by omega)) ?_
    refine Ev.congr (fun k => ?_) h
    rw [hc, if_neg (by omega), or6 hn0 (by omega) hN (by omega), wr (n := i + 1) (by omega) (by omega)]
theorem get_bad {s : ByteArray} {acc : List Int} {at_ n m i c : Int} (h0 : 0 ≤ at_) (h1 : at_ < 1000000) (hi0 : 0 ≤ i) (hi : i < 4) (him : i < m) (hs : at_ + i < (s.size : Int)) (hc : bt s (at_ + i) = c) (hN : ¬ 0 ≤ N c) :
    Ev (fun k => sixty_Get.l2 k s acc at_ n m i) (([] : List Int), 4) := by
  have hb := bt_range s (at_ + i)
  apply Ev.step
  · intro k
    simp only [sixty_Get.l2]
    rw [if_pos hi, if_pos him, wr (n := at_ + i) (by omega) (by omega), if_pos (by omega), if_pos hs]
  · refine Ev.bind (number_tells _ (by omega) (by omega)) ?_
    refine Ev.congr (fun k => ?_) (Ev.now _)
    rw [hc, if_pos (by omega)]
theorem get_skip {s : ByteArray} {acc : List Int} {at_ n m i : Int} {r : List Int × Int} (hi0 : 0 ≤ i) (hi : i < 4) (him : ¬ i < m) (hn0 : 0 ≤ n) (hn : n < 262144)
    (h : Ev (fun k => sixty_Get.l2 k s acc at_ (n * 64 + 0) m (i + 1)) r) : Ev (fun k => sixty_Get.l2 k s acc at_ n m i) r :=
  Ev.step (fun k => by
    simp only [sixty_Get.l2]
    rw [if_pos hi, if_neg him, or6 hn0 (by omega) (by omega) (by omega), wr (n := i + 1) (by omega) (by omega)]) h
theorem mask_at (m j : Nat) (hj : (j : Int) = 8 * (4 - m)) (hj2 : j ≤ 24) (n : Int) (h0 : 0 ≤ n) (h1 : n < 16777216) :
    Go.bits .and .i64 n (wrap64 (shl .i64 1 (wrap64 (8 * wrap64 (4 - (m : Int)))) - 1)) = n % 2 ^ j := by
  rw [wr (n := 4 - (m : Int)) (by omega) (by omega), wr (n := 8 * (4 - (m : Int))) (by omega) (by omega), ← hj]
  have hp : (2 : Int) ^ j ≤ 2 ^ 24 := by have := Nat.pow_le_pow_right (n := 2) (by omega) hj2; exact_mod_cast this
  have hp0 : (0 : Int) < 2 ^ j := Int.pow_pos (by omega)
  unfold shl
  rw [show ((j : Int)).toNat = j by omega, Nat.min_eq_left (show j ≤ IntKind.i64.bits by show j ≤ 64; omega), Int.one_mul, wraps_i64 _ (by omega) (by omega), wr (by omega) (by omega)]
  exact and_mod j (by omega) n h0 (by omega)
theorem get_full {s : ByteArray} {acc : List Int} {at_ n : Int} {r : List Int × Int} (m j : Nat) (hj : (j : Int) = 8 * (4 - m)) (hm : 1 ≤ m) (hj2 : j ≤ 24) (h0 : 0 ≤ n) (h1 : n < 16777216) (hz : n % 2 ^ j = 0)
    (h : Ev (fun k => sixty_Get.l3 k s acc at_ n ((m : Int) - 1) 0) r) : Ev (fun k => sixty_Get.l2 k s acc at_ n m 4) r :=
  Ev.step (fun k => by
    simp only [sixty_Get.l2]
    rw [if_neg (by omega), mask_at m j hj hj2 n h0 h1, if_pos hz, wr (n := (m : Int) - 1) (by omega) (by omega), if_pos]
    rw [wr (n := 4 - (m : Int)) (by omega) (by omega), wr (n := 8 * (4 - (m : Int))) (by omega) (by omega)]; omega) h
theorem get_loose {s : ByteArray} {acc : List Int} {at_ n : Int} (m j : Nat) (hj : (j : Int) = 8 * (4 - m)) (hm : 1 ≤ m) (hj2 : j ≤ 24) (h0 : 0 ≤ n) (h1 : n < 16777216) (hz : n % 2 ^ j ≠ 0) :
    Ev (fun k => sixty_Get.l2 k s acc at_ n m 4) (([] : List Int), 4) :=
  Ev.step (fun k => by
    simp only [sixty_Get.l2]
    rw [if_neg (by omega), mask_at m j hj hj2 n h0 h1, if_neg hz, if_pos]
    rw [wr (n := 4 - (m : Int)) (by omega) (by omega), wr (n := 8 * (4 - (m : Int))) (by omega) (by omega)]; omega) (Ev.now _)
theorem get_byte {s : ByteArray} {acc : List Int} {at_ n m i : Int} {r : List Int × Int} (j : Nat) (hj : (j : Int) = 16 - 8 * i) (hi0 : 0 ≤ i) (hi : i < m) (hm : m ≤ 3) (ha : acc.length < 140737488355328)
    (h : Ev (fun k => sixty_Get.l3 k s (acc ++ [n / 2 ^ j % 256]) at_ n m (i + 1)) r) : Ev (fun k => sixty_Get.l3 k s acc at_ n m i) r :=
  Ev.step (fun k => by
    simp only [sixty_Get.l3]
    rw [if_pos hi, wr (n := 8 * i) (by omega) (by omega), wr (n := 16 - 8 * i) (by omega) (by omega), if_pos (by omega), if_pos ha, ← hj, shr_at j (by show j ≤ 64; omega), wr (n := i + 1) (by omega) (by omega)]) h
theorem get_on {s : ByteArray} {acc : List Int} {at_ n m : Int} {r : List Int × Int} (h0 : 0 ≤ at_) (h1 : at_ < 1000000)
    (h : Ev (fun k => sixty_Get.l0 k s acc (at_ + 4)) r) : Ev (fun k => sixty_Get.l3 k s acc at_ n m m) r :=
  Ev.step (fun k => by simp only [sixty_Get.l3]; rw [if_neg (by omega), wr (n := at_ + 4) (by omega) (by omega)]) h

/-- Four letters that are bytes. -/
theorem get_four {s : ByteArray} {acc : List Int} {at_ a b c d : Int} {r : List Int × Int} (h0 : 0 ≤ at_) (h1 : at_ < 1000000) (hs : at_ + 4 ≤ (s.size : Int)) (hl : acc.length < 140737488355300)
    (ha : bt s (at_ + 0) = a) (hb : bt s (at_ + 1) = b) (hc : bt s (at_ + 2) = c) (hd : bt s (at_ + 3) = d)
    (na : 0 ≤ N a) (nb : 0 ≤ N b) (nc : 0 ≤ N c) (nd : 0 ≤ N d)
    (h : Ev (fun k => sixty_Get.l0 k s (acc ++ [N a * 4 + N b / 16, N b % 16 * 16 + N c / 4, N c % 4 * 64 + N d]) (at_ + 4)) r) :
    Ev (fun k => sixty_Get.l2 k s acc at_ 0 4 0) r := by
  have ra := N_range a
  have rb := N_range b
  have rc := N_range c
  have rd' := N_range d
  refine get_num h0 h1 (by omega) (by omega) (by omega) (by omega) ha na (by omega) (by omega) ?_
  refine get_num h0 h1 (by omega) (by omega) (by omega) (by omega) hb nb (by omega) (by omega) ?_
  refine get_num h0 h1 (by omega) (by omega) (by omega) (by omega) hc nc (by omega) (by omega) ?_
  refine get_num h0 h1 (by omega) (by omega) (by omega) (by omega) hd nd (by omega) (by omega) ?_
  refine get_full 4 0 (by omega) (by omega) (by omega) (by omega) (by omega) (by omega) ?_
  refine get_byte 16 (by omega) (by omega) (by omega) (by omega) (by omega) ?_
  refine get_byte 8 (by omega) (by omega) (by omega) (by omega) (by simp only [List.length_append, List.length_cons, List.length_nil]; omega) ?_
  refine get_byte 0 (by omega) (by omega) (by omega) (by omega) (by simp only [List.length_append, List.length_cons, List.length_nil]; omega) ?_
  refine get_on h0 h1 ?_
  have e1 : (((0 * 64 + N a) * 64 + N b) * 64 + N c) * 64 + N d = N a * 262144 + N b * 4096 + N c * 64 + N d := by omega
  rw [e1]
  have e2 : (N a * 262144 + N b * 4096 + N c * 64 + N d) / 2 ^ 16 % 256 = N a * 4 + N b / 16 := by omega
  have e3 : (N a * 262144 + N b * 4096 + N c * 64 + N d) / 2 ^ 8 % 256 = N b % 16 * 16 + N c / 4 := by omega
  have e4 : (N a * 262144 + N b * 4096 + N c * 64 + N d) / 2 ^ 0 % 256 = N c % 4 * 64 + N d := by omega
  rw [e2, e3, e4]
  simpa [List.append_assoc] using h
theorem get_three {s : ByteArray} {acc : List Int} {at_ a b c : Int} {r : List Int × Int} (h0 : 0 ≤ at_) (h1 : at_ < 1000000) (hs : at_ + 4 ≤ (s.size : Int)) (hl : acc.length < 140737488355300)
    (ha : bt s (at_ + 0) = a) (hb : bt s (at_ + 1) = b) (hc : bt s (at_ + 2) = c)
    (na : 0 ≤ N a) (nb : 0 ≤ N b) (nc : 0 ≤ N c) (hz : N c % 4 = 0)
    (h : Ev (fun k => sixty_Get.l0 k s (acc ++ [N a * 4 + N b / 16, N b % 16 * 16 + N c / 4]) (at_ + 4)) r) :
    Ev (fun k => sixty_Get.l2 k s acc at_ 0 3 0) r := by
  have ra := N_range a
  have rb := N_range b
  have rc := N_range c
  refine get_num h0 h1 (by omega) (by omega) (by omega) (by omega) ha na (by omega) (by omega) ?_
  refine get_num h0 h1 (by omega) (by omega) (by omega) (by omega) hb nb (by omega) (by omega) ?_
  refine get_num h0 h1 (by omega) (by omega) (by omega) (by omega) hc nc (by omega) (by omega) ?_
  refine get_skip (by omega) (by omega) (by omega) (by omega) (by omega) ?_
  refine get_full 3 8 (by omega) (by omega) (by omega) (by omega) (by omega) (by omega) ?_
  refine get_byte 16 (by omega) (by omega) (by omega) (by omega) (by omega) ?_
  refine get_byte 8 (by omega) (by omega) (by omega) (by omega) (by simp only [List.length_append, List.length_cons, List.length_nil]; omega) ?_
  refine get_on h0 h1 ?_
  have e1 : (((0 * 64 + N a) * 64 + N b) * 64 + N c) * 64 + 0 = N a * 262144 + N b * 4096 + N c * 64 := by omega
  rw [e1]
  have e2 : (N a * 262144 + N b * 4096 + N c * 64) / 2 ^ 16 % 256 = N a * 4 + N b / 16 := by omega
  have e3 : (N a * 262144 + N b * 4096 + N c * 64) / 2 ^ 8 % 256 = N b % 16 * 16 + N c / 4 := by omega
  rw [e2, e3]
  simpa [List.append_assoc] using h
theorem get_pair {s : ByteArray} {acc : List Int} {at_ a b : Int} {r : List Int × Int} (h0 : 0 ≤ at_) (h1 : at_ < 1000000) (hs : at_ + 4 ≤ (s.size : Int)) (hl : acc.length < 140737488355300)
    (ha : bt s (at_ + 0) = a) (hb : bt s (at_ + 1) = b)
    (na : 0 ≤ N a) (nb : 0 ≤ N b) (hz : N b % 16 = 0)
    (h : Ev (fun k => sixty_Get.l0 k s (acc ++ [N a * 4 + N b / 16]) (at_ + 4)) r) :
    Ev (fun k => sixty_Get.l2 k s acc at_ 0 2 0) r := by
  have ra := N_range a
  have rb := N_range b
  refine get_num h0 h1 (by omega) (by omega) (by omega) (by omega) ha na (by omega) (by omega) ?_
  refine get_num h0 h1 (by omega) (by omega) (by omega) (by omega) hb nb (by omega) (by omega) ?_
  refine get_skip (by omega) (by omega) (by omega) (by omega) (by omega) ?_
  refine get_skip (by omega) (by omega) (by omega) (by omega) (by omega) ?_
  refine get_full 2 16 (by omega) (by omega) (by omega) (by omega) (by omega) (by omega) ?_
  refine get_byte 16 (by omega) (by omega) (by omega) (by omega) (by omega) ?_
  refine get_on h0 h1 ?_
  have e2 : ((((0 * 64 + N a) * 64 + N b) * 64 + 0) * 64 + 0) / 2 ^ 16 % 256 = N a * 4 + N b / 16 := by omega
  rw [e2]
  exact h

/-- What Get tells of letters. -/
def told (acc s : List Int) : List Int × Int := match dec s with | none => ([], 4) | some o => (acc ++ o, 0)

theorem told_none {acc s : List Int} (h : dec s = none) : told acc s = ([], 4) := by unfold told; rw [h]
theorem told_some {acc s o : List Int} (h : dec s = some o) : told acc s = (acc ++ o, 0) := by unfold told; rw [h]

theorem get_l0 : ∀ (t p acc : List Int), Byt (p ++ t) → t.length % 4 = 0 → p.length + t.length ≤ 900000 → acc.length + t.length < 140737488355000 →
    Ev (fun k => sixty_Get.l0 k (strOfNums (p ++ t)) acc (p.length : Int)) (told acc t)
  | [], p, acc, _, _, _, _ => by
    refine Ev.step (f := fun _ => some (acc, 0)) (fun k => by simp only [sixty_Get.l0]; rw [if_neg (by rw [str_size]; simp)]) ?_
    rw [told_some (o := []) rfl, List.append_nil]
    exact Ev.now _
  | a :: b :: c :: d :: t, p, acc, hB, hl, hp, hc => by
    simp only [List.length_cons] at hl hp hc
    have hsz : ((strOfNums (p ++ a :: b :: c :: d :: t)).size : Int) = (p.length : Int) + 4 + (t.length : Int) := by rw [str_size]; simp only [List.length_append, List.length_cons]; omega
    have ea : bt (strOfNums (p ++ a :: b :: c :: d :: t)) ((p.length : Int) + 0) = a := bt_part hB 0
    have eb : bt (strOfNums (p ++ a :: b :: c :: d :: t)) ((p.length : Int) + 1) = b := bt_part hB 1
    have ec : bt (strOfNums (p ++ a :: b :: c :: d :: t)) ((p.length : Int) + 2) = c := bt_part hB 2
    have ed : bt (strOfNums (p ++ a :: b :: c :: d :: t)) ((p.length : Int) + 3) = d := bt_part hB 3
    have ih := fun acc' (h : acc'.length + t.length < 140737488355000) => get_l0 t (p ++ [a, b, c, d]) acc' (by simpa using hB) (by omega) (by simp only [List.length_append, List.length_cons, List.length_nil]; omega) h
    simp only [List.append_assoc, List.cons_append, List.nil_append] at ih
    have el : (((p ++ [a, b, c, d]).length : Nat) : Int) = (p.length : Int) + 4 := by simp only [List.length_append, List.length_cons, List.length_nil]; omega
    rw [el] at ih
    generalize hS : strOfNums (p ++ a :: b :: c :: d :: t) = S at *
    refine Ev.step (f := fun k => sixty_Get.l1 k S acc (p.length : Int) 0 4) (fun k => by simp only [sixty_Get.l0]; rw [if_pos (by omega)]) ?_
    have all4 : Ev (fun k => sixty_Get.l2 k S acc (p.length : Int) 0 4 0) (if 0 ≤ N a ∧ 0 ≤ N b ∧ 0 ≤ N c ∧ 0 ≤ N d then told (acc ++ [N a * 4 + N b / 16, N b % 16 * 16 + N c / 4, N c % 4 * 64 + N d]) t else ([], 4)) := by
      have ra := N_range a
      have rb := N_range b
      have rc := N_range c
      have rd' := N_range d
      by_cases na : 0 ≤ N a
      · by_cases nb : 0 ≤ N b
        · by_cases nc : 0 ≤ N c
          · by_cases nd : 0 ≤ N d
            · rw [if_pos ⟨na, nb, nc, nd⟩]
              exact get_four (by omega) (by omega) (by omega) (by omega) ea eb ec ed na nb nc nd (ih _ (by simp only [List.length_append, List.length_cons, List.length_nil]; omega))
            · rw [if_neg (fun q => nd q.2.2.2)]
              refine get_num (by omega) (by omega) (by omega) (by omega) (by omega) (by omega) ea na (by omega) (by omega) ?_
              refine get_num (by omega) (by omega) (by omega) (by omega) (by omega) (by omega) eb nb (by omega) (by omega) ?_
              refine get_num (by omega) (by omega) (by omega) (by omega) (by omega) (by omega) ec nc (by omega) (by omega) ?_
              exact get_bad (by omega) (by omega) (by omega) (by omega) (by omega) (by omega) ed nd
          · rw [if_neg (fun q => nc q.2.2.1)]
            refine get_num (by omega) (by omega) (by omega) (by omega) (by omega) (by omega) ea na (by omega) (by omega) ?_
            refine get_num (by omega) (by omega) (by omega) (by omega) (by omega) (by omega) eb nb (by omega) (by omega) ?_
            exact get_bad (by omega) (by omega) (by omega) (by omega) (by omega) (by omega) ec nc
        · rw [if_neg (fun q => nb q.2.1)]
          refine get_num (by omega) (by omega) (by omega) (by omega) (by omega) (by omega) ea na (by omega) (by omega) ?_
          exact get_bad (by omega) (by omega) (by omega) (by omega) (by omega) (by omega) eb nb
      · rw [if_neg (fun q => na q.1)]
        exact get_bad (by omega) (by omega) (by omega) (by omega) (by omega) (by omega) ea na
    by_cases ht : t = []
    · subst ht
      simp only [List.length_nil] at hsz
      have hend : (p.length : Int) + 4 = (S.size : Int) := by omega
      have r0 : ∀ o, told (acc ++ o) [] = (acc ++ o, 0) := fun o => by rw [told_some (o := []) rfl, List.append_nil]
      have hdec : told acc [a, b, c, d] = (match dec4 a b c d with | none => ([], 4) | some o => (acc ++ o, 0)) := by simp [told, dec]
      rw [hdec]
      unfold dec4
      by_cases hd : d = 61
      · rw [if_pos hd]
        refine get_sign (by omega) (by omega) hend (by omega) (by omega) (by rw [show (p.length : Int) + 4 - 1 = (p.length : Int) + 3 by omega, ed, hd]) ?_
        by_cases hc' : c = 61
        · rw [if_pos hc']
          refine get_sign (by omega) (by omega) hend (by omega) (by omega) (by rw [show (p.length : Int) + (4 - 1) - 1 = (p.length : Int) + 2 by omega, ec, hc']) ?_
          refine get_two ?_
          have ra := N_range a
          have rb := N_range b
          by_cases na : 0 ≤ N a
          · by_cases nb : 0 ≤ N b
            · by_cases hz : N b % 16 = 0
              · rw [if_pos ⟨na, nb, hz⟩]
                refine get_pair (by omega) (by omega) (by omega) (by omega) ea eb na nb hz ?_
                have := ih (acc ++ [N a * 4 + N b / 16]) (by simp only [List.length_append, List.length_cons, List.length_nil]; omega)
                rw [r0] at this
                exact this
              · rw [if_neg (fun q => hz q.2.2)]
                refine get_num (by omega) (by omega) (by omega) (by omega) (by omega) (by omega) ea na (by omega) (by omega) ?_
                refine get_num (by omega) (by omega) (by omega) (by omega) (by omega) (by omega) eb nb (by omega) (by omega) ?_
                refine get_skip (by omega) (by omega) (by omega) (by omega) (by omega) ?_
                refine get_skip (by omega) (by omega) (by omega) (by omega) (by omega) ?_
                exact get_loose 2 16 (by omega) (by omega) (by omega) (by omega) (by omega) (by omega)
            · rw [if_neg (fun q => nb q.2.1)]
              refine get_num (by omega) (by omega) (by omega) (by omega) (by omega) (by omega) ea na (by omega) (by omega) ?_
              exact get_bad (by omega) (by omega) (by omega) (by omega) (by omega) (by omega) eb nb
          · rw [if_neg (fun q => na q.1)]
            exact get_bad (by omega) (by omega) (by omega) (by omega) (by omega) (by omega) ea na
        · rw [if_neg hc']
          refine get_nosign (by omega) (by omega) hend (by omega) (by omega) (by rw [show (p.length : Int) + (4 - 1) - 1 = (p.length : Int) + 2 by omega, ec]; exact hc') ?_
          show Ev (fun k => sixty_Get.l2 k S acc (p.length : Int) 0 3 0) _
          have ra := N_range a
          have rb := N_range b
          have rc := N_range c
          by_cases na : 0 ≤ N a
          · by_cases nb : 0 ≤ N b
            · by_cases nc : 0 ≤ N c
              · by_cases hz : N c % 4 = 0
                · rw [if_pos ⟨na, nb, nc, hz⟩]
                  refine get_three (by omega) (by omega) (by omega) (by omega) ea eb ec na nb nc hz ?_
                  have := ih (acc ++ [N a * 4 + N b / 16, N b % 16 * 16 + N c / 4]) (by simp only [List.length_append, List.length_cons, List.length_nil]; omega)
                  rw [r0] at this
                  exact this
                · rw [if_neg (fun q => hz q.2.2.2)]
                  refine get_num (by omega) (by omega) (by omega) (by omega) (by omega) (by omega) ea na (by omega) (by omega) ?_
                  refine get_num (by omega) (by omega) (by omega) (by omega) (by omega) (by omega) eb nb (by omega) (by omega) ?_
                  refine get_num (by omega) (by omega) (by omega) (by omega) (by omega) (by omega) ec nc (by omega) (by omega) ?_
                  refine get_skip (by omega) (by omega) (by omega) (by omega) (by omega) ?_
                  exact get_loose 3 8 (by omega) (by omega) (by omega) (by omega) (by omega) (by omega)
              · rw [if_neg (fun q => nc q.2.2.1)]
                refine get_num (by omega) (by omega) (by omega) (by omega) (by omega) (by omega) ea na (by omega) (by omega) ?_
                refine get_num (by omega) (by omega) (by omega) (by omega) (by omega) (by omega) eb nb (by omega) (by omega) ?_
                exact get_bad (by omega) (by omega) (by omega) (by omega) (by omega) (by omega) ec nc
            · rw [if_neg (fun q => nb q.2.1)]
              refine get_num (by omega) (by omega) (by omega) (by omega) (by omega) (by omega) ea na (by omega) (by omega) ?_
              exact get_bad (by omega) (by omega) (by omega) (by omega) (by omega) (by omega) eb nb
          · rw [if_neg (fun q => na q.1)]
            exact get_bad (by omega) (by omega) (by omega) (by omega) (by omega) (by omega) ea na
      · rw [if_neg hd]
        refine get_nosign (by omega) (by omega) hend (by omega) (by omega) (by rw [show (p.length : Int) + 4 - 1 = (p.length : Int) + 3 by omega, ed]; exact hd) ?_
        by_cases q : 0 ≤ N a ∧ 0 ≤ N b ∧ 0 ≤ N c ∧ 0 ≤ N d
        · rw [if_pos q, r0] at all4
          rw [if_pos q]; exact all4
        · rw [if_neg q] at all4
          rw [if_neg q]; exact all4
    · have hpos : 0 < t.length := List.length_pos_iff.2 ht
      refine get_far (by omega) (by omega) (by omega) ?_
      have : told acc (a :: b :: c :: d :: t) = (if 0 ≤ N a ∧ 0 ≤ N b ∧ 0 ≤ N c ∧ 0 ≤ N d then told (acc ++ [N a * 4 + N b / 16, N b % 16 * 16 + N c / 4, N c % 4 * 64 + N d]) t else ([], 4)) := by
        unfold told
        simp only [dec, if_neg ht]
        by_cases q : 0 ≤ N a ∧ 0 ≤ N b ∧ 0 ≤ N c ∧ 0 ≤ N d
        · rw [if_pos q, if_pos q]
          cases dec t with
          | none => rfl
          | some o => simp
        · rw [if_neg q, if_neg q]
      rw [this]; exact all4
  | [_], _, _, _, h, _, _ => by simp at h
  | [_, _], _, _, _, h, _, _ => by simp at h
  | [_, _, _], _, _, _, h, _, _ => by simp at h

theorem get_tells (xs : List Int) (h : Byt xs) (hl : xs.length ≤ 800000) : Ev (fun k => sixty_Get.f k (strOfNums xs)) (if xs.length % 4 = 0 then told [] xs else ([], 3)) := by
  unfold sixty_Get.f
  by_cases h4 : xs.length % 4 = 0
  · rw [if_pos h4]
    refine Ev.congr (fun k => by rw [if_pos (by rw [str_size]; omega)]) ?_
    exact get_l0 xs [] [] h h4 (by simp only [List.length_nil]; omega) (by simp only [List.length_nil]; omega)
  · rw [if_neg h4]
    exact Ev.congr (fun k => by rw [if_neg (by rw [str_size]; omega)]) (Ev.now _)
/-! ### The reference: bits, numbers out of bits, Put -/






/-- The number at a place of bits: 0 or 1. -/
def bv (l : List Bool) (p : Int) : Int := if p < (l.length : Int) ∧ rdOf false l p = true then 1 else 0


/-- Six bits as a number; eight. -/
def six (l : List Bool) (a : Int) : Int := 32 * bv l a + 16 * bv l (a + 1) + 8 * bv l (a + 2) + 4 * bv l (a + 3) + 2 * bv l (a + 4) + bv l (a + 5)
def eight (l : List Bool) (a : Int) : Int := 128 * bv l a + 64 * bv l (a + 1) + 32 * bv l (a + 2) + 16 * bv l (a + 3) + 8 * bv l (a + 4) + 4 * bv l (a + 5) + 2 * bv l (a + 6) + bv l (a + 7)









/-! ### The reference's Get -/


















/-! ### Same -/

/-! ### works -/
end Go.Proofs.YtjkehapbemjnpaaDoor.TellS
