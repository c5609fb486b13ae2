/- What the program's and the reference's letters and numbers come to, in plain words; no condition beside those in each theorem. -/
import Derived.Test.YtjkehapbemjnpaaDoorVLx2
import Derived.Test.YtjkehapbemjnpaaDoorVLx1
import Derived.Test.YtjkehapbemjnpaaDoorVKit
namespace Go.Proofs.YtjkehapbemjnpaaDoor.TellS
open Go.RowKit Go.Proofs.YtjkehapbemjnpaaDoor.Lf Go.Proofs.YtjkehapbemjnpaaDoorW.PrintWords Go.Proofs.YtjkehapbemjnpaaDoorW.PrintLast Go.Proofs.YtjkehapbemjnpaaDoor.Six
set_option linter.unusedVariables false
set_option linter.unusedSimpArgs false
theorem wraps_i64 (n : Int) (h₀ : 0 ≤ n) (h₁ : n < 2 ^ 62) : IntKind.i64.wrap n = n := by rw [IntKind.wrap_i64]; omega
theorem or_add (i : Nat) (x y : Int) (hx₀ : 0 ≤ x) (hx : x % 2 ^ i = 0) (hx₁ : x < 2 ^ 62) (hy₀ : 0 ≤ y) (hy : y < 2 ^ i) (hy₁ : y < 2 ^ 62) : Go.bits .or .i64 x y = x + y :=
 bits_join .i64 62 (by decide) wraps_i64 i x y hx₀ hx hx₁ hy₀ hy hy₁
theorem and_mod (i : Nat) (hi : i ≤ 62) (x : Int) (h₀ : 0 ≤ x) (h₁ : x < 2 ^ 62) : Go.bits .and .i64 x (2 ^ i - 1) = x % 2 ^ i :=
 bits_mask .i64 62 (by decide) wraps_i64 i hi x h₀ h₁
theorem wr {n : Int} (h0 : -9223372036854775808 ≤ n) (h1 : n ≤ 9223372036854775807) : wrap64 n = n := by unfold wrap64; omega
theorem or8 {x y : Int} (hx : 0 ≤ x) (hx1 : x < 16777216) (hy : 0 ≤ y) (hy1 : y < 256) : Go.bits .or .i64 (wrap64 (x * 256)) (wrap64 y) = x * 256 + y := by
 rw [wr (by omega) (by omega), wr (by omega) (by omega)]
 exact or_add 8 _ _ (by omega) (by omega) (by omega) hy (by omega) (by omega)
theorem or6 {x y : Int} (hx : 0 ≤ x) (hx1 : x < 16777216) (hy : 0 ≤ y) (hy1 : y < 64) : Go.bits .or .i64 (wrap64 (x * 64)) y = x * 64 + y := by
 rw [wr (by omega) (by omega)]
 exact or_add 6 _ _ (by omega) (by omega) (by omega) hy (by omega) (by omega)
theorem and63 {x : Int} (hx : 0 ≤ x) (hx1 : x < 1073741824) : Go.bits .and .i64 x 63 = x % 64 := and_mod 6 (by decide) x hx (by omega)
theorem shr_at {k : IntKind} (j : Nat) (hj : j ≤ k.bits) (x : Int) : shr k x (j : Int) = x / 2 ^ j := by
 unfold shr; rw [show ((j : Int)).toNat = j by omega, Nat.min_eq_left hj]
theorem letter_some {n : Int} (h0 : 0 ≤ n) (h1 : n < 64) : sixty_letter.f n = some (L n) := by
 unfold sixty_letter.f L
 split
 ·rw [show wrap32 n = n by unfold wrap32; omega]; congr 1; unfold wrap32; omega
 ·split
  ·rw [wr (by omega) (by omega), show wrap32 (n - 26) = n - 26 by unfold wrap32; omega]; congr 1; unfold wrap32; omega
  ·split
   ·rw [wr (by omega) (by omega), show wrap32 (n - 52) = n - 52 by unfold wrap32; omega]; congr 1; unfold wrap32; omega
   ·split <;> rfl
theorem put_in {xs acc : List Int} {n m i : Int} {r : ByteArray} (hi0 : 0 ≤ i) (hi : i < 3) (him : i < m) (hl : i < (xs.length : Int)) (hn0 : 0 ≤ n) (hn : n < 65536) (hb0 : 0 ≤ rd xs i) (hb : rd xs i < 256)
  (h : Ev (fun k => sixty_Put.l1 k xs acc (n * 256 + rd xs i) m (i + 1)) r) : Ev (fun k => sixty_Put.l1 k xs acc n m i) r :=
 Ev.step (fun k => by simp only [sixty_Put.l1]; rw [if_pos hi, if_pos him, if_pos hi0, if_pos hl, or8 hn0 (by omega) hb0 hb, wr (n := i + 1) (by omega) (by omega)]) h
theorem put_out {xs acc : List Int} {n m i : Int} {r : ByteArray} (hi0 : 0 ≤ i) (hi : i < 3) (him : ¬ i < m) (hn0 : 0 ≤ n) (hn : n < 65536)
  (h : Ev (fun k => sixty_Put.l1 k xs acc (n * 256) m (i + 1)) r) : Ev (fun k => sixty_Put.l1 k xs acc n m i) r :=
 Ev.step (fun k => by simp only [sixty_Put.l1]; rw [if_pos hi, if_neg him, wr (n := n * 256) (by omega) (by omega), wr (n := i + 1) (by omega) (by omega)]) h
theorem put_turn {xs acc : List Int} {n m : Int} {r : ByteArray}
  (h : Ev (fun k => sixty_Put.l2 k xs acc n m 0) r) : Ev (fun k => sixty_Put.l1 k xs acc n m 3) r :=
 Ev.step (fun k => by simp only [sixty_Put.l1]; rw [if_neg (by omega)]) h
theorem put_sign {xs acc : List Int} {n m i : Int} {r : ByteArray} (hi0 : 0 ≤ i) (hi : i < 4) (him : i > m) (ha : acc.length < 140737488355328)
  (h : Ev (fun k => sixty_Put.l2 k xs (acc ++ [61]) n m (i + 1)) r) : Ev (fun k => sixty_Put.l2 k xs acc n m i) r :=
 Ev.step (fun k => by simp only [sixty_Put.l2]; rw [if_pos hi, if_pos him, if_pos ha, wr (n := i + 1) (by omega) (by omega)]) h
theorem put_letter {xs acc : List Int} {n m i : Int} {r : ByteArray} (j : Nat) (hi0 : 0 ≤ i) (hi : i < 4) (hj : (j : Int) = 18 - 6 * i) (him : ¬ i > m) (ha : acc.length < 140737488355328) (hn0 : 0 ≤ n) (hn : n < 16777216)
  (h : Ev (fun k => sixty_Put.l2 k xs (acc ++ [L (n / 2 ^ j % 64)]) n m (i + 1)) r) : Ev (fun k => sixty_Put.l2 k xs acc n m i) r :=
 Ev.step (fun k => by
  simp only [sixty_Put.l2]
  have e : wrap64 (18 - wrap64 (6 * i)) = (j : Int) := by rw [wr (n := 6 * i) (by omega) (by omega), wr (by omega) (by omega), hj]
  have q0 : 0 ≤ n / 2 ^ j := Int.ediv_nonneg hn0 (Int.le_of_lt (Int.pow_pos (by omega)))
  have q1 : n / 2 ^ j ≤ n := Int.ediv_le_self _ hn0
  rw [if_pos hi, if_neg him, e, if_pos (by omega), shr_at j (by show j ≤ 64; omega), and63 q0 (by omega), letter_some (by omega) (by omega)]
  simp only [Option.bind_some]
  rw [if_pos ha, wr (n := i + 1) (by omega) (by omega)]) h
theorem put_round {xs acc : List Int} {n m : Int} {r : ByteArray} (hm : 0 ≤ m) (hl : m ≤ (xs.length : Int))
  (h : Ev (fun k => sixty_Put.l0 k (xs.drop m.toNat) acc) r) : Ev (fun k => sixty_Put.l2 k xs acc n m 4) r :=
 Ev.step (fun k => by simp only [sixty_Put.l2]; rw [if_neg (by omega), if_pos hm, if_pos hl]) h
theorem put_four {xs acc : List Int} {n : Int} {r : ByteArray} (m : Nat) (hm : 1 ≤ m) (hm3 : m ≤ 3) (hl : m ≤ xs.length) (ha : acc.length < 140737488355324) (hn0 : 0 ≤ n) (hn : n < 16777216)
  (h : Ev (fun k => sixty_Put.l0 k (xs.drop m) (acc ++ [L (n / 262144), L (n / 4096 % 64), if m ≤ 1 then 61 else L (n / 64 % 64), if m ≤ 2 then 61 else L (n % 64)])) r) :
  Ev (fun k => sixty_Put.l2 k xs acc n m 0) r := by
 refine put_letter 18 (by omega) (by omega) (by omega) (by omega) (by omega) hn0 hn ?_
 refine put_letter 12 (by omega) (by omega) (by omega) (by omega) (by simp only [List.length_append, List.length_cons, List.length_nil]; omega) hn0 hn ?_
 by_cases h1 : m ≤ 1
 ·refine put_sign (by omega) (by omega) (by omega) (by simp only [List.length_append, List.length_cons, List.length_nil]; omega) ?_
  refine put_sign (by omega) (by omega) (by omega) (by simp only [List.length_append, List.length_cons, List.length_nil]; omega) ?_
  refine put_round (by omega) (by omega) ?_
  rw [if_pos h1, if_pos (by omega)] at h
  have e : n / 262144 % 64 = n / 262144 := by omega
  simpa [e, List.append_assoc] using h
 ·refine put_letter 6 (by omega) (by omega) (by omega) (by omega) (by simp only [List.length_append, List.length_cons, List.length_nil]; omega) hn0 hn ?_
  by_cases h2 : m ≤ 2
  ·refine put_sign (by omega) (by omega) (by omega) (by simp only [List.length_append, List.length_cons, List.length_nil]; omega) ?_
   refine put_round (by omega) (by omega) ?_
   rw [if_neg h1, if_pos h2] at h
   have e : n / 262144 % 64 = n / 262144 := by omega
   simpa [e, List.append_assoc] using h
  ·refine put_letter 0 (by omega) (by omega) (by omega) (by omega) (by simp only [List.length_append, List.length_cons, List.length_nil]; omega) hn0 hn ?_
   refine put_round (by omega) (by omega) ?_
   rw [if_neg h1, if_neg h2] at h
   have e : n / 262144 % 64 = n / 262144 := by omega
   simpa [e, List.append_assoc] using h
theorem rd0 (a : Int) (r : List Int) : rd (a :: r) 0 = a := rfl
theorem put_l0 : ∀ (xs acc : List Int), Byt xs → acc.length + 4 * xs.length + 4 < 140737488355320 → Ev (fun k => sixty_Put.l0 k xs acc) (strOfNums (acc ++ enc xs))
 | [], acc, _, _ => Ev.step (f := fun _ => some (strOfNums acc)) (fun k => by simp only [sixty_Put.l0]; rw [if_neg (by simp)]) (by simpa [enc] using Ev.now _)
 | [a], acc, h, hl => by
  have ha := h.cons.1
  simp only [List.length_cons, List.length_nil] at hl
  refine Ev.step (f := fun k => sixty_Put.l1 k [a] acc 0 1 0) (fun k => by simp only [sixty_Put.l0]; rw [if_pos (by simp)]; rfl) ?_
  refine put_in (by omega) (by omega) (by omega) (by simp) (by omega) (by omega) (by rw [rd0]; omega) (by rw [rd0]; omega) ?_
  refine put_out (by omega) (by omega) (by omega) (by rw [rd0]; omega) (by rw [rd0]; omega) ?_
  refine put_out (by omega) (by omega) (by omega) (by rw [rd0]; omega) (by rw [rd0]; omega) ?_
  refine put_turn ?_
  rw [rd0]
  refine put_four 1 (by omega) (by omega) (by simp) (by omega) (by omega) (by omega) ?_
  have e1 : (0 * 256 + a) * 256 * 256 / 262144 = a / 4 := by omega
  have e2 : (0 * 256 + a) * 256 * 256 / 4096 % 64 = a % 4 * 16 := by omega
  rw [e1, e2]
  have := put_l0 [] (acc ++ [L (a / 4), L (a % 4 * 16), 61, 61]) .nil (by simp only [List.length_append, List.length_cons, List.length_nil]; omega)
  simpa [enc] using this
 | [a, b], acc, h, hl => by
  have ha := h.cons.1
  have hb := h.cons.2.cons.1
  simp only [List.length_cons, List.length_nil] at hl
  refine Ev.step (f := fun k => sixty_Put.l1 k [a, b] acc 0 2 0) (fun k => by simp only [sixty_Put.l0]; rw [if_pos (by simp)]; rfl) ?_
  refine put_in (by omega) (by omega) (by omega) (by simp) (by omega) (by omega) (by rw [rd0]; omega) (by rw [rd0]; omega) ?_
  refine put_in (by omega) (by omega) (by omega) (by simp) (by rw [rd0]; omega) (by rw [rd0]; omega) (by show 0 ≤ b; omega) (by show b < 256; omega) ?_
  refine put_out (by omega) (by omega) (by omega) (by show 0 ≤ (0 * 256 + a) * 256 + b; omega) (by show (0 * 256 + a) * 256 + b < _; omega) ?_
  refine put_turn ?_
  show Ev (fun k => sixty_Put.l2 k [a, b] acc (((0 * 256 + a) * 256 + b) * 256) ((2 : Nat) : Int) 0) _
  refine put_four 2 (by omega) (by omega) (by simp) (by omega) (by omega) (by omega) ?_
  have e1 : ((0 * 256 + a) * 256 + b) * 256 / 262144 = a / 4 := by omega
  have e2 : ((0 * 256 + a) * 256 + b) * 256 / 4096 % 64 = a % 4 * 16 + b / 16 := by omega
  have e3 : ((0 * 256 + a) * 256 + b) * 256 / 64 % 64 = b % 16 * 4 := by omega
  rw [e1, e2, e3]
  have := put_l0 [] (acc ++ [L (a / 4), L (a % 4 * 16 + b / 16), L (b % 16 * 4), 61]) .nil (by simp only [List.length_append, List.length_cons, List.length_nil]; omega)
  simpa [enc] using this
 | a :: b :: c :: t, acc, h, hl => by
  have ha := h.cons.1
  have hb := h.cons.2.cons.1
  have hc := h.cons.2.cons.2.cons.1
  simp only [List.length_cons] at hl
  refine Ev.step (f := fun k => sixty_Put.l1 k (a :: b :: c :: t) acc 0 3 0) (fun k => by
   simp only [sixty_Put.l0]
   rw [if_pos (by simp only [List.length_cons]; omega), show mn ((a :: b :: c :: t).length : Int) 3 = 3 by unfold mn; simp only [List.length_cons]; split <;> omega]) ?_
  refine put_in (by omega) (by omega) (by omega) (by simp only [List.length_cons]; omega) (by omega) (by omega) (by rw [rd0]; omega) (by rw [rd0]; omega) ?_
  refine put_in (by omega) (by omega) (by omega) (by simp only [List.length_cons]; omega) (by rw [rd0]; omega) (by rw [rd0]; omega) (by show 0 ≤ b; omega) (by show b < 256; omega) ?_
  refine put_in (by omega) (by omega) (by omega) (by simp only [List.length_cons]; omega) (by show 0 ≤ (0 * 256 + a) * 256 + b; omega) (by show (0 * 256 + a) * 256 + b < _; omega) (by show 0 ≤ c; omega) (by show c < 256; omega) ?_
  refine put_turn ?_
  show Ev (fun k => sixty_Put.l2 k (a :: b :: c :: t) acc (((0 * 256 + a) * 256 + b) * 256 + c) ((3 : Nat) : Int) 0) _
  refine put_four 3 (by omega) (by omega) (by simp only [List.length_cons]; omega) (by omega) (by omega) (by omega) ?_
  have e1 : (((0 * 256 + a) * 256 + b) * 256 + c) / 262144 = a / 4 := by omega
  have e2 : (((0 * 256 + a) * 256 + b) * 256 + c) / 4096 % 64 = a % 4 * 16 + b / 16 := by omega
  have e3 : (((0 * 256 + a) * 256 + b) * 256 + c) / 64 % 64 = b % 16 * 4 + c / 64 := by omega
  have e4 : (((0 * 256 + a) * 256 + b) * 256 + c) % 64 = c % 64 := by omega
  rw [e1, e2, e3, e4]
  have := put_l0 t (acc ++ [L (a / 4), L (a % 4 * 16 + b / 16), L (b % 16 * 4 + c / 64), L (c % 64)]) h.cons.2.cons.2.cons.2 (by simp only [List.length_append, List.length_cons, List.length_nil]; omega)
  simpa [enc, List.append_assoc] using this
theorem put_tells (xs : List Int) (h : Byt xs) (hl : xs.length ≤ 1000000) : Ev (fun k => sixty_Put.f k xs) (strOfNums (enc xs)) := by
 have := put_l0 xs [] h (by simp only [List.length_nil]; omega)
 simpa [sixty_Put.f] using this
theorem bytesOf_str {xs : List Int} (h : Byt xs) : bytesOf (strOfNums xs) = xs := by
 unfold bytesOf strOfNums
 simp only [List.map_map]
 conv => rhs; rw [← List.map_id xs]
 apply List.map_congr_left
 intro x hx
 have := h x hx
 simp only [Function.comp, UInt8.toNat_ofNat', id]
 omega
theorem bt_str {xs : List Int} (h : Byt xs) (i : Int) : bt (strOfNums xs) i = rd xs i := by
 rw [← rd_bytesOf, bytesOf_str h]
theorem bt_part {p t : List Int} (h : Byt (p ++ t)) (j : Nat) : bt (strOfNums (p ++ t)) ((p.length : Int) + j) = t.getD j 0 := by
 rw [bt_str h]
 unfold rd
 rw [show ((p.length : Int) + (j : Int)).toNat = p.length + j by omega, List.getD_eq_getElem?_getD, List.getD_eq_getElem?_getD, List.getElem?_append_right (by omega), Nat.add_sub_cancel_left]
theorem str_size (xs : List Int) : ((strOfNums xs).size : Int) = (xs.length : Int) := by rw [strOfNums_size]
theorem number_tells (c : Int) (h0 : 0 ≤ c) (h1 : c < 256) : Ev (fun k => sixty_number.f k c) (N c) := by
 refine ⟨3, fun k hk => ?_⟩
 obtain ⟨k, rfl⟩ : ∃ m, k = m + 3 := ⟨k - 3, by omega⟩
 unfold sixty_number.f N
 simp only [sixty_number.j0, sixty_number.j1, sixty_number.j2, decide_eq_true_eq, Bool.false_eq_true, if_false]
 repeat' split
 all_goals first | rfl | omega | (congr 1; done) | (congr 1; omega)
theorem get_far {s : ByteArray} {acc : List Int} {at_ n m : Int} {r : List Int × Int} (h0 : 0 ≤ at_) (h1 : at_ < 1000000) (hne : at_ + 4 ≠ (s.size : Int)) (h : Ev (fun k => sixty_Get.l2 k s acc at_ n m 0) r) :
  Ev (fun k => sixty_Get.l1 k s acc at_ n m) r := by
 by_cases hm : m > 2
 ·refine Ev.step (f := fun k => sixty_Get.j2 k s acc at_ n m) (fun k => by simp only [sixty_Get.l1]; rw [if_pos hm, wr (n := at_ + 4) (by omega) (by omega), if_neg hne]) ?_
  exact Ev.step (fun k => by simp only [sixty_Get.j2]) h
 ·refine Ev.step (f := fun k => sixty_Get.j2 k s acc at_ n m) (fun k => by simp only [sixty_Get.l1]; rw [if_neg hm]) ?_
  exact Ev.step (fun k => by simp only [sixty_Get.j2]) h
theorem get_two {s : ByteArray} {acc : List Int} {at_ n : Int} {r : List Int × Int} (h : Ev (fun k => sixty_Get.l2 k s acc at_ n 2 0) r) :
  Ev (fun k => sixty_Get.l1 k s acc at_ n 2) r := by
 refine Ev.step (f := fun k => sixty_Get.j2 k s acc at_ n 2) (fun k => by simp only [sixty_Get.l1]; rw [if_neg (by omega)]) ?_
 exact Ev.step (fun k => by simp only [sixty_Get.j2]) h
theorem get_sign {s : ByteArray} {acc : List Int} {at_ n m : Int} {r : List Int × Int} (h0 : 0 ≤ at_) (h1 : at_ < 1000000) (he : at_ + 4 = (s.size : Int)) (hm : m > 2) (hm4 : m ≤ 4) (hs : bt s (at_ + m - 1) = 61)
  (h : Ev (fun k => sixty_Get.l1 k s acc at_ n (m - 1)) r) : Ev (fun k => sixty_Get.l1 k s acc at_ n m) r :=
 Ev.step (fun k => by
  simp only [sixty_Get.l1]
  rw [if_pos hm, wr (n := at_ + 4) (by omega) (by omega), if_pos he, wr (n := at_ + m) (by omega) (by omega), wr (n := at_ + m - 1) (by omega) (by omega), if_pos (by omega), if_pos (by omega), if_pos hs, wr (n := m - 1) (by omega) (by omega)]) h
theorem get_nosign {s : ByteArray} {acc : List Int} {at_ n m : Int} {r : List Int × Int} (h0 : 0 ≤ at_) (h1 : at_ < 1000000) (he : at_ + 4 = (s.size : Int)) (hm : m > 2) (hm4 : m ≤ 4) (hs : bt s (at_ + m - 1) ≠ 61)
  (h : Ev (fun k => sixty_Get.l2 k s acc at_ n m 0) r) : Ev (fun k => sixty_Get.l1 k s acc at_ n m) r := by
 refine Ev.step (f := fun k => sixty_Get.j2 k s acc at_ n m) (fun k => by
  simp only [sixty_Get.l1]
  rw [if_pos hm, wr (n := at_ + 4) (by omega) (by omega), if_pos he, wr (n := at_ + m) (by omega) (by omega), wr (n := at_ + m - 1) (by omega) (by omega), if_pos (by omega), if_pos (by omega), if_neg hs]) ?_
 exact Ev.step (fun k => by simp only [sixty_Get.j2]) h
theorem get_num {s : ByteArray} {acc : List Int} {at_ n m i c : Int} {r : List Int × Int} (h0 : 0 ≤ at_) (h1 : at_ < 1000000) (hi0 : 0 ≤ i) (hi : i < 4) (him : i < m) (hs : at_ + i < (s.size : Int)) (hc : bt s (at_ + i) = c) (hN : 0 ≤ N c) (hn0 : 0 ≤ n) (hn : n < 262144)
  (h : Ev (fun k => sixty_Get.l2 k s acc at_ (n * 64 + N c) m (i + 1)) r) : Ev (fun k => sixty_Get.l2 k s acc at_ n m i) r := by
 have hb := bt_range s (at_ + i)
 have hr := N_range c
 apply Ev.step
 ·intro k
  simp only [sixty_Get.l2]
  rw [if_pos hi, if_pos him, wr (n := at_ + i) (by omega) (by omega), if_pos (by omega), if_pos hs]
 ·refine Ev.bind (number_tells _ (by omega) (by omega)) ?_
  refine Ev.congr (fun k => ?_) h
  rw [hc, if_neg (by omega), or6 hn0 (by omega) hN (by omega), wr (n := i + 1) (by omega) (by omega)]
theorem get_bad {s : ByteArray} {acc : List Int} {at_ n m i c : Int} (h0 : 0 ≤ at_) (h1 : at_ < 1000000) (hi0 : 0 ≤ i) (hi : i < 4) (him : i < m) (hs : at_ + i < (s.size : Int)) (hc : bt s (at_ + i) = c) (hN : ¬ 0 ≤ N c) :
  Ev (fun k => sixty_Get.l2 k s acc at_ n m i) (([] : List Int), 4) := by
 have hb := bt_range s (at_ + i)
 apply Ev.step
 ·intro k
  simp only [sixty_Get.l2]
  rw [if_pos hi, if_pos him, wr (n := at_ + i) (by omega) (by omega), if_pos (by omega), if_pos hs]
 ·refine Ev.bind (number_tells _ (by omega) (by omega)) ?_
  refine Ev.congr (fun k => ?_) (Ev.now _)
  rw [hc, if_pos (by omega)]
theorem get_skip {s : ByteArray} {acc : List Int} {at_ n m i : Int} {r : List Int × Int} (hi0 : 0 ≤ i) (hi : i < 4) (him : ¬ i < m) (hn0 : 0 ≤ n) (hn : n < 262144)
  (h : Ev (fun k => sixty_Get.l2 k s acc at_ (n * 64 + 0) m (i + 1)) r) : Ev (fun k => sixty_Get.l2 k s acc at_ n m i) r :=
 Ev.step (fun k => by
  simp only [sixty_Get.l2]
  rw [if_pos hi, if_neg him, or6 hn0 (by omega) (by omega) (by omega), wr (n := i + 1) (by omega) (by omega)]) h
theorem mask_at (m j : Nat) (hj : (j : Int) = 8 * (4 - m)) (hj2 : j ≤ 24) (n : Int) (h0 : 0 ≤ n) (h1 : n < 16777216) :
  Go.bits .and .i64 n (wrap64 (shl .i64 1 (wrap64 (8 * wrap64 (4 - (m : Int)))) - 1)) = n % 2 ^ j := by
 rw [wr (n := 4 - (m : Int)) (by omega) (by omega), wr (n := 8 * (4 - (m : Int))) (by omega) (by omega), ← hj]
 have hp : (2 : Int) ^ j ≤ 2 ^ 24 := by have := Nat.pow_le_pow_right (n := 2) (by omega) hj2; exact_mod_cast this
 have hp0 : (0 : Int) < 2 ^ j := Int.pow_pos (by omega)
 unfold shl
 rw [show ((j : Int)).toNat = j by omega, Nat.min_eq_left (show j ≤ IntKind.i64.bits by show j ≤ 64; omega), Int.one_mul, wraps_i64 _ (by omega) (by omega), wr (by omega) (by omega)]
 exact and_mod j (by omega) n h0 (by omega)
theorem get_full {s : ByteArray} {acc : List Int} {at_ n : Int} {r : List Int × Int} (m j : Nat) (hj : (j : Int) = 8 * (4 - m)) (hm : 1 ≤ m) (hj2 : j ≤ 24) (h0 : 0 ≤ n) (h1 : n < 16777216) (hz : n % 2 ^ j = 0)
  (h : Ev (fun k => sixty_Get.l3 k s acc at_ n ((m : Int) - 1) 0) r) : Ev (fun k => sixty_Get.l2 k s acc at_ n m 4) r :=
 Ev.step (fun k => by
  simp only [sixty_Get.l2]
  rw [if_neg (by omega), mask_at m j hj hj2 n h0 h1, if_pos hz, wr (n := (m : Int) - 1) (by omega) (by omega), if_pos]
  rw [wr (n := 4 - (m : Int)) (by omega) (by omega), wr (n := 8 * (4 - (m : Int))) (by omega) (by omega)]; omega) h
theorem get_loose {s : ByteArray} {acc : List Int} {at_ n : Int} (m j : Nat) (hj : (j : Int) = 8 * (4 - m)) (hm : 1 ≤ m) (hj2 : j ≤ 24) (h0 : 0 ≤ n) (h1 : n < 16777216) (hz : n % 2 ^ j ≠ 0) :
  Ev (fun k => sixty_Get.l2 k s acc at_ n m 4) (([] : List Int), 4) :=
 Ev.step (fun k => by
  simp only [sixty_Get.l2]
  rw [if_neg (by omega), mask_at m j hj hj2 n h0 h1, if_neg hz, if_pos]
  rw [wr (n := 4 - (m : Int)) (by omega) (by omega), wr (n := 8 * (4 - (m : Int))) (by omega) (by omega)]; omega) (Ev.now _)
theorem get_byte {s : ByteArray} {acc : List Int} {at_ n m i : Int} {r : List Int × Int} (j : Nat) (hj : (j : Int) = 16 - 8 * i) (hi0 : 0 ≤ i) (hi : i < m) (hm : m ≤ 3) (ha : acc.length < 140737488355328)
  (h : Ev (fun k => sixty_Get.l3 k s (acc ++ [n / 2 ^ j % 256]) at_ n m (i + 1)) r) : Ev (fun k => sixty_Get.l3 k s acc at_ n m i) r :=
 Ev.step (fun k => by
  simp only [sixty_Get.l3]
  rw [if_pos hi, wr (n := 8 * i) (by omega) (by omega), wr (n := 16 - 8 * i) (by omega) (by omega), if_pos (by omega), if_pos ha, ← hj, shr_at j (by show j ≤ 64; omega), wr (n := i + 1) (by omega) (by omega)]) h
theorem get_on {s : ByteArray} {acc : List Int} {at_ n m : Int} {r : List Int × Int} (h0 : 0 ≤ at_) (h1 : at_ < 1000000)
  (h : Ev (fun k => sixty_Get.l0 k s acc (at_ + 4)) r) : Ev (fun k => sixty_Get.l3 k s acc at_ n m m) r :=
 Ev.step (fun k => by simp only [sixty_Get.l3]; rw [if_neg (by omega), wr (n := at_ + 4) (by omega) (by omega)]) h
theorem get_four {s : ByteArray} {acc : List Int} {at_ a b c d : Int} {r : List Int × Int} (h0 : 0 ≤ at_) (h1 : at_ < 1000000) (hs : at_ + 4 ≤ (s.size : Int)) (hl : acc.length < 140737488355300)
  (ha : bt s (at_ + 0) = a) (hb : bt s (at_ + 1) = b) (hc : bt s (at_ + 2) = c) (hd : bt s (at_ + 3) = d)
  (na : 0 ≤ N a) (nb : 0 ≤ N b) (nc : 0 ≤ N c) (nd : 0 ≤ N d)
  (h : Ev (fun k => sixty_Get.l0 k s (acc ++ [N a * 4 + N b / 16, N b % 16 * 16 + N c / 4, N c % 4 * 64 + N d]) (at_ + 4)) r) :
  Ev (fun k => sixty_Get.l2 k s acc at_ 0 4 0) r := by
 have ra := N_range a
 have rb := N_range b
 have rc := N_range c
 have rd' := N_range d
 refine get_num h0 h1 (by omega) (by omega) (by omega) (by omega) ha na (by omega) (by omega) ?_
 refine get_num h0 h1 (by omega) (by omega) (by omega) (by omega) hb nb (by omega) (by omega) ?_
 refine get_num h0 h1 (by omega) (by omega) (by omega) (by omega) hc nc (by omega) (by omega) ?_
 refine get_num h0 h1 (by omega) (by omega) (by omega) (by omega) hd nd (by omega) (by omega) ?_
 refine get_full 4 0 (by omega) (by omega) (by omega) (by omega) (by omega) (by omega) ?_
 refine get_byte 16 (by omega) (by omega) (by omega) (by omega) (by omega) ?_
 refine get_byte 8 (by omega) (by omega) (by omega) (by omega) (by simp only [List.length_append, List.length_cons, List.length_nil]; omega) ?_
 refine get_byte 0 (by omega) (by omega) (by omega) (by omega) (by simp only [List.length_append, List.length_cons, List.length_nil]; omega) ?_
 refine get_on h0 h1 ?_
 have e1 : (((0 * 64 + N a) * 64 + N b) * 64 + N c) * 64 + N d = N a * 262144 + N b * 4096 + N c * 64 + N d := by omega
 rw [e1]
 have e2 : (N a * 262144 + N b * 4096 + N c * 64 + N d) / 2 ^ 16 % 256 = N a * 4 + N b / 16 := by omega
 have e3 : (N a * 262144 + N b * 4096 + N c * 64 + N d) / 2 ^ 8 % 256 = N b % 16 * 16 + N c / 4 := by omega
 have e4 : (N a * 262144 + N b * 4096 + N c * 64 + N d) / 2 ^ 0 % 256 = N c % 4 * 64 + N d := by omega
 rw [e2, e3, e4]
 simpa [List.append_assoc] using h
theorem get_three {s : ByteArray} {acc : List Int} {at_ a b c : Int} {r : List Int × Int} (h0 : 0 ≤ at_) (h1 : at_ < 1000000) (hs : at_ + 4 ≤ (s.size : Int)) (hl : acc.length < 140737488355300)
  (ha : bt s (at_ + 0) = a) (hb : bt s (at_ + 1) = b) (hc : bt s (at_ + 2) = c)
  (na : 0 ≤ N a) (nb : 0 ≤ N b) (nc : 0 ≤ N c) (hz : N c % 4 = 0)
  (h : Ev (fun k => sixty_Get.l0 k s (acc ++ [N a * 4 + N b / 16, N b % 16 * 16 + N c / 4]) (at_ + 4)) r) :
  Ev (fun k => sixty_Get.l2 k s acc at_ 0 3 0) r := by
 have ra := N_range a
 have rb := N_range b
 have rc := N_range c
 refine get_num h0 h1 (by omega) (by omega) (by omega) (by omega) ha na (by omega) (by omega) ?_
 refine get_num h0 h1 (by omega) (by omega) (by omega) (by omega) hb nb (by omega) (by omega) ?_
 refine get_num h0 h1 (by omega) (by omega) (by omega) (by omega) hc nc (by omega) (by omega) ?_
 refine get_skip (by omega) (by omega) (by omega) (by omega) (by omega) ?_
 refine get_full 3 8 (by omega) (by omega) (by omega) (by omega) (by omega) (by omega) ?_
 refine get_byte 16 (by omega) (by omega) (by omega) (by omega) (by omega) ?_
 refine get_byte 8 (by omega) (by omega) (by omega) (by omega) (by simp only [List.length_append, List.length_cons, List.length_nil]; omega) ?_
 refine get_on h0 h1 ?_
 have e1 : (((0 * 64 + N a) * 64 + N b) * 64 + N c) * 64 + 0 = N a * 262144 + N b * 4096 + N c * 64 := by omega
 rw [e1]
 have e2 : (N a * 262144 + N b * 4096 + N c * 64) / 2 ^ 16 % 256 = N a * 4 + N b / 16 := by omega
 have e3 : (N a * 262144 + N b * 4096 + N c * 64) / 2 ^ 8 % 256 = N b % 16 * 16 + N c / 4 := by omega
 rw [e2, e3]
 simpa [List.append_assoc] using h
theorem get_pair {s : ByteArray} {acc : List Int} {at_ a b : Int} {r : List Int × Int} (h0 : 0 ≤ at_) (h1 : at_ < 1000000) (hs : at_ + 4 ≤ (s.size : Int)) (hl : acc.length < 140737488355300)
  (ha : bt s (at_ + 0) = a) (hb : bt s (at_ + 1) = b)
  (na : 0 ≤ N a) (nb : 0 ≤ N b) (hz : N b % 16 = 0)
  (h : Ev (fun k => sixty_Get.l0 k s (acc ++ [N a * 4 + N b / 16]) (at_ + 4)) r) :
  Ev (fun k => sixty_Get.l2 k s acc at_ 0 2 0) r := by
 have ra := N_range a
 have rb := N_range b
 refine get_num h0 h1 (by omega) (by omega) (by omega) (by omega) ha na (by omega) (by omega) ?_
 refine get_num h0 h1 (by omega) (by omega) (by omega) (by omega) hb nb (by omega) (by omega) ?_
 refine get_skip (by omega) (by omega) (by omega) (by omega) (by omega) ?_
 refine get_skip (by omega) (by omega) (by omega) (by omega) (by omega) ?_
 refine get_full 2 16 (by omega) (by omega) (by omega) (by omega) (by omega) (by omega) ?_
 refine get_byte 16 (by omega) (by omega) (by omega) (by omega) (by omega) ?_
 refine get_on h0 h1 ?_
 have e2 : ((((0 * 64 + N a) * 64 + N b) * 64 + 0) * 64 + 0) / 2 ^ 16 % 256 = N a * 4 + N b / 16 := by omega
 rw [e2]
 exact h
def told (acc s : List Int) : List Int × Int := match dec s with | none => ([], 4) | some o => (acc ++ o, 0)
theorem told_none {acc s : List Int} (h : dec s = none) : told acc s = ([], 4) := by unfold told; rw [h]
theorem told_some {acc s o : List Int} (h : dec s = some o) : told acc s = (acc ++ o, 0) := by unfold told; rw [h]
theorem get_l0 : ∀ (t p acc : List Int), Byt (p ++ t) → t.length % 4 = 0 → p.length + t.length ≤ 900000 → acc.length + t.length < 140737488355000 →
  Ev (fun k => sixty_Get.l0 k (strOfNums (p ++ t)) acc (p.length : Int)) (told acc t)
 | [], p, acc, _, _, _, _ => by
  refine Ev.step (f := fun _ => some (acc, 0)) (fun k => by simp only [sixty_Get.l0]; rw [if_neg (by rw [str_size]; simp)]) ?_
  rw [told_some (o := []) rfl, List.append_nil]
  exact Ev.now _
 | a :: b :: c :: d :: t, p, acc, hB, hl, hp, hc => by
  simp only [List.length_cons] at hl hp hc
  have hsz : ((strOfNums (p ++ a :: b :: c :: d :: t)).size : Int) = (p.length : Int) + 4 + (t.length : Int) := by rw [str_size]; simp only [List.length_append, List.length_cons]; omega
  have ea : bt (strOfNums (p ++ a :: b :: c :: d :: t)) ((p.length : Int) + 0) = a := bt_part hB 0
  have eb : bt (strOfNums (p ++ a :: b :: c :: d :: t)) ((p.length : Int) + 1) = b := bt_part hB 1
  have ec : bt (strOfNums (p ++ a :: b :: c :: d :: t)) ((p.length : Int) + 2) = c := bt_part hB 2
  have ed : bt (strOfNums (p ++ a :: b :: c :: d :: t)) ((p.length : Int) + 3) = d := bt_part hB 3
  have ih := fun acc' (h : acc'.length + t.length < 140737488355000) => get_l0 t (p ++ [a, b, c, d]) acc' (by simpa using hB) (by omega) (by simp only [List.length_append, List.length_cons, List.length_nil]; omega) h
  simp only [List.append_assoc, List.cons_append, List.nil_append] at ih
  have el : (((p ++ [a, b, c, d]).length : Nat) : Int) = (p.length : Int) + 4 := by simp only [List.length_append, List.length_cons, List.length_nil]; omega
  rw [el] at ih
  generalize hS : strOfNums (p ++ a :: b :: c :: d :: t) = S at *
  refine Ev.step (f := fun k => sixty_Get.l1 k S acc (p.length : Int) 0 4) (fun k => by simp only [sixty_Get.l0]; rw [if_pos (by omega)]) ?_
  have all4 : Ev (fun k => sixty_Get.l2 k S acc (p.length : Int) 0 4 0) (if 0 ≤ N a ∧ 0 ≤ N b ∧ 0 ≤ N c ∧ 0 ≤ N d then told (acc ++ [N a * 4 + N b / 16, N b % 16 * 16 + N c / 4, N c % 4 * 64 + N d]) t else ([], 4)) := by
   have ra := N_range a
   have rb := N_range b
   have rc := N_range c
   have rd' := N_range d
   by_cases na : 0 ≤ N a
   ·by_cases nb : 0 ≤ N b
    ·by_cases nc : 0 ≤ N c
     ·by_cases nd : 0 ≤ N d
      ·rw [if_pos ⟨na, nb, nc, nd⟩]
       exact get_four (by omega) (by omega) (by omega) (by omega) ea eb ec ed na nb nc nd (ih _ (by simp only [List.length_append, List.length_cons, List.length_nil]; omega))
      ·rw [if_neg (fun q => nd q.2.2.2)]
       refine get_num (by omega) (by omega) (by omega) (by omega) (by omega) (by omega) ea na (by omega) (by omega) ?_
       refine get_num (by omega) (by omega) (by omega) (by omega) (by omega) (by omega) eb nb (by omega) (by omega) ?_
       refine get_num (by omega) (by omega) (by omega) (by omega) (by omega) (by omega) ec nc (by omega) (by omega) ?_
       exact get_bad (by omega) (by omega) (by omega) (by omega) (by omega) (by omega) ed nd
     ·rw [if_neg (fun q => nc q.2.2.1)]
      refine get_num (by omega) (by omega) (by omega) (by omega) (by omega) (by omega) ea na (by omega) (by omega) ?_
      refine get_num (by omega) (by omega) (by omega) (by omega) (by omega) (by omega) eb nb (by omega) (by omega) ?_
      exact get_bad (by omega) (by omega) (by omega) (by omega) (by omega) (by omega) ec nc
    ·rw [if_neg (fun q => nb q.2.1)]
     refine get_num (by omega) (by omega) (by omega) (by omega) (by omega) (by omega) ea na (by omega) (by omega) ?_
     exact get_bad (by omega) (by omega) (by omega) (by omega) (by omega) (by omega) eb nb
   ·rw [if_neg (fun q => na q.1)]
    exact get_bad (by omega) (by omega) (by omega) (by omega) (by omega) (by omega) ea na
  by_cases ht : t = []
  ·subst ht
   simp only [List.length_nil] at hsz
   have hend : (p.length : Int) + 4 = (S.size : Int) := by omega
   have r0 : ∀ o, told (acc ++ o) [] = (acc ++ o, 0) := fun o => by rw [told_some (o := []) rfl, List.append_nil]
   have hdec : told acc [a, b, c, d] = (match dec4 a b c d with | none => ([], 4) | some o => (acc ++ o, 0)) := by simp [told, dec]
   rw [hdec]
   unfold dec4
   by_cases hd : d = 61
   ·rw [if_pos hd]
    refine get_sign (by omega) (by omega) hend (by omega) (by omega) (by rw [show (p.length : Int) + 4 - 1 = (p.length : Int) + 3 by omega, ed, hd]) ?_
    by_cases hc' : c = 61
    ·rw [if_pos hc']
     refine get_sign (by omega) (by omega) hend (by omega) (by omega) (by rw [show (p.length : Int) + (4 - 1) - 1 = (p.length : Int) + 2 by omega, ec, hc']) ?_
     refine get_two ?_
     have ra := N_range a
     have rb := N_range b
     by_cases na : 0 ≤ N a
     ·by_cases nb : 0 ≤ N b
      ·by_cases hz : N b % 16 = 0
       ·rw [if_pos ⟨na, nb, hz⟩]
        refine get_pair (by omega) (by omega) (by omega) (by omega) ea eb na nb hz ?_
        have := ih (acc ++ [N a * 4 + N b / 16]) (by simp only [List.length_append, List.length_cons, List.length_nil]; omega)
        rw [r0] at this
        exact this
       ·rw [if_neg (fun q => hz q.2.2)]
        refine get_num (by omega) (by omega) (by omega) (by omega) (by omega) (by omega) ea na (by omega) (by omega) ?_
        refine get_num (by omega) (by omega) (by omega) (by omega) (by omega) (by omega) eb nb (by omega) (by omega) ?_
        refine get_skip (by omega) (by omega) (by omega) (by omega) (by omega) ?_
        refine get_skip (by omega) (by omega) (by omega) (by omega) (by omega) ?_
        exact get_loose 2 16 (by omega) (by omega) (by omega) (by omega) (by omega) (by omega)
      ·rw [if_neg (fun q => nb q.2.1)]
       refine get_num (by omega) (by omega) (by omega) (by omega) (by omega) (by omega) ea na (by omega) (by omega) ?_
       exact get_bad (by omega) (by omega) (by omega) (by omega) (by omega) (by omega) eb nb
     ·rw [if_neg (fun q => na q.1)]
      exact get_bad (by omega) (by omega) (by omega) (by omega) (by omega) (by omega) ea na
    ·rw [if_neg hc']
     refine get_nosign (by omega) (by omega) hend (by omega) (by omega) (by rw [show (p.length : Int) + (4 - 1) - 1 = (p.length : Int) + 2 by omega, ec]; exact hc') ?_
     show Ev (fun k => sixty_Get.l2 k S acc (p.length : Int) 0 3 0) _
     have ra := N_range a
     have rb := N_range b
     have rc := N_range c
     by_cases na : 0 ≤ N a
     ·by_cases nb : 0 ≤ N b
      ·by_cases nc : 0 ≤ N c
       ·by_cases hz : N c % 4 = 0
        ·rw [if_pos ⟨na, nb, nc, hz⟩]
         refine get_three (by omega) (by omega) (by omega) (by omega) ea eb ec na nb nc hz ?_
         have := ih (acc ++ [N a * 4 + N b / 16, N b % 16 * 16 + N c / 4]) (by simp only [List.length_append, List.length_cons, List.length_nil]; omega)
         rw [r0] at this
         exact this
        ·rw [if_neg (fun q => hz q.2.2.2)]
         refine get_num (by omega) (by omega) (by omega) (by omega) (by omega) (by omega) ea na (by omega) (by omega) ?_
         refine get_num (by omega) (by omega) (by omega) (by omega) (by omega) (by omega) eb nb (by omega) (by omega) ?_
         refine get_num (by omega) (by omega) (by omega) (by omega) (by omega) (by omega) ec nc (by omega) (by omega) ?_
         refine get_skip (by omega) (by omega) (by omega) (by omega) (by omega) ?_
         exact get_loose 3 8 (by omega) (by omega) (by omega) (by omega) (by omega) (by omega)
       ·rw [if_neg (fun q => nc q.2.2.1)]
        refine get_num (by omega) (by omega) (by omega) (by omega) (by omega) (by omega) ea na (by omega) (by omega) ?_
        refine get_num (by omega) (by omega) (by omega) (by omega) (by omega) (by omega) eb nb (by omega) (by omega) ?_
        exact get_bad (by omega) (by omega) (by omega) (by omega) (by omega) (by omega) ec nc
      ·rw [if_neg (fun q => nb q.2.1)]
       refine get_num (by omega) (by omega) (by omega) (by omega) (by omega) (by omega) ea na (by omega) (by omega) ?_
       exact get_bad (by omega) (by omega) (by omega) (by omega) (by omega) (by omega) eb nb
     ·rw [if_neg (fun q => na q.1)]
      exact get_bad (by omega) (by omega) (by omega) (by omega) (by omega) (by omega) ea na
   ·rw [if_neg hd]
    refine get_nosign (by omega) (by omega) hend (by omega) (by omega) (by rw [show (p.length : Int) + 4 - 1 = (p.length : Int) + 3 by omega, ed]; exact hd) ?_
    by_cases q : 0 ≤ N a ∧ 0 ≤ N b ∧ 0 ≤ N c ∧ 0 ≤ N d
    ·rw [if_pos q, r0] at all4
     rw [if_pos q]; exact all4
    ·rw [if_neg q] at all4
     rw [if_neg q]; exact all4
  ·have hpos : 0 < t.length := List.length_pos_iff.2 ht
   refine get_far (by omega) (by omega) (by omega) ?_
   have : told acc (a :: b :: c :: d :: t) = (if 0 ≤ N a ∧ 0 ≤ N b ∧ 0 ≤ N c ∧ 0 ≤ N d then told (acc ++ [N a * 4 + N b / 16, N b % 16 * 16 + N c / 4, N c % 4 * 64 + N d]) t else ([], 4)) := by
    unfold told
    simp only [dec, if_neg ht]
    by_cases q : 0 ≤ N a ∧ 0 ≤ N b ∧ 0 ≤ N c ∧ 0 ≤ N d
    ·rw [if_pos q, if_pos q]
     cases dec t with
     | none => rfl
     | some o => simp
    ·rw [if_neg q, if_neg q]
   rw [this]; exact all4
 | [_], _, _, _, h, _, _ => by simp at h
 | [_, _], _, _, _, h, _, _ => by simp at h
 | [_, _, _], _, _, _, h, _, _ => by simp at h
theorem get_tells (xs : List Int) (h : Byt xs) (hl : xs.length ≤ 800000) : Ev (fun k => sixty_Get.f k (strOfNums xs)) (if xs.length % 4 = 0 then told [] xs else ([], 3)) := by
 unfold sixty_Get.f
 by_cases h4 : xs.length % 4 = 0
 ·rw [if_pos h4]
  refine Ev.congr (fun k => by rw [if_pos (by rw [str_size]; omega)]) ?_
  exact get_l0 xs [] [] h h4 (by simp only [List.length_nil]; omega) (by simp only [List.length_nil]; omega)
 ·rw [if_neg h4]
  exact Ev.congr (fun k => by rw [if_neg (by rw [str_size]; omega)]) (Ev.now _)
def bitAt (b : List Int) (p : Int) : Int := rd b (p / 8) / 2 ^ (7 - (p % 8).toNat) % 2
theorem shr8 (x : Int) (j : Nat) (hj : j ≤ 8) : shr .u8 x (j : Int) = x / 2 ^ j := shr_at (k := .u8) j hj x
theorem and1 {x : Int} (h0 : 0 ≤ x) (h1 : x < 256) : Go.bits .and .u8 x 1 = x % 2 := bits_mask .u8 8 (by decide) wraps_u8 1 (by decide) x h0 h1
theorem and1_64 {x : Int} (h0 : 0 ≤ x) (h1 : x < 1073741824) : Go.bits .and .i64 x 1 = x % 2 := and_mod 1 (by decide) x h0 (by omega)
theorem rd_byte {b : List Int} (h : Byt b) (i : Int) : 0 ≤ rd b i ∧ rd b i < 256 := by
 unfold rd
 rw [List.getD_eq_getElem?_getD]
 cases e : b[i.toNat]? with
 | none => simp
 | some x => exact h x (List.mem_of_getElem? e)
theorem bits_l0 (b : List Int) (h : Byt b) (hl : b.length ≤ 1000000) : ∀ (d : Nat) (acc : List Bool) (i : Int), (acc.length : Int) = i → i + d = 8 * b.length →
  Ev (fun k => deedboxref07_Bits.l0 k b acc i) (acc ++ (List.range d).map fun (j : Nat) => (bitAt b (i + j) == 1))
 | 0, acc, i, hi, hd => by
  refine Ev.step (f := fun _ => some acc) (fun k => by simp only [deedboxref07_Bits.l0]; rw [if_neg (by rw [wr (by omega) (by omega)]; omega)]) ?_
  simpa using Ev.now acc
 | d + 1, acc, i, hi, hd => by
  have hr := rd_byte h (i / 8)
  have ih := bits_l0 b h hl d (acc ++ [bitAt b i == 1]) (i + 1) (by simp only [List.length_append, List.length_cons, List.length_nil]; omega) (by omega)
  refine Ev.step (f := fun k => deedboxref07_Bits.l0 k b (acc ++ [bitAt b i == 1]) (i + 1)) (fun k => ?_) ?_
  ·simp only [deedboxref07_Bits.l0]
   have e1 : Int.tdiv i 8 = i / 8 := Int.tdiv_eq_ediv_of_nonneg (by omega)
   have e2 : Int.tmod i 8 = i % 8 := Int.tmod_eq_emod_of_nonneg (by omega)
   have e3 : (7 - i % 8 : Int) = ((7 - (i % 8).toNat : Nat) : Int) := by omega
   have q0 : 0 ≤ rd b (i / 8) / 2 ^ (7 - (i % 8).toNat) := Int.ediv_nonneg hr.1 (Int.le_of_lt (Int.pow_pos (by omega)))
   have q1 : rd b (i / 8) / 2 ^ (7 - (i % 8).toNat) ≤ rd b (i / 8) := Int.ediv_le_self _ hr.1
   rw [if_pos (by rw [wr (by omega) (by omega)]; omega), e1, e2, wr (n := i / 8) (by omega) (by omega), if_pos (by omega), if_pos (by omega), wr (n := 7 - i % 8) (by omega) (by omega), if_pos (by omega), if_pos (by omega), wr (n := i + 1) (by omega) (by omega),
    e3, shr8 _ _ (by omega), and1 q0 (by omega)]
   rfl
  ·rw [List.range_succ_eq_map]
   simp only [List.map_cons, List.map_map]
   have : (fun (j : Nat) => (bitAt b (i + (j : Int)) == 1)) ∘ Nat.succ = fun (j : Nat) => (bitAt b (i + 1 + (j : Int)) == 1) := by
    funext j
    simp only [Function.comp, Nat.succ_eq_add_one, Int.natCast_add]
    rw [show i + ((j : Int) + (1 : Nat)) = i + 1 + (j : Int) by omega]
   rw [this]
   simpa [List.append_assoc] using ih
def bitsL (b : List Int) : List Bool := (List.range (8 * b.length)).map fun (j : Nat) => (bitAt b (j : Int) == 1)
theorem bits_tell (b : List Int) (h : Byt b) (hl : b.length ≤ 1000000) : Ev (fun k => deedboxref07_Bits.f k b) (bitsL b) := by
 have := bits_l0 b h hl (8 * b.length) [] 0 (by simp) (by omega)
 simpa [deedboxref07_Bits.f, bitsL] using this
theorem bitsL_length (b : List Int) : ((bitsL b).length : Int) = 8 * b.length := by simp [bitsL]
def bv (l : List Bool) (p : Int) : Int := if p < (l.length : Int) ∧ rdOf false l p = true then 1 else 0
theorem bv_range (l : List Bool) (p : Int) : 0 ≤ bv l p ∧ bv l p ≤ 1 := by unfold bv; split <;> omega
theorem value_step {l : List Bool} {a m n i r : Int} (ha : 0 ≤ a) (ha1 : a < 100000000) (hi0 : 0 ≤ i) (hi : i < m) (hm : m ≤ 8) (hn0 : 0 ≤ n) (hn : n < 1000000)
  (h : Ev (fun k => deedboxref07_value.l0 k l a m (2 * n + bv l (a + i)) (i + 1)) r) : Ev (fun k => deedboxref07_value.l0 k l a m n i) r :=
 Ev.step (fun k => by
  simp only [deedboxref07_value.l0]
  unfold bv
  rw [if_pos hi, wr (n := a + i) (by omega) (by omega), wr (n := 2 * n) (by omega) (by omega), wr (n := i + 1) (by omega) (by omega), wr (n := 2 * n + 1) (by omega) (by omega)]
  by_cases c : a + i < (l.length : Int)
  ·rw [if_pos c, if_pos (by omega)]
   by_cases c2 : rdOf false l (a + i) = true
   ·rw [if_pos c2, if_pos ⟨c, c2⟩]
   ·rw [if_neg c2, if_neg (fun q => c2 q.2), Int.add_zero]
  ·rw [if_neg c, if_neg (fun q => c q.1), Int.add_zero]) h
theorem value_end {l : List Bool} {a m n : Int} : Ev (fun k => deedboxref07_value.l0 k l a m n m) n :=
 Ev.step (fun k => by simp only [deedboxref07_value.l0]; rw [if_neg (by omega)]) (Ev.now _)
def six (l : List Bool) (a : Int) : Int := 32 * bv l a + 16 * bv l (a + 1) + 8 * bv l (a + 2) + 4 * bv l (a + 3) + 2 * bv l (a + 4) + bv l (a + 5)
def eight (l : List Bool) (a : Int) : Int := 128 * bv l a + 64 * bv l (a + 1) + 32 * bv l (a + 2) + 16 * bv l (a + 3) + 8 * bv l (a + 4) + 4 * bv l (a + 5) + 2 * bv l (a + 6) + bv l (a + 7)
theorem value6 (l : List Bool) (a : Int) (ha : 0 ≤ a) (ha1 : a < 100000000) : Ev (fun k => deedboxref07_value.f k l a 6) (six l a) := by
 have b0 := bv_range l (a + 0)
 have b1 := bv_range l (a + (0 + 1))
 have b2 := bv_range l (a + (0 + 1 + 1))
 have b3 := bv_range l (a + (0 + 1 + 1 + 1))
 have b4 := bv_range l (a + (0 + 1 + 1 + 1 + 1))
 have b5 := bv_range l (a + (0 + 1 + 1 + 1 + 1 + 1))
 unfold deedboxref07_value.f
 refine value_step ha ha1 (by omega) (by omega) (by omega) (by omega) (by omega) ?_
 refine value_step ha ha1 (by omega) (by omega) (by omega) (by omega) (by omega) ?_
 refine value_step ha ha1 (by omega) (by omega) (by omega) (by omega) (by omega) ?_
 refine value_step ha ha1 (by omega) (by omega) (by omega) (by omega) (by omega) ?_
 refine value_step ha ha1 (by omega) (by omega) (by omega) (by omega) (by omega) ?_
 refine value_step ha ha1 (by omega) (by omega) (by omega) (by omega) (by omega) ?_
 have e : 2 * (2 * (2 * (2 * (2 * (2 * 0 + bv l (a + 0)) + bv l (a + (0 + 1))) + bv l (a + (0 + 1 + 1))) + bv l (a + (0 + 1 + 1 + 1))) + bv l (a + (0 + 1 + 1 + 1 + 1))) + bv l (a + (0 + 1 + 1 + 1 + 1 + 1)) = six l a := by
  unfold six
  rw [Int.add_zero]
  simp only [Int.zero_add, show (1 : Int) + 1 = 2 from rfl, show (2 : Int) + 1 = 3 from rfl, show (3 : Int) + 1 = 4 from rfl, show (4 : Int) + 1 = 5 from rfl]
  omega
 rw [e]
 exact value_end
theorem value8 (l : List Bool) (a : Int) (ha : 0 ≤ a) (ha1 : a < 100000000) : Ev (fun k => deedboxref07_value.f k l a 8) (eight l a) := by
 have b0 := bv_range l (a + 0)
 have b1 := bv_range l (a + (0 + 1))
 have b2 := bv_range l (a + (0 + 1 + 1))
 have b3 := bv_range l (a + (0 + 1 + 1 + 1))
 have b4 := bv_range l (a + (0 + 1 + 1 + 1 + 1))
 have b5 := bv_range l (a + (0 + 1 + 1 + 1 + 1 + 1))
 have b6 := bv_range l (a + (0 + 1 + 1 + 1 + 1 + 1 + 1))
 have b7 := bv_range l (a + (0 + 1 + 1 + 1 + 1 + 1 + 1 + 1))
 unfold deedboxref07_value.f
 refine value_step ha ha1 (by omega) (by omega) (by omega) (by omega) (by omega) ?_
 refine value_step ha ha1 (by omega) (by omega) (by omega) (by omega) (by omega) ?_
 refine value_step ha ha1 (by omega) (by omega) (by omega) (by omega) (by omega) ?_
 refine value_step ha ha1 (by omega) (by omega) (by omega) (by omega) (by omega) ?_
 refine value_step ha ha1 (by omega) (by omega) (by omega) (by omega) (by omega) ?_
 refine value_step ha ha1 (by omega) (by omega) (by omega) (by omega) (by omega) ?_
 refine value_step ha ha1 (by omega) (by omega) (by omega) (by omega) (by omega) ?_
 refine value_step ha ha1 (by omega) (by omega) (by omega) (by omega) (by omega) ?_
 have e : 2 * (2 * (2 * (2 * (2 * (2 * (2 * (2 * 0 + bv l (a + 0)) + bv l (a + (0 + 1))) + bv l (a + (0 + 1 + 1))) + bv l (a + (0 + 1 + 1 + 1))) + bv l (a + (0 + 1 + 1 + 1 + 1))) + bv l (a + (0 + 1 + 1 + 1 + 1 + 1))) + bv l (a + (0 + 1 + 1 + 1 + 1 + 1 + 1))) + bv l (a + (0 + 1 + 1 + 1 + 1 + 1 + 1 + 1)) = eight l a := by
  unfold eight
  rw [Int.add_zero]
  simp only [Int.zero_add, show (1 : Int) + 1 = 2 from rfl, show (2 : Int) + 1 = 3 from rfl, show (3 : Int) + 1 = 4 from rfl, show (4 : Int) + 1 = 5 from rfl, show (5 : Int) + 1 = 6 from rfl, show (6 : Int) + 1 = 7 from rfl]
  omega
 rw [e]
 exact value_end
theorem bv_bits (b : List Int) (p : Nat) : bv (bitsL b) (p : Int) = if p < 8 * b.length then (if bitAt b p = 1 then 1 else 0) else 0 := by
 unfold bv bitsL rdOf
 simp only [List.length_map, List.length_range]
 by_cases h : p < 8 * b.length
 ·rw [if_pos h]
  have : ((List.map (fun (j : Nat) => bitAt b (j : Int) == 1) (List.range (8 * b.length))).getD ((p : Int)).toNat false) = (bitAt b p == 1) := by
   rw [Int.toNat_natCast, List.getD_eq_getElem?_getD, List.getElem?_map, List.getElem?_range h]; rfl
  rw [this]
  by_cases c : bitAt b p = 1
  ·rw [if_pos c, if_pos ⟨by omega, by simp [c]⟩]
  ·rw [if_neg c, if_neg (fun q => c (by simpa using q.2))]
 ·rw [if_neg h, if_neg (fun q => h (by omega))]
theorem six_val {l : List Bool} {a b0 b1 b2 b3 b4 b5 : Int} (h0 : bv l a = b0) (h1 : bv l (a + 1) = b1) (h2 : bv l (a + 2) = b2) (h3 : bv l (a + 3) = b3) (h4 : bv l (a + 4) = b4) (h5 : bv l (a + 5) = b5) :
  six l a = 32 * b0 + 16 * b1 + 8 * b2 + 4 * b3 + 2 * b4 + b5 := by unfold six; rw [h0, h1, h2, h3, h4, h5]
theorem eight_val {l : List Bool} {a b0 b1 b2 b3 b4 b5 b6 b7 : Int} (h0 : bv l a = b0) (h1 : bv l (a + 1) = b1) (h2 : bv l (a + 2) = b2) (h3 : bv l (a + 3) = b3) (h4 : bv l (a + 4) = b4) (h5 : bv l (a + 5) = b5) (h6 : bv l (a + 6) = b6) (h7 : bv l (a + 7) = b7) :
  eight l a = 128 * b0 + 64 * b1 + 32 * b2 + 16 * b3 + 8 * b4 + 4 * b5 + 2 * b6 + b7 := by unfold eight; rw [h0, h1, h2, h3, h4, h5, h6, h7]
theorem bv_in {p t : List Int} {x : Int} (h0 : 0 ≤ x) (h1 : x < 256) (m : Nat) (hm : 8 * p.length = m) (j : Nat) (hj : j < 8) : bv (bitsL (p ++ x :: t)) (((m + j : Nat)) : Int) = x / 2 ^ (7 - j) % 2 := by
 rw [bv_bits, if_pos (by simp only [List.length_append, List.length_cons]; omega)]
 have e : bitAt (p ++ x :: t) ((m + j : Nat) : Int) = x / 2 ^ (7 - j) % 2 := by
  unfold bitAt rd
  have e1 : (((m + j : Nat) : Int) / 8).toNat = p.length := by omega
  have e2 : (((m + j : Nat) : Int) % 8).toNat = j := by omega
  rw [e1, e2, List.getD_eq_getElem?_getD, List.getElem?_append_right (Nat.le_refl _), Nat.sub_self]
  rfl
 rw [e]
 have : x / 2 ^ (7 - j) % 2 = 0 ∨ x / 2 ^ (7 - j) % 2 = 1 := by omega
 rcases this with q | q <;> rw [q] <;> rfl
theorem bv_at {p t : List Int} {x : Int} (h0 : 0 ≤ x) (h1 : x < 256) (j : Nat) (hj : j < 8) (q d : Int) (hd : (2 : Int) ^ (7 - j) = d) (hq : q = 8 * (p.length : Int) + j) : bv (bitsL (p ++ x :: t)) q = x / d % 2 := by
 subst hd
 have := bv_in (t := t) h0 h1 (8 * p.length) rfl j hj
 rw [show (((8 * p.length + j : Nat)) : Int) = q by omega] at this
 exact this
theorem bv_off {b : List Int} (q : Int) (h : 8 * (b.length : Int) ≤ q) : bv (bitsL b) q = 0 := by
 unfold bv
 rw [if_neg (fun k => by have := bitsL_length b; omega)]
def tbl : ByteArray := ⟨#[65, 66, 67, 68, 69, 70, 71, 72, 73, 74, 75, 76, 77, 78, 79, 80, 81, 82, 83, 84, 85, 86, 87, 88, 89, 90, 97, 98, 99, 100, 101, 102, 103, 104, 105, 106, 107, 108, 109, 110, 111, 112, 113, 114, 115, 116, 117, 118, 119, 120, 121, 122, 48, 49, 50, 51, 52, 53, 54, 55, 56, 57, 43, 47]⟩
theorem tbl_size : tbl.size = 64 := rfl
theorem tbl_cut (n : Nat) (hn : n < 64) : tbl.extract n (n + 1) = strOfNums [L (n : Int)] := by
 have : ∀ n : Fin 64, (tbl.extract n.1 (n.1 + 1)).data = (strOfNums [L (n.1 : Int)]).data := by decide +kernel
 exact ByteArray.ext (this ⟨n, hn⟩)
theorem refput_step {l : List Bool} {x5 : ByteArray} {i v : Int} {r : ByteArray} (hi0 : 0 ≤ i) (hi : i < (l.length : Int)) (hl : l.length < 100000000) (hv : six l i = v) (h0 : 0 ≤ v) (h1 : v < 64) (hs : x5.size < 1000000000)
  (h : Ev (fun k => deedboxref07_Put.l0 k tbl l (x5 ++ strOfNums [L v]) (i + 6)) r) : Ev (fun k => deedboxref07_Put.l0 k tbl l x5 i) r := by
 apply Ev.step
 ·intro k
  simp only [deedboxref07_Put.l0]
  rw [if_pos hi]
 ·refine Ev.bind (value6 l i hi0 (by omega)) ?_
  refine Ev.congr (fun k => ?_) h
  rw [hv, if_pos h0, wr (n := v + 1) (by omega) (by omega), if_pos (by omega), if_pos (by rw [tbl_size]; omega)]
  obtain ⟨n, rfl⟩ := Int.eq_ofNat_of_zero_le h0
  rw [show ((n : Int) + 1).toNat = n + 1 by omega, Int.toNat_natCast, tbl_cut n (by omega), if_pos (by rw [strOfNums_size]; simp only [List.length_cons, List.length_nil]; omega), wr (n := i + 6) (by omega) (by omega)]
theorem refput_end {l : List Bool} {x5 : ByteArray} {i : Int} {r : ByteArray} (hi : ¬ i < (l.length : Int)) (h : Ev (fun k => deedboxref07_Put.l1 k x5) r) : Ev (fun k => deedboxref07_Put.l0 k tbl l x5 i) r :=
 Ev.step (fun k => by simp only [deedboxref07_Put.l0]; rw [if_neg hi]) h
theorem pad_end {x5 : ByteArray} (h : (x5.size : Int) % 4 = 0) : Ev (fun k => deedboxref07_Put.l1 k x5) x5 :=
 Ev.step (fun k => by simp only [deedboxref07_Put.l1]; rw [if_pos h]) (Ev.now _)
theorem pad_more {x5 r : ByteArray} (hn : ¬ (x5.size : Int) % 4 = 0) (hs : x5.size < 1000000000) (h : Ev (fun k => deedboxref07_Put.l1 k (x5 ++ strOfNums [61])) r) : Ev (fun k => deedboxref07_Put.l1 k x5) r :=
 Ev.step (fun k => by simp only [deedboxref07_Put.l1]; rw [if_neg hn, if_pos (by omega)]; rfl) h
theorem refput_l0 : ∀ (t p acc : List Int), Byt (p ++ t) → p.length % 3 = 0 → acc.length % 4 = 0 → p.length + t.length ≤ 1000000 → acc.length + 2 * t.length < 500000000 →
  Ev (fun k => deedboxref07_Put.l0 k tbl (bitsL (p ++ t)) (strOfNums acc) (8 * (p.length : Int))) (strOfNums (acc ++ enc t))
 | [], p, acc, _, _, h4, _, _ => by
  refine refput_end (by rw [bitsL_length]; simp) ?_
  simp only [enc, List.append_nil]
  exact pad_end (by rw [strOfNums_size]; omega)
 | [a], p, acc, hB, h3, h4, hp, hc => by
  have hx := hB a (by simp)
  simp only [List.length_cons, List.length_nil] at hp hc
  have A : ∀ (j : Nat), j < 8 → ∀ (q d : Int), (2 : Int) ^ (7 - j) = d → q = 8 * (p.length : Int) + j → bv (bitsL (p ++ [a])) q = a / d % 2 := fun j hj q d hd hq => bv_at (t := []) hx.1 hx.2 j hj q d hd hq
  have Z : ∀ (q : Int), 8 * (p.length : Int) + 8 ≤ q → bv (bitsL (p ++ [a])) q = 0 := fun q hq => bv_off q (by simp only [List.length_append, List.length_cons, List.length_nil]; omega)
  have i0 : six (bitsL (p ++ [a])) (8 * (p.length : Int)) = a / 4 := by
   rw [six_val (A 0 (by omega) _ 128 rfl (by omega)) (A 1 (by omega) _ 64 rfl (by omega)) (A 2 (by omega) _ 32 rfl (by omega)) (A 3 (by omega) _ 16 rfl (by omega)) (A 4 (by omega) _ 8 rfl (by omega)) (A 5 (by omega) _ 4 rfl (by omega))]
   omega
  have i1 : six (bitsL (p ++ [a])) (8 * (p.length : Int) + 6) = a % 4 * 16 := by
   rw [six_val (A 6 (by omega) _ 2 rfl (by omega)) (A 7 (by omega) _ 1 rfl (by omega)) (Z _ (by omega)) (Z _ (by omega)) (Z _ (by omega)) (Z _ (by omega))]
   omega
  have hL := bitsL_length (p ++ [a])
  simp only [List.length_append, List.length_cons, List.length_nil] at hL
  refine refput_step (by omega) (by omega) (by omega) i0 (by omega) (by omega) (by rw [strOfNums_size]; omega) ?_
  rw [str_app]
  refine refput_step (by omega) (by omega) (by omega) i1 (by omega) (by omega) (by rw [strOfNums_size]; simp only [List.length_append, List.length_cons, List.length_nil]; omega) ?_
  rw [str_app]
  refine refput_end (by omega) ?_
  refine pad_more (by rw [strOfNums_size]; simp only [List.length_append, List.length_cons, List.length_nil]; omega) (by rw [strOfNums_size]; simp only [List.length_append, List.length_cons, List.length_nil]; omega) ?_
  rw [str_app]
  refine pad_more (by rw [strOfNums_size]; simp only [List.length_append, List.length_cons, List.length_nil]; omega) (by rw [strOfNums_size]; simp only [List.length_append, List.length_cons, List.length_nil]; omega) ?_
  rw [str_app]
  have := pad_end (x5 := strOfNums (acc ++ [L (a / 4)] ++ [L (a % 4 * 16)] ++ [61] ++ [61])) (by rw [strOfNums_size]; simp only [List.length_append, List.length_cons, List.length_nil]; omega)
  simpa [enc, List.append_assoc] using this
 | [a, b], p, acc, hB, h3, h4, hp, hc => by
  have ha := hB a (by simp)
  have hb := hB b (by simp)
  simp only [List.length_cons, List.length_nil] at hp hc
  have A : ∀ (j : Nat), j < 8 → ∀ (q d : Int), (2 : Int) ^ (7 - j) = d → q = 8 * (p.length : Int) + j → bv (bitsL (p ++ [a, b])) q = a / d % 2 := fun j hj q d hd hq => bv_at (t := [b]) ha.1 ha.2 j hj q d hd hq
  have B : ∀ (j : Nat), j < 8 → ∀ (q d : Int), (2 : Int) ^ (7 - j) = d → q = 8 * (p.length : Int) + 8 + j → bv (bitsL (p ++ [a, b])) q = b / d % 2 := fun j hj q d hd hq => by
   have := bv_at (p := p ++ [a]) (t := []) hb.1 hb.2 j hj q d hd (by simp only [List.length_append, List.length_cons, List.length_nil]; omega)
   rw [List.append_assoc] at this
   exact this
  have Z : ∀ (q : Int), 8 * (p.length : Int) + 16 ≤ q → bv (bitsL (p ++ [a, b])) q = 0 := fun q hq => bv_off q (by simp only [List.length_append, List.length_cons, List.length_nil]; omega)
  have i0 : six (bitsL (p ++ [a, b])) (8 * (p.length : Int)) = a / 4 := by
   rw [six_val (A 0 (by omega) _ 128 rfl (by omega)) (A 1 (by omega) _ 64 rfl (by omega)) (A 2 (by omega) _ 32 rfl (by omega)) (A 3 (by omega) _ 16 rfl (by omega)) (A 4 (by omega) _ 8 rfl (by omega)) (A 5 (by omega) _ 4 rfl (by omega))]
   omega
  have i1 : six (bitsL (p ++ [a, b])) (8 * (p.length : Int) + 6) = a % 4 * 16 + b / 16 := by
   rw [six_val (A 6 (by omega) _ 2 rfl (by omega)) (A 7 (by omega) _ 1 rfl (by omega)) (B 0 (by omega) _ 128 rfl (by omega)) (B 1 (by omega) _ 64 rfl (by omega)) (B 2 (by omega) _ 32 rfl (by omega)) (B 3 (by omega) _ 16 rfl (by omega))]
   omega
  have i2 : six (bitsL (p ++ [a, b])) (8 * (p.length : Int) + 12) = b % 16 * 4 := by
   rw [six_val (B 4 (by omega) _ 8 rfl (by omega)) (B 5 (by omega) _ 4 rfl (by omega)) (B 6 (by omega) _ 2 rfl (by omega)) (B 7 (by omega) _ 1 rfl (by omega)) (Z _ (by omega)) (Z _ (by omega))]
   omega
  have hL := bitsL_length (p ++ [a, b])
  simp only [List.length_append, List.length_cons, List.length_nil] at hL
  refine refput_step (by omega) (by omega) (by omega) i0 (by omega) (by omega) (by rw [strOfNums_size]; omega) ?_
  rw [str_app]
  refine refput_step (by omega) (by omega) (by omega) i1 (by omega) (by omega) (by rw [strOfNums_size]; simp only [List.length_append, List.length_cons, List.length_nil]; omega) ?_
  rw [str_app, show 8 * (p.length : Int) + 6 + 6 = 8 * (p.length : Int) + 12 by omega]
  refine refput_step (by omega) (by omega) (by omega) i2 (by omega) (by omega) (by rw [strOfNums_size]; simp only [List.length_append, List.length_cons, List.length_nil]; omega) ?_
  rw [str_app]
  refine refput_end (by omega) ?_
  refine pad_more (by rw [strOfNums_size]; simp only [List.length_append, List.length_cons, List.length_nil]; omega) (by rw [strOfNums_size]; simp only [List.length_append, List.length_cons, List.length_nil]; omega) ?_
  rw [str_app]
  have := pad_end (x5 := strOfNums (acc ++ [L (a / 4)] ++ [L (a % 4 * 16 + b / 16)] ++ [L (b % 16 * 4)] ++ [61])) (by rw [strOfNums_size]; simp only [List.length_append, List.length_cons, List.length_nil]; omega)
  simpa [enc, List.append_assoc] using this
 | a :: b :: c :: t, p, acc, hB, h3, h4, hp, hc => by
  have ha := hB a (by simp)
  have hb := hB b (by simp)
  have hcc := hB c (by simp)
  simp only [List.length_cons] at hp hc
  have A : ∀ (j : Nat), j < 8 → ∀ (q d : Int), (2 : Int) ^ (7 - j) = d → q = 8 * (p.length : Int) + j → bv (bitsL (p ++ a :: b :: c :: t)) q = a / d % 2 := fun j hj q d hd hq => bv_at (t := b :: c :: t) ha.1 ha.2 j hj q d hd hq
  have B : ∀ (j : Nat), j < 8 → ∀ (q d : Int), (2 : Int) ^ (7 - j) = d → q = 8 * (p.length : Int) + 8 + j → bv (bitsL (p ++ a :: b :: c :: t)) q = b / d % 2 := fun j hj q d hd hq => by
   have := bv_at (p := p ++ [a]) (t := c :: t) hb.1 hb.2 j hj q d hd (by simp only [List.length_append, List.length_cons, List.length_nil]; omega)
   rw [List.append_assoc] at this
   exact this
  have C : ∀ (j : Nat), j < 8 → ∀ (q d : Int), (2 : Int) ^ (7 - j) = d → q = 8 * (p.length : Int) + 16 + j → bv (bitsL (p ++ a :: b :: c :: t)) q = c / d % 2 := fun j hj q d hd hq => by
   have := bv_at (p := p ++ [a, b]) (t := t) hcc.1 hcc.2 j hj q d hd (by simp only [List.length_append, List.length_cons, List.length_nil]; omega)
   rw [List.append_assoc] at this
   exact this
  have i0 : six (bitsL (p ++ a :: b :: c :: t)) (8 * (p.length : Int)) = a / 4 := by
   rw [six_val (A 0 (by omega) _ 128 rfl (by omega)) (A 1 (by omega) _ 64 rfl (by omega)) (A 2 (by omega) _ 32 rfl (by omega)) (A 3 (by omega) _ 16 rfl (by omega)) (A 4 (by omega) _ 8 rfl (by omega)) (A 5 (by omega) _ 4 rfl (by omega))]
   omega
  have i1 : six (bitsL (p ++ a :: b :: c :: t)) (8 * (p.length : Int) + 6) = a % 4 * 16 + b / 16 := by
   rw [six_val (A 6 (by omega) _ 2 rfl (by omega)) (A 7 (by omega) _ 1 rfl (by omega)) (B 0 (by omega) _ 128 rfl (by omega)) (B 1 (by omega) _ 64 rfl (by omega)) (B 2 (by omega) _ 32 rfl (by omega)) (B 3 (by omega) _ 16 rfl (by omega))]
   omega
  have i2 : six (bitsL (p ++ a :: b :: c :: t)) (8 * (p.length : Int) + 12) = b % 16 * 4 + c / 64 := by
   rw [six_val (B 4 (by omega) _ 8 rfl (by omega)) (B 5 (by omega) _ 4 rfl (by omega)) (B 6 (by omega) _ 2 rfl (by omega)) (B 7 (by omega) _ 1 rfl (by omega)) (C 0 (by omega) _ 128 rfl (by omega)) (C 1 (by omega) _ 64 rfl (by omega))]
   omega
  have i3 : six (bitsL (p ++ a :: b :: c :: t)) (8 * (p.length : Int) + 18) = c % 64 := by
   rw [six_val (C 2 (by omega) _ 32 rfl (by omega)) (C 3 (by omega) _ 16 rfl (by omega)) (C 4 (by omega) _ 8 rfl (by omega)) (C 5 (by omega) _ 4 rfl (by omega)) (C 6 (by omega) _ 2 rfl (by omega)) (C 7 (by omega) _ 1 rfl (by omega))]
   omega
  have hL := bitsL_length (p ++ a :: b :: c :: t)
  simp only [List.length_append, List.length_cons] at hL
  refine refput_step (by omega) (by omega) (by omega) i0 (by omega) (by omega) (by rw [strOfNums_size]; omega) ?_
  rw [str_app]
  refine refput_step (by omega) (by omega) (by omega) i1 (by omega) (by omega) (by rw [strOfNums_size]; simp only [List.length_append, List.length_cons, List.length_nil]; omega) ?_
  rw [str_app, show 8 * (p.length : Int) + 6 + 6 = 8 * (p.length : Int) + 12 by omega]
  refine refput_step (by omega) (by omega) (by omega) i2 (by omega) (by omega) (by rw [strOfNums_size]; simp only [List.length_append, List.length_cons, List.length_nil]; omega) ?_
  rw [str_app, show 8 * (p.length : Int) + 12 + 6 = 8 * (p.length : Int) + 18 by omega]
  refine refput_step (by omega) (by omega) (by omega) i3 (by omega) (by omega) (by rw [strOfNums_size]; simp only [List.length_append, List.length_cons, List.length_nil]; omega) ?_
  rw [str_app]
  have ih := refput_l0 t (p ++ [a, b, c]) (acc ++ [L (a / 4)] ++ [L (a % 4 * 16 + b / 16)] ++ [L (b % 16 * 4 + c / 64)] ++ [L (c % 64)]) (by simpa using hB) (by simp only [List.length_append, List.length_cons, List.length_nil]; omega) (by simp only [List.length_append, List.length_cons, List.length_nil]; omega) (by simp only [List.length_append, List.length_cons, List.length_nil]; omega) (by simp only [List.length_append, List.length_cons, List.length_nil]; omega)
  have el : 8 * (((p ++ [a, b, c]).length : Nat) : Int) = 8 * (p.length : Int) + 18 + 6 := by simp only [List.length_append, List.length_cons, List.length_nil]; omega
  rw [el] at ih
  simpa [enc, List.append_assoc] using ih
theorem refput_tells (b : List Int) (h : Byt b) (hl : b.length ≤ 1000000) : Ev (fun k => deedboxref07_Put.f k b) (strOfNums (enc b)) := by
 unfold deedboxref07_Put.f
 refine Ev.bind (bits_tell b h hl) ?_
 have := refput_l0 b [] [] h (by simp) (by simp) (by simp only [List.length_nil]; omega) (by simp only [List.length_nil]; omega)
 show Ev (fun n => deedboxref07_Put.l0 n tbl (bitsL b) (strOfNums []) 0) _
 simpa using this
theorem refnumber_tells (c : Int) (h0 : 0 ≤ c) (h1 : c < 256) : Ev (fun k => deedboxref07_number.f k c) (N c) := by
 have : ∀ c : Fin 256, deedboxref07_number.f 70 (c.1 : Int) = some (N (c.1 : Int)) := by decide +kernel
 obtain ⟨n, rfl⟩ := Int.eq_ofNat_of_zero_le h0
 exact Ev.of (deedboxref07_number.mono _) (this ⟨n, by omega⟩)
def bits6 (n : Int) : List Bool := [n / 32 % 2 == 1, n / 16 % 2 == 1, n / 8 % 2 == 1, n / 4 % 2 == 1, n / 2 % 2 == 1, n % 2 == 1]
theorem rg_bit {s : ByteArray} {e i n k0 : Int} {l : List Bool} {r : List Int × Int} (j : Nat) (hj : (j : Int) = k0) (hj5 : j ≤ 5) (hn0 : 0 ≤ n) (hn : n < 64) (hl : l.length < 140737488355328)
  (h : Ev (fun k => deedboxref07_Get.l2 k s e (l ++ [n / 2 ^ j % 2 == 1]) i n (k0 - 1)) r) : Ev (fun k => deedboxref07_Get.l2 k s e l i n k0) r :=
 Ev.step (fun k => by
  have q0 : 0 ≤ n / 2 ^ j := Int.ediv_nonneg hn0 (Int.le_of_lt (Int.pow_pos (by omega)))
  have q1 : n / 2 ^ j ≤ n := Int.ediv_le_self _ hn0
  simp only [deedboxref07_Get.l2]
  rw [if_pos (by omega), if_pos (by omega), if_pos hl, wr (n := k0 - 1) (by omega) (by omega), ← hj, shr_at j (by show j ≤ 64; omega), and1_64 q0 (by omega)]) h
theorem rg_letter {s : ByteArray} {e i c : Int} {l : List Bool} {r : List Int × Int} (hi0 : 0 ≤ i) (hi : i < e) (hi1 : i < (s.size : Int)) (hi2 : i < 100000000) (hc : bt s i = c) (hN : 0 ≤ N c) (hl : l.length < 140737488355000)
  (h : Ev (fun k => deedboxref07_Get.l1 k s e (l ++ bits6 (N c)) (i + 1)) r) : Ev (fun k => deedboxref07_Get.l1 k s e l i) r := by
 have hb := bt_range s i
 have hr := N_range c
 apply Ev.step
 ·intro k
  simp only [deedboxref07_Get.l1]
  rw [if_pos hi, if_pos hi0, if_pos hi1]
 ·refine Ev.bind (refnumber_tells _ (by omega) (by omega)) ?_
  simp only [hc, if_neg (show ¬ N c < 0 by omega)]
  refine rg_bit 5 (by omega) (by omega) hN (by omega) (by omega) ?_
  refine rg_bit 4 (by omega) (by omega) hN (by omega) (by simp only [List.length_append, List.length_cons, List.length_nil]; omega) ?_
  refine rg_bit 3 (by omega) (by omega) hN (by omega) (by simp only [List.length_append, List.length_cons, List.length_nil]; omega) ?_
  refine rg_bit 2 (by omega) (by omega) hN (by omega) (by simp only [List.length_append, List.length_cons, List.length_nil]; omega) ?_
  refine rg_bit 1 (by omega) (by omega) hN (by omega) (by simp only [List.length_append, List.length_cons, List.length_nil]; omega) ?_
  refine rg_bit 0 (by omega) (by omega) hN (by omega) (by simp only [List.length_append, List.length_cons, List.length_nil]; omega) ?_
  refine Ev.step (f := fun k => deedboxref07_Get.l1 k s e (l ++ bits6 (N c)) (i + 1)) (fun k => ?_) h
  simp only [deedboxref07_Get.l2]
  rw [if_neg (by omega), wr (n := i + 1) (by omega) (by omega)]
  congr 1
  simp only [List.append_assoc, List.cons_append, List.nil_append, bits6]
  have e0 : N c / 2 ^ 0 = N c := by omega
  have e1 : N c / 2 ^ 1 = N c / 2 := by omega
  have e2 : N c / 2 ^ 2 = N c / 4 := by omega
  have e3 : N c / 2 ^ 3 = N c / 8 := by omega
  have e4 : N c / 2 ^ 4 = N c / 16 := by omega
  have e5 : N c / 2 ^ 5 = N c / 32 := by omega
  rw [e0, e1, e2, e3, e4, e5]
theorem rg_none {s : ByteArray} {e i c : Int} {l : List Bool} (hi0 : 0 ≤ i) (hi : i < e) (hi1 : i < (s.size : Int)) (hc : bt s i = c) (hN : ¬ 0 ≤ N c) :
  Ev (fun k => deedboxref07_Get.l1 k s e l i) (([] : List Int), 4) := by
 have hb := bt_range s i
 apply Ev.step
 ·intro k
  simp only [deedboxref07_Get.l1]
  rw [if_pos hi, if_pos hi0, if_pos hi1]
 ·refine Ev.bind (refnumber_tells _ (by omega) (by omega)) ?_
  refine Ev.congr (fun k => ?_) (Ev.now _)
  rw [hc, if_pos (by omega)]
theorem bits6_length (ds : List Int) : (ds.flatMap bits6).length = 6 * ds.length := by
 induction ds with
 | nil => rfl
 | cons x t ih => simp only [List.flatMap_cons, List.length_append, List.length_cons, ih, bits6, List.length_nil]; omega
theorem bv_six {p t : List Int} {x : Int} (m : Nat) (hm : 6 * p.length = m) (j : Nat) (hj : j < 6) : bv ((p ++ x :: t).flatMap bits6) ((m + j : Nat) : Int) = x / 2 ^ (5 - j) % 2 := by
 unfold bv rdOf
 have hlen := bits6_length (p ++ x :: t)
 simp only [List.length_append, List.length_cons] at hlen
 rw [Int.toNat_natCast]
 have e : ((p ++ x :: t).flatMap bits6).getD (m + j) false = (bits6 x).getD j false := by
  rw [List.flatMap_append, List.flatMap_cons, List.getD_eq_getElem?_getD, List.getElem?_append_right (by rw [bits6_length]; omega), bits6_length, show m + j - 6 * p.length = j by omega, List.getElem?_append_left (by simp [bits6]; omega), List.getD_eq_getElem?_getD]
 rw [e]
 have key : ((bits6 x).getD j false = true) = (x / 2 ^ (5 - j) % 2 = 1) := by
  match j, hj with
  | 0, _ => simp [bits6]
  | 1, _ => simp [bits6]
  | 2, _ => simp [bits6]
  | 3, _ => simp [bits6]
  | 4, _ => simp [bits6]
  | 5, _ => simp [bits6]
 simp only [key]
 by_cases c : x / 2 ^ (5 - j) % 2 = 1
 ·rw [if_pos ⟨by omega, c⟩, c]
 ·rw [if_neg (fun q => c q.2)]
  omega
theorem bs_at {p t : List Int} {x : Int} (j : Nat) (hj : j < 6) (q d : Int) (hd : (2 : Int) ^ (5 - j) = d) (hq : q = 6 * (p.length : Int) + j) : bv ((p ++ x :: t).flatMap bits6) q = x / d % 2 := by
 subst hd
 have := bv_six (p := p) (t := t) (x := x) (6 * p.length) rfl j hj
 rw [show (((6 * p.length + j : Nat)) : Int) = q by omega] at this
 exact this
def fin_ (s o : List Int) : List Int × Int := if enc o = s then (o, 0) else ([], 4)
theorem rg_end {xs out : List Int} {l : List Bool} {i : Int} (hx : Byt xs) (ho : Byt out) (hl : out.length ≤ 1000000) (hi : ¬ i + 8 ≤ (l.length : Int)) (hi0 : 0 ≤ i) (hi1 : i < 100000000) :
  Ev (fun k => deedboxref07_Get.l3 k (strOfNums xs) l out i) (fin_ xs out) := by
 apply Ev.step
 ·intro k
  simp only [deedboxref07_Get.l3]
  rw [if_neg (by rw [wr (by omega) (by omega)]; exact hi)]
 ·refine Ev.bind (refput_tells out ho hl) ?_
  unfold fin_
  by_cases c : enc out = xs
  ·rw [if_pos c, if_pos (by rw [c])]; exact Ev.now _
  ·rw [if_neg c, if_neg (fun q => c (str_inj (enc_byte ho) hx q))]; exact Ev.now _
theorem rg_byte {s : ByteArray} {out : List Int} {l : List Bool} {i v : Int} {r : List Int × Int} (hi : i + 8 ≤ (l.length : Int)) (hi0 : 0 ≤ i) (hi1 : i < 100000000) (hv : eight l i = v) (h0 : 0 ≤ v) (h1 : v < 256) (hl : out.length < 140737488355328)
  (h : Ev (fun k => deedboxref07_Get.l3 k s l (out ++ [v]) (i + 8)) r) : Ev (fun k => deedboxref07_Get.l3 k s l out i) r := by
 apply Ev.step
 ·intro k
  simp only [deedboxref07_Get.l3]
  rw [if_pos (by rw [wr (by omega) (by omega)]; exact hi)]
 ·refine Ev.bind (value8 l i hi0 hi1) ?_
  refine Ev.congr (fun k => ?_) h
  rw [hv, if_pos hl, wr (n := i + 8) (by omega) (by omega), show v % 256 = v by omega]
def Sx (xs : List Int) : Prop := ∀ x ∈ xs, 0 ≤ x ∧ x < 64
theorem rg_l3 {xs : List Int} (hx : Byt xs) : ∀ (t p out : List Int), Sx (p ++ t) → Byt out → p.length % 4 = 0 → p.length + t.length ≤ 1000000 → out.length + t.length ≤ 1000000 →
  Ev (fun k => deedboxref07_Get.l3 k (strOfNums xs) ((p ++ t).flatMap bits6) out (6 * (p.length : Int))) (fin_ xs (out ++ ob t))
 | [], p, out, _, ho, _, hp, hq => by
  simp only [List.length_nil] at hp hq
  simp only [ob, List.append_nil]
  exact rg_end hx ho (by omega) (by rw [bits6_length]; omega) (by omega) (by omega)
 | [x], p, out, _, ho, _, hp, hq => by
  simp only [List.length_cons, List.length_nil] at hp hq
  simp only [ob, List.append_nil]
  exact rg_end hx ho (by omega) (by rw [bits6_length]; simp only [List.length_append, List.length_cons, List.length_nil]; omega) (by omega) (by omega)
 | [x, y], p, out, hS, ho, h4, hp, hq => by
  have sx := hS x (by simp)
  have sy := hS y (by simp)
  have hlen := bits6_length (p ++ [x, y])
  simp only [List.length_append, List.length_cons, List.length_nil] at hlen hp hq
  have X : ∀ (j : Nat), j < 6 → ∀ (q d : Int), (2 : Int) ^ (5 - j) = d → q = 6 * (p.length : Int) + j → bv ((p ++ [x, y]).flatMap bits6) q = x / d % 2 := fun j hj q d hd hq => by
   have := bs_at (p := p) (t := [y]) (x := x) j hj q d hd (by omega)
   exact this
  have Y : ∀ (j : Nat), j < 6 → ∀ (q d : Int), (2 : Int) ^ (5 - j) = d → q = 6 * (p.length : Int) + 6 + j → bv ((p ++ [x, y]).flatMap bits6) q = y / d % 2 := fun j hj q d hd hq => by
   have := bs_at (p := p ++ [x]) (t := []) (x := y) j hj q d hd (by simp only [List.length_append, List.length_cons, List.length_nil]; omega)
   rw [List.append_assoc] at this
   exact this
  have v0 : eight ((p ++ [x, y]).flatMap bits6) (6 * (p.length : Int)) = x * 4 + y / 16 := by
   rw [eight_val (X 0 (by omega) _ 32 rfl (by omega)) (X 1 (by omega) _ 16 rfl (by omega)) (X 2 (by omega) _ 8 rfl (by omega)) (X 3 (by omega) _ 4 rfl (by omega)) (X 4 (by omega) _ 2 rfl (by omega)) (X 5 (by omega) _ 1 rfl (by omega)) (Y 0 (by omega) _ 32 rfl (by omega)) (Y 1 (by omega) _ 16 rfl (by omega))]
   omega
  refine rg_byte (by omega) (by omega) (by omega) v0 (by omega) (by omega) (by omega) ?_
  exact rg_end hx (ho.app (.mk (by omega) .nil)) (by simp only [List.length_append, List.length_cons, List.length_nil]; omega) (by omega) (by omega) (by omega)
 | [x, y, z], p, out, hS, ho, h4, hp, hq => by
  have sx := hS x (by simp)
  have sy := hS y (by simp)
  have sz := hS z (by simp)
  have hlen := bits6_length (p ++ [x, y, z])
  simp only [List.length_append, List.length_cons, List.length_nil] at hlen hp hq
  have X : ∀ (j : Nat), j < 6 → ∀ (q d : Int), (2 : Int) ^ (5 - j) = d → q = 6 * (p.length : Int) + j → bv ((p ++ [x, y, z]).flatMap bits6) q = x / d % 2 := fun j hj q d hd hq => by
   have := bs_at (p := p) (t := [y, z]) (x := x) j hj q d hd (by omega)
   exact this
  have Y : ∀ (j : Nat), j < 6 → ∀ (q d : Int), (2 : Int) ^ (5 - j) = d → q = 6 * (p.length : Int) + 6 + j → bv ((p ++ [x, y, z]).flatMap bits6) q = y / d % 2 := fun j hj q d hd hq => by
   have := bs_at (p := p ++ [x]) (t := [z]) (x := y) j hj q d hd (by simp only [List.length_append, List.length_cons, List.length_nil]; omega)
   rw [List.append_assoc] at this
   exact this
  have Z : ∀ (j : Nat), j < 6 → ∀ (q d : Int), (2 : Int) ^ (5 - j) = d → q = 6 * (p.length : Int) + 12 + j → bv ((p ++ [x, y, z]).flatMap bits6) q = z / d % 2 := fun j hj q d hd hq => by
   have := bs_at (p := p ++ [x, y]) (t := []) (x := z) j hj q d hd (by simp only [List.length_append, List.length_cons, List.length_nil]; omega)
   rw [List.append_assoc] at this
   exact this
  have v0 : eight ((p ++ [x, y, z]).flatMap bits6) (6 * (p.length : Int)) = x * 4 + y / 16 := by
   rw [eight_val (X 0 (by omega) _ 32 rfl (by omega)) (X 1 (by omega) _ 16 rfl (by omega)) (X 2 (by omega) _ 8 rfl (by omega)) (X 3 (by omega) _ 4 rfl (by omega)) (X 4 (by omega) _ 2 rfl (by omega)) (X 5 (by omega) _ 1 rfl (by omega)) (Y 0 (by omega) _ 32 rfl (by omega)) (Y 1 (by omega) _ 16 rfl (by omega))]
   omega
  have v1 : eight ((p ++ [x, y, z]).flatMap bits6) (6 * (p.length : Int) + 8) = y % 16 * 16 + z / 4 := by
   rw [eight_val (Y 2 (by omega) _ 8 rfl (by omega)) (Y 3 (by omega) _ 4 rfl (by omega)) (Y 4 (by omega) _ 2 rfl (by omega)) (Y 5 (by omega) _ 1 rfl (by omega)) (Z 0 (by omega) _ 32 rfl (by omega)) (Z 1 (by omega) _ 16 rfl (by omega)) (Z 2 (by omega) _ 8 rfl (by omega)) (Z 3 (by omega) _ 4 rfl (by omega))]
   omega
  refine rg_byte (by omega) (by omega) (by omega) v0 (by omega) (by omega) (by omega) ?_
  refine rg_byte (by omega) (by omega) (by omega) v1 (by omega) (by omega) (by simp only [List.length_append, List.length_cons, List.length_nil]; omega) ?_
  have := rg_end (l := (p ++ [x, y, z]).flatMap bits6) (i := 6 * (p.length : Int) + 8 + 8) hx (ho.app (.mk (x := x * 4 + y / 16) (by omega) (.mk (x := y % 16 * 16 + z / 4) (by omega) .nil))) (by simp only [List.length_append, List.length_cons, List.length_nil]; omega) (by omega) (by omega) (by omega)
  simpa [ob, List.append_assoc] using this
 | x :: y :: z :: w :: t, p, out, hS, ho, h4, hp, hq => by
  have sx := hS x (by simp)
  have sy := hS y (by simp)
  have sz := hS z (by simp)
  have sw := hS w (by simp)
  have hlen := bits6_length (p ++ x :: y :: z :: w :: t)
  simp only [List.length_append, List.length_cons] at hlen hp hq
  have X : ∀ (j : Nat), j < 6 → ∀ (q d : Int), (2 : Int) ^ (5 - j) = d → q = 6 * (p.length : Int) + j → bv ((p ++ x :: y :: z :: w :: t).flatMap bits6) q = x / d % 2 := fun j hj q d hd hq => by
   have := bs_at (p := p) (t := y :: z :: w :: t) (x := x) j hj q d hd (by omega)
   exact this
  have Y : ∀ (j : Nat), j < 6 → ∀ (q d : Int), (2 : Int) ^ (5 - j) = d → q = 6 * (p.length : Int) + 6 + j → bv ((p ++ x :: y :: z :: w :: t).flatMap bits6) q = y / d % 2 := fun j hj q d hd hq => by
   have := bs_at (p := p ++ [x]) (t := z :: w :: t) (x := y) j hj q d hd (by simp only [List.length_append, List.length_cons, List.length_nil]; omega)
   rw [List.append_assoc] at this
   exact this
  have Z : ∀ (j : Nat), j < 6 → ∀ (q d : Int), (2 : Int) ^ (5 - j) = d → q = 6 * (p.length : Int) + 12 + j → bv ((p ++ x :: y :: z :: w :: t).flatMap bits6) q = z / d % 2 := fun j hj q d hd hq => by
   have := bs_at (p := p ++ [x, y]) (t := w :: t) (x := z) j hj q d hd (by simp only [List.length_append, List.length_cons, List.length_nil]; omega)
   rw [List.append_assoc] at this
   exact this
  have W : ∀ (j : Nat), j < 6 → ∀ (q d : Int), (2 : Int) ^ (5 - j) = d → q = 6 * (p.length : Int) + 18 + j → bv ((p ++ x :: y :: z :: w :: t).flatMap bits6) q = w / d % 2 := fun j hj q d hd hq => by
   have := bs_at (p := p ++ [x, y, z]) (t := t) (x := w) j hj q d hd (by simp only [List.length_append, List.length_cons, List.length_nil]; omega)
   rw [List.append_assoc] at this
   exact this
  have v0 : eight ((p ++ x :: y :: z :: w :: t).flatMap bits6) (6 * (p.length : Int)) = x * 4 + y / 16 := by
   rw [eight_val (X 0 (by omega) _ 32 rfl (by omega)) (X 1 (by omega) _ 16 rfl (by omega)) (X 2 (by omega) _ 8 rfl (by omega)) (X 3 (by omega) _ 4 rfl (by omega)) (X 4 (by omega) _ 2 rfl (by omega)) (X 5 (by omega) _ 1 rfl (by omega)) (Y 0 (by omega) _ 32 rfl (by omega)) (Y 1 (by omega) _ 16 rfl (by omega))]
   omega
  have v1 : eight ((p ++ x :: y :: z :: w :: t).flatMap bits6) (6 * (p.length : Int) + 8) = y % 16 * 16 + z / 4 := by
   rw [eight_val (Y 2 (by omega) _ 8 rfl (by omega)) (Y 3 (by omega) _ 4 rfl (by omega)) (Y 4 (by omega) _ 2 rfl (by omega)) (Y 5 (by omega) _ 1 rfl (by omega)) (Z 0 (by omega) _ 32 rfl (by omega)) (Z 1 (by omega) _ 16 rfl (by omega)) (Z 2 (by omega) _ 8 rfl (by omega)) (Z 3 (by omega) _ 4 rfl (by omega))]
   omega
  have v2 : eight ((p ++ x :: y :: z :: w :: t).flatMap bits6) (6 * (p.length : Int) + 8 + 8) = z % 4 * 64 + w := by
   rw [eight_val (Z 4 (by omega) _ 2 rfl (by omega)) (Z 5 (by omega) _ 1 rfl (by omega)) (W 0 (by omega) _ 32 rfl (by omega)) (W 1 (by omega) _ 16 rfl (by omega)) (W 2 (by omega) _ 8 rfl (by omega)) (W 3 (by omega) _ 4 rfl (by omega)) (W 4 (by omega) _ 2 rfl (by omega)) (W 5 (by omega) _ 1 rfl (by omega))]
   omega
  refine rg_byte (by omega) (by omega) (by omega) v0 (by omega) (by omega) (by omega) ?_
  refine rg_byte (by omega) (by omega) (by omega) v1 (by omega) (by omega) (by simp only [List.length_append, List.length_cons, List.length_nil]; omega) ?_
  refine rg_byte (by omega) (by omega) (by omega) v2 (by omega) (by omega) (by simp only [List.length_append, List.length_cons, List.length_nil]; omega) ?_
  have ih := rg_l3 hx t (p ++ [x, y, z, w]) (out ++ [x * 4 + y / 16] ++ [y % 16 * 16 + z / 4] ++ [z % 4 * 64 + w]) (by simpa using hS) (((ho.app (.mk (by omega) .nil)).app (.mk (by omega) .nil)).app (.mk (by omega) .nil)) (by simp only [List.length_append, List.length_cons, List.length_nil]; omega)
   (by simp only [List.length_append, List.length_cons, List.length_nil]; omega) (by simp only [List.length_append, List.length_cons, List.length_nil]; omega)
  have el : 6 * (((p ++ [x, y, z, w]).length : Nat) : Int) = 6 * (p.length : Int) + 8 + 8 + 8 := by simp only [List.length_append, List.length_cons, List.length_nil]; omega
  rw [el] at ih
  simpa [ob, List.append_assoc] using ih
theorem rg_l1 {xs : List Int} (hx : Byt xs) (hl : xs.length ≤ 800000) (st : List Int) (hst : st = xs.take st.length) (hle : st.length ≤ xs.length) : ∀ (t p : List Int), st = p ++ t → (∀ c ∈ p, 0 ≤ N c) →
  Ev (fun k => deedboxref07_Get.l1 k (strOfNums xs) (st.length : Int) ((p.map N).flatMap bits6) (p.length : Int)) (if (∀ c ∈ st, 0 ≤ N c) then fin_ xs (ob (st.map N)) else ([], 4))
 | [], p, he, hp => by
  rw [List.append_nil] at he
  subst he
  rw [if_pos hp]
  refine Ev.step (f := fun k => deedboxref07_Get.l3 k (strOfNums xs) ((st.map N).flatMap bits6) [] 0) (fun k => by simp only [deedboxref07_Get.l1]; rw [if_neg (by omega)]) ?_
  have := rg_l3 hx (st.map N) [] [] (fun y hy => by
   simp only [List.nil_append] at hy
   obtain ⟨c, hc, rfl⟩ := List.mem_map.1 hy
   have := hp c hc
   have := N_range c
   omega) .nil (by simp) (by simp only [List.length_nil, List.length_map]; omega) (by simp only [List.length_nil, List.length_map]; omega)
  simpa using this
 | c :: t, p, he, hp => by
  have hc : bt (strOfNums xs) (p.length : Int) = c := by
   rw [bt_str hx]
   have h1 : st.getD p.length 0 = c := by rw [he, List.getD_eq_getElem?_getD, List.getElem?_append_right (Nat.le_refl _), Nat.sub_self]; rfl
   have hlt : p.length < st.length := by rw [he]; simp only [List.length_append, List.length_cons]; omega
   rw [hst, List.getD_eq_getElem?_getD, List.getElem?_take, if_pos hlt, ← List.getD_eq_getElem?_getD] at h1
   unfold rd
   rw [Int.toNat_natCast]; exact h1
  have hlt : p.length < st.length := by rw [he]; simp only [List.length_append, List.length_cons]; omega
  by_cases hN : 0 ≤ N c
  ·have ih := rg_l1 hx hl st hst hle t (p ++ [c]) (by simpa using he) (by
    intro y hy
    rcases List.mem_append.1 hy with hy | hy
    ·exact hp y hy
    ·simp only [List.mem_singleton] at hy; rw [hy]; exact hN)
   have hb := bits6_length (p.map N)
   rw [List.length_map] at hb
   refine rg_letter (by omega) (by omega) (by rw [str_size]; omega) (by omega) hc hN (by omega) ?_
   have el : (((p ++ [c]).length : Nat) : Int) = (p.length : Int) + 1 := by simp only [List.length_append, List.length_cons, List.length_nil]; omega
   rw [el] at ih
   simpa using ih
  ·rw [if_neg (fun q => hN (q c (by rw [he]; simp)))]
   exact rg_none (by omega) (by omega) (by rw [str_size]; omega) hc hN
theorem strip_app : ∀ (p : List Int) (a b c d : Int), p.length % 4 = 0 → strip (p ++ [a, b, c, d]) = p ++ (if d = 61 then (if c = 61 then [a, b] else [a, b, c]) else [a, b, c, d])
 | [], a, b, c, d, _ => by simp [strip]
 | x :: y :: z :: w :: p, a, b, c, d, h => by
  have ih := strip_app p a b c d (by simp only [List.length_cons] at h; omega)
  simp only [List.cons_append, strip]
  rw [if_neg (by simp), ih]
 | [_], _, _, _, _, h => by simp at h
 | [_, _], _, _, _, _, h => by simp at h
 | [_, _, _], _, _, _, _, h => by simp at h
theorem four_last : ∀ (xs : List Int), xs.length % 4 = 0 → xs ≠ [] → ∃ p a b c d, xs = p ++ [a, b, c, d] ∧ p.length % 4 = 0
 | [], _, h => absurd rfl h
 | a :: b :: c :: d :: r, h, _ => by
  by_cases hr : r = []
  ·subst hr; exact ⟨[], a, b, c, d, rfl, rfl⟩
  ·obtain ⟨p, a', b', c', d', rfl, hp⟩ := four_last r (by simp only [List.length_cons] at h; omega) hr
   exact ⟨a :: b :: c :: d :: p, a', b', c', d', by simp, by simp only [List.length_cons]; omega⟩
 | [_], h, _ => by simp at h
 | [_, _], h, _ => by simp at h
 | [_, _, _], h, _ => by simp at h
theorem rg_stop {s : ByteArray} {e : Int} {r : List Int × Int} (h0 : 0 ≤ e) (h1 : e ≤ (s.size : Int)) (h2 : s.size < 1000000) (hc : ¬ (e > 0 ∧ e > (s.size : Int) - 2 ∧ bt s (e - 1) = 61)) (h : Ev (fun k => deedboxref07_Get.l1 k s e [] 0) r) :
  Ev (fun k => deedboxref07_Get.l0 k s e) r := by
 refine Ev.step (f := fun k => deedboxref07_Get.j1 k s e) (fun k => ?_) (Ev.step (fun k => by simp only [deedboxref07_Get.j1]) h)
 simp only [deedboxref07_Get.l0]
 by_cases c1 : e > 0
 ·rw [if_pos c1, wr (n := (s.size : Int) - 2) (by omega) (by omega)]
  by_cases c2 : e > (s.size : Int) - 2
  ·rw [if_pos c2, wr (n := e - 1) (by omega) (by omega), if_pos (by omega), if_pos (by omega), if_neg (fun q => hc ⟨c1, c2, q⟩)]
  ·rw [if_neg c2]
 ·rw [if_neg c1]
theorem rg_less {s : ByteArray} {e : Int} {r : List Int × Int} (h0 : 0 < e) (h1 : e ≤ (s.size : Int)) (h2 : s.size < 1000000) (h3 : e > (s.size : Int) - 2) (h4 : bt s (e - 1) = 61) (h : Ev (fun k => deedboxref07_Get.l0 k s (e - 1)) r) :
  Ev (fun k => deedboxref07_Get.l0 k s e) r :=
 Ev.step (fun k => by
  simp only [deedboxref07_Get.l0]
  rw [if_pos h0, wr (n := (s.size : Int) - 2) (by omega) (by omega), if_pos h3, wr (n := e - 1) (by omega) (by omega), if_pos (by omega), if_pos (by omega), if_pos h4]) h
theorem strip_take (xs : List Int) (h4 : xs.length % 4 = 0) : strip xs = xs.take (strip xs).length ∧ (strip xs).length ≤ xs.length := by
 by_cases hn : xs = []
 ·subst hn; exact ⟨rfl, Nat.le_refl _⟩
 ·obtain ⟨p, a, b, c, d, rfl, hp⟩ := four_last xs h4 hn
  rw [strip_app p a b c d hp]
  split
  ·split
   ·exact ⟨by rw [List.length_append, List.take_length_add_append]; rfl, by simp⟩
   ·exact ⟨by rw [List.length_append, List.take_length_add_append]; rfl, by simp⟩
  ·exact ⟨by rw [List.length_append, List.take_length_add_append]; rfl, by simp⟩
theorem rg_strip {xs : List Int} (hx : Byt xs) (hl : xs.length ≤ 800000) (h4 : xs.length % 4 = 0) {r : List Int × Int} (h : Ev (fun k => deedboxref07_Get.l1 k (strOfNums xs) ((strip xs).length : Int) [] 0) r) :
  Ev (fun k => deedboxref07_Get.l0 k (strOfNums xs) (xs.length : Int)) r := by
 by_cases hn : xs = []
 ·subst hn
  exact rg_stop (by simp) (by simp) (by rw [strOfNums_size]; simp) (by simp) h
 ·obtain ⟨p, a, b, c, d, rfl, hp⟩ := four_last xs h4 hn
  rw [strip_app p a b c d hp] at h
  have hsz : ((strOfNums (p ++ [a, b, c, d])).size : Int) = (p.length : Int) + 4 := by rw [str_size]; simp only [List.length_append, List.length_cons, List.length_nil]; omega
  have hln : (((p ++ [a, b, c, d]).length : Nat) : Int) = (p.length : Int) + 4 := by simp only [List.length_append, List.length_cons, List.length_nil]; omega
  have ec : bt (strOfNums (p ++ [a, b, c, d])) ((p.length : Int) + 2) = c := bt_part hx 2
  have ed : bt (strOfNums (p ++ [a, b, c, d])) ((p.length : Int) + 3) = d := bt_part hx 3
  have hk : (strOfNums (p ++ [a, b, c, d])).size < 1000000 := by omega
  rw [hln]
  by_cases hd : d = 61
  ·rw [if_pos hd] at h
   by_cases hc : c = 61
   ·rw [if_pos hc] at h
    refine rg_less (by omega) (by omega) hk (by omega) (by rw [show (p.length : Int) + 4 - 1 = (p.length : Int) + 3 by omega, ed, hd]) ?_
    refine rg_less (by omega) (by omega) hk (by omega) (by rw [show (p.length : Int) + 4 - 1 - 1 = (p.length : Int) + 2 by omega, ec, hc]) ?_
    have e2 : (((p ++ [a, b]).length : Nat) : Int) = (p.length : Int) + 4 - 1 - 1 := by simp only [List.length_append, List.length_cons, List.length_nil]; omega
    rw [e2] at h
    exact rg_stop (by omega) (by omega) hk (fun q => by omega) h
   ·rw [if_neg hc] at h
    refine rg_less (by omega) (by omega) hk (by omega) (by rw [show (p.length : Int) + 4 - 1 = (p.length : Int) + 3 by omega, ed, hd]) ?_
    have e2 : (((p ++ [a, b, c]).length : Nat) : Int) = (p.length : Int) + 4 - 1 := by simp only [List.length_append, List.length_cons, List.length_nil]; omega
    rw [e2] at h
    exact rg_stop (by omega) (by omega) hk (fun q => hc (by have := q.2.2; rw [show (p.length : Int) + 4 - 1 - 1 = (p.length : Int) + 2 by omega, ec] at this; exact this)) h
  ·rw [if_neg hd] at h
   rw [hln] at h
   exact rg_stop (by omega) (by omega) hk (fun q => hd (by have := q.2.2; rw [show (p.length : Int) + 4 - 1 = (p.length : Int) + 3 by omega, ed] at this; exact this)) h
theorem refget_tells (xs : List Int) (hx : Byt xs) (hl : xs.length ≤ 800000) : Ev (fun k => deedboxref07_Get.f k (strOfNums xs)) (if xs.length % 4 = 0 then told [] xs else ([], 3)) := by
 unfold deedboxref07_Get.f
 by_cases h4 : xs.length % 4 = 0
 ·rw [if_pos h4]
  refine Ev.congr (fun k => by rw [if_pos (by rw [str_size]; omega), str_size]) ?_
  have e : told [] xs = (if (∀ c ∈ strip xs, 0 ≤ N c) then fin_ xs (ob ((strip xs).map N)) else ([], 4)) := by
   unfold told fin_
   rw [← rdec_dec xs h4]
   unfold rdec
   by_cases q : ∀ c ∈ strip xs, 0 ≤ N c
   ·rw [if_pos q, if_pos q]
    by_cases q2 : enc (ob ((strip xs).map N)) = xs
    ·rw [if_pos q2, if_pos q2]; rfl
    ·rw [if_neg q2, if_neg q2]
   ·rw [if_neg q, if_neg q]
  rw [e]
  obtain ⟨q1, q2⟩ := strip_take xs h4
  exact rg_strip hx hl h4 (rg_l1 hx hl (strip xs) q1 q2 (strip xs) [] rfl (by simp))
 ·rw [if_neg h4]
  exact Ev.congr (fun k => by rw [if_neg (by rw [str_size]; omega)]) (Ev.now _)
end Go.Proofs.YtjkehapbemjnpaaDoor.TellS
