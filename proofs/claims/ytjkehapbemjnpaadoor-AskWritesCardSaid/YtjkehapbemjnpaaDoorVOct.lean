/- Plain facts of octet.Same and octet.Join, and of the reference's Same; no program in sight. -/
import Derived.Test.YtjkehapbemjnpaaDoorVLx0
import Derived.Test.YtjkehapbemjnpaaDoorVLx1
import Derived.Test.YtjkehapbemjnpaaDoorVKit
import Derived.Laws.BitsLemmas
namespace Go.Proofs.YtjkehapbemjnpaaDoor
open Go.RowKit Go.Proofs.YtjkehapbemjnpaaDoorW.PrintWords Go.Proofs.YtjkehapbemjnpaaDoorW.PrintLast Go.Proofs.YtjkehapbemjnpaaDoorW.PrintMore Lf Kit
set_option linter.unusedVariables false
set_option linter.unusedSimpArgs false
theorem rd_next (p t : List Int) (c : Int) : rd (p ++ c :: t) (p.length : Int) = c := by unfold rd; simp
theorem xor_u8 (a b : Nat) (ha : a < 256) (hb : b < 256) : Go.bits .xor .u8 (a : Int) (b : Int) = ((a ^^^ b : Nat) : Int) := by
 have hx : a ^^^ b < 2 ^ 8 := Nat.xor_lt_two_pow (by omega) (by omega)
 have h1 : (BitVec.ofInt 8 (a : Int)).toNat = a := by
  rw [BitVec.ofInt_natCast, BitVec.toNat_ofNat]; exact Nat.mod_eq_of_lt (by omega)
 have h2 : (BitVec.ofInt 8 (b : Int)).toNat = b := by
  rw [BitVec.ofInt_natCast, BitVec.toNat_ofNat]; exact Nat.mod_eq_of_lt (by omega)
 show IntKind.u8.wrap ((BitVec.ofInt 8 (a : Int) ^^^ BitVec.ofInt 8 (b : Int)).toNat : Int) = _
 rw [BitVec.toNat_xor, h1, h2, IntKind.wrap_u8]
 omega
theorem or_u8 (a b : Nat) (ha : a < 256) (hb : b < 256) : Go.bits .or .u8 (a : Int) (b : Int) = ((a ||| b : Nat) : Int) := (bits_nat .u8 8 (by decide) wraps_u8 a b (by omega) (by omega)).2
theorem same_step (d a b : Int) (hd : 0 ≤ d ∧ d < 256) (ha : 0 ≤ a ∧ a < 256) (hb : 0 ≤ b ∧ b < 256) :
  (0 ≤ Go.bits .or .u8 d (Go.bits .xor .u8 a b) ∧ Go.bits .or .u8 d (Go.bits .xor .u8 a b) < 256) ∧ (Go.bits .or .u8 d (Go.bits .xor .u8 a b) = 0 ↔ d = 0 ∧ a = b) := by
 obtain ⟨d, rfl⟩ := Int.eq_ofNat_of_zero_le hd.1
 obtain ⟨a, rfl⟩ := Int.eq_ofNat_of_zero_le ha.1
 obtain ⟨b, rfl⟩ := Int.eq_ofNat_of_zero_le hb.1
 have hx : a ^^^ b < 2 ^ 8 := Nat.xor_lt_two_pow (by omega) (by omega)
 rw [xor_u8 a b (by omega) (by omega), or_u8 d (a ^^^ b) (by omega) (by omega)]
 have ho : d ||| (a ^^^ b) < 2 ^ 8 := Nat.or_lt_two_pow (by omega) hx
 refine ⟨by omega, ?_⟩
 have h1 : d ||| (a ^^^ b) = 0 ↔ d = 0 ∧ a ^^^ b = 0 := Nat.or_eq_zero_iff
 have h2 : a ^^^ b = 0 ↔ a = b := ⟨fun h => by
  have e : (a ^^^ b) ^^^ b = a := by rw [Nat.xor_assoc, Nat.xor_self, Nat.xor_zero]
  rw [h, Nat.zero_xor] at e
  exact e.symm, fun h => by rw [h, Nat.xor_self]⟩
 omega
theorem oct_loop : ∀ (x y p q : List Int) (d : Int), x.length = y.length → p.length = q.length → (p ++ x).length < 1000000 → (0 ≤ d ∧ d < 256) → Byt x → Byt y →
  Ev (fun k => octet_Same.l0 k (p ++ x) (q ++ y) d ((p ++ x).length : Int) (p.length : Int)) (decide (d = 0 ∧ x = y))
 | [], [], p, q, d, _, _, _, hd, _, _ => by
  refine Ev.step (f := fun _ => some (decide (d = 0 ∧ ([] : List Int) = []))) (fun k => ?_) (Ev.now _)
  simp only [octet_Same.l0]
  rw [if_neg (by simp)]
  by_cases h : d = 0
  ·simp [h]
  ·simp [h]
 | a :: x, b :: y, p, q, d, h, hp, hl, hd, hx, hy => by
  have hs := same_step d a b hd hx.cons.1 hy.cons.1
  have ih := oct_loop x y (p ++ [a]) (q ++ [b]) (Go.bits .or .u8 d (Go.bits .xor .u8 a b)) (by simpa using h) (by simpa using hp) (by simpa using hl) hs.1 hx.cons.2 hy.cons.2
  simp only [List.append_assoc, List.cons_append, List.nil_append] at ih
  rw [show ((p ++ [a]).length : Int) = (p.length : Int) + 1 by simp] at ih
  have hlen : (p ++ a :: x).length = p.length + 1 + x.length := by simp; omega
  have hlen2 : (q ++ b :: y).length = q.length + 1 + y.length := by simp; omega
  have hd2 : decide (d = 0 ∧ a :: x = b :: y) = decide (Go.bits .or .u8 d (Go.bits .xor .u8 a b) = 0 ∧ x = y) := by
   have := hs.2
   by_cases h1 : d = 0 ∧ a = b
   ·have h2 := hs.2.2 h1
    by_cases h3 : x = y
    ·rw [decide_eq_true ⟨h1.1, by rw [h1.2, h3]⟩, decide_eq_true ⟨h2, h3⟩]
    ·rw [decide_eq_false (fun q => h3 (List.cons.inj q.2).2), decide_eq_false (fun q => h3 q.2)]
   ·rw [decide_eq_false (fun q => h1 ⟨q.1, (List.cons.inj q.2).1⟩), decide_eq_false (fun q => h1 (hs.2.1 q.1))]
  rw [hd2]
  refine Ev.step (fun k => ?_) ih
  simp only [octet_Same.l0]
  rw [if_pos (by omega), if_pos (by omega), if_pos (by omega), if_pos (by omega), rd_next, show rd (q ++ b :: y) (p.length : Int) = b by rw [hp]; exact rd_next q y b, wr (n := (p.length : Int) + 1) (by omega) (by omega)]
 | [], _ :: _, _, _, _, h, _, _, _, _, _ => by simp at h
 | _ :: _, [], _, _, _, h, _, _, _, _, _ => by simp at h
theorem oct_same (x y : List Int) (hl : x.length < 1000000) (hx : Byt x) (hy : Byt y) : Ev (fun k => octet_Same.f k x y) (decide (x = y)) := by
 unfold octet_Same.f
 by_cases h : x.length = y.length
 ·have hh := oct_loop x y [] [] 0 h rfl hl (by omega) hx hy
  have e : decide ((0 : Int) = 0 ∧ x = y) = decide (x = y) := by simp
  rw [e] at hh
  exact Ev.congr (fun k => by rw [if_pos (by omega)]; rfl) hh
 ·rw [decide_eq_false (fun q => h (by rw [q]))]
  exact Ev.congr (fun k => by rw [if_neg (by omega)]) (Ev.now _)
theorem ref_loop : ∀ (x y p q : List Int), x.length = y.length → p.length = q.length → (p ++ x).length < 1000000 → Ev (fun k => deedboxref01_Same.l0 k (p ++ x) (q ++ y) (p.length : Int)) (decide (x = y))
 | [], [], p, q, _, _, _ => Ev.step (f := fun _ => some (decide (([] : List Int) = []))) (fun k => by simp only [deedboxref01_Same.l0]; rw [if_neg (by simp)]; simp) (Ev.now _)
 | a :: x, b :: y, p, q, h, hp, hl => by
  have hlen : (p ++ a :: x).length = p.length + 1 + x.length := by simp; omega
  have hlen2 : (q ++ b :: y).length = q.length + 1 + y.length := by simp; omega
  have e2 : rd (q ++ b :: y) (p.length : Int) = b := by rw [hp]; exact rd_next q y b
  by_cases hab : a = b
  ·have ih := ref_loop x y (p ++ [a]) (q ++ [b]) (by simpa using h) (by simpa using hp) (by simpa using hl)
   simp only [List.append_assoc, List.cons_append, List.nil_append] at ih
   rw [show ((p ++ [a]).length : Int) = (p.length : Int) + 1 by simp] at ih
   rw [show decide (a :: x = b :: y) = decide (x = y) by simp [hab]]
   refine Ev.step (fun k => ?_) ih
   simp only [deedboxref01_Same.l0]
   rw [if_pos (by omega), if_pos (by omega), if_pos (by omega), rd_next, e2, if_pos hab, wr (n := (p.length : Int) + 1) (by omega) (by omega)]
  ·rw [decide_eq_false (fun q => hab (List.cons.inj q).1)]
   refine Ev.step (f := fun _ => some false) (fun k => ?_) (Ev.now _)
   simp only [deedboxref01_Same.l0]
   rw [if_pos (by omega), if_pos (by omega), if_pos (by omega), rd_next, e2, if_neg hab]
 | [], _ :: _, _, _, h, _, _ => by simp at h
 | _ :: _, [], _, _, h, _, _ => by simp at h
theorem ref_same (x y : List Int) (hl : x.length < 1000000) : Ev (fun k => deedboxref01_Same.f k x y) (decide (x = y)) := by
 unfold deedboxref01_Same.f
 by_cases h : x.length = y.length
 ·have hh := ref_loop x y [] [] h rfl hl
  exact Ev.congr (fun k => by rw [if_pos (by omega)]; rfl) hh
 ·rw [decide_eq_false (fun q => h (by rw [q]))]
  exact Ev.congr (fun k => by rw [if_neg (by omega)]) (Ev.now _)
theorem join_l1 (n : Int) : ∀ (q p : List (List Int)) (acc : List Int), (p ++ q).length < 1000 → acc.length + q.flatten.length < 100000 → Ev (fun k => octet_Join.l1 k acc (p ++ q) ((p ++ q).length : Int) (p.length : Int)) (acc ++ q.flatten)
 | [], p, acc, hl, ha => Ev.step (f := fun _ => some (acc ++ [].flatten)) (fun k => by simp only [octet_Join.l1]; rw [if_neg (by simp)]; simp) (Ev.now _)
 | x :: q, p, acc, hl, ha => by
  have hlen : (p ++ x :: q).length = p.length + 1 + q.length := by simp; omega
  have hfl : (x :: q).flatten.length = x.length + q.flatten.length := by simp
  have ih := join_l1 n q (p ++ [x]) (acc ++ x) (by simp only [List.append_assoc, List.cons_append, List.nil_append]; exact hl) (by rw [List.length_append]; omega)
  have hrd : rd_L2 (p ++ x :: q) (p.length : Int) = x := by unfold rd_L2; simp
  simp only [List.append_assoc, List.cons_append, List.nil_append] at ih
  rw [show ((p ++ [x]).length : Int) = (p.length : Int) + 1 by simp] at ih
  rw [show acc ++ (x :: q).flatten = acc ++ (x ++ q.flatten) by simp]
  refine Ev.step (fun k => ?_) ih
  simp only [octet_Join.l1]
  rw [if_pos (by omega), if_pos (by omega), if_pos (by omega), hrd, if_pos (by omega), wr (n := (p.length : Int) + 1) (by omega) (by omega)]
theorem join_l0 (l : List (List Int)) (r : List Int) (hr : Ev (fun k => octet_Join.l1 k [] l (l.length : Int) 0) r) : ∀ (q p : List (List Int)) (n : Int), l = p ++ q → l.length < 1000 → 0 ≤ n → n + q.flatten.length < 100000 → Ev (fun k => octet_Join.l0 k l n l (l.length : Int) (p.length : Int)) r
 | [], p, n, h, hl, h0, hn => by
  rw [List.append_nil] at h
  subst h
  refine Ev.step (fun k => ?_) hr
  simp only [octet_Join.l0]
  rw [if_neg (by omega), if_pos (by omega), if_pos (by omega)]
 | x :: q, p, n, h, hl, h0, hn => by
  have hlen : (p ++ x :: q).length = p.length + 1 + q.length := by simp; omega
  have hfl : (x :: q).flatten.length = x.length + q.flatten.length := by simp
  have ih := join_l0 l r hr q (p ++ [x]) (n + x.length) (by rw [h]; simp) hl (by omega) (by omega)
  rw [show ((p ++ [x]).length : Int) = (p.length : Int) + 1 by simp] at ih
  have hrd : rd_L2 l (p.length : Int) = x := by unfold rd_L2; rw [h]; simp
  have hll : l.length = p.length + 1 + q.length := by rw [h]; exact hlen
  refine Ev.step (fun k => ?_) ih
  simp only [octet_Join.l0]
  rw [if_pos (by omega), if_pos (by omega), if_pos (by omega), hrd, wr (n := n + (x.length : Int)) (by omega) (by omega), wr (n := (p.length : Int) + 1) (by omega) (by omega)]
theorem join_tell (l : List (List Int)) (hl : l.length < 1000) (hf : l.flatten.length < 100000) : Ev (fun k => octet_Join.f k l) l.flatten := by
 have h := join_l1 0 l [] [] hl (by simpa using hf)
 simp only [List.nil_append] at h
 have h2 := join_l0 l l.flatten h l [] 0 rfl hl (by omega) (by omega)
 exact h2
end Go.Proofs.YtjkehapbemjnpaaDoor
