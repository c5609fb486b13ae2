/- Plain facts: whether two rows are the same, what was wrong with what was read; no program in sight. -/
import Derived.Test.YtmciigdfhikdnaaDoorOcts
import Derived.Test.YtmciigdfhikdnaaDoorRdB
import Derived.Test.YtmciigdfhikdnaaDoorRdRU
namespace Go.Proofs.YtmciigdfhikdnaaDoor
open Go.RowKit Go.Proofs.YtmciigdfhikdnaaDoorW.PrintWords Go.Proofs.YtmciigdfhikdnaaDoorW.PrintLast Go.Proofs.YtmciigdfhikdnaaDoorW.PrintMore Go.Proofs.YtmciigdfhikdnaaDoor.Rw Go.Proofs.YtmciigdfhikdnaaDoor.Rf Go.Proofs.YtmciigdfhikdnaaDoor.Kit
set_option linter.unusedVariables false
set_option linter.unusedSimpArgs false
theorem rd_next (p t : List Int) (c : Int) : rd (p ++ c :: t) (p.length : Int) = c := by unfold rd; simp
theorem xor_u8 (a b : Nat) (ha : a < 256) (hb : b < 256) : Go.bits .xor .u8 (a : Int) (b : Int) = ((a ^^^ b : Nat) : Int) := by
  have hx : a ^^^ b < 2 ^ 8 := Nat.xor_lt_two_pow (by omega) (by omega)
  have h1 : (BitVec.ofInt 8 (a : Int)).toNat = a := by
    rw [BitVec.ofInt_natCast, BitVec.toNat_ofNat]; exact Nat.mod_eq_of_lt (by omega)
  have h2 : (BitVec.ofInt 8 (b : Int)).toNat = b := by
    rw [BitVec.ofInt_natCast, BitVec.toNat_ofNat]; exact Nat.mod_eq_of_lt (by omega)
  show IntKind.u8.wrap ((BitVec.ofInt 8 (a : Int) ^^^ BitVec.ofInt 8 (b : Int)).toNat : Int) = _
  rw [BitVec.toNat_xor, h1, h2, IntKind.wrap_u8]
  omega
theorem or_u8 (a b : Nat) (ha : a < 256) (hb : b < 256) : Go.bits .or .u8 (a : Int) (b : Int) = ((a ||| b : Nat) : Int) := (bits_nat .u8 8 (by decide) wraps_u8 a b (by omega) (by omega)).2
theorem same_step (d a b : Int) (hd : 0 ≤ d ∧ d < 256) (ha : 0 ≤ a ∧ a < 256) (hb : 0 ≤ b ∧ b < 256) :
    (0 ≤ Go.bits .or .u8 d (Go.bits .xor .u8 a b) ∧ Go.bits .or .u8 d (Go.bits .xor .u8 a b) < 256) ∧ (Go.bits .or .u8 d (Go.bits .xor .u8 a b) = 0 ↔ d = 0 ∧ a = b) := by
  obtain ⟨d, rfl⟩ := Int.eq_ofNat_of_zero_le hd.1
  obtain ⟨a, rfl⟩ := Int.eq_ofNat_of_zero_le ha.1
  obtain ⟨b, rfl⟩ := Int.eq_ofNat_of_zero_le hb.1
  have hx : a ^^^ b < 2 ^ 8 := Nat.xor_lt_two_pow (by omega) (by omega)
  rw [xor_u8 a b (by omega) (by omega), or_u8 d (a ^^^ b) (by omega) (by omega)]
  have ho : d ||| (a ^^^ b) < 2 ^ 8 := Nat.or_lt_two_pow (by omega) hx
  refine ⟨by omega, ?_⟩
  have h1 : d ||| (a ^^^ b) = 0 ↔ d = 0 ∧ a ^^^ b = 0 := Nat.or_eq_zero_iff
  have h2 : a ^^^ b = 0 ↔ a = b := ⟨fun h => by
    have e : (a ^^^ b) ^^^ b = a := by rw [Nat.xor_assoc, Nat.xor_self, Nat.xor_zero]
    rw [h, Nat.zero_xor] at e
    exact e.symm, fun h => by rw [h, Nat.xor_self]⟩
  omega
theorem oct_loop : ∀ (x y p q : List Int) (d : Int), x.length = y.length → p.length = q.length → (p ++ x).length < 1000000 → (0 ≤ d ∧ d < 256) → Byt x → Byt y →
    Ev (fun k => octet_Same.l0 k (p ++ x) (q ++ y) d ((p ++ x).length : Int) (p.length : Int)) (decide (d = 0 ∧ x = y))
  | [], [], p, q, d, _, _, _, hd, _, _ => by
    refine Ev.step (f := fun _ => some (decide (d = 0 ∧ ([] : List Int) = []))) (fun k => ?_) (Ev.now _)
    simp only [octet_Same.l0]
    rw [if_neg (by simp)]
    by_cases h : d = 0
    · simp [h]
    · simp [h]
  | a :: x, b :: y, p, q, d, h, hp, hl, hd, hx, hy => by
    have hs := same_step d a b hd hx.cons.1 hy.cons.1
    have ih := oct_loop x y (p ++ [a]) (q ++ [b]) (Go.bits .or .u8 d (Go.bits .xor .u8 a b)) (by simpa using h) (by simpa using hp) (by simpa using hl) hs.1 hx.cons.2 hy.cons.2
    simp only [List.append_assoc, List.cons_append, List.nil_append] at ih
    rw [show ((p ++ [a]).length : Int) = (p.length : Int) + 1 by simp] at ih
    have hlen : (p ++ a :: x).length = p.length + 1 + x.length := by simp; omega
    have hlen2 : (q ++ b :: y).length = q.length + 1 + y.length := by simp; omega
    have hd2 : decide (d = 0 ∧ a :: x = b :: y) = decide (Go.bits .or .u8 d (Go.bits .xor .u8 a b) = 0 ∧ x = y) := by
      have := hs.2
      by_cases h1 : d = 0 ∧ a = b
      · have h2 := hs.2.2 h1
        by_cases h3 : x = y
        · rw [decide_eq_true ⟨h1.1, by rw [h1.2, h3]⟩, decide_eq_true ⟨h2, h3⟩]
        · rw [decide_eq_false (fun q => h3 (List.cons.inj q.2).2), decide_eq_false (fun q => h3 q.2)]
      · rw [decide_eq_false (fun q => h1 ⟨q.1, (List.cons.inj q.2).1⟩), decide_eq_false (fun q => h1 (hs.2.1 q.1))]
    rw [hd2]
    refine Ev.step (fun k => ?_) ih
    simp only [octet_Same.l0]
    rw [if_pos (by omega), if_pos (by omega), if_pos (by omega), if_pos (by omega), rd_next, show rd (q ++ b :: y) (p.length : Int) = b by rw [hp]; exact rd_next q y b, wr (n := (p.length : Int) + 1) (by omega) (by omega)]
  | [], _ :: _, _, _, _, h, _, _, _, _, _ => by simp at h
  | _ :: _, [], _, _, _, h, _, _, _, _, _ => by simp at h
theorem oct_same (x y : List Int) (hl : x.length < 1000000) (hx : Byt x) (hy : Byt y) : Ev (fun k => octet_Same.f k x y) (decide (x = y)) := by
  unfold octet_Same.f
  by_cases h : x.length = y.length
  · have hh := oct_loop x y [] [] 0 h rfl hl (by omega) hx hy
    have e : decide ((0 : Int) = 0 ∧ x = y) = decide (x = y) := by simp
    rw [e] at hh
    exact Ev.congr (fun k => by rw [if_pos (by omega)]; rfl) hh
  · rw [decide_eq_false (fun q => h (by rw [q]))]
    exact Ev.congr (fun k => by rw [if_neg (by omega)]) (Ev.now _)
theorem ref_loop : ∀ (x y p q : List Int), x.length = y.length → p.length = q.length → (p ++ x).length < 1000000 → Ev (fun k => deedboxref01_Same.l0 k (p ++ x) (q ++ y) (p.length : Int)) (decide (x = y))
  | [], [], p, q, _, _, _ => Ev.step (f := fun _ => some (decide (([] : List Int) = []))) (fun k => by simp only [deedboxref01_Same.l0]; rw [if_neg (by simp)]; simp) (Ev.now _)
  | a :: x, b :: y, p, q, h, hp, hl => by
    have hlen : (p ++ a :: x).length = p.length + 1 + x.length := by simp; omega
    have hlen2 : (q ++ b :: y).length = q.length + 1 + y.length := by simp; omega
    have e2 : rd (q ++ b :: y) (p.length : Int) = b := by rw [hp]; exact rd_next q y b
    by_cases hab : a = b
    · have ih := ref_loop x y (p ++ [a]) (q ++ [b]) (by simpa using h) (by simpa using hp) (by simpa using hl)
      simp only [List.append_assoc, List.cons_append, List.nil_append] at ih
      rw [show ((p ++ [a]).length : Int) = (p.length : Int) + 1 by simp] at ih
      rw [show decide (a :: x = b :: y) = decide (x = y) by simp [hab]]
      refine Ev.step (fun k => ?_) ih
      simp only [deedboxref01_Same.l0]
      rw [if_pos (by omega), if_pos (by omega), if_pos (by omega), rd_next, e2, if_pos hab, wr (n := (p.length : Int) + 1) (by omega) (by omega)]
    · rw [decide_eq_false (fun q => hab (List.cons.inj q).1)]
      refine Ev.step (f := fun _ => some false) (fun k => ?_) (Ev.now _)
      simp only [deedboxref01_Same.l0]
      rw [if_pos (by omega), if_pos (by omega), if_pos (by omega), rd_next, e2, if_neg hab]
  | [], _ :: _, _, _, h, _, _ => by simp at h
  | _ :: _, [], _, _, h, _, _ => by simp at h
theorem ref_same (x y : List Int) (hl : x.length < 1000000) : Ev (fun k => deedboxref01_Same.f k x y) (decide (x = y)) := by
  unfold deedboxref01_Same.f
  by_cases h : x.length = y.length
  · have hh := ref_loop x y [] [] h rfl hl
    exact Ev.congr (fun k => by rw [if_pos (by omega)]; rfl) hh
  · rw [decide_eq_false (fun q => h (by rw [q]))]
    exact Ev.congr (fun k => by rw [if_neg (by omega)]) (Ev.now _)
/-- What was wrong with what was read, that is written so. -/
def endS (xs : List Int) (c : Int) (ag : List Int × Int) (b : List Int) : Int := if endC xs c = 0 then (if ag.2 = 0 then (if b = ag.1 then 0 else 4) else ag.2) else endC xs c
theorem end_tell {g : Nat → Option (List Int × Int)} {ag : List Int × Int} (hg : Ev g ag) (xs : List Int) (c : Int) (b : List Int) (hb : Byt b) (ha : Byt ag.1) (hl : b.length < 1000000) : Ev (fun k => endR k xs c (g k) b) (endS xs c ag b) := by
  unfold endR endS
  by_cases h : endC xs c = 0
  · rw [if_pos h]
    refine Ev.congr (f := fun k => (g k).bind fun p => if p.2 = 0 then (octet_Same.f k b p.1).bind fun s => some (if s = true then p.2 else 4) else some p.2) (fun k => by rw [if_pos h]) ?_
    refine Ev.bind hg ?_
    by_cases h2 : ag.2 = 0
    · rw [if_pos h2]
      refine Ev.congr (f := fun k => (octet_Same.f k b ag.1).bind fun s => some (if s = true then ag.2 else 4)) (fun k => by rw [if_pos h2]) ?_
      refine Ev.bind (oct_same b ag.1 hl hb ha) ?_
      by_cases h3 : b = ag.1
      · rw [if_pos h3]
        exact Ev.congr (fun k => by rw [decide_eq_true h3, if_pos rfl, h2]) (Ev.now _)
      · rw [if_neg h3]
        exact Ev.congr (fun k => by rw [decide_eq_false h3]; rfl) (Ev.now _)
    · rw [if_neg h2]
      exact Ev.congr (fun k => by rw [if_neg h2]) (Ev.now _)
  · rw [if_neg h]
    exact Ev.congr (fun k => by rw [if_neg h]) (Ev.now _)
theorem done_tell (ag : List Int × Int) (xs : List Int) (c : Int) (b : List Int) (hl : b.length < 1000000) : Ev (fun k => doneR k xs c b ag.1 ag.2) (endS xs c ag b) := by
  unfold doneR endS
  by_cases h : endC xs c = 0
  · rw [if_pos h]
    by_cases h2 : ag.2 = 0
    · rw [if_pos h2]
      refine Ev.congr (f := fun k => (deedboxref01_Same.f k b ag.1).bind fun s => some (if s = true then ag.2 else 4)) (fun k => by rw [if_pos h, if_pos h2]) ?_
      refine Ev.bind (ref_same b ag.1 hl) ?_
      by_cases h3 : b = ag.1
      · rw [if_pos h3]
        exact Ev.congr (fun k => by rw [decide_eq_true h3, if_pos rfl, h2]) (Ev.now _)
      · rw [if_neg h3]
        exact Ev.congr (fun k => by rw [decide_eq_false h3]; rfl) (Ev.now _)
    · rw [if_neg h2]
      exact Ev.congr (fun k => by rw [if_pos h, if_neg h2]) (Ev.now _)
  · rw [if_neg h]
    exact Ev.congr (fun k => by rw [if_neg h]) (Ev.now _)
theorem within_yes {n a b : Int} (h : a ≤ n ∧ n ≤ b) : row_within.f n a b = some true ∧ deedboxref24_in.f n a b = some true := by
  unfold row_within.f deedboxref24_in.f
  rw [if_pos h.1, decide_eq_true h.2]
  exact ⟨rfl, rfl⟩
theorem within_no {n a b : Int} (h : ¬ (a ≤ n ∧ n ≤ b)) : row_within.f n a b = some false ∧ deedboxref24_in.f n a b = some false := by
  unfold row_within.f deedboxref24_in.f
  split
  · rw [decide_eq_false (by omega)]
    exact ⟨rfl, rfl⟩
  · exact ⟨rfl, rfl⟩
theorem lockS_len (g : Int) (no wp : List Int) : (lockS g no wp).1.length ≤ 62 := by
  unfold lockS
  split
  · rename_i h
    have := h.2
    simp [be_len]
    omega
  · simp
theorem lockS_byt (g : Int) (no wp : List Int) (h1 : Byt no) (h2 : Byt wp) : Byt (lockS g no wp).1 := by
  unfold lockS
  split
  · exact Byt.app (be_byt _ _) (Byt.app h1 h2)
  · exact Byt.nil
theorem shortS_byt (l : List Int) (h : Byt l) : Byt (shortS l) := Byt.app (be_byt _ _) h
theorem shortS_len (l : List Int) : (shortS l).length = l.length + 1 := by unfold shortS; rw [List.length_append, be_len]; omega
theorem textR_len1 (xs : List Int) (c s m : Int) : (textR xs c s m).1.length ≤ xs.length := by
  have h1 := numR_len xs c s
  unfold textR
  split
  · split
    · simp
    · have h2 := takeR_len (numR xs c s).2.1 0 (wrap64 (numR xs c s).1)
      omega
  · simp
theorem lockR_sizes (xs : List Int) (c : Int) : (lockR xs c).2.1.length ≤ xs.length ∧ (lockR xs c).2.2.1.length ≤ xs.length := by
  have h1 := numR_len xs c 2
  have h2 := takeR_len (numR xs c 2).2.1 (numR xs c 2).2.2 12
  have h3 := takeR_len (takeR (numR xs c 2).2.1 (numR xs c 2).2.2 12).2.1 (takeR (numR xs c 2).2.1 (numR xs c 2).2.2 12).2.2 48
  exact ⟨Nat.le_trans h2.1 h1, Nat.le_trans h3.1 (Nat.le_trans h2.2 h1)⟩
end Go.Proofs.YtmciigdfhikdnaaDoor
