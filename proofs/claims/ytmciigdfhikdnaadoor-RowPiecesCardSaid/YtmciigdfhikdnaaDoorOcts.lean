/- Plain facts of numbers as bytes, and of what reads them: the program's way and the reference's come to the same; no program in sight. -/
import Derived.Test.YtmciigdfhikdnaaDoorRd2
import Derived.Test.YtmciigdfhikdnaaDoorRef2
import Derived.Test.YtmciigdfhikdnaaDoorKit
import Derived.Laws.BitsLemmas
namespace Go.Proofs.YtmciigdfhikdnaaDoor
open Go.RowKit Go.Proofs.YtmciigdfhikdnaaDoorW.PrintWords Go.Proofs.YtmciigdfhikdnaaDoorW.PrintLast Go.Proofs.YtmciigdfhikdnaaDoorW.PrintMore Go.Proofs.YtmciigdfhikdnaaDoor.Rw Go.Proofs.YtmciigdfhikdnaaDoor.Rf Go.Proofs.YtmciigdfhikdnaaDoor.Kit
set_option linter.unusedVariables false
set_option linter.unusedSimpArgs false
/-- A number in so many bytes, the highest first. -/
def be : Nat → Int → List Int
  | 0, _ => []
  | s + 1, n => be s (n / 256) ++ [n % 256]
theorem be_len : ∀ (s : Nat) (n : Int), (be s n).length = s
  | 0, _ => rfl
  | s + 1, n => by simp [be, be_len s]
theorem be_byt : ∀ (s : Nat) (n : Int), Byt (be s n)
  | 0, _ => Byt.nil
  | s + 1, n => Byt.app (be_byt s _) (Byt.mk (by omega) Byt.nil)
theorem be_front : ∀ (s : Nat) (n : Int), be (s + 1) n = (n / 256 ^ s % 256) :: be s n
  | 0, n => by simp [be]
  | s + 1, n => by
    rw [be, be_front s (n / 256)]
    rw [Int.ediv_ediv_of_nonneg (by omega)]
    rw [show (256 : Int) * 256 ^ s = 256 ^ (s + 1) by rw [Int.pow_succ]; omega]
    rfl
/-- The number of bytes. -/
def val (l : List Int) : Int := l.foldl (fun n c => n * 256 + c) 0
theorem val_snoc (l : List Int) (c : Int) : val (l ++ [c]) = val l * 256 + c := by simp [val]
theorem val_be : ∀ (s : Nat) (n : Int), 0 ≤ n → n < 256 ^ s → val (be s n) = n
  | 0, n, h0, h1 => by simp at h1; simp [be, val]; omega
  | s + 1, n, h0, h1 => by
    rw [be, val_snoc, val_be s (n / 256) (by omega) (by rw [Int.pow_succ] at h1; omega)]
    omega
theorem pow256 (s : Nat) : (0 : Int) < 256 ^ s := Int.pow_pos (by decide)
theorem fold_val (l : List Int) (n : Int) (hB : Byt l) (hn : 0 ≤ n) : 0 ≤ l.foldl (fun n c => n * 256 + c) n ∧ l.foldl (fun n c => n * 256 + c) n < (n + 1) * 256 ^ l.length := by
  induction l generalizing n with
  | nil => simp; omega
  | cons c l ih =>
    have hc := hB.cons.1
    have h := ih (n * 256 + c) hB.cons.2 (by omega)
    refine ⟨h.1, Int.lt_of_lt_of_le h.2 ?_⟩
    have hp := pow256 l.length
    rw [List.length_cons, Int.pow_succ, Int.mul_comm (256 ^ l.length) 256, ← Int.mul_assoc]
    exact Int.mul_le_mul_of_nonneg_right (by omega) (by omega)
theorem val_lt (l : List Int) (hB : Byt l) : 0 ≤ val l ∧ val l < 256 ^ l.length := by
  have h := fold_val l 0 hB (by omega)
  simpa [val] using h
theorem be_val (l : List Int) (hB : Byt l) : be l.length (val l) = l := by
  induction hn : l.length generalizing l with
  | zero => rw [List.eq_nil_of_length_eq_zero hn]; rfl
  | succ m ih =>
    have hne : l ≠ [] := by intro h; subst h; simp at hn
    have e := List.dropLast_concat_getLast hne
    have hl : l.dropLast.length = m := by rw [List.length_dropLast]; omega
    rw [← e] at hB
    have hc := (hB.right).cons.1
    rw [be]
    rw [← e, val_snoc]
    rw [show (val l.dropLast * 256 + l.getLast hne) / 256 = val l.dropLast by omega, show (val l.dropLast * 256 + l.getLast hne) % 256 = l.getLast hne by omega]
    rw [ih l.dropLast hB.left hl]
theorem pow_le {a b : Nat} (h : a ≤ b) : (256 : Int) ^ a ≤ 256 ^ b := by
  induction h with
  | refl => exact Int.le_refl _
  | @step m h ih =>
    have := pow256 m
    rw [Int.pow_succ]
    omega
theorem get_eqs (l : List Int) (n : Int) (hB : Byt l) (hn : 0 ≤ n) (hl : (n + 1) * 256 ^ l.length ≤ 18446744073709551616) :
    l.foldl (fun n c => Go.bits .or .u64 (IntKind.u64.wrap (n * 256)) (IntKind.u64.wrap c)) n = l.foldl (fun n c => n * 256 + c) n ∧ l.foldl (fun n c => IntKind.u64.wrap ((IntKind.u64.wrap (n * 256)) + (IntKind.u64.wrap c))) n = l.foldl (fun n c => n * 256 + c) n := by
  induction l generalizing n with
  | nil => exact ⟨rfl, rfl⟩
  | cons c l ih =>
    have hc := hB.cons.1
    rw [List.length_cons, Int.pow_succ, Int.mul_comm (256 ^ l.length) 256, ← Int.mul_assoc] at hl
    have hp := pow256 l.length
    have hb : (n + 1) * 256 ≤ 18446744073709551616 := by
      have h1 : (n + 1) * 256 * 1 ≤ (n + 1) * 256 * 256 ^ l.length := Int.mul_le_mul_of_nonneg_left (by omega) (by omega)
      omega
    have hx : (n * 256 + c + 1) * 256 ^ l.length ≤ 18446744073709551616 := Int.le_trans (Int.mul_le_mul_of_nonneg_right (by omega) (by omega)) hl
    have h := ih (n * 256 + c) hB.cons.2 (by omega) hx
    simp only [List.foldl_cons]
    rw [wru (n := n * 256) (by omega) (by omega), wru (n := c) (by omega) (by omega), wru (n := n * 256 + c) (by omega) (by omega)]
    rw [bits_join .u64 64 (by decide) (fun n h0 h1 => wru h0 (by simpa using h1)) 8 (n * 256) c (by omega) (by omega) (by omega) (by omega) (by omega) (by omega)]
    exact h
theorem getN_val (l : List Int) (hB : Byt l) (hl : l.length ≤ 8) : getN l = val l ∧ refN l = val l := by
  refine get_eqs l 0 hB (by omega) ?_
  have h1 := pow_le hl
  have h8 : (256 : Int) ^ 8 = 18446744073709551616 := by decide
  rw [h8] at h1
  omega
theorem takeR_byt (xs : List Int) (c n : Int) (h : Byt xs) : Byt (takeR xs c n).1 ∧ Byt (takeR xs c n).2.1 := by
  unfold takeR
  repeat' split
  all_goals first
    | exact ⟨Byt.nil, h⟩
    | exact ⟨h.take _, h.drop _⟩
theorem takeR_size (xs : List Int) (c n : Int) (hn : 0 ≤ n) : ((takeR xs c n).1.length : Int) ≤ n := by
  unfold takeR
  repeat' split
  all_goals simp <;> omega
theorem num_same (xs : List Int) (c n : Int) (h : Byt xs) (h0 : 0 ≤ n) (h8 : n ≤ 8) : numR xs c n = rnumR xs c n := by
  have hs := takeR_size xs c n h0
  have hg := getN_val (takeR xs c n).1 (takeR_byt xs c n h).1 (by omega)
  unfold numR rnumR
  rw [hg.1, hg.2]
theorem numR_byt (xs : List Int) (c n : Int) (h : Byt xs) : Byt (numR xs c n).2.1 := (takeR_byt xs c n h).2
theorem text_same (xs : List Int) (c s most : Int) (h : Byt xs) (h0 : 0 ≤ s) (h8 : s ≤ 8) : textR xs c s most = rtextR xs c s most := by
  unfold textR rtextR
  rw [num_same xs c s h h0 h8]
theorem textR_byt (xs : List Int) (c s most : Int) (h : Byt xs) : Byt (textR xs c s most).1 ∧ Byt (textR xs c s most).2.1 := by
  have h1 := numR_byt xs c s h
  unfold textR
  split
  · split
    · exact ⟨Byt.nil, h1⟩
    · exact takeR_byt _ _ _ h1
  · exact ⟨Byt.nil, h1⟩
theorem lock_same (xs : List Int) (c : Int) (h : Byt xs) : lockR xs c = rlockR xs c := by
  unfold lockR rlockR
  rw [num_same xs c 2 h (by omega) (by omega)]
theorem lockR_byt (xs : List Int) (c : Int) (h : Byt xs) : Byt (lockR xs c).2.1 ∧ Byt (lockR xs c).2.2.1 ∧ Byt (lockR xs c).2.2.2.1 := by
  have h1 := numR_byt xs c 2 h
  have h2 := takeR_byt (numR xs c 2).2.1 (numR xs c 2).2.2 12 h1
  have h3 := takeR_byt _ (takeR (numR xs c 2).2.1 (numR xs c 2).2.2 12).2.2 48 h2.2
  exact ⟨h2.1, h3.1, h3.2⟩
/-! ### What was put is read -/
theorem take_app (a r : List Int) (n : Int) (hn : n = a.length) : takeR (a ++ r) 0 n = (a, r, 0) := by
  subst hn
  unfold takeR
  rw [if_pos rfl, if_neg (by simp; omega)]
  simp
theorem num_be (s : Nat) (n : Int) (r : List Int) (hs : s ≤ 8) (h0 : 0 ≤ n) (h1 : n < 256 ^ s) : numR (be s n ++ r) 0 (s : Int) = (n, r, 0) := by
  unfold numR
  rw [take_app (be s n) r s (by rw [be_len])]
  simp only
  rw [(getN_val (be s n) (be_byt s n) (by rw [be_len]; exact hs)).1, val_be s n h0 h1]
/-- Bytes with their length, in one byte, ahead. -/
def shortS (l : List Int) : List Int := be 1 l.length ++ l
theorem text_be (l r : List Int) (most : Int) (hl : l.length ≤ 255) (hm : (l.length : Int) ≤ most) : textR (shortS l ++ r) 0 1 most = (l, r, 0) := by
  unfold textR shortS
  rw [List.append_assoc, show (1 : Int) = ((1 : Nat) : Int) from rfl, num_be 1 l.length (l ++ r) (by omega) (by omega) (by simp; omega)]
  simp only [if_true]
  rw [if_neg (by omega), wr (by omega) (by omega), take_app l r _ rfl]
/-! ### Putting -/
theorem put_loop (n : Int) (h0 : 0 ≤ n) : ∀ (j : Nat) (acc : List Int), j ≤ 8 → acc.length + j ≤ 100 → Ev (fun k => octet_Put.l0 k n acc ((j : Int) - 1)) (acc ++ be j n)
  | 0, acc, hj, ha => Ev.step (f := fun _ => some (acc ++ be 0 n)) (fun k => by simp only [octet_Put.l0]; rw [if_neg (by omega)]; simp [be]) (Ev.now _)
  | j + 1, acc, hj, ha => by
    have ih := put_loop n h0 j (acc ++ [n / 256 ^ j % 256]) (by omega) (by simp; omega)
    rw [be_front, show acc ++ n / 256 ^ j % 256 :: be j n = (acc ++ [n / 256 ^ j % 256]) ++ be j n by simp]
    refine Ev.step (fun k => ?_) ih
    simp only [octet_Put.l0]
    rw [show ((j + 1 : Nat) : Int) - 1 = (j : Int) by omega, if_pos (by omega), if_neg (by omega), wr (n := 8 * (j : Int)) (by omega) (by omega), if_pos (by omega), if_pos (by omega), wr (n := (j : Int) - 1) (by omega) (by omega)]
    have e : shr .u64 n (8 * (j : Int)) = n / 256 ^ j := by
      unfold shr
      rw [show (8 * (j : Int)).toNat = 8 * j by omega, show IntKind.u64.bits = 64 from rfl, Nat.min_eq_left (by omega), Int.pow_mul]
      rfl
    rw [e]
theorem put_tell (s : Nat) (n : Int) (hs : s ≤ 8) (h0 : 0 ≤ n) : Ev (fun k => octet_Put.f k n (s : Int)) (be s n) := by
  have h := put_loop n h0 s [] hs (by simp; omega)
  refine Ev.congr (fun k => ?_) h
  unfold octet_Put.f
  rw [wr (by omega) (by omega)]
theorem rput_tell : ∀ (s : Nat) (n : Int), s ≤ 8 → 0 ≤ n → n < 18446744073709551616 → Ev (fun k => deedboxref01_Put.f k n (s : Int)) (be s n)
  | 0, n, hs, h0, h1 => Ev.step (f := fun _ => some []) (fun k => by simp only [deedboxref01_Put.f]; rw [if_pos (by omega)]) (Ev.now _)
  | s + 1, n, hs, h0, h1 => by
    have ih := rput_tell s (n / 256) (by omega) (by omega) (by omega)
    have hb := be_len s (n / 256)
    refine Ev.step (f := fun k => (deedboxref01_Put.f k (n / 256) (s : Int)).bind fun t => if t.length < 140737488355328 then some (t ++ [(Int.tmod n 256) % 256]) else none) (fun k => ?_) (Ev.bind ih (Ev.congr (fun k => ?_) (Ev.now (be (s + 1) n))))
    · simp only [deedboxref01_Put.f]
      have e : IntKind.u64.wrap (Int.tdiv n 256) = n / 256 := by rw [Int.tdiv_eq_ediv_of_nonneg h0, wru (by omega) (by omega)]
      rw [if_neg (by omega), wr (n := ((s + 1 : Nat) : Int) - 1) (by omega) (by omega), show ((s + 1 : Nat) : Int) - 1 = (s : Int) by omega, e]
    · rw [if_pos (by omega), be, Int.tmod_eq_emod_of_nonneg h0]
      congr 3
      omega
/-! ### Joining -/
theorem join_l1 (n : Int) : ∀ (q p : List (List Int)) (acc : List Int), (p ++ q).length < 1000 → acc.length + q.flatten.length < 100000 → Ev (fun k => octet_Join.l1 k acc (p ++ q) ((p ++ q).length : Int) (p.length : Int)) (acc ++ q.flatten)
  | [], p, acc, hl, ha => Ev.step (f := fun _ => some (acc ++ [].flatten)) (fun k => by simp only [octet_Join.l1]; rw [if_neg (by simp)]; simp) (Ev.now _)
  | x :: q, p, acc, hl, ha => by
    have hlen : (p ++ x :: q).length = p.length + 1 + q.length := by simp; omega
    have hfl : (x :: q).flatten.length = x.length + q.flatten.length := by simp
    have ih := join_l1 n q (p ++ [x]) (acc ++ x) (by simp only [List.append_assoc, List.cons_append, List.nil_append]; exact hl) (by rw [List.length_append]; omega)
    have hrd : rd_L1 (p ++ x :: q) (p.length : Int) = x := by unfold rd_L1; simp
    simp only [List.append_assoc, List.cons_append, List.nil_append] at ih
    rw [show ((p ++ [x]).length : Int) = (p.length : Int) + 1 by simp] at ih
    rw [show acc ++ (x :: q).flatten = acc ++ (x ++ q.flatten) by simp]
    refine Ev.step (fun k => ?_) ih
    simp only [octet_Join.l1]
    rw [if_pos (by omega), if_pos (by omega), if_pos (by omega), hrd, if_pos (by omega), wr (n := (p.length : Int) + 1) (by omega) (by omega)]
theorem join_l0 (l : List (List Int)) (r : List Int) (hr : Ev (fun k => octet_Join.l1 k [] l (l.length : Int) 0) r) : ∀ (q p : List (List Int)) (n : Int), l = p ++ q → l.length < 1000 → 0 ≤ n → n + q.flatten.length < 100000 → Ev (fun k => octet_Join.l0 k l n l (l.length : Int) (p.length : Int)) r
  | [], p, n, h, hl, h0, hn => by
    rw [List.append_nil] at h
    subst h
    refine Ev.step (fun k => ?_) hr
    simp only [octet_Join.l0]
    rw [if_neg (by omega), if_pos (by omega), if_pos (by omega)]
  | x :: q, p, n, h, hl, h0, hn => by
    have hlen : (p ++ x :: q).length = p.length + 1 + q.length := by simp; omega
    have hfl : (x :: q).flatten.length = x.length + q.flatten.length := by simp
    have ih := join_l0 l r hr q (p ++ [x]) (n + x.length) (by rw [h]; simp) hl (by omega) (by omega)
    rw [show ((p ++ [x]).length : Int) = (p.length : Int) + 1 by simp] at ih
    have hrd : rd_L1 l (p.length : Int) = x := by unfold rd_L1; rw [h]; simp
    have hll : l.length = p.length + 1 + q.length := by rw [h]; exact hlen
    refine Ev.step (fun k => ?_) ih
    simp only [octet_Join.l0]
    rw [if_pos (by omega), if_pos (by omega), if_pos (by omega), hrd, wr (n := n + (x.length : Int)) (by omega) (by omega), wr (n := (p.length : Int) + 1) (by omega) (by omega)]
theorem join_tell (l : List (List Int)) (hl : l.length < 1000) (hf : l.flatten.length < 100000) : Ev (fun k => octet_Join.f k l) l.flatten := by
  have h := join_l1 0 l [] [] hl (by simpa using hf)
  simp only [List.nil_append] at h
  have h2 := join_l0 l l.flatten h l [] 0 rfl hl (by omega) (by omega)
  exact h2
theorem short_tell (l : List Int) (h : l.length ≤ 255) : Ev (fun k => row_short.f k l) (shortS l) := by
  unfold row_short.f
  have h1 := put_tell 1 (l.length : Int) (by omega) (by omega)
  refine Ev.bind (a := be 1 l.length) (Ev.congr (fun k => by rw [wru (by omega) (by omega)]; rfl) h1) ?_
  refine Ev.bind (a := shortS l) ?_ (Ev.now _)
  have h2 := join_tell [be 1 l.length, l] (by simp) (by simp [be_len]; omega)
  simpa [shortS] using h2
theorem rshort_tell (l : List Int) (h : l.length ≤ 255) : deedboxref24_short.f l = some (shortS l) := by
  unfold deedboxref24_short.f shortS
  simp only [Option.bind_some, be, List.nil_append]
  rw [if_pos (by simp; omega)]
/-! ### A sealed key -/
def lockOk (g : Int) (no wp : List Int) : Prop := (-1 ≤ g ∧ g ≤ 65534) ∧ no.length = 12 ∧ wp.length = 48
instance (g : Int) (no wp : List Int) : Decidable (lockOk g no wp) := by unfold lockOk; infer_instance
def lockS (g : Int) (no wp : List Int) : List Int × Bool := if lockOk g no wp then (be 2 (g + 1) ++ (no ++ wp), true) else ([], false)
theorem lock_no (g : Int) (no wp : List Int) (h : ¬ lockOk g no wp) : lockS g no wp = ([], false) := if_neg h
theorem lock_tell (g : Int) (no wp : List Int) : Ev (fun k => row_lock.f k g no wp) (lockS g no wp) := by
  have stop : Ev (fun k => row_lock.j0 k true g no wp) ([], false) := Ev.step (f := fun _ => some ([], false)) (fun k => by simp only [row_lock.j0, if_true]) (Ev.now _)
  unfold row_lock.f
  by_cases h1 : -1 ≤ g ∧ g ≤ 65534
  · have e1 : row_within.f g (-1) 65534 = some true := by unfold row_within.f; rw [if_pos h1.1, decide_eq_true h1.2]
    by_cases h2 : no.length = 12
    · by_cases h3 : wp.length = 48
      · have hk : lockOk g no wp := ⟨h1, h2, h3⟩
        have hs : lockS g no wp = (be 2 (g + 1) ++ (no ++ wp), true) := if_pos hk
        rw [hs]
        refine Ev.congr (f := fun k => row_lock.j0 k false g no wp) (fun k => by rw [e1, Option.bind_some, if_pos rfl, if_pos (by omega)]; congr 1; simp; omega) ?_
        refine Ev.step (f := fun k => (octet_Put.f k (IntKind.u64.wrap (wrap64 (g + 1))) 2).bind fun t126 => (octet_Join.f k [t126, no, wp]).bind fun t132 => some (t132, true)) (fun k => by simp only [row_lock.j0, Bool.false_eq_true, if_false]) ?_
        have hp := put_tell 2 (g + 1) (by omega) (by omega)
        refine Ev.bind (a := be 2 (g + 1)) (Ev.congr (fun k => by rw [wr (by omega) (by omega), wru (by omega) (by omega)]; rfl) hp) ?_
        refine Ev.bind (a := be 2 (g + 1) ++ (no ++ wp)) ?_ (Ev.now _)
        have hj := join_tell [be 2 (g + 1), no, wp] (by simp) (by simp [be_len]; omega)
        simpa using hj
      · rw [lock_no g no wp (fun h => h3 h.2.2)]
        exact Ev.congr (fun k => by rw [e1, Option.bind_some, if_pos rfl, if_pos (by omega)]; congr 1; simp; omega) stop
    · rw [lock_no g no wp (fun h => h2 h.2.1)]
      exact Ev.congr (fun k => by rw [e1, Option.bind_some, if_pos rfl, if_neg (by omega)]) stop
  · rw [lock_no g no wp (fun h => h1 h.1)]
    have e1 : row_within.f g (-1) 65534 = some false := by
      unfold row_within.f
      split
      · rw [decide_eq_false (by omega)]
      · rfl
    exact Ev.congr (fun k => by rw [e1]; rfl) stop
theorem rlock_tell (g : Int) (no wp : List Int) : Ev (fun k => deedboxref24_Lock.f k g no wp) (lockS g no wp) := by
  unfold deedboxref24_Lock.f
  by_cases h1 : -1 ≤ g ∧ g ≤ 65534
  · have e1 : deedboxref24_in.f g (-1) 65534 = some true := by unfold deedboxref24_in.f; rw [if_pos h1.1, decide_eq_true h1.2]
    by_cases h2 : no.length = 12
    · by_cases h3 : wp.length = 48
      · have hk : lockOk g no wp := ⟨h1, h2, h3⟩
        have hs : lockS g no wp = (be 2 (g + 1) ++ (no ++ wp), true) := if_pos hk
        have hb := be_len 2 (g + 1)
        rw [hs]
        have hp := rput_tell 2 (g + 1) (by omega) (by omega) (by omega)
        refine Ev.congr (f := fun k => (deedboxref01_Put.f k (g + 1) 2).bind fun t116 => (if t116.length + no.length < 140737488355328 then ((some (t116 ++ no : List Int)).bind fun y119 => (if y119.length + wp.length < 140737488355328 then (some ((y119 ++ wp), true)) else (none))) else (none))) (fun k => by rw [e1, Option.bind_some, if_pos rfl, if_pos (by omega), if_pos (by omega), wr (by omega) (by omega), wru (by omega) (by omega)]) ?_
        refine Ev.bind hp (Ev.congr (fun k => ?_) (Ev.now _))
        rw [if_pos (by omega), Option.bind_some, if_pos (by rw [List.length_append]; omega), List.append_assoc]
      · rw [lock_no g no wp (fun h => h3 h.2.2)]
        exact Ev.congr (fun k => by rw [e1, Option.bind_some, if_pos rfl, if_pos (by omega), if_neg (by omega)]) (Ev.now _)
    · rw [lock_no g no wp (fun h => h2 h.2.1)]
      exact Ev.congr (fun k => by rw [e1, Option.bind_some, if_pos rfl, if_neg (by omega)]) (Ev.now _)
  · rw [lock_no g no wp (fun h => h1 h.1)]
    have e1 : deedboxref24_in.f g (-1) 65534 = some false := by
      unfold deedboxref24_in.f
      split
      · rw [decide_eq_false (by omega)]
      · rfl
    exact Ev.congr (fun k => by rw [e1]; rfl) (Ev.now _)
theorem lock_back (g : Int) (no wp r : List Int) (h : lockOk g no wp) : lockR ((be 2 (g + 1) ++ (no ++ wp)) ++ r) 0 = (g, no, wp, r, 0) := by
  obtain ⟨h1, h2, h3⟩ := h
  unfold lockR
  rw [List.append_assoc, show (2 : Int) = ((2 : Nat) : Int) from rfl, num_be 2 (g + 1) _ (by omega) (by omega) (by simp; omega)]
  simp only
  rw [List.append_assoc, take_app no _ 12 (by omega)]
  simp only
  rw [take_app wp r 48 (by omega)]
  simp only
  rw [wr (n := g + 1) (by omega) (by omega), wr (by omega) (by omega), show g + 1 - 1 = g by omega]
end Go.Proofs.YtmciigdfhikdnaaDoor
