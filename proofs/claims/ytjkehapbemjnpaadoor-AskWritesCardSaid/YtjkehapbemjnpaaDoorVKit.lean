/- Plain facts of strings as lists of numbers, and of words of the walks; no program in sight. -/
import Derived.Laws.BitsLemmas
import Derived.Laws.BytesArg
import Derived.Lib.Bytes
import Derived.Test.YtjkehapbemjnpaaDoorVWZeros
import Derived.Lib.Bytealg
import Derived.Lib.IndexMore
import Derived.Lib.CountLaws
import Derived.Lib.Split
import Derived.Lib.Join
namespace Go.Proofs.YtjkehapbemjnpaaDoor.Kit
open Go.RowKit Go.Proofs.YtjkehapbemjnpaaDoorW.PrintWords
def Byt (xs : List Int) : Prop := ∀ x ∈ xs, 0 ≤ x ∧ x < 256
theorem Byt.cons {x : Int} {xs : List Int} (h : Byt (x :: xs)) : (0 ≤ x ∧ x < 256) ∧ Byt xs :=
 ⟨h x (by simp), fun y hy => h y (by simp [hy])⟩
theorem Byt.mk {x : Int} {xs : List Int} (h : 0 ≤ x ∧ x < 256) (k : Byt xs) : Byt (x :: xs) := by
 intro y hy
 rcases List.mem_cons.1 hy with rfl | hy
 ·exact h
 ·exact k y hy
theorem Byt.nil : Byt [] := fun _ h => by simp at h
theorem Byt.app {xs ys : List Int} (h : Byt xs) (k : Byt ys) : Byt (xs ++ ys) := by
 intro y hy
 rcases List.mem_append.1 hy with hy | hy
 ·exact h y hy
 ·exact k y hy
theorem str_app (xs ys : List Int) : strOfNums xs ++ strOfNums ys = strOfNums (xs ++ ys) := by
 apply ByteArray.ext
 simp [strOfNums, ByteArray.data_append]
theorem str_inj {xs ys : List Int} (hx : Byt xs) (hy : Byt ys) (h : (strOfNums xs).toList = (strOfNums ys).toList) : xs = ys := by
 rw [Go.Lib.strOfNums_toList, Go.Lib.strOfNums_toList] at h
 unfold Go.Lib.bytesOf at h
 induction xs generalizing ys with
 | nil => cases ys with
  | nil => rfl
  | cons y ys => simp at h
 | cons x xs ih => cases ys with
  | nil => simp at h
  | cons y ys =>
   simp only [List.map_cons, List.cons.injEq] at h
   obtain ⟨h1, h2⟩ := h
   have a := hx.cons
   have b := hy.cons
   have : (UInt8.ofNat x.toNat).toNat = (UInt8.ofNat y.toNat).toNat := by rw [h1]
   simp only [UInt8.toNat_ofNat'] at this
   have e : x = y := by omega
   rw [e, ih a.2 b.2 h2]
theorem toList_str (xs : List Int) : (strOfNums xs).toList = xs.map fun n => UInt8.ofNat n.toNat := by
 rw [Go.Lib.strOfNums_toList]; rfl
theorem bytesOf_str {xs : List Int} (h : Byt xs) : bytesOf (strOfNums xs) = xs := by
 unfold bytesOf strOfNums
 simp only [List.map_map]
 conv => rhs; rw [← List.map_id xs]
 apply List.map_congr_left
 intro x hx
 have := h x hx
 simp only [Function.comp, UInt8.toNat_ofNat', id]
 omega
theorem bt_str {xs : List Int} (h : Byt xs) (i : Int) : bt (strOfNums xs) i = rd xs i := by
 rw [← rd_bytesOf, bytesOf_str h]
theorem bt_part {p t : List Int} (h : Byt (p ++ t)) (j : Nat) : bt (strOfNums (p ++ t)) ((p.length : Int) + j) = t.getD j 0 := by
 rw [bt_str h]
 unfold rd
 rw [show ((p.length : Int) + (j : Int)).toNat = p.length + j by omega, List.getD_eq_getElem?_getD, List.getD_eq_getElem?_getD, List.getElem?_append_right (by omega), Nat.add_sub_cancel_left]
theorem bt_next {p t : List Int} {c : Int} (h : Byt (p ++ c :: t)) : bt (strOfNums (p ++ c :: t)) (p.length : Int) = c := by
 have := bt_part h 0
 simpa using this
theorem str_size (xs : List Int) : ((strOfNums xs).size : Int) = (xs.length : Int) := by rw [strOfNums_size]
theorem wr {n : Int} (h0 : -9223372036854775808 ≤ n) (h1 : n ≤ 9223372036854775807) : wrap64 n = n := by unfold wrap64; omega
theorem wru {n : Int} (h0 : 0 ≤ n) (h1 : n < 18446744073709551616) : IntKind.u64.wrap n = n := by
 simp [IntKind.wrap, IntKind.bits, IntKind.signed]
 omega
theorem str_cut (xs : List Int) (a b : Nat) : (strOfNums xs).extract a b = strOfNums ((xs.take b).drop a) := by
 apply ByteArray.ext
 simp only [ByteArray.data_extract, strOfNums]
 apply Array.ext'
 simp only [Array.toList_extract, List.extract_eq_take_drop, List.map_drop, List.map_take]
 rw [List.drop_take]
theorem toList_nil {xs : List Int} (h : (strOfNums xs).toList = []) : xs = [] := by
 rw [toList_str] at h
 cases xs with
 | nil => rfl
 | cons x xs => simp at h
theorem Byt.left {xs ys : List Int} (h : Byt (xs ++ ys)) : Byt xs := fun x hx => h x (List.mem_append_left _ hx)
theorem Byt.right {xs ys : List Int} (h : Byt (xs ++ ys)) : Byt ys := fun x hx => h x (List.mem_append_right _ hx)
theorem Byt.take {xs : List Int} (h : Byt xs) (n : Nat) : Byt (xs.take n) := fun x hx => h x (List.mem_of_mem_take hx)
theorem Byt.drop {xs : List Int} (h : Byt xs) (n : Nat) : Byt (xs.drop n) := fun x hx => h x (List.mem_of_mem_drop hx)
end Go.Proofs.YtjkehapbemjnpaaDoor.Kit
namespace Go.Proofs.YtjkehapbemjnpaaDoor.Cut
open Go.Proofs.YtjkehapbemjnpaaDoor.Kit
def splitC (c : Int) : List Int → List (List Int)
 | [] => [[]]
 | x :: xs => if x = c then [] :: splitC c xs else match splitC c xs with
  | [] => [[x]]
  | h :: t => (x :: h) :: t
theorem split_no {c : Int} : ∀ {p : List Int}, c ∉ p → splitC c p = [p]
 | [], _ => rfl
 | x :: xs, h => by
  have h1 : x ≠ c := fun e => h (by simp [e])
  have h2 := split_no (p := xs) (fun k => h (List.mem_cons_of_mem _ k))
  simp only [splitC]
  rw [if_neg h1, h2]
theorem split_at {c : Int} : ∀ {p : List Int} (q : List Int), c ∉ p → splitC c (p ++ c :: q) = p :: splitC c q
 | [], q, _ => by simp [splitC]
 | x :: xs, q, h => by
  have h1 : x ≠ c := fun e => h (by simp [e])
  have h2 := split_at (p := xs) q (fun k => h (List.mem_cons_of_mem _ k))
  simp only [List.cons_append, splitC]
  rw [if_neg h1, h2]
theorem first_at (c : Int) : ∀ (t : List Int), c ∉ t ∨ ∃ p q, c ∉ p ∧ t = p ++ c :: q
 | [] => .inl (by simp)
 | x :: xs => by
  by_cases h : x = c
  ·exact .inr ⟨[], xs, by simp, by simp [h]⟩
  ·rcases first_at c xs with k | ⟨p, q, hp, rfl⟩
   ·exact .inl (fun m => by
     rcases List.mem_cons.1 m with e | e
     ·exact h e.symm
     ·exact k e)
   ·exact .inr ⟨x :: p, q, fun m => by
     rcases List.mem_cons.1 m with e | e
     ·exact h e.symm
     ·exact hp e, by simp⟩
theorem split_ne (c : Int) (t : List Int) : 1 ≤ (splitC c t).length := by
 rcases first_at c t with h | ⟨p, q, hp, rfl⟩
 ·rw [split_no h]; simp
 ·rw [split_at q hp]; simp
theorem split_len (c : Int) : ∀ (n : Nat) (t : List Int), t.length ≤ n → (splitC c t).length ≤ t.length + 1
 | 0, t, h => by
  have : t = [] := List.length_eq_zero_iff.1 (by omega)
  subst this; simp [splitC]
 | n + 1, t, h => by
  rcases first_at c t with k | ⟨p, q, hp, rfl⟩
  ·rw [split_no k]; simp
  ·simp only [List.length_append, List.length_cons] at h
   have := split_len c n q (by omega)
   rw [split_at q hp]
   simp only [List.length_append, List.length_cons]; omega
theorem split_byt {c : Int} : ∀ (n : Nat) {t : List Int}, t.length ≤ n → Byt t → ∀ p ∈ splitC c t, Byt p
 | n, t, hn, hB, p, hp => by
  rcases first_at c t with k | ⟨a, q, ha, rfl⟩
  ·rw [split_no k] at hp
   rw [List.mem_singleton.1 hp]; exact hB
  ·rw [split_at q ha] at hp
   rcases List.mem_cons.1 hp with rfl | hp
   ·exact hB.left
   ·match n, hn with
    | 0, hn => simp at hn
    | n + 1, hn => exact split_byt n (t := q) (by simp only [List.length_append, List.length_cons] at hn; omega) hB.right.cons.2 p hp
theorem u8_ne {a b : Int} (ha : 0 ≤ a ∧ a < 256) (hb : 0 ≤ b ∧ b < 256) (h : a ≠ b) : (UInt8.ofNat a.toNat == UInt8.ofNat b.toNat) = false := by
 rw [beq_eq_false_iff_ne]
 intro e
 have := congrArg UInt8.toNat e
 simp only [UInt8.toNat_ofNat'] at this
 omega
theorem take_set {α : Type} (a : List α) (i : Nat) (x : α) (h : i < a.length) : (a.set i x).take (i + 1) = a.take i ++ [x] := by
 rw [List.take_succ_eq_append_getElem (by simpa using h), List.take_set_of_le (Nat.le_refl i)]
 simp
end Go.Proofs.YtjkehapbemjnpaaDoor.Cut
namespace Go.Proofs.YtjkehapbemjnpaaDoor.Pl
open Go.RowKit Go.Proofs.YtjkehapbemjnpaaDoor.Kit Go.Proofs.YtjkehapbemjnpaaDoor.Cut
set_option linter.unusedVariables false
def u8 (n : Int) : UInt8 := UInt8.ofNat n.toNat
theorem data_u8 (xs : List Int) : (strOfNums xs).data.toList = xs.map u8 := rfl
def cutL (sep : List Int) : List Int → List Int × List Int × Bool
 | [] => ([], [], false)
 | x :: xs => if sep.isPrefixOf (x :: xs) = true then ([], (x :: xs).drop sep.length, true) else (x :: (cutL sep xs).1, (cutL sep xs).2)
theorem u8_beq {a b : Int} (ha : 0 ≤ a ∧ a < 256) (hb : 0 ≤ b ∧ b < 256) : (u8 a == u8 b) = (a == b) := by
 by_cases h : a = b
 ·subst h; simp
 ·have h2 : (a == b) = false := by simpa using h
  rw [h2]
  exact u8_ne ha hb h
theorem isPre_map : ∀ {p s : List Int}, Byt p → Byt s → (p.map u8).isPrefixOf (s.map u8) = p.isPrefixOf s
 | [], s, _, _ => by simp
 | x :: p, [], _, _ => rfl
 | x :: p, y :: s, hp, hs => by
  simp only [List.map_cons, List.isPrefixOf]
  rw [u8_beq hp.cons.1 hs.cons.1, isPre_map hp.cons.2 hs.cons.2]
theorem cutL_found : ∀ {sep s : List Int}, (cutL sep s).2.2 = true → s = (cutL sep s).1 ++ sep ++ (cutL sep s).2.1
 | sep, [], h => by simp [cutL] at h
 | sep, x :: xs, h => by
  unfold cutL at h ⊢
  by_cases hp : sep.isPrefixOf (x :: xs) = true
  ·rw [if_pos hp]
   have := List.isPrefixOf_iff_prefix.1 hp
   obtain ⟨t, ht⟩ := this
   simp only [List.nil_append]
   rw [← ht, List.drop_left]
  ·rw [if_neg hp] at h ⊢
   have ih := cutL_found (sep := sep) (s := xs) h
   simp only [List.cons_append]
   rw [← ih]
theorem cutL_not : ∀ {sep s : List Int}, (cutL sep s).2.2 = false → (cutL sep s).1 = s ∧ (cutL sep s).2.1 = []
 | sep, [], h => ⟨rfl, rfl⟩
 | sep, x :: xs, h => by
  unfold cutL at h ⊢
  by_cases hp : sep.isPrefixOf (x :: xs) = true
  ·rw [if_pos hp] at h; cases h
  ·rw [if_neg hp] at h ⊢
   have ih := cutL_not (sep := sep) (s := xs) h
   exact ⟨by simp only [ih.1], ih.2⟩
theorem index_cutL {sep : List Int} (hne : sep ≠ []) (hs : Byt sep) : ∀ {s : List Int}, Byt s → Lib.index (s.map u8) (sep.map u8) = if (cutL sep s).2.2 = true then ((cutL sep s).1.length : Int) else -1
 | [], _ => by
  cases sep with
  | nil => exact absurd rfl hne
  | cons a t => simp [Lib.index, cutL]
 | x :: xs, h => by
  have ih := index_cutL hne hs (s := xs) h.cons.2
  have hm := isPre_map hs h
  simp only [List.map_cons] at hm ih ⊢
  unfold Lib.index cutL
  rw [hm]
  by_cases hp : sep.isPrefixOf (x :: xs) = true
  ·rw [if_pos hp, if_pos hp]; rfl
  ·rw [if_neg hp, if_neg hp, ih]
   simp only
   cases hc : (cutL sep xs).2.2 with
   | true =>
    simp only [if_true]
    rw [if_neg (by first | (simp; done) | (simp; omega))]
    simp
   | false => simp
theorem cutL_room (sep s : List Int) (h : (cutL sep s).2.2 = true) : (cutL sep s).1.length + sep.length + (cutL sep s).2.1.length = s.length := by
 have := congrArg List.length (cutL_found h)
 simp only [List.length_append] at this
 omega
theorem lib_cut {sep s : List Int} (hne : sep ≠ []) (hs : Byt sep) (h : Byt s) : Lib.cut (s.map u8) (sep.map u8) = ((cutL sep s).1.map u8, (cutL sep s).2.1.map u8, (cutL sep s).2.2) := by
 unfold Lib.cut
 rw [index_cutL hne hs h]
 cases hc : (cutL sep s).2.2 with
 | true =>
  have hf := cutL_found hc
  simp only [if_true, Int.toNat_natCast]
  rw [if_pos (by omega), ← List.map_take, List.length_map, ← List.map_drop]
  generalize (cutL sep s).1 = a at hf
  generalize (cutL sep s).2.1 = b at hf
  subst hf
  rw [List.append_assoc, List.take_left, ← List.append_assoc, ← List.length_append, List.drop_left]
 | false =>
  have hf := cutL_not hc
  simp only [Bool.false_eq_true, if_false]
  rw [if_neg (by omega), hf.1, hf.2]
  rfl
theorem cutL_byt {sep s : List Int} (h : Byt s) : Byt (cutL sep s).1 ∧ Byt (cutL sep s).2.1 := by
 cases hc : (cutL sep s).2.2 with
 | true =>
  have hf := cutL_found hc
  generalize (cutL sep s).1 = a at hf
  generalize (cutL sep s).2.1 = b at hf
  subst hf
  exact ⟨h.left.left, h.right⟩
 | false =>
  have hf := cutL_not hc
  rw [hf.1, hf.2]
  exact ⟨h, .nil⟩
theorem cutL_len (sep s : List Int) : (cutL sep s).1.length ≤ s.length ∧ (cutL sep s).2.1.length ≤ s.length := by
 cases hc : (cutL sep s).2.2 with
 | true => have := cutL_room sep s hc; omega
 | false => have hf := cutL_not hc; rw [hf.1, hf.2]; simp
theorem cutL_one_no {c : Int} : ∀ {p : List Int}, c ∉ p → cutL [c] p = (p, [], false)
 | [], _ => rfl
 | x :: xs, h => by
  have h1 : x ≠ c := fun e => h (by simp [e])
  have ih := cutL_one_no (p := xs) (fun k => h (List.mem_cons_of_mem _ k))
  unfold cutL
  rw [if_neg (by simp [List.isPrefixOf]; exact fun e => h1 e.symm), ih]
theorem cutL_one_at {c : Int} (q : List Int) : ∀ {p : List Int}, c ∉ p → cutL [c] (p ++ c :: q) = (p, q, true)
 | [], _ => by simp [cutL, List.isPrefixOf]
 | x :: xs, h => by
  have h1 : x ≠ c := fun e => h (by simp [e])
  have ih := cutL_one_at q (p := xs) (fun k => h (List.mem_cons_of_mem _ k))
  rw [List.cons_append]
  unfold cutL
  rw [if_neg (by simp [List.isPrefixOf]; exact fun e => h1 e.symm), ih]
theorem isPre_swap : ∀ {p a : List Int} (b b' : List Int), p.length ≤ a.length → p.isPrefixOf (a ++ b) = p.isPrefixOf (a ++ b')
 | [], a, b, b', _ => by simp
 | x :: p, [], b, b', h => by simp at h
 | x :: p, y :: a, b, b', h => by
  simp only [List.cons_append, List.isPrefixOf]
  rw [isPre_swap b b' (by simpa using h)]
theorem cutL_swap {sep : List Int} (hne : sep ≠ []) (v v' : List Int) : ∀ {w : List Int}, cutL sep (w ++ sep ++ v) = (w, v, true) → cutL sep (w ++ sep ++ v') = (w, v', true)
 | [], _ => by
  cases sep with
  | nil => exact absurd rfl hne
  | cons a t =>
   show cutL (a :: t) (a :: (t ++ v')) = _
   unfold cutL
   have hp : (a :: t).isPrefixOf (a :: (t ++ v')) = true := List.isPrefixOf_iff_prefix.2 ⟨v', rfl⟩
   rw [if_pos hp]
   simp
 | x :: w, h => by
  simp only [List.cons_append] at h ⊢
  unfold cutL at h ⊢
  by_cases hp : sep.isPrefixOf (x :: (w ++ sep ++ v)) = true
  ·rw [if_pos hp] at h
   simp at h
  ·rw [if_neg hp] at h
   have hq := isPre_swap (p := sep) (a := x :: (w ++ sep)) v v' (by simp; omega)
   simp only [List.cons_append] at hq
   rw [hq] at hp
   rw [if_neg hp]
   have h2 : cutL sep (w ++ sep ++ v) = (w, v, true) := by
    have h3 := congrArg Prod.fst h
    have h4 := congrArg Prod.snd h
    simp only [List.cons.injEq, true_and] at h3 h4
    exact Prod.ext h3 h4
   rw [cutL_swap hne v v' h2]
theorem twice {sep row r : List Int} (hne : sep ≠ []) (h : (cutL sep row).2.2 = true) : ((cutL sep row).1 ++ sep).isPrefixOf r = true ↔ (cutL sep r).2.2 = true ∧ (cutL sep r).1 = (cutL sep row).1 := by
 have hf := cutL_found h
 have hc : cutL sep row = ((cutL sep row).1, (cutL sep row).2.1, true) := Prod.ext rfl (Prod.ext rfl h)
 generalize (cutL sep row).1 = w at hf hc
 generalize (cutL sep row).2.1 = v at hf hc
 rw [hf] at hc
 constructor
 ·intro hp
  obtain ⟨v', rfl⟩ := List.isPrefixOf_iff_prefix.1 hp
  rw [cutL_swap hne v v' hc]
  exact ⟨rfl, rfl⟩
 ·rintro ⟨h1, rfl⟩
  exact List.isPrefixOf_iff_prefix.2 ⟨(cutL sep r).2.1, (cutL_found h1).symm⟩
theorem indexB_eq {sep s : List Int} (hne : sep ≠ []) (hs : Byt sep) (h : Byt s) : Lib.indexB (strOfNums s) (strOfNums sep) = if (cutL sep s).2.2 = true then ((cutL sep s).1.length : Int) else -1 := index_cutL hne hs h
theorem ext_from (p : List Int) (c : Int) (q : List Int) : (strOfNums (p ++ c :: q)).extract (p.length + (strOfNums [c]).size) (strOfNums (p ++ c :: q)).size = strOfNums q := by
 rw [strOfNums_size, strOfNums_size, str_cut, List.take_of_length_le (Nat.le_refl _)]
 congr 1
 rw [show p ++ c :: q = (p ++ [c]) ++ q by simp, show p.length + [c].length = (p ++ [c]).length by simp, List.drop_left]
theorem splitB_eq {c : Int} (hc : 0 ≤ c ∧ c < 256) : ∀ (n : Nat) {t : List Int}, t.length ≤ n → Byt t → Lib.countB (strOfNums t) (strOfNums [c]) + 1 = (splitC c t).length ∧ Lib.splitB (strOfNums [c]) 0 (Lib.countB (strOfNums t) (strOfNums [c])) (strOfNums t) = (splitC c t).map strOfNums
 | n, t, hn, hB => by
  have hcb : Byt [c] := fun x hx => by simp at hx; omega
  rcases first_at c t with h | ⟨p, q, hp, rfl⟩
  ·have hi : Lib.indexB (strOfNums t) (strOfNums [c]) = -1 := by rw [indexB_eq (by simp) hcb hB, cutL_one_no h]; rfl
   rw [split_no h, Lib.countB_miss _ _ hi]
   exact ⟨rfl, rfl⟩
  ·have hi : Lib.indexB (strOfNums (p ++ c :: q)) (strOfNums [c]) = (p.length : Nat) := by rw [indexB_eq (by simp) hcb hB, cutL_one_at q hp]; rfl
   have hl : q.length < n := by simp only [List.length_append, List.length_cons] at hn; omega
   match n, hn, hl with
   | 0, _, hl => omega
   | n + 1, hn, hl =>
    have ih := splitB_eq hc n (t := q) (by omega) hB.right.cons.2
    rw [split_at q hp, Lib.countB_hit _ _ _ (by rw [strOfNums_size]; exact Nat.le_refl 1) hi, ext_from]
    refine ⟨by rw [List.length_cons, ← ih.1]; omega, ?_⟩
    rw [Nat.add_comm 1, Lib.splitB_hit _ _ _ _ _ hi, ext_from, ih.2, List.map_cons]
    congr 1
    rw [str_cut]
    simp
end Go.Proofs.YtjkehapbemjnpaaDoor.Pl
namespace Go.Proofs.YtjkehapbemjnpaaDoor.Six
def Byt (xs : List Int) : Prop := ∀ x ∈ xs, 0 ≤ x ∧ x < 256
theorem Byt.cons {x : Int} {xs : List Int} (h : Byt (x :: xs)) : (0 ≤ x ∧ x < 256) ∧ Byt xs :=
 ⟨h x (by simp), fun y hy => h y (by simp [hy])⟩
theorem Byt.mk {x : Int} {xs : List Int} (h : 0 ≤ x ∧ x < 256) (k : Byt xs) : Byt (x :: xs) := by
 intro y hy
 rcases List.mem_cons.1 hy with rfl | hy
 ·exact h
 ·exact k y hy
theorem Byt.nil : Byt [] := fun _ h => by simp at h
theorem Byt.app {xs ys : List Int} (h : Byt xs) (k : Byt ys) : Byt (xs ++ ys) := by
 intro y hy
 rcases List.mem_append.1 hy with hy | hy
 ·exact h y hy
 ·exact k y hy
theorem str_app (xs ys : List Int) : strOfNums xs ++ strOfNums ys = strOfNums (xs ++ ys) := by
 apply ByteArray.ext
 simp [strOfNums, ByteArray.data_append]
theorem str_inj {xs ys : List Int} (hx : Byt xs) (hy : Byt ys) (h : (strOfNums xs).toList = (strOfNums ys).toList) : xs = ys := by
 rw [Go.Lib.strOfNums_toList, Go.Lib.strOfNums_toList] at h
 unfold Go.Lib.bytesOf at h
 induction xs generalizing ys with
 | nil => cases ys with
  | nil => rfl
  | cons y ys => simp at h
 | cons x xs ih => cases ys with
  | nil => simp at h
  | cons y ys =>
   simp only [List.map_cons, List.cons.injEq] at h
   obtain ⟨h1, h2⟩ := h
   have a := hx.cons
   have b := hy.cons
   have : (UInt8.ofNat x.toNat).toNat = (UInt8.ofNat y.toNat).toNat := by rw [h1]
   simp only [UInt8.toNat_ofNat'] at this
   have e : x = y := by omega
   rw [e, ih a.2 b.2 h2]
theorem toList_str (xs : List Int) : (strOfNums xs).toList = xs.map fun n => UInt8.ofNat n.toNat := by
 rw [Go.Lib.strOfNums_toList]; rfl
def L (n : Int) : Int := if n < 26 then 65 + n else if n < 52 then 71 + n else if n < 62 then n - 4 else if n = 62 then 43 else 47
def N (c : Int) : Int := if 65 ≤ c ∧ c ≤ 90 then c - 65 else if 97 ≤ c ∧ c ≤ 122 then c - 71 else if 48 ≤ c ∧ c ≤ 57 then c + 4 else if c = 43 then 62 else if c = 47 then 63 else -1
theorem N_L {n : Int} (h0 : 0 ≤ n) (h1 : n < 64) : N (L n) = n := by
 unfold N L
 repeat' split
 all_goals omega
theorem L_byte {n : Int} (h0 : 0 ≤ n) (h1 : n < 64) : 0 ≤ L n ∧ L n < 256 := by
 unfold L
 repeat' split
 all_goals omega
theorem L_N {c : Int} (h : 0 ≤ N c) : L (N c) = c := by
 unfold N at h ⊢
 unfold L
 repeat' split at h
 all_goals (repeat' split)
 all_goals omega
theorem N_range (c : Int) : -1 ≤ N c ∧ N c < 64 := by
 unfold N
 repeat' split
 all_goals omega
def enc : List Int → List Int
 | [] => []
 | [a] => [L (a / 4), L (a % 4 * 16), 61, 61]
 | [a, b] => [L (a / 4), L (a % 4 * 16 + b / 16), L (b % 16 * 4), 61]
 | a :: b :: c :: r => L (a / 4) :: L (a % 4 * 16 + b / 16) :: L (b % 16 * 4 + c / 64) :: L (c % 64) :: enc r
def dec4 (a b c d : Int) : Option (List Int) :=
 if d = 61 then
  if c = 61 then (if 0 ≤ N a ∧ 0 ≤ N b ∧ N b % 16 = 0 then some [N a * 4 + N b / 16] else none)
  else (if 0 ≤ N a ∧ 0 ≤ N b ∧ 0 ≤ N c ∧ N c % 4 = 0 then some [N a * 4 + N b / 16, N b % 16 * 16 + N c / 4] else none)
 else (if 0 ≤ N a ∧ 0 ≤ N b ∧ 0 ≤ N c ∧ 0 ≤ N d then some [N a * 4 + N b / 16, N b % 16 * 16 + N c / 4, N c % 4 * 64 + N d] else none)
def dec : List Int → Option (List Int)
 | [] => some []
 | a :: b :: c :: d :: r =>
  if r = [] then dec4 a b c d
  else if 0 ≤ N a ∧ 0 ≤ N b ∧ 0 ≤ N c ∧ 0 ≤ N d then (dec r).map fun o => (N a * 4 + N b / 16) :: (N b % 16 * 16 + N c / 4) :: (N c % 4 * 64 + N d) :: o
  else none
 | _ => none
theorem enc_ne {xs : List Int} (h : xs ≠ []) : enc xs ≠ [] := by
 match xs, h with
 | [a], _ => simp [enc]
 | [a, b], _ => simp [enc]
 | a :: b :: c :: r, _ => simp [enc]
theorem enc_byte : ∀ {xs : List Int}, Byt xs → Byt (enc xs)
 | [], _ => Byt.nil
 | [a], h => by
  have ha := h.cons.1
  exact .mk (L_byte (by omega) (by omega)) (.mk (L_byte (by omega) (by omega)) (.mk (by omega) (.mk (by omega) .nil)))
 | [a, b], h => by
  have ha := h.cons.1
  have hb := h.cons.2.cons.1
  exact .mk (L_byte (by omega) (by omega)) (.mk (L_byte (by omega) (by omega)) (.mk (L_byte (by omega) (by omega)) (.mk (by omega) .nil)))
 | a :: b :: c :: r, h => by
  have ha := h.cons.1
  have hb := h.cons.2.cons.1
  have hc := h.cons.2.cons.2.cons.1
  have ih := enc_byte h.cons.2.cons.2.cons.2
  exact .mk (L_byte (by omega) (by omega)) (.mk (L_byte (by omega) (by omega)) (.mk (L_byte (by omega) (by omega)) (.mk (L_byte (by omega) (by omega)) ih)))
theorem enc_len : ∀ (xs : List Int), (enc xs).length % 4 = 0 ∧ (enc xs).length ≤ 2 * xs.length + 2
 | [] => by simp [enc]
 | [a] => by simp [enc]
 | [a, b] => by simp [enc]
 | a :: b :: c :: r => by
  have := enc_len r
  simp only [enc, List.length_cons]
  omega
theorem dec4_enc {a b c d : Int} {o : List Int} (h : dec4 a b c d = some o) : enc o = [a, b, c, d] ∧ Byt o ∧ o.length ≤ 3 := by
 have na := N_range a
 have nb := N_range b
 have nc := N_range c
 have nd := N_range d
 unfold dec4 at h
 split at h
 ·rename_i hd
  split at h
  ·rename_i hc
   split at h
   ·rename_i hk
    cases h
    simp only [enc]
    have e1 : (N a * 4 + N b / 16) / 4 = N a := by omega
    have e2 : (N a * 4 + N b / 16) % 4 * 16 = N b := by omega
    rw [e1, e2, L_N hk.1, L_N hk.2.1, hc, hd]
    exact ⟨rfl, .mk (by omega) .nil, by simp⟩
   ·cases h
  ·split at h
   ·rename_i hk
    cases h
    simp only [enc]
    have e1 : (N a * 4 + N b / 16) / 4 = N a := by omega
    have e2 : (N a * 4 + N b / 16) % 4 * 16 + (N b % 16 * 16 + N c / 4) / 16 = N b := by omega
    have e3 : (N b % 16 * 16 + N c / 4) % 16 * 4 = N c := by omega
    rw [e1, e2, e3, L_N hk.1, L_N hk.2.1, L_N hk.2.2.1, hd]
    exact ⟨rfl, .mk (by omega) (.mk (by omega) .nil), by simp⟩
   ·cases h
 ·split at h
  ·rename_i hk
   cases h
   simp only [enc]
   have e1 : (N a * 4 + N b / 16) / 4 = N a := by omega
   have e2 : (N a * 4 + N b / 16) % 4 * 16 + (N b % 16 * 16 + N c / 4) / 16 = N b := by omega
   have e3 : (N b % 16 * 16 + N c / 4) % 16 * 4 + (N c % 4 * 64 + N d) / 64 = N c := by omega
   have e4 : (N c % 4 * 64 + N d) % 64 = N d := by omega
   rw [e1, e2, e3, e4, L_N hk.1, L_N hk.2.1, L_N hk.2.2.1, L_N hk.2.2.2]
   exact ⟨rfl, .mk (by omega) (.mk (by omega) (.mk (by omega) .nil)), by simp⟩
  ·cases h
theorem enc_dec : ∀ {s o : List Int}, dec s = some o → enc o = s ∧ Byt o ∧ o.length ≤ s.length
 | [], o, h => by simp only [dec] at h; cases h; exact ⟨rfl, .nil, by simp⟩
 | a :: b :: c :: d :: r, o, h => by
  simp only [dec] at h
  split at h
  ·rename_i hr
   subst hr
   have := dec4_enc h
   exact ⟨this.1, this.2.1, by simp only [List.length_cons, List.length_nil]; omega⟩
  ·split at h
   ·rename_i hk
    obtain ⟨o', ho', rfl⟩ := Option.map_eq_some_iff.1 h
    have ih := enc_dec ho'
    have na := N_range a
    have nb := N_range b
    have nc := N_range c
    have nd := N_range d
    simp only [enc]
    have e1 : (N a * 4 + N b / 16) / 4 = N a := by omega
    have e2 : (N a * 4 + N b / 16) % 4 * 16 + (N b % 16 * 16 + N c / 4) / 16 = N b := by omega
    have e3 : (N b % 16 * 16 + N c / 4) % 16 * 4 + (N c % 4 * 64 + N d) / 64 = N c := by omega
    have e4 : (N c % 4 * 64 + N d) % 64 = N d := by omega
    rw [e1, e2, e3, e4, L_N hk.1, L_N hk.2.1, L_N hk.2.2.1, L_N hk.2.2.2, ih.1]
    exact ⟨rfl, .mk (by omega) (.mk (by omega) (.mk (by omega) ih.2.1)), by simp only [List.length_cons]; omega⟩
   ·cases h
 | [_], _, h => by simp [dec] at h
 | [_, _], _, h => by simp [dec] at h
 | [_, _, _], _, h => by simp [dec] at h
def ob : List Int → List Int
 | x :: y :: z :: w :: r => (x * 4 + y / 16) :: (y % 16 * 16 + z / 4) :: (z % 4 * 64 + w) :: ob r
 | [x, y, z] => [x * 4 + y / 16, y % 16 * 16 + z / 4]
 | [x, y] => [x * 4 + y / 16]
 | [_] => []
 | [] => []
def strip : List Int → List Int
 | a :: b :: c :: d :: r => if r = [] then (if d = 61 then (if c = 61 then [a, b] else [a, b, c]) else [a, b, c, d]) else a :: b :: c :: d :: strip r
 | l => l
def rdec (s : List Int) : Option (List Int) :=
 if (∀ c ∈ strip s, 0 ≤ N c) then (if enc (ob ((strip s).map N)) = s then some (ob ((strip s).map N)) else none) else none
theorem rdec4 (a b c d : Int) : rdec [a, b, c, d] = dec4 a b c d := by
 have na := N_range a
 have nb := N_range b
 have nc := N_range c
 have nd := N_range d
 unfold rdec dec4
 simp only [strip, if_true]
 split
 ·rename_i hd
  split
  ·rename_i hc
   simp only [List.forall_mem_cons, List.map_cons, List.map_nil, ob, enc]
   by_cases h : 0 ≤ N a ∧ 0 ≤ N b
   ·rw [if_pos ⟨h.1, h.2, by simp⟩]
    have e1 : (N a * 4 + N b / 16) / 4 = N a := by omega
    have e2 : (N a * 4 + N b / 16) % 4 * 16 = N b / 16 * 16 := by omega
    rw [e1, e2, L_N h.1, hc, hd]
    by_cases k : N b % 16 = 0
    ·rw [show N b / 16 * 16 = N b by omega, L_N h.2, if_pos rfl, if_pos ⟨h.1, h.2, k⟩]
    ·rw [if_neg, if_neg (fun q => k q.2.2)]
     intro q
     simp only [List.cons.injEq, true_and, and_true] at q
     have := congrArg N q
     rw [N_L (by omega) (by omega)] at this
     omega
   ·rw [if_neg (fun q => h ⟨q.1, q.2.1⟩), if_neg (fun q => h ⟨q.1, q.2.1⟩)]
  ·rename_i hc
   simp only [List.forall_mem_cons, List.map_cons, List.map_nil, ob, enc]
   by_cases h : 0 ≤ N a ∧ 0 ≤ N b ∧ 0 ≤ N c
   ·rw [if_pos ⟨h.1, h.2.1, h.2.2, by simp⟩]
    have e1 : (N a * 4 + N b / 16) / 4 = N a := by omega
    have e2 : (N a * 4 + N b / 16) % 4 * 16 + (N b % 16 * 16 + N c / 4) / 16 = N b := by omega
    have e3 : (N b % 16 * 16 + N c / 4) % 16 * 4 = N c / 4 * 4 := by omega
    rw [e1, e2, e3, L_N h.1, L_N h.2.1, hd]
    by_cases k : N c % 4 = 0
    ·rw [show N c / 4 * 4 = N c by omega, L_N h.2.2, if_pos rfl, if_pos ⟨h.1, h.2.1, h.2.2, k⟩]
    ·rw [if_neg, if_neg (fun q => k q.2.2.2)]
     intro q
     simp only [List.cons.injEq, true_and, and_true] at q
     have := congrArg N q
     rw [N_L (by omega) (by omega)] at this
     omega
   ·rw [if_neg (fun q => h ⟨q.1, q.2.1, q.2.2.1⟩), if_neg (fun q => h ⟨q.1, q.2.1, q.2.2.1⟩)]
 ·simp only [List.forall_mem_cons, List.map_cons, List.map_nil, ob, enc]
  by_cases h : 0 ≤ N a ∧ 0 ≤ N b ∧ 0 ≤ N c ∧ 0 ≤ N d
  ·rw [if_pos ⟨h.1, h.2.1, h.2.2.1, h.2.2.2, by simp⟩, if_pos h]
   have e1 : (N a * 4 + N b / 16) / 4 = N a := by omega
   have e2 : (N a * 4 + N b / 16) % 4 * 16 + (N b % 16 * 16 + N c / 4) / 16 = N b := by omega
   have e3 : (N b % 16 * 16 + N c / 4) % 16 * 4 + (N c % 4 * 64 + N d) / 64 = N c := by omega
   have e4 : (N c % 4 * 64 + N d) % 64 = N d := by omega
   rw [e1, e2, e3, e4, L_N h.1, L_N h.2.1, L_N h.2.2.1, L_N h.2.2.2, if_pos rfl]
  ·rw [if_neg (fun q => h ⟨q.1, q.2.1, q.2.2.1, q.2.2.2.1⟩), if_neg h]
theorem rdec_dec : ∀ (s : List Int), s.length % 4 = 0 → rdec s = dec s
 | [], _ => by simp [rdec, strip, ob, enc, dec]
 | a :: b :: c :: d :: r, hl => by
  by_cases hr : r = []
  ·subst hr
   rw [rdec4]; simp [dec]
  ·have ih := rdec_dec r (by simp only [List.length_cons] at hl; omega)
   have na := N_range a
   have nb := N_range b
   have nc := N_range c
   have nd := N_range d
   simp only [dec, if_neg hr]
   rw [← ih]
   unfold rdec
   simp only [strip, if_neg hr, List.forall_mem_cons, List.map_cons, ob, enc]
   by_cases h : 0 ≤ N a ∧ 0 ≤ N b ∧ 0 ≤ N c ∧ 0 ≤ N d
   ·have e1 : (N a * 4 + N b / 16) / 4 = N a := by omega
    have e2 : (N a * 4 + N b / 16) % 4 * 16 + (N b % 16 * 16 + N c / 4) / 16 = N b := by omega
    have e3 : (N b % 16 * 16 + N c / 4) % 16 * 4 + (N c % 4 * 64 + N d) / 64 = N c := by omega
    have e4 : (N c % 4 * 64 + N d) % 64 = N d := by omega
    rw [e1, e2, e3, e4, L_N h.1, L_N h.2.1, L_N h.2.2.1, L_N h.2.2.2, if_pos h]
    simp only [List.cons.injEq, true_and, h.1, h.2.1, h.2.2.1, h.2.2.2]
    by_cases k : ∀ x ∈ strip r, 0 ≤ N x
    ·rw [if_pos k, if_pos k]
     by_cases q : enc (ob ((strip r).map N)) = r
     ·rw [if_pos q, if_pos q]; rfl
     ·rw [if_neg q, if_neg q]; rfl
    ·rw [if_neg k, if_neg k]; rfl
   ·rw [if_neg (fun q => h ⟨q.1, q.2.1, q.2.2.1, q.2.2.2.1⟩), if_neg h]
 | [_], h => by simp at h
 | [_, _], h => by simp at h
 | [_, _, _], h => by simp at h
end Go.Proofs.YtjkehapbemjnpaaDoor.Six
namespace Go.Proofs.YtjkehapbemjnpaaDoor.Num
open Go.Proofs.YtjkehapbemjnpaaDoor.Kit

/-- A number in digits. -/
def digits (n : Nat) : List Int := if h : n < 10 then [48 + (n : Int)] else digits (n / 10) ++ [48 + ((n % 10 : Nat) : Int)]
termination_by n
decreasing_by omega

/-- The number of digits, begun with one. -/
def vfrom (n : Int) (s : List Int) : Int := s.foldl (fun n c => 10 * n + (c - 48)) n
/-- All are digits. -/
def Dig (s : List Int) : Prop := ∀ c ∈ s, 48 ≤ c ∧ c ≤ 57
/-- A number's digits, none ahead that says nothing. -/
def IsNum (s : List Int) : Prop := s ≠ [] ∧ Dig s ∧ (1 < s.length → s.head? ≠ some 48)
/-- A number up to a greatest one. -/
def NumOk (s : List Int) (most : Int) : Prop := IsNum s ∧ vfrom 0 s ≤ most

theorem Dig.nil : Dig [] := fun _ h => by simp at h
theorem Dig.cons {c : Int} {s : List Int} (h : Dig (c :: s)) : (48 ≤ c ∧ c ≤ 57) ∧ Dig s := ⟨h c (by simp), fun x hx => h x (by simp [hx])⟩
theorem Dig.byt {s : List Int} (h : Dig s) : Byt s := fun c hc => by have := h c hc; omega
theorem Dig.app {s t : List Int} (h : Dig s) (k : Dig t) : Dig (s ++ t) := fun c hc => by
 rcases List.mem_append.1 hc with hc | hc
 ·exact h c hc
 ·exact k c hc

theorem vfrom_cons (n c : Int) (s : List Int) : vfrom n (c :: s) = vfrom (10 * n + (c - 48)) s := rfl
theorem vfrom_ge : ∀ {s : List Int} {n : Int}, Dig s → 0 ≤ n → n ≤ vfrom n s
 | [], n, _, _ => by simp [vfrom]
 | c :: s, n, h, h0 => by
  have hc := h.cons.1
  have := vfrom_ge h.cons.2 (n := 10 * n + (c - 48)) (by omega)
  rw [vfrom_cons]; omega
theorem vfrom_nonneg {s : List Int} (h : Dig s) : 0 ≤ vfrom 0 s := vfrom_ge h (Int.le_refl 0)
/-- How great many digits are at least. -/
theorem vfrom_pow : ∀ {s : List Int} {n : Int}, Dig s → 1 ≤ n → 10 ^ s.length ≤ vfrom n s
 | [], n, _, h => by simpa [vfrom] using h
 | c :: s, n, h, h0 => by
  have hc := h.cons.1
  rw [vfrom_cons, List.length_cons]
  have e : vfrom (10 * n + (c - 48)) s = vfrom (10 * n + (c - 48)) s := rfl
  have mono : ∀ (s : List Int) (a b : Int), a ≤ b → vfrom a s + (b - a) * 10 ^ s.length = vfrom b s := by
   intro s
   induction s with
   | nil => intro a b _; simp [vfrom]; omega
   | cons d s ih =>
    intro a b hab
    rw [vfrom_cons, vfrom_cons, ← ih (10 * a + (d - 48)) (10 * b + (d - 48)) (by omega), List.length_cons, Int.pow_succ]
    have : 10 * b + (d - 48) - (10 * a + (d - 48)) = 10 * (b - a) := by omega
    rw [this, Int.mul_comm (10 ^ s.length) 10, ← Int.mul_assoc, Int.mul_comm (b - a) 10]
  have h1 := vfrom_nonneg h.cons.2
  have h2 := mono s 0 (10 * n + (c - 48)) (by omega)
  have hp : (0 : Int) < 10 ^ s.length := Int.pow_pos (by omega)
  have h3 : 10 * 10 ^ s.length ≤ (10 * n + (c - 48) - 0) * 10 ^ s.length := Int.mul_le_mul_of_nonneg_right (by omega) (Int.le_of_lt hp)
  rw [Int.pow_succ]
  omega

theorem digits_lt {n : Nat} (h : n < 10) : digits n = [48 + (n : Int)] := by rw [digits, dif_pos h]
theorem digits_ge {n : Nat} (h : ¬ n < 10) : digits n = digits (n / 10) ++ [48 + ((n % 10 : Nat) : Int)] := by rw [digits, dif_neg h]

theorem digits_dig (n : Nat) : Dig (digits n) := by
 induction n using Nat.strongRecOn with
 | _ n ih =>
  by_cases h : n < 10
  ·rw [digits_lt h]; intro c hc; simp only [List.mem_singleton] at hc; omega
  ·rw [digits_ge h]
   exact (ih (n / 10) (by omega)).app (fun c hc => by simp only [List.mem_singleton] at hc; omega)
theorem digits_ne (n : Nat) : digits n ≠ [] := by
 by_cases h : n < 10
 ·rw [digits_lt h]; simp
 ·rw [digits_ge h]; simp
theorem digits_len (n : Nat) : ∀ (k : Nat), n < 10 ^ (k + 1) → (digits n).length ≤ k + 1 := by
 induction n using Nat.strongRecOn with
 | _ n ih =>
  intro k hk
  by_cases h : n < 10
  ·rw [digits_lt h]; simp
  ·rw [digits_ge h, List.length_append, List.length_singleton]
   cases k with
   | zero => omega
   | succ k =>
    have := ih (n / 10) (by omega) k (by rw [Nat.pow_succ] at hk; omega)
    omega


/-- Twenty digits are too great. -/
theorem num_long {s : List Int} {most : Int} (h : 19 < s.length) (hm : most ≤ 9223372036854775807) : ¬ NumOk s most := by
 rintro ⟨⟨ne, hd, hh⟩, hv⟩
 cases s with
 | nil => exact ne rfl
 | cons c t =>
  have hc := hd.cons.1
  have : c ≠ 48 := by simpa using hh (by omega)
  rw [vfrom_cons] at hv
  have hp := vfrom_pow hd.cons.2 (n := 10 * 0 + (c - 48)) (by omega)
  simp only [List.length_cons] at h
  have h2 : (10 : Int) ^ 19 ≤ 10 ^ t.length := by
   have := Nat.pow_le_pow_right (n := 10) (by omega) (show 19 ≤ t.length by omega)
   exact_mod_cast this
  have h3 : (10 : Int) ^ 19 = 10000000000000000000 := by decide
  omega
end Go.Proofs.YtjkehapbemjnpaaDoor.Num
