/- Plain facts of strings as lists of numbers, and of words of the walks; no program in sight. -/
import Derived.Laws.BitsLemmas
import Derived.Laws.BytesArg
import Derived.Lib.Bytes
import Derived.Test.YtmciigdfhikdnaaDoorWMore
namespace Go.Proofs.YtmciigdfhikdnaaDoor.Kit
open Go.RowKit Go.Proofs.YtmciigdfhikdnaaDoorW.PrintWords

/-- All are bytes. -/
def Byt (xs : List Int) : Prop := ∀ x ∈ xs, 0 ≤ x ∧ x < 256

theorem Byt.cons {x : Int} {xs : List Int} (h : Byt (x :: xs)) : (0 ≤ x ∧ x < 256) ∧ Byt xs :=
  ⟨h x (by simp), fun y hy => h y (by simp [hy])⟩

theorem Byt.mk {x : Int} {xs : List Int} (h : 0 ≤ x ∧ x < 256) (k : Byt xs) : Byt (x :: xs) := by
  intro y hy
  rcases List.mem_cons.1 hy with rfl | hy
  · exact h
  · exact k y hy

theorem Byt.nil : Byt [] := fun _ h => by simp at h

theorem Byt.app {xs ys : List Int} (h : Byt xs) (k : Byt ys) : Byt (xs ++ ys) := by
  intro y hy
  rcases List.mem_append.1 hy with hy | hy
  · exact h y hy
  · exact k y hy

theorem str_app (xs ys : List Int) : strOfNums xs ++ strOfNums ys = strOfNums (xs ++ ys) := by
  apply ByteArray.ext
  simp [strOfNums, ByteArray.data_append]

theorem str_inj {xs ys : List Int} (hx : Byt xs) (hy : Byt ys) (h : (strOfNums xs).toList = (strOfNums ys).toList) : xs = ys := by
  rw [Go.Lib.strOfNums_toList, Go.Lib.strOfNums_toList] at h
  unfold Go.Lib.bytesOf at h
  induction xs generalizing ys with
  | nil => cases ys with
    | nil => rfl
    | cons y ys => simp at h
  | cons x xs ih => cases ys with
    | nil => simp at h
    | cons y ys =>
      simp only [List.map_cons, List.cons.injEq] at h
      obtain ⟨h1, h2⟩ := h
      have a := hx.cons
      have b := hy.cons
      have : (UInt8.ofNat x.toNat).toNat = (UInt8.ofNat y.toNat).toNat := by rw [h1]
      simp only [UInt8.toNat_ofNat'] at this
      have e : x = y := by omega
      rw [e, ih a.2 b.2 h2]

theorem str_of (s : ByteArray) : ∃ xs, Byt xs ∧ s = strOfNums xs ∧ xs.length = s.size := by
  refine ⟨s.data.toList.map fun b => (b.toNat : Int), ?_, ?_, ?_⟩
  · intro x hx
    obtain ⟨b, _, rfl⟩ := List.mem_map.1 hx
    have := b.toNat_lt
    omega
  · apply ByteArray.ext
    apply Array.ext'
    simp only [strOfNums, List.map_map]
    conv => lhs; rw [← List.map_id s.data.toList]
    apply List.map_congr_left
    intro b _
    simp
  · rw [List.length_map, Array.length_toList]; rfl

theorem toList_str (xs : List Int) : (strOfNums xs).toList = xs.map fun n => UInt8.ofNat n.toNat := by
  rw [Go.Lib.strOfNums_toList]; rfl


theorem bytesOf_str {xs : List Int} (h : Byt xs) : bytesOf (strOfNums xs) = xs := by
  unfold bytesOf strOfNums
  simp only [List.map_map]
  conv => rhs; rw [← List.map_id xs]
  apply List.map_congr_left
  intro x hx
  have := h x hx
  simp only [Function.comp, UInt8.toNat_ofNat', id]
  omega
theorem bt_str {xs : List Int} (h : Byt xs) (i : Int) : bt (strOfNums xs) i = rd xs i := by
  rw [← rd_bytesOf, bytesOf_str h]
theorem bt_part {p t : List Int} (h : Byt (p ++ t)) (j : Nat) : bt (strOfNums (p ++ t)) ((p.length : Int) + j) = t.getD j 0 := by
  rw [bt_str h]
  unfold rd
  rw [show ((p.length : Int) + (j : Int)).toNat = p.length + j by omega, List.getD_eq_getElem?_getD, List.getD_eq_getElem?_getD, List.getElem?_append_right (by omega), Nat.add_sub_cancel_left]
theorem bt_next {p t : List Int} {c : Int} (h : Byt (p ++ c :: t)) : bt (strOfNums (p ++ c :: t)) (p.length : Int) = c := by
  have := bt_part h 0
  simpa using this
theorem str_size (xs : List Int) : ((strOfNums xs).size : Int) = (xs.length : Int) := by rw [strOfNums_size]
theorem wr {n : Int} (h0 : -9223372036854775808 ≤ n) (h1 : n ≤ 9223372036854775807) : wrap64 n = n := by unfold wrap64; omega
theorem wru {n : Int} (h0 : 0 ≤ n) (h1 : n < 18446744073709551616) : IntKind.u64.wrap n = n := by
  simp [IntKind.wrap, IntKind.bits, IntKind.signed]
  omega
theorem str_cut (xs : List Int) (a b : Nat) : (strOfNums xs).extract a b = strOfNums ((xs.take b).drop a) := by
  apply ByteArray.ext
  simp only [ByteArray.data_extract, strOfNums]
  apply Array.ext'
  simp only [Array.toList_extract, List.extract_eq_take_drop, List.map_drop, List.map_take]
  rw [List.drop_take]
theorem toList_nil {xs : List Int} (h : (strOfNums xs).toList = []) : xs = [] := by
  rw [toList_str] at h
  cases xs with
  | nil => rfl
  | cons x xs => simp at h
theorem toList_eq {xs ys : List Int} (hx : Byt xs) (hy : Byt ys) : ((strOfNums xs).toList = (strOfNums ys).toList) = (xs = ys) :=
  propext ⟨str_inj hx hy, fun h => by rw [h]⟩
theorem Byt.left {xs ys : List Int} (h : Byt (xs ++ ys)) : Byt xs := fun x hx => h x (List.mem_append_left _ hx)
theorem Byt.right {xs ys : List Int} (h : Byt (xs ++ ys)) : Byt ys := fun x hx => h x (List.mem_append_right _ hx)
theorem Byt.take {xs : List Int} (h : Byt xs) (n : Nat) : Byt (xs.take n) := fun x hx => h x (List.mem_of_mem_take hx)
theorem Byt.drop {xs : List Int} (h : Byt xs) (n : Nat) : Byt (xs.drop n) := fun x hx => h x (List.mem_of_mem_drop hx)
end Go.Proofs.YtmciigdfhikdnaaDoor.Kit
