/- Plain facts of pairs: sorted by their words. -/
import Derived.Test.YtefmoefiamjmpaaDoorPairs
namespace Go.Proofs.YtefmoefiamjmpaaDoor.Pc
open Go.RowKit Go.Sort Go.Lib Go.Proofs.YtefmoefiamjmpaaDoorW.PrintWords Go.Proofs.YtefmoefiamjmpaaDoorW.PrintLast Go.Proofs.YtefmoefiamjmpaaDoor.Pa
set_option linter.unusedVariables false
set_option linter.unusedSimpArgs false
def conv (x : S36) : S45 := ⟨x.f0, x.f1⟩
/-- One word is less than another. -/
def ltB (a b : ByteArray) : Bool := Op.bytesLess a.toList b.toList
theorem cb_less : ∀ (a b : List UInt8), Lib.compareBytes a b < 0 ↔ Op.bytesLess a b = true
  | [], [] => by simp [Lib.compareBytes, Op.bytesLess]
  | [], _ :: _ => by simp [Lib.compareBytes, Op.bytesLess]
  | _ :: _, [] => by simp [Lib.compareBytes, Op.bytesLess]
  | x :: a, y :: b => by
    rw [cb_cons, cb_less a b]
    by_cases h : x = y
    · subst h
      simp [Op.bytesLess]
    · have hne : x.toNat ≠ y.toNat := fun e => h (UInt8.toNat_inj.1 e)
      simp only [Op.bytesLess]
      by_cases hl : x.toNat < y.toNat
      · simp [UInt8.lt_iff_toNat_lt, hl]
      · have h2 : y.toNat < x.toNat := by omega
        simp [UInt8.lt_iff_toNat_lt, hl, hne, h]
theorem ltOf_less (x y : S45) : ltOf cmpP x y = ltB x.f0 y.f0 := by
  unfold ltOf cmpP ltB
  rw [Lib.toList_data, Lib.toList_data, Bool.eq_iff_iff, decide_eq_true_eq]
  exact cb_less _ _
theorem ltB_irrefl (a : ByteArray) : ltB a a = false := by
  have := swo.irrefl (⟨a, a⟩ : S45)
  rwa [ltOf_less] at this
theorem ltB_trans {a b c : ByteArray} (h : ltB a b = true) (k : ltB b c = true) : ltB a c = true := by
  have := swo.trans (⟨a, a⟩ : S45) ⟨b, b⟩ ⟨c, c⟩
  simp only [ltOf_less] at this
  exact this h k
theorem ltB_asymm {a b : ByteArray} (h : ltB a b = true) : ltB b a = false := by
  cases hb : ltB b a with
  | false => rfl
  | true => exact absurd (ltB_trans h hb) (by rw [ltB_irrefl]; simp)
theorem ltB_total {a b : ByteArray} (h : ltB a b = false) (hne : a.toList ≠ b.toList) : ltB b a = true := by
  have := less_total a.toList b.toList
  unfold ltB at h ⊢
  rw [h, beq_eq_false_iff_ne.2 hne] at this
  simpa using this.symm
/-- No word twice. -/
def Uniq (l : List S45) : Prop := l.Pairwise fun x y => x.f0.toList ≠ y.f0.toList
theorem sortL_perm (l : List S45) : (sortL l).Perm l := by
  have hp := (insertionSort_holds swo l.toArray 0 l.length (Nat.zero_le _) (by simp)).1.2.2
  have e1 : ((Sort.insertionSort (ltOf cmpP) l.toArray 0 l.length).extract 0 l.length).toList = sortL l := by
    unfold sortL
    rw [Array.extract_eq_self_of_le (by rw [sort_size]; exact Nat.le_refl _)]
  have e2 : (l.toArray.extract 0 l.length).toList = l := by
    rw [Array.extract_eq_self_of_le (by simp)]
  rwa [e1, e2] at hp
theorem sortL_uniq {l : List S45} (h : Uniq l) : Uniq (sortL l) := (sortL_perm l).symm.pairwise h fun hxy => fun e => hxy e.symm
theorem sortL_strict {l : List S45} (h : Uniq l) : (sortL l).Pairwise fun x y => ltB x.f0 y.f0 = true := by
  have hs := (insertionSort_holds swo l.toArray 0 l.length (Nat.zero_le _) (by simp)).2
  have hu := sortL_uniq h
  have hlen := sortL_len l
  unfold Uniq at hu
  rw [List.pairwise_iff_getElem] at hu ⊢
  intro i j hi hj hij
  have h1 := hs i j (Nat.zero_le _) hij (by omega)
  have hsz := sort_size l
  have e : ∀ m (hm : m < (sortL l).length), (Sort.insertionSort (ltOf cmpP) l.toArray 0 l.length)[m]! = (sortL l)[m] := fun m hm => by
    rw [getElem!_pos _ m (by omega)]
    rfl
  rw [e i hi, e j hj, ltOf_less] at h1
  exact ltB_total h1 fun e => hu i j hi hj hij e.symm
end Go.Proofs.YtefmoefiamjmpaaDoor.Pc
