/- Plain facts of texts cut at a sign; no program in sight. -/
import Derived.Test.YtmciigdfhikdnaaDoorKit
import Derived.Lib.Bytealg
namespace Go.Proofs.YtmciigdfhikdnaaDoor.Cut
open Go.Proofs.YtmciigdfhikdnaaDoor.Kit

/-- The parts of a text between signs. -/
def splitC (c : Int) : List Int → List (List Int)
  | [] => [[]]
  | x :: xs => if x = c then [] :: splitC c xs else match splitC c xs with
    | [] => [[x]]
    | h :: t => (x :: h) :: t

theorem split_no {c : Int} : ∀ {p : List Int}, c ∉ p → splitC c p = [p]
  | [], _ => rfl
  | x :: xs, h => by
    have h1 : x ≠ c := fun e => h (by simp [e])
    have h2 := split_no (p := xs) (fun k => h (List.mem_cons_of_mem _ k))
    simp only [splitC]
    rw [if_neg h1, h2]
theorem split_at {c : Int} : ∀ {p : List Int} (q : List Int), c ∉ p → splitC c (p ++ c :: q) = p :: splitC c q
  | [], q, _ => by simp [splitC]
  | x :: xs, q, h => by
    have h1 : x ≠ c := fun e => h (by simp [e])
    have h2 := split_at (p := xs) q (fun k => h (List.mem_cons_of_mem _ k))
    simp only [List.cons_append, splitC]
    rw [if_neg h1, h2]
/-- A text has the sign, or not; the first one. -/
theorem first_at (c : Int) : ∀ (t : List Int), c ∉ t ∨ ∃ p q, c ∉ p ∧ t = p ++ c :: q
  | [] => .inl (by simp)
  | x :: xs => by
    by_cases h : x = c
    · exact .inr ⟨[], xs, by simp, by simp [h]⟩
    · rcases first_at c xs with k | ⟨p, q, hp, rfl⟩
      · exact .inl (fun m => by
          rcases List.mem_cons.1 m with e | e
          · exact h e.symm
          · exact k e)
      · exact .inr ⟨x :: p, q, fun m => by
          rcases List.mem_cons.1 m with e | e
          · exact h e.symm
          · exact hp e, by simp⟩
theorem split_ne (c : Int) (t : List Int) : 1 ≤ (splitC c t).length := by
  rcases first_at c t with h | ⟨p, q, hp, rfl⟩
  · rw [split_no h]; simp
  · rw [split_at q hp]; simp
theorem split_len (c : Int) : ∀ (n : Nat) (t : List Int), t.length ≤ n → (splitC c t).length ≤ t.length + 1
  | 0, t, h => by
    have : t = [] := List.length_eq_zero_iff.1 (by omega)
    subst this; simp [splitC]
  | n + 1, t, h => by
    rcases first_at c t with k | ⟨p, q, hp, rfl⟩
    · rw [split_no k]; simp
    · simp only [List.length_append, List.length_cons] at h
      have := split_len c n q (by omega)
      rw [split_at q hp]
      simp only [List.length_append, List.length_cons]; omega
theorem split_one {c : Int} {t : List Int} (h : (splitC c t).length = 1) : c ∉ t := by
  rcases first_at c t with k | ⟨p, q, hp, rfl⟩
  · exact k
  · rw [split_at q hp] at h
    have := split_ne c q
    simp only [List.length_cons] at h; omega
theorem split_two {c : Int} {t : List Int} (h : 2 ≤ (splitC c t).length) : ∃ p q, c ∉ p ∧ t = p ++ c :: q ∧ splitC c t = p :: splitC c q := by
  rcases first_at c t with k | ⟨p, q, hp, rfl⟩
  · rw [split_no k] at h; simp at h
  · exact ⟨p, q, hp, rfl, split_at q hp⟩
theorem split_byt {c : Int} : ∀ (n : Nat) {t : List Int}, t.length ≤ n → Byt t → ∀ p ∈ splitC c t, Byt p
  | n, t, hn, hB, p, hp => by
    rcases first_at c t with k | ⟨a, q, ha, rfl⟩
    · rw [split_no k] at hp
      rw [List.mem_singleton.1 hp]; exact hB
    · rw [split_at q ha] at hp
      rcases List.mem_cons.1 hp with rfl | hp
      · exact hB.left
      · match n, hn with
        | 0, hn => simp at hn
        | n + 1, hn => exact split_byt n (t := q) (by simp only [List.length_append, List.length_cons] at hn; omega) hB.right.cons.2 p hp

theorem u8_ne {a b : Int} (ha : 0 ≤ a ∧ a < 256) (hb : 0 ≤ b ∧ b < 256) (h : a ≠ b) : (UInt8.ofNat a.toNat == UInt8.ofNat b.toNat) = false := by
  rw [beq_eq_false_iff_ne]
  intro e
  have := congrArg UInt8.toNat e
  simp only [UInt8.toNat_ofNat'] at this
  omega
theorem data_str (xs : List Int) : (strOfNums xs).data.toList = xs.map fun n => UInt8.ofNat n.toNat := rfl

theorem index_at {c : Int} (hc : 0 ≤ c ∧ c < 256) : ∀ {p : List Int} (q : List Int), Byt p → c ∉ p → Lib.indexByte (strOfNums (p ++ c :: q)).data.toList (UInt8.ofNat c.toNat) = (p.length : Int)
  | [], q, _, _ => by rw [data_str]; simp [Lib.indexByte]
  | x :: xs, q, hB, h => by
    have h1 : x ≠ c := fun e => h (by simp [e])
    have ih := index_at hc (p := xs) q hB.cons.2 (fun k => h (List.mem_cons_of_mem _ k))
    rw [data_str] at ih ⊢
    simp only [List.cons_append, List.map_cons, Lib.indexByte] at ih ⊢
    rw [u8_ne hB.cons.1 hc h1, ih]
    simp only [Bool.false_eq_true, if_false, List.length_cons]
    rw [if_neg (by first | (simp; done) | (simp; omega))]
    omega
theorem index_no {c : Int} (hc : 0 ≤ c ∧ c < 256) : ∀ {p : List Int}, Byt p → c ∉ p → Lib.indexByte (strOfNums p).data.toList (UInt8.ofNat c.toNat) = -1
  | [], _, _ => by rw [data_str]; simp [Lib.indexByte]
  | x :: xs, hB, h => by
    have h1 : x ≠ c := fun e => h (by simp [e])
    have ih := index_no hc (p := xs) hB.cons.2 (fun k => h (List.mem_cons_of_mem _ k))
    rw [data_str] at ih ⊢
    simp only [List.map_cons, Lib.indexByte] at ih ⊢
    rw [u8_ne hB.cons.1 hc h1, ih]
    simp
theorem count_split {c : Int} (hc : 0 ≤ c ∧ c < 256) : ∀ (xs : List Int), Byt xs → (Lib.countByte (strOfNums xs).data.toList (UInt8.ofNat c.toNat) : Int) + 1 = ((splitC c xs).length : Int)
  | [], _ => by rw [data_str]; simp [Lib.countByte, splitC]
  | x :: xs, hB => by
    have ih := count_split hc xs hB.cons.2
    rw [data_str] at ih ⊢
    unfold Lib.countByte at ih ⊢
    simp only [List.map_cons, splitC]
    rw [List.count_cons]
    have ne := split_ne c xs
    by_cases h : x = c
    · rw [if_pos h, h]
      simp only [beq_self_eq_true, if_true, List.length_cons]
      omega
    · rw [if_neg h, u8_ne hB.cons.1 hc h]
      cases e : splitC c xs with
      | nil => rw [e] at ne; simp at ne
      | cons a t => rw [e] at ih; simpa using ih
theorem take_set {α : Type} (a : List α) (i : Nat) (x : α) (h : i < a.length) : (a.set i x).take (i + 1) = a.take i ++ [x] := by
  rw [List.take_succ_eq_append_getElem (by simpa using h), List.take_set_of_le (Nat.le_refl i)]
  simp
end Go.Proofs.YtmciigdfhikdnaaDoor.Cut
