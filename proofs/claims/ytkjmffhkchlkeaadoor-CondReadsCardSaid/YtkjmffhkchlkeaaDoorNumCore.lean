/- Plain facts of numbers in digits; no program in sight. -/
import Derived.Test.YtkjmffhkchlkeaaDoorKit
namespace Go.Proofs.YtkjmffhkchlkeaaDoor.Num
open Go.Proofs.YtkjmffhkchlkeaaDoor.Kit

/-- A number in digits. -/
def digits (n : Nat) : List Int := if h : n < 10 then [48 + (n : Int)] else digits (n / 10) ++ [48 + ((n % 10 : Nat) : Int)]
termination_by n
decreasing_by omega

/-- The number of digits, begun with one. -/
def vfrom (n : Int) (s : List Int) : Int := s.foldl (fun n c => 10 * n + (c - 48)) n
/-- All are digits. -/
def Dig (s : List Int) : Prop := ∀ c ∈ s, 48 ≤ c ∧ c ≤ 57
/-- A number's digits, none ahead that says nothing. -/
def IsNum (s : List Int) : Prop := s ≠ [] ∧ Dig s ∧ (1 < s.length → s.head? ≠ some 48)
/-- A number up to a greatest one. -/
def NumOk (s : List Int) (most : Int) : Prop := IsNum s ∧ vfrom 0 s ≤ most

theorem Dig.nil : Dig [] := fun _ h => by simp at h
theorem Dig.cons {c : Int} {s : List Int} (h : Dig (c :: s)) : (48 ≤ c ∧ c ≤ 57) ∧ Dig s := ⟨h c (by simp), fun x hx => h x (by simp [hx])⟩
theorem Dig.byt {s : List Int} (h : Dig s) : Byt s := fun c hc => by have := h c hc; omega
theorem Dig.app {s t : List Int} (h : Dig s) (k : Dig t) : Dig (s ++ t) := fun c hc => by
  rcases List.mem_append.1 hc with hc | hc
  · exact h c hc
  · exact k c hc

theorem vfrom_cons (n c : Int) (s : List Int) : vfrom n (c :: s) = vfrom (10 * n + (c - 48)) s := rfl
theorem vfrom_app (n : Int) (s t : List Int) : vfrom n (s ++ t) = vfrom (vfrom n s) t := by unfold vfrom; rw [List.foldl_append]
theorem vfrom_ge : ∀ {s : List Int} {n : Int}, Dig s → 0 ≤ n → n ≤ vfrom n s
  | [], n, _, _ => by simp [vfrom]
  | c :: s, n, h, h0 => by
    have hc := h.cons.1
    have := vfrom_ge h.cons.2 (n := 10 * n + (c - 48)) (by omega)
    rw [vfrom_cons]; omega
theorem vfrom_nonneg {s : List Int} (h : Dig s) : 0 ≤ vfrom 0 s := vfrom_ge h (Int.le_refl 0)
/-- How great many digits are at least. -/
theorem vfrom_pow : ∀ {s : List Int} {n : Int}, Dig s → 1 ≤ n → 10 ^ s.length ≤ vfrom n s
  | [], n, _, h => by simpa [vfrom] using h
  | c :: s, n, h, h0 => by
    have hc := h.cons.1
    rw [vfrom_cons, List.length_cons]
    have e : vfrom (10 * n + (c - 48)) s = vfrom (10 * n + (c - 48)) s := rfl
    have mono : ∀ (s : List Int) (a b : Int), a ≤ b → vfrom a s + (b - a) * 10 ^ s.length = vfrom b s := by
      intro s
      induction s with
      | nil => intro a b _; simp [vfrom]; omega
      | cons d s ih =>
        intro a b hab
        rw [vfrom_cons, vfrom_cons, ← ih (10 * a + (d - 48)) (10 * b + (d - 48)) (by omega), List.length_cons, Int.pow_succ]
        have : 10 * b + (d - 48) - (10 * a + (d - 48)) = 10 * (b - a) := by omega
        rw [this, Int.mul_comm (10 ^ s.length) 10, ← Int.mul_assoc, Int.mul_comm (b - a) 10]
    have h1 := vfrom_nonneg h.cons.2
    have h2 := mono s 0 (10 * n + (c - 48)) (by omega)
    have hp : (0 : Int) < 10 ^ s.length := Int.pow_pos (by omega)
    have h3 : 10 * 10 ^ s.length ≤ (10 * n + (c - 48) - 0) * 10 ^ s.length := Int.mul_le_mul_of_nonneg_right (by omega) (Int.le_of_lt hp)
    rw [Int.pow_succ]
    omega
theorem vfrom_up : ∀ {s : List Int} {n : Int}, Dig s → 0 ≤ n → vfrom n s < (n + 1) * 10 ^ s.length
  | [], n, _, h => by simp [vfrom]; omega
  | c :: s, n, h, h0 => by
    have hc := h.cons.1
    have ih := vfrom_up h.cons.2 (n := 10 * n + (c - 48)) (by omega)
    rw [vfrom_cons, List.length_cons, Int.pow_succ]
    have hp : (0 : Int) < 10 ^ s.length := Int.pow_pos (by omega)
    have h3 : (10 * n + (c - 48) + 1) * 10 ^ s.length ≤ (10 * (n + 1)) * 10 ^ s.length := Int.mul_le_mul_of_nonneg_right (by omega) (Int.le_of_lt hp)
    have e : (n + 1) * (10 ^ s.length * 10) = (10 * (n + 1)) * 10 ^ s.length := by
      rw [Int.mul_comm (10 ^ s.length) 10, ← Int.mul_assoc, Int.mul_comm (n + 1) 10]
    rw [e]; omega

theorem digits_lt {n : Nat} (h : n < 10) : digits n = [48 + (n : Int)] := by rw [digits, dif_pos h]
theorem digits_ge {n : Nat} (h : ¬ n < 10) : digits n = digits (n / 10) ++ [48 + ((n % 10 : Nat) : Int)] := by rw [digits, dif_neg h]

theorem digits_dig (n : Nat) : Dig (digits n) := by
  induction n using Nat.strongRecOn with
  | _ n ih =>
    by_cases h : n < 10
    · rw [digits_lt h]; intro c hc; simp only [List.mem_singleton] at hc; omega
    · rw [digits_ge h]
      exact (ih (n / 10) (by omega)).app (fun c hc => by simp only [List.mem_singleton] at hc; omega)
theorem digits_ne (n : Nat) : digits n ≠ [] := by
  by_cases h : n < 10
  · rw [digits_lt h]; simp
  · rw [digits_ge h]; simp
theorem digits_val (n : Nat) : vfrom 0 (digits n) = n := by
  induction n using Nat.strongRecOn with
  | _ n ih =>
    by_cases h : n < 10
    · rw [digits_lt h]; simp [vfrom]; omega
    · rw [digits_ge h, vfrom_app, ih (n / 10) (by omega)]; simp [vfrom]; omega
theorem digits_head (n : Nat) (h : 1 ≤ n) : (digits n).head? ≠ some 48 := by
  induction n using Nat.strongRecOn with
  | _ n ih =>
    by_cases h1 : n < 10
    · rw [digits_lt h1]; simp; omega
    · rw [digits_ge h1, List.head?_append]
      have := ih (n / 10) (by omega) (by omega)
      have ne := digits_ne (n / 10)
      cases e : digits (n / 10) with
      | nil => exact absurd e ne
      | cons x xs => rw [e] at this; simpa using this
theorem digits_num (n : Nat) : IsNum (digits n) := by
  refine ⟨digits_ne n, digits_dig n, fun h => ?_⟩
  by_cases h0 : 1 ≤ n
  · exact digits_head n h0
  · have : n = 0 := by omega
    subst this
    rw [digits_lt (by omega)] at h; simp at h
theorem digits_len (n : Nat) : ∀ (k : Nat), n < 10 ^ (k + 1) → (digits n).length ≤ k + 1 := by
  induction n using Nat.strongRecOn with
  | _ n ih =>
    intro k hk
    by_cases h : n < 10
    · rw [digits_lt h]; simp
    · rw [digits_ge h, List.length_append, List.length_singleton]
      cases k with
      | zero => omega
      | succ k =>
        have := ih (n / 10) (by omega) k (by rw [Nat.pow_succ] at hk; omega)
        omega
/-- What is read has just these digits. -/
theorem digits_of : ∀ (s : List Int), IsNum s → digits (vfrom 0 s).toNat = s := by
  have key : ∀ (k : Nat) (s : List Int), s.length = k → IsNum s → digits (vfrom 0 s).toNat = s := by
    intro k
    induction k using Nat.strongRecOn with
    | _ k ih =>
      intro s hl hs
      obtain ⟨ne, hd, hh⟩ := hs
      obtain ⟨t, c, rfl⟩ : ∃ t c, s = t ++ [c] := ⟨s.dropLast, s.getLast ne, (List.dropLast_concat_getLast ne).symm⟩
      have hc := hd c (by simp)
      have ht : Dig t := fun x hx => hd x (by simp [hx])
      have e : vfrom 0 (t ++ [c]) = 10 * vfrom 0 t + (c - 48) := by rw [vfrom_app]; rfl
      rw [e]
      by_cases t0 : t = []
      · subst t0
        have : vfrom 0 [] = 0 := rfl
        rw [this, digits_lt (by omega)]
        simp; omega
      · have hlen : 1 ≤ t.length := List.length_pos_iff.2 t0
        have hnh : t.head? ≠ some 48 := by
          have := hh (by simp; omega)
          rw [List.head?_append] at this
          cases e2 : t with
          | nil => exact absurd e2 t0
          | cons x xs => rw [e2] at this; simpa using this
        have hge : 1 ≤ vfrom 0 t := by
          cases e2 : t with
          | nil => exact absurd e2 t0
          | cons x xs =>
            rw [e2] at hnh ht
            have hx := ht.cons.1
            have hx2 : x ≠ 48 := by simpa using hnh
            rw [vfrom_cons]
            have := vfrom_ge ht.cons.2 (n := 10 * 0 + (x - 48)) (by omega)
            omega
        have it := ih t.length (by rw [← hl, List.length_append, List.length_singleton]; omega) t rfl ⟨t0, ht, fun _ => hnh⟩
        rw [digits_ge (by omega)]
        have e3 : (10 * vfrom 0 t + (c - 48)).toNat / 10 = (vfrom 0 t).toNat := by omega
        have e4 : (((10 * vfrom 0 t + (c - 48)).toNat % 10 : Nat) : Int) = c - 48 := by omega
        rw [e3, e4, it]
        congr 2; omega
  exact fun s hs => key s.length s rfl hs

theorem num_ok (n : Nat) (most : Int) (h : (n : Int) ≤ most) : NumOk (digits n) most := ⟨digits_num n, by rw [digits_val]; exact h⟩

/-- Twenty digits are too great. -/
theorem num_long {s : List Int} {most : Int} (h : 19 < s.length) (hm : most ≤ 9223372036854775807) : ¬ NumOk s most := by
  rintro ⟨⟨ne, hd, hh⟩, hv⟩
  cases s with
  | nil => exact ne rfl
  | cons c t =>
    have hc := hd.cons.1
    have : c ≠ 48 := by simpa using hh (by omega)
    rw [vfrom_cons] at hv
    have hp := vfrom_pow hd.cons.2 (n := 10 * 0 + (c - 48)) (by omega)
    simp only [List.length_cons] at h
    have h2 : (10 : Int) ^ 19 ≤ 10 ^ t.length := by
      have := Nat.pow_le_pow_right (n := 10) (by omega) (show 19 ≤ t.length by omega)
      exact_mod_cast this
    have h3 : (10 : Int) ^ 19 = 10000000000000000000 := by decide
    omega
end Go.Proofs.YtkjmffhkchlkeaaDoor.Num
