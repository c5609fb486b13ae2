/- Walks of the program's functions that a statement of this seat reaches: each comes to what its plain Lean function beside it tells; no condition beside those in each theorem. -/
import Derived.Test.YtefmoefiamjmpaaDoorQPairsBackx0
namespace Go.Proofs.YtefmoefiamjmpaaDoor.QPairsBack
open Go.RowKit Go.Proofs.YtefmoefiamjmpaaDoorW.PrintWords Go.Proofs.YtefmoefiamjmpaaDoorW.PrintLast Go.Proofs.YtefmoefiamjmpaaDoorW.PrintMore
open Go.Proofs.YtefmoefiamjmpaaDoor.Pa
attribute [local go_sem] str_leq str_gtr str_geq max2_int min2_int max_two min_two max_three min_three max_four min_four   -- for this text's walks alone
set_option linter.unusedVariables false
set_option linter.unusedSimpArgs false

/-! ### deedboxref41_Text: function 19 -/
mutual
def deedboxref41_Text.l0 : Nat → List (S36) → ByteArray → ByteArray → Int → Option (ByteArray)
  | 0, _, _, _, _ => none
  | k + 1, x0, x3, x4, x5 => if x5 < (x0.length : Int) then (deedboxref41_Text.l1 k x0 x3 x4 x5 (-1) 0) else (some x3)
def deedboxref41_Text.l1 : Nat → List (S36) → ByteArray → ByteArray → Int → Int → Int → Option (ByteArray)
  | 0, _, _, _, _, _, _ => none
  | k + 1, x0, x3, x4, x5, x6, x7 => if x7 < (x0.length : Int) then (if x5 = 0 then (if x6 < 0 then (deedboxref41_Text.l1 k x0 x3 x4 x5 x7 (wrap64 (x7 + 1))) else (if 0 ≤ x7 then (if 0 ≤ x6 then (if x6 < (x0.length : Int) then (if (Op.bytesLess (((rd_T36 x0 x7).f0).toList) (((rd_T36 x0 x6).f0).toList)) = true then (deedboxref41_Text.l1 k x0 x3 x4 x5 x7 (wrap64 (x7 + 1))) else (deedboxref41_Text.l1 k x0 x3 x4 x5 x6 (wrap64 (x7 + 1)))) else (none)) else (none)) else (none))) else (if 0 ≤ x7 then (if (Op.bytesLess x4.toList (((rd_T36 x0 x7).f0).toList)) = true then (if x6 < 0 then (deedboxref41_Text.l1 k x0 x3 x4 x5 x7 (wrap64 (x7 + 1))) else (if 0 ≤ x6 then (if x6 < (x0.length : Int) then (if (Op.bytesLess (((rd_T36 x0 x7).f0).toList) (((rd_T36 x0 x6).f0).toList)) = true then (deedboxref41_Text.l1 k x0 x3 x4 x5 x7 (wrap64 (x7 + 1))) else (deedboxref41_Text.l1 k x0 x3 x4 x5 x6 (wrap64 (x7 + 1)))) else (none)) else (none))) else (deedboxref41_Text.l1 k x0 x3 x4 x5 x6 (wrap64 (x7 + 1)))) else (none))) else (if x6 < 0 then (some x3) else (if x5 > 0 then (if x3.size + 1 ≤ 9223372036854775807 then (if 0 ≤ x6 then (if x6 < (x0.length : Int) then (if x3.size + 1 + ((rd_T36 x0 x6).f0).size ≤ 9223372036854775807 then (if x3.size + 1 + ((rd_T36 x0 x6).f0).size + 1 ≤ 9223372036854775807 then (if x3.size + 1 + ((rd_T36 x0 x6).f0).size + 1 + ((rd_T36 x0 x6).f1).size ≤ 9223372036854775807 then (deedboxref41_Text.l0 k x0 ((((x3 ++ (⟨#[38]⟩ : ByteArray)) ++ ((rd_T36 x0 x6).f0)) ++ (⟨#[61]⟩ : ByteArray)) ++ ((rd_T36 x0 x6).f1)) ((rd_T36 x0 x6).f0) (wrap64 (x5 + 1))) else (none)) else (none)) else (none)) else (none)) else (none)) else (none)) else (if 0 ≤ x6 then (if x6 < (x0.length : Int) then (if x3.size + ((rd_T36 x0 x6).f0).size ≤ 9223372036854775807 then (if x3.size + ((rd_T36 x0 x6).f0).size + 1 ≤ 9223372036854775807 then (if x3.size + ((rd_T36 x0 x6).f0).size + 1 + ((rd_T36 x0 x6).f1).size ≤ 9223372036854775807 then (deedboxref41_Text.l0 k x0 (((x3 ++ ((rd_T36 x0 x6).f0)) ++ (⟨#[61]⟩ : ByteArray)) ++ ((rd_T36 x0 x6).f1)) ((rd_T36 x0 x6).f0) (wrap64 (x5 + 1))) else (none)) else (none)) else (none)) else (none)) else (none))))
end
def deedboxref41_Text.f (k : Nat) (l0 : List (S36)) : Option (ByteArray) := deedboxref41_Text.l0 k l0 (⟨#[]⟩ : ByteArray) (⟨#[]⟩ : ByteArray) 0
theorem deedboxref41_Text.mono_l : ∀ k, (∀ y0 y1 y2 y3, LeO (deedboxref41_Text.l0 k y0 y1 y2 y3) (deedboxref41_Text.l0 (k + 1) y0 y1 y2 y3)) ∧ (∀ y0 y1 y2 y3 y4 y5, LeO (deedboxref41_Text.l1 k y0 y1 y2 y3 y4 y5) (deedboxref41_Text.l1 (k + 1) y0 y1 y2 y3 y4 y5))
  | 0 => ⟨fun _ _ _ _ r h => by simp [deedboxref41_Text.l0] at h, fun _ _ _ _ _ _ r h => by simp [deedboxref41_Text.l1] at h⟩
  | k + 1 => by
    obtain ⟨ih0, ih1⟩ := deedboxref41_Text.mono_l k
    refine ⟨?_, ?_⟩
    · intro y0 y1 y2 y3
      unfold deedboxref41_Text.l0
      repeat' first
      | (with_reducible exact ih0 _ _ _ _)
      | (with_reducible exact ih1 _ _ _ _ _ _)
      | (with_reducible exact LeO.refl _)
      | (with_reducible exact LeO.none _)
      | (with_reducible refine LeO.ite ?_ ?_)
      | (with_reducible refine LeO.bind ?_ (fun _ => ?_))
      | exact ih0 _ _ _ _
      | exact ih1 _ _ _ _ _ _
      | exact LeO.none _
      | refine LeO.ite ?_ ?_
      | refine LeO.bind ?_ (fun _ => ?_)
    · intro y0 y1 y2 y3 y4 y5
      unfold deedboxref41_Text.l1
      repeat' first
      | (with_reducible exact ih0 _ _ _ _)
      | (with_reducible exact ih1 _ _ _ _ _ _)
      | (with_reducible exact LeO.refl _)
      | (with_reducible exact LeO.none _)
      | (with_reducible refine LeO.ite ?_ ?_)
      | (with_reducible refine LeO.bind ?_ (fun _ => ?_))
      | exact ih0 _ _ _ _
      | exact ih1 _ _ _ _ _ _
      | exact LeO.none _
      | refine LeO.ite ?_ ?_
      | refine LeO.bind ?_ (fun _ => ?_)
theorem deedboxref41_Text.mono : ∀ a0 k, LeO (deedboxref41_Text.f k a0) (deedboxref41_Text.f (k + 1) a0) := by
  intro a0 k
  obtain ⟨ih0, ih1⟩ := deedboxref41_Text.mono_l k
  unfold deedboxref41_Text.f
  repeat' first
      | (with_reducible exact ih0 _ _ _ _)
      | (with_reducible exact ih1 _ _ _ _ _ _)
      | (with_reducible exact LeO.refl _)
      | (with_reducible exact LeO.none _)
      | (with_reducible refine LeO.ite ?_ ?_)
      | (with_reducible refine LeO.bind ?_ (fun _ => ?_))
      | exact ih0 _ _ _ _
      | exact ih1 _ _ _ _ _ _
      | exact LeO.none _
      | refine LeO.ite ?_ ?_
      | refine LeO.bind ?_ (fun _ => ?_)
set_option maxHeartbeats 8000000 in
set_option maxRecDepth 100000 in
theorem deedboxref41_Text.calls (k : Nat) (A0 : Option Addr) (c0 : Nat) (l0 : List (S36)) (r : ByteArray) (w : World) (hr0 : Kd.C k36 w A0 l0.length l0) (hc0 : l0.length ≤ c0) (h : deedboxref41_Text.f k l0 = some r) :
    Calls Tryd.prog 19 #[.slice A0 l0.length c0] w fun e w' => e = .returned (.string r) ∧ Drawn0 w w' := by
  have HR0 := Aside0.mk hr0
  have HC0 := Aside0.mk hc0
  clear hr0 hc0
  have H : (deedboxref41_Text.l0 k l0 (⟨#[]⟩ : ByteArray) (⟨#[]⟩ : ByteArray) 0) = some r := h
  clear h
  have H' := Aside0.mk H
  clear H
  go_enter Tryd.func19, Tryd.ntmps19
  go_wp2
  repeat (go_quiet (fail); try go_wp2)
  go_loopg [3, 4, 5] k (fun kq v3 v4 v5 w' => ∃ (x3_1 : ByteArray) (x4_1 : ByteArray) (x5_1 : Int), v3 = .string x3_1 ∧ v4 = .string x4_1 ∧ v5 = .int .i64 x5_1 ∧ Aside0 (deedboxref41_Text.l0 kq l0 x3_1 x4_1 x5_1 = some r) ∧ Aside0 (kq ≤ k) ∧ Drawn0 w w')
  case atStart => exact ⟨((⟨#[]⟩ : ByteArray)), ((⟨#[]⟩ : ByteArray)), (0), (by first | rfl | (simp; done) | (simp [*]; done) | (simp [less_total]; done)), (by first | rfl | (simp; done) | (simp [*]; done) | (simp [less_total]; done)), (by first | rfl | (simp; done) | (simp [*]; done) | (simp [less_total]; done)), H', ⟨Nat.le_refl _⟩, by repeat (first | exact Drawn0.refl _ | apply Drawn0.step)⟩
  case round =>
    clear H'
    try clear c1
    obtain ⟨x3_1, x4_1, x5_1, rfl, rfl, rfl, HA, HK1, ⟨m1, rfl⟩⟩ := hrel
    cases gk with
    | zero => exact absurd HA.out (by simp [deedboxref41_Text.l0])
    | succ k1 =>
      have H := HA.out
      clear HA
      simp only [deedboxref41_Text.l0] at H
      by_cases c2 : x5_1 < (l0.length : Int)
      · rw [if_pos c2] at H
        have c2b0 : decide (x5_1 < (l0.length : Int)) = true := decide_eq_true c2
        clear c2
        have H' := Aside0.mk H
        clear H
        go_wp2
        repeat (go_quiet (fail); try go_wp2)
        go_loopg [6, 7] k1 (fun kq v6 v7 w' => ∃ (x6_2 : Int) (x7_2 : Int), v6 = .int .i64 x6_2 ∧ v7 = .int .i64 x7_2 ∧ Aside0 (deedboxref41_Text.l1 kq l0 x3_1 x4_1 x5_1 x6_2 x7_2 = some r) ∧ Aside0 (kq ≤ k1) ∧ Drawn0 w w')
        case atStart => exact ⟨((-1)), (0), (by first | rfl | (simp; done) | (simp [*]; done) | (simp [less_total]; done)), (by first | rfl | (simp; done) | (simp [*]; done) | (simp [less_total]; done)), H', ⟨Nat.le_refl _⟩, by repeat (first | exact Drawn0.refl _ | apply Drawn0.step)⟩
        case round =>
          clear H'
          try clear c1
          try clear c2
          try clear c2b0
          try clear p2
          obtain ⟨x6_2, x7_2, rfl, rfl, HA, HK2, ⟨m2, rfl⟩⟩ := hrel
          cases gk with
          | zero => exact absurd HA.out (by simp [deedboxref41_Text.l1])
          | succ k2 =>
            have H := HA.out
            clear HA
            simp only [deedboxref41_Text.l1] at H
            by_cases c3 : x7_2 < (l0.length : Int)
            · rw [if_pos c3] at H
              have c3b0 : decide (x7_2 < (l0.length : Int)) = true := decide_eq_true c3
              clear c3
              by_cases c4 : x5_1 = 0
              · rw [if_pos c4] at H
                have c4b0 : (x5_1 == 0) = true := beq_iff_eq.mpr c4
                have c4b1 : (x5_1 != 0) = false := bne_eq_false_iff_eq.mpr c4
                clear c4
                by_cases c5 : x6_2 < 0
                · rw [if_pos c5] at H
                  have c5b0 : decide (x6_2 < 0) = true := decide_eq_true c5
                  clear c5
                  have H' := Aside0.mk H
                  clear H
                  go_wp2
                  repeat (go_quiet (fail); try go_wp2)
                  go_roundg k2
                  case measure => have := HK1.out; have := HK2.out; omega
                  case rel => exact ⟨(x7_2), (wrap64 (x7_2 + 1)), (by first | rfl | (simp; done) | (simp [*]; done) | (simp [less_total]; done)), (by first | rfl | (simp; done) | (simp [*]; done) | (simp [less_total]; done)), H', ⟨by have := HK1.out; have := HK2.out; omega⟩, by repeat (first | exact Drawn0.refl _ | apply Drawn0.step)⟩
                · rw [if_neg c5] at H
                  have c5b0 : decide (x6_2 < 0) = false := decide_eq_false c5
                  clear c5
                  by_cases c6 : 0 ≤ x7_2
                  · rw [if_pos c6] at H
                    have c6b0 : decide (0 ≤ x7_2) = true := decide_eq_true c6
                    clear c6
                    by_cases c7 : 0 ≤ x6_2
                    · rw [if_pos c7] at H
                      have c7b0 : decide (0 ≤ x6_2) = true := decide_eq_true c7
                      clear c7
                      by_cases c8 : x6_2 < (l0.length : Int)
                      · rw [if_pos c8] at H
                        have c8b0 : decide (x6_2 < (l0.length : Int)) = true := decide_eq_true c8
                        clear c8
                        by_cases c9 : (Op.bytesLess (((rd_T36 l0 x7_2).f0).toList) (((rd_T36 l0 x6_2).f0).toList)) = true
                        · rw [if_pos c9] at H
                          have c9b0 : (Op.bytesLess (((rd_T36 l0 x7_2).f0).toList) (((rd_T36 l0 x6_2).f0).toList)) = true := c9
                          clear c9
                          have H' := Aside0.mk H
                          clear H
                          have p165 : 0 ≤ (x7_2 : Int) := of_decide_eq_true (by first | (with_reducible assumption) | assumption)
                          have q165 : x7_2 < (l0.length : Int) := of_decide_eq_true (by first | (with_reducible assumption) | assumption)
                          obtain ⟨ad165, e165, hx165_0, hx165_1⟩ := at_T36 HR0.out x7_2 p165 q165
                          cases e165
                          replace p165 := eq_true p165
                          replace q165 := eq_true q165
                          have p166 : 0 ≤ (x6_2 : Int) := of_decide_eq_true (by first | (with_reducible assumption) | assumption)
                          have q166 : x6_2 < (l0.length : Int) := of_decide_eq_true (by first | (with_reducible assumption) | assumption)
                          obtain ⟨ad166, e166, hx166_0, hx166_1⟩ := at_T36 HR0.out x6_2 p166 q166
                          obtain rfl : ad165 = ad166 := (by injection e166)
                          replace p166 := eq_true p166
                          replace q166 := eq_true q166
                          go_wp2
                          repeat (go_quiet (fail); try go_wp2)
                          go_roundg k2
                          case measure => have := HK1.out; have := HK2.out; omega
                          case rel => exact ⟨(x7_2), (wrap64 (x7_2 + 1)), (by first | rfl | (simp; done) | (simp [*]; done) | (simp [less_total]; done)), (by first | rfl | (simp; done) | (simp [*]; done) | (simp [less_total]; done)), H', ⟨by have := HK1.out; have := HK2.out; omega⟩, by repeat (first | exact Drawn0.refl _ | apply Drawn0.step)⟩
                        · rw [if_neg c9] at H
                          have c9b0 : (Op.bytesLess (((rd_T36 l0 x7_2).f0).toList) (((rd_T36 l0 x6_2).f0).toList)) = false := by simpa using c9
                          clear c9
                          have H' := Aside0.mk H
                          clear H
                          have p165 : 0 ≤ (x7_2 : Int) := of_decide_eq_true (by first | (with_reducible assumption) | assumption)
                          have q165 : x7_2 < (l0.length : Int) := of_decide_eq_true (by first | (with_reducible assumption) | assumption)
                          obtain ⟨ad165, e165, hx165_0, hx165_1⟩ := at_T36 HR0.out x7_2 p165 q165
                          cases e165
                          replace p165 := eq_true p165
                          replace q165 := eq_true q165
                          have p166 : 0 ≤ (x6_2 : Int) := of_decide_eq_true (by first | (with_reducible assumption) | assumption)
                          have q166 : x6_2 < (l0.length : Int) := of_decide_eq_true (by first | (with_reducible assumption) | assumption)
                          obtain ⟨ad166, e166, hx166_0, hx166_1⟩ := at_T36 HR0.out x6_2 p166 q166
                          obtain rfl : ad165 = ad166 := (by injection e166)
                          replace p166 := eq_true p166
                          replace q166 := eq_true q166
                          go_wp2
                          repeat (go_quiet (fail); try go_wp2)
                          go_roundg k2
                          case measure => have := HK1.out; have := HK2.out; omega
                          case rel => exact ⟨(x6_2), (wrap64 (x7_2 + 1)), (by first | rfl | (simp; done) | (simp [*]; done) | (simp [less_total]; done)), (by first | rfl | (simp; done) | (simp [*]; done) | (simp [less_total]; done)), H', ⟨by have := HK1.out; have := HK2.out; omega⟩, by repeat (first | exact Drawn0.refl _ | apply Drawn0.step)⟩
                      · rw [if_neg c8] at H
                        exact absurd H (by simp)
                    · rw [if_neg c7] at H
                      exact absurd H (by simp)
                  · rw [if_neg c6] at H
                    exact absurd H (by simp)
              · rw [if_neg c4] at H
                have c4b0 : (x5_1 == 0) = false := beq_eq_false_iff_ne.mpr c4
                have c4b1 : (x5_1 != 0) = true := bne_iff_ne.mpr c4
                by_cases c10 : 0 ≤ x7_2
                · rw [if_pos c10] at H
                  have c10b0 : decide (0 ≤ x7_2) = true := decide_eq_true c10
                  clear c10
                  by_cases c11 : (Op.bytesLess x4_1.toList (((rd_T36 l0 x7_2).f0).toList)) = true
                  · rw [if_pos c11] at H
                    have c11b0 : (Op.bytesLess x4_1.toList (((rd_T36 l0 x7_2).f0).toList)) = true := c11
                    have c11s0 : (!(Op.bytesLess (((rd_T36 l0 x7_2).f0).toList) x4_1.toList) && !((((rd_T36 l0 x7_2).f0).toList) == x4_1.toList)) = true := by
                      have h_ := less_total (((rd_T36 l0 x7_2).f0).toList) x4_1.toList
                      have e_ : (!(Op.bytesLess (((rd_T36 l0 x7_2).f0).toList) x4_1.toList) && !((((rd_T36 l0 x7_2).f0).toList) == x4_1.toList)) = !(Op.bytesLess (((rd_T36 l0 x7_2).f0).toList) x4_1.toList || (((rd_T36 l0 x7_2).f0).toList) == x4_1.toList) := by simp [Bool.not_or]
                      rw [e_, h_, Bool.not_not]
                      exact c11b0
                    clear c11
                    by_cases c12 : x6_2 < 0
                    · rw [if_pos c12] at H
                      have c12b0 : decide (x6_2 < 0) = true := decide_eq_true c12
                      clear c12
                      have H' := Aside0.mk H
                      clear H
                      have p167 : 0 ≤ (x7_2 : Int) := of_decide_eq_true (by first | (with_reducible assumption) | assumption)
                      have q167 : x7_2 < (l0.length : Int) := of_decide_eq_true (by first | (with_reducible assumption) | assumption)
                      obtain ⟨ad167, e167, hx167_0, hx167_1⟩ := at_T36 HR0.out x7_2 p167 q167
                      cases e167
                      replace p167 := eq_true p167
                      replace q167 := eq_true q167
                      go_wp2
                      repeat (go_quiet (fail); try go_wp2)
                      go_roundg k2
                      case measure => have := HK1.out; have := HK2.out; omega
                      case rel => exact ⟨(x7_2), (wrap64 (x7_2 + 1)), (by first | rfl | (simp; done) | (simp [*]; done) | (simp [less_total]; done)), (by first | rfl | (simp; done) | (simp [*]; done) | (simp [less_total]; done)), H', ⟨by have := HK1.out; have := HK2.out; omega⟩, by repeat (first | exact Drawn0.refl _ | apply Drawn0.step)⟩
                    · rw [if_neg c12] at H
                      have c12b0 : decide (x6_2 < 0) = false := decide_eq_false c12
                      clear c12
                      by_cases c13 : 0 ≤ x6_2
                      · rw [if_pos c13] at H
                        have c13b0 : decide (0 ≤ x6_2) = true := decide_eq_true c13
                        clear c13
                        by_cases c14 : x6_2 < (l0.length : Int)
                        · rw [if_pos c14] at H
                          have c14b0 : decide (x6_2 < (l0.length : Int)) = true := decide_eq_true c14
                          clear c14
                          by_cases c15 : (Op.bytesLess (((rd_T36 l0 x7_2).f0).toList) (((rd_T36 l0 x6_2).f0).toList)) = true
                          · rw [if_pos c15] at H
                            have c15b0 : (Op.bytesLess (((rd_T36 l0 x7_2).f0).toList) (((rd_T36 l0 x6_2).f0).toList)) = true := c15
                            clear c15
                            have H' := Aside0.mk H
                            clear H
                            have p167 : 0 ≤ (x7_2 : Int) := of_decide_eq_true (by first | (with_reducible assumption) | assumption)
                            have q167 : x7_2 < (l0.length : Int) := of_decide_eq_true (by first | (with_reducible assumption) | assumption)
                            obtain ⟨ad167, e167, hx167_0, hx167_1⟩ := at_T36 HR0.out x7_2 p167 q167
                            cases e167
                            replace p167 := eq_true p167
                            replace q167 := eq_true q167
                            have p168 : 0 ≤ (x7_2 : Int) := of_decide_eq_true (by first | (with_reducible assumption) | assumption)
                            have q168 : x7_2 < (l0.length : Int) := of_decide_eq_true (by first | (with_reducible assumption) | assumption)
                            obtain ⟨ad168, e168, hx168_0, hx168_1⟩ := at_T36 HR0.out x7_2 p168 q168
                            obtain rfl : ad167 = ad168 := (by injection e168)
                            replace p168 := eq_true p168
                            replace q168 := eq_true q168
                            have p169 : 0 ≤ (x6_2 : Int) := of_decide_eq_true (by first | (with_reducible assumption) | assumption)
                            have q169 : x6_2 < (l0.length : Int) := of_decide_eq_true (by first | (with_reducible assumption) | assumption)
                            obtain ⟨ad169, e169, hx169_0, hx169_1⟩ := at_T36 HR0.out x6_2 p169 q169
                            obtain rfl : ad167 = ad169 := (by injection e169)
                            replace p169 := eq_true p169
                            replace q169 := eq_true q169
                            go_wp2
                            repeat (go_quiet (fail); try go_wp2)
                            go_roundg k2
                            case measure => have := HK1.out; have := HK2.out; omega
                            case rel => exact ⟨(x7_2), (wrap64 (x7_2 + 1)), (by first | rfl | (simp; done) | (simp [*]; done) | (simp [less_total]; done)), (by first | rfl | (simp; done) | (simp [*]; done) | (simp [less_total]; done)), H', ⟨by have := HK1.out; have := HK2.out; omega⟩, by repeat (first | exact Drawn0.refl _ | apply Drawn0.step)⟩
                          · rw [if_neg c15] at H
                            have c15b0 : (Op.bytesLess (((rd_T36 l0 x7_2).f0).toList) (((rd_T36 l0 x6_2).f0).toList)) = false := by simpa using c15
                            clear c15
                            have H' := Aside0.mk H
                            clear H
                            have p167 : 0 ≤ (x7_2 : Int) := of_decide_eq_true (by first | (with_reducible assumption) | assumption)
                            have q167 : x7_2 < (l0.length : Int) := of_decide_eq_true (by first | (with_reducible assumption) | assumption)
                            obtain ⟨ad167, e167, hx167_0, hx167_1⟩ := at_T36 HR0.out x7_2 p167 q167
                            cases e167
                            replace p167 := eq_true p167
                            replace q167 := eq_true q167
                            have p168 : 0 ≤ (x7_2 : Int) := of_decide_eq_true (by first | (with_reducible assumption) | assumption)
                            have q168 : x7_2 < (l0.length : Int) := of_decide_eq_true (by first | (with_reducible assumption) | assumption)
                            obtain ⟨ad168, e168, hx168_0, hx168_1⟩ := at_T36 HR0.out x7_2 p168 q168
                            obtain rfl : ad167 = ad168 := (by injection e168)
                            replace p168 := eq_true p168
                            replace q168 := eq_true q168
                            have p169 : 0 ≤ (x6_2 : Int) := of_decide_eq_true (by first | (with_reducible assumption) | assumption)
                            have q169 : x6_2 < (l0.length : Int) := of_decide_eq_true (by first | (with_reducible assumption) | assumption)
                            obtain ⟨ad169, e169, hx169_0, hx169_1⟩ := at_T36 HR0.out x6_2 p169 q169
                            obtain rfl : ad167 = ad169 := (by injection e169)
                            replace p169 := eq_true p169
                            replace q169 := eq_true q169
                            go_wp2
                            repeat (go_quiet (fail); try go_wp2)
                            go_roundg k2
                            case measure => have := HK1.out; have := HK2.out; omega
                            case rel => exact ⟨(x6_2), (wrap64 (x7_2 + 1)), (by first | rfl | (simp; done) | (simp [*]; done) | (simp [less_total]; done)), (by first | rfl | (simp; done) | (simp [*]; done) | (simp [less_total]; done)), H', ⟨by have := HK1.out; have := HK2.out; omega⟩, by repeat (first | exact Drawn0.refl _ | apply Drawn0.step)⟩
                        · rw [if_neg c14] at H
                          exact absurd H (by simp)
                      · rw [if_neg c13] at H
                        exact absurd H (by simp)
                  · rw [if_neg c11] at H
                    have c11b0 : (Op.bytesLess x4_1.toList (((rd_T36 l0 x7_2).f0).toList)) = false := by simpa using c11
                    have c11s0 : (!(Op.bytesLess (((rd_T36 l0 x7_2).f0).toList) x4_1.toList) && !((((rd_T36 l0 x7_2).f0).toList) == x4_1.toList)) = false := by
                      have h_ := less_total (((rd_T36 l0 x7_2).f0).toList) x4_1.toList
                      have e_ : (!(Op.bytesLess (((rd_T36 l0 x7_2).f0).toList) x4_1.toList) && !((((rd_T36 l0 x7_2).f0).toList) == x4_1.toList)) = !(Op.bytesLess (((rd_T36 l0 x7_2).f0).toList) x4_1.toList || (((rd_T36 l0 x7_2).f0).toList) == x4_1.toList) := by simp [Bool.not_or]
                      rw [e_, h_, Bool.not_not]
                      exact c11b0
                    clear c11
                    have H' := Aside0.mk H
                    clear H
                    have p167 : 0 ≤ (x7_2 : Int) := of_decide_eq_true (by first | (with_reducible assumption) | assumption)
                    have q167 : x7_2 < (l0.length : Int) := of_decide_eq_true (by first | (with_reducible assumption) | assumption)
                    obtain ⟨ad167, e167, hx167_0, hx167_1⟩ := at_T36 HR0.out x7_2 p167 q167
                    cases e167
                    replace p167 := eq_true p167
                    replace q167 := eq_true q167
                    go_wp2
                    repeat (go_quiet (fail); try go_wp2)
                    go_roundg k2
                    case measure => have := HK1.out; have := HK2.out; omega
                    case rel => exact ⟨(x6_2), (wrap64 (x7_2 + 1)), (by first | rfl | (simp; done) | (simp [*]; done) | (simp [less_total]; done)), (by first | rfl | (simp; done) | (simp [*]; done) | (simp [less_total]; done)), H', ⟨by have := HK1.out; have := HK2.out; omega⟩, by repeat (first | exact Drawn0.refl _ | apply Drawn0.step)⟩
                · rw [if_neg c10] at H
                  exact absurd H (by simp)
            · rw [if_neg c3] at H
              have c3b0 : decide (x7_2 < (l0.length : Int)) = false := decide_eq_false c3
              clear c3
              by_cases c16 : x6_2 < 0
              · rw [if_pos c16] at H
                have c16b0 : decide (x6_2 < 0) = true := decide_eq_true c16
                clear c16
                obtain rfl := Option.some.inj H
                go_wp2
                repeat (go_quiet (fail); try go_wp2)
                go_ret
                exact ⟨by first | rfl | (simp; done) | (simp [*]; done) | (simp [less_total]; done), by repeat (first | exact Drawn0.refl _ | apply Drawn0.step)⟩
              · rw [if_neg c16] at H
                have c16b0 : decide (x6_2 < 0) = false := decide_eq_false c16
                clear c16
                by_cases c17 : x5_1 > 0
                · rw [if_pos c17] at H
                  have c17b0 : decide (0 < x5_1) = true := decide_eq_true c17
                  clear c17
                  by_cases c18 : x3_1.size + 1 ≤ 9223372036854775807
                  · rw [if_pos c18] at H
                    have c18b0 := eq_true c18
                    have c18b1 : decide (x3_1.size + 1 ≤ 9223372036854775807) = true := decide_eq_true c18
                    try have c18b2 : (9223372036854775807 < x3_1.size + 1) = False := eq_false (Nat.not_lt.2 c18)
                    by_cases c19 : 0 ≤ x6_2
                    · rw [if_pos c19] at H
                      have c19b0 : decide (0 ≤ x6_2) = true := decide_eq_true c19
                      clear c19
                      by_cases c20 : x6_2 < (l0.length : Int)
                      · rw [if_pos c20] at H
                        have c20b0 : decide (x6_2 < (l0.length : Int)) = true := decide_eq_true c20
                        clear c20
                        by_cases c21 : x3_1.size + 1 + ((rd_T36 l0 x6_2).f0).size ≤ 9223372036854775807
                        · rw [if_pos c21] at H
                          have c21b0 := eq_true c21
                          have c21b1 : decide (x3_1.size + 1 + ((rd_T36 l0 x6_2).f0).size ≤ 9223372036854775807) = true := decide_eq_true c21
                          try have c21b2 : (9223372036854775807 < x3_1.size + 1 + ((rd_T36 l0 x6_2).f0).size) = False := eq_false (Nat.not_lt.2 c21)
                          by_cases c22 : x3_1.size + 1 + ((rd_T36 l0 x6_2).f0).size + 1 ≤ 9223372036854775807
                          · rw [if_pos c22] at H
                            have c22b0 := eq_true c22
                            have c22b1 : decide (x3_1.size + 1 + ((rd_T36 l0 x6_2).f0).size + 1 ≤ 9223372036854775807) = true := decide_eq_true c22
                            try have c22b2 : (9223372036854775807 < x3_1.size + 1 + ((rd_T36 l0 x6_2).f0).size + 1) = False := eq_false (Nat.not_lt.2 c22)
                            by_cases c23 : x3_1.size + 1 + ((rd_T36 l0 x6_2).f0).size + 1 + ((rd_T36 l0 x6_2).f1).size ≤ 9223372036854775807
                            · rw [if_pos c23] at H
                              have c23b0 := eq_true c23
                              have c23b1 : decide (x3_1.size + 1 + ((rd_T36 l0 x6_2).f0).size + 1 + ((rd_T36 l0 x6_2).f1).size ≤ 9223372036854775807) = true := decide_eq_true c23
                              try have c23b2 : (9223372036854775807 < x3_1.size + 1 + ((rd_T36 l0 x6_2).f0).size + 1 + ((rd_T36 l0 x6_2).f1).size) = False := eq_false (Nat.not_lt.2 c23)
                              have H' := Aside0.mk H
                              clear H
                              have p170 : 0 ≤ (x6_2 : Int) := of_decide_eq_true (by first | (with_reducible assumption) | assumption)
                              have q170 : x6_2 < (l0.length : Int) := of_decide_eq_true (by first | (with_reducible assumption) | assumption)
                              obtain ⟨ad170, e170, hx170_0, hx170_1⟩ := at_T36 HR0.out x6_2 p170 q170
                              cases e170
                              replace p170 := eq_true p170
                              replace q170 := eq_true q170
                              have p171 : 0 ≤ (x6_2 : Int) := of_decide_eq_true (by first | (with_reducible assumption) | assumption)
                              have q171 : x6_2 < (l0.length : Int) := of_decide_eq_true (by first | (with_reducible assumption) | assumption)
                              obtain ⟨ad171, e171, hx171_0, hx171_1⟩ := at_T36 HR0.out x6_2 p171 q171
                              obtain rfl : ad170 = ad171 := (by injection e171)
                              replace p171 := eq_true p171
                              replace q171 := eq_true q171
                              have p172 : 0 ≤ (x6_2 : Int) := of_decide_eq_true (by first | (with_reducible assumption) | assumption)
                              have q172 : x6_2 < (l0.length : Int) := of_decide_eq_true (by first | (with_reducible assumption) | assumption)
                              obtain ⟨ad172, e172, hx172_0, hx172_1⟩ := at_T36 HR0.out x6_2 p172 q172
                              obtain rfl : ad170 = ad172 := (by injection e172)
                              replace p172 := eq_true p172
                              replace q172 := eq_true q172
                              go_wp2
                              repeat (go_quiet (fail); try go_wp2)
                              go_roundg k2
                              case measure => have := HK1.out; have := HK2.out; omega
                              case rel => exact ⟨((((x3_1 ++ (⟨#[38]⟩ : ByteArray)) ++ ((rd_T36 l0 x6_2).f0)) ++ (⟨#[61]⟩ : ByteArray)) ++ ((rd_T36 l0 x6_2).f1)), ((rd_T36 l0 x6_2).f0), (wrap64 (x5_1 + 1)), (by first | rfl | (simp; done) | (simp [*]; done) | (simp [less_total]; done)), (by first | rfl | (simp; done) | (simp [*]; done) | (simp [less_total]; done)), (by first | rfl | (simp; done) | (simp [*]; done) | (simp [less_total]; done)), H', ⟨by have := HK1.out; have := HK2.out; omega⟩, by repeat (first | exact Drawn0.refl _ | apply Drawn0.step)⟩
                            · rw [if_neg c23] at H
                              exact absurd H (by simp)
                          · rw [if_neg c22] at H
                            exact absurd H (by simp)
                        · rw [if_neg c21] at H
                          exact absurd H (by simp)
                      · rw [if_neg c20] at H
                        exact absurd H (by simp)
                    · rw [if_neg c19] at H
                      exact absurd H (by simp)
                  · rw [if_neg c18] at H
                    exact absurd H (by simp)
                · rw [if_neg c17] at H
                  have c17b0 : decide (0 < x5_1) = false := decide_eq_false c17
                  clear c17
                  by_cases c24 : 0 ≤ x6_2
                  · rw [if_pos c24] at H
                    have c24b0 : decide (0 ≤ x6_2) = true := decide_eq_true c24
                    clear c24
                    by_cases c25 : x6_2 < (l0.length : Int)
                    · rw [if_pos c25] at H
                      have c25b0 : decide (x6_2 < (l0.length : Int)) = true := decide_eq_true c25
                      clear c25
                      by_cases c26 : x3_1.size + ((rd_T36 l0 x6_2).f0).size ≤ 9223372036854775807
                      · rw [if_pos c26] at H
                        have c26b0 := eq_true c26
                        have c26b1 : decide (x3_1.size + ((rd_T36 l0 x6_2).f0).size ≤ 9223372036854775807) = true := decide_eq_true c26
                        try have c26b2 : (9223372036854775807 < x3_1.size + ((rd_T36 l0 x6_2).f0).size) = False := eq_false (Nat.not_lt.2 c26)
                        by_cases c27 : x3_1.size + ((rd_T36 l0 x6_2).f0).size + 1 ≤ 9223372036854775807
                        · rw [if_pos c27] at H
                          have c27b0 := eq_true c27
                          have c27b1 : decide (x3_1.size + ((rd_T36 l0 x6_2).f0).size + 1 ≤ 9223372036854775807) = true := decide_eq_true c27
                          try have c27b2 : (9223372036854775807 < x3_1.size + ((rd_T36 l0 x6_2).f0).size + 1) = False := eq_false (Nat.not_lt.2 c27)
                          by_cases c28 : x3_1.size + ((rd_T36 l0 x6_2).f0).size + 1 + ((rd_T36 l0 x6_2).f1).size ≤ 9223372036854775807
                          · rw [if_pos c28] at H
                            have c28b0 := eq_true c28
                            have c28b1 : decide (x3_1.size + ((rd_T36 l0 x6_2).f0).size + 1 + ((rd_T36 l0 x6_2).f1).size ≤ 9223372036854775807) = true := decide_eq_true c28
                            try have c28b2 : (9223372036854775807 < x3_1.size + ((rd_T36 l0 x6_2).f0).size + 1 + ((rd_T36 l0 x6_2).f1).size) = False := eq_false (Nat.not_lt.2 c28)
                            have H' := Aside0.mk H
                            clear H
                            have p173 : 0 ≤ (x6_2 : Int) := of_decide_eq_true (by first | (with_reducible assumption) | assumption)
                            have q173 : x6_2 < (l0.length : Int) := of_decide_eq_true (by first | (with_reducible assumption) | assumption)
                            obtain ⟨ad173, e173, hx173_0, hx173_1⟩ := at_T36 HR0.out x6_2 p173 q173
                            cases e173
                            replace p173 := eq_true p173
                            replace q173 := eq_true q173
                            have p174 : 0 ≤ (x6_2 : Int) := of_decide_eq_true (by first | (with_reducible assumption) | assumption)
                            have q174 : x6_2 < (l0.length : Int) := of_decide_eq_true (by first | (with_reducible assumption) | assumption)
                            obtain ⟨ad174, e174, hx174_0, hx174_1⟩ := at_T36 HR0.out x6_2 p174 q174
                            obtain rfl : ad173 = ad174 := (by injection e174)
                            replace p174 := eq_true p174
                            replace q174 := eq_true q174
                            have p175 : 0 ≤ (x6_2 : Int) := of_decide_eq_true (by first | (with_reducible assumption) | assumption)
                            have q175 : x6_2 < (l0.length : Int) := of_decide_eq_true (by first | (with_reducible assumption) | assumption)
                            obtain ⟨ad175, e175, hx175_0, hx175_1⟩ := at_T36 HR0.out x6_2 p175 q175
                            obtain rfl : ad173 = ad175 := (by injection e175)
                            replace p175 := eq_true p175
                            replace q175 := eq_true q175
                            go_wp2
                            repeat (go_quiet (fail); try go_wp2)
                            go_roundg k2
                            case measure => have := HK1.out; have := HK2.out; omega
                            case rel => exact ⟨(((x3_1 ++ ((rd_T36 l0 x6_2).f0)) ++ (⟨#[61]⟩ : ByteArray)) ++ ((rd_T36 l0 x6_2).f1)), ((rd_T36 l0 x6_2).f0), (wrap64 (x5_1 + 1)), (by first | rfl | (simp; done) | (simp [*]; done) | (simp [less_total]; done)), (by first | rfl | (simp; done) | (simp [*]; done) | (simp [less_total]; done)), (by first | rfl | (simp; done) | (simp [*]; done) | (simp [less_total]; done)), H', ⟨by have := HK1.out; have := HK2.out; omega⟩, by repeat (first | exact Drawn0.refl _ | apply Drawn0.step)⟩
                          · rw [if_neg c28] at H
                            exact absurd H (by simp)
                        · rw [if_neg c27] at H
                          exact absurd H (by simp)
                      · rw [if_neg c26] at H
                        exact absurd H (by simp)
                    · rw [if_neg c25] at H
                      exact absurd H (by simp)
                  · rw [if_neg c24] at H
                    exact absurd H (by simp)
      · rw [if_neg c2] at H
        have c2b0 : decide (x5_1 < (l0.length : Int)) = false := decide_eq_false c2
        clear c2
        obtain rfl := Option.some.inj H
        go_wp2
        repeat (go_quiet (fail); try go_wp2)
        go_ret
        exact ⟨by first | rfl | (simp; done) | (simp [*]; done) | (simp [less_total]; done), by repeat (first | exact Drawn0.refl _ | apply Drawn0.step)⟩

end Go.Proofs.YtefmoefiamjmpaaDoor.QPairsBack
