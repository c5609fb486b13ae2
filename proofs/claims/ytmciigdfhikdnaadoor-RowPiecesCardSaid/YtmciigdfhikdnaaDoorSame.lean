/- Two keys, versions, uploads compared: walked by hand (out of wip/row/mksame.py): each function comes to what its plain Lean function beside it tells; no condition beside those in each theorem. -/
import Derived.Test.YtmciigdfhikdnaaDoorRwx0
import Derived.Lib.Hide
namespace Go.Proofs.YtmciigdfhikdnaaDoor
open Go.RowKit Go.Proofs.YtmciigdfhikdnaaDoorW.PrintWords Go.Proofs.YtmciigdfhikdnaaDoorW.PrintLast Go.Proofs.YtmciigdfhikdnaaDoorW.PrintMore Go.Proofs.YtmciigdfhikdnaaDoor.Rw
set_option linter.unusedVariables false
set_option linter.unusedSimpArgs false
def deedboxref24_SameLock.f (k : Nat) (a0_0 : Int) (l0_1 : List Int) (l0_2 : List Int) (a1_0 : Int) (l1_1 : List Int) (l1_2 : List Int) : Option Bool := if a0_0 = a1_0 then ((deedboxref01_Same.f k l0_1 l1_1).bind fun t => if t = true then ((deedboxref01_Same.f k l0_2 l1_2).bind fun t => some t) else some false) else some false
theorem deedboxref24_SameLock.mono : ∀ y0 y1 y2 y3 y4 y5 k, LeO (deedboxref24_SameLock.f k y0 y1 y2 y3 y4 y5) (deedboxref24_SameLock.f (k + 1) y0 y1 y2 y3 y4 y5) := by
  intro y0 y1 y2 y3 y4 y5 k
  unfold deedboxref24_SameLock.f
  repeat' first
    | (with_reducible exact deedboxref01_Same.mono _ _ _)
    | (with_reducible exact LeO.refl _)
    | (with_reducible exact LeO.none _)
    | (with_reducible refine LeO.ite ?_ ?_)
    | (with_reducible refine LeO.bind ?_ (fun _ => ?_))
set_option maxRecDepth 100000 in
set_option maxHeartbeats 4000000 in
theorem deedboxref24_SameLock.calls (k : Nat) (a0_0 : Int) (A0_1 : Option Addr) (c0_1 : Nat) (l0_1 : List Int) (A0_2 : Option Addr) (c0_2 : Nat) (l0_2 : List Int) (a1_0 : Int) (A1_1 : Option Addr) (c1_1 : Nat) (l1_1 : List Int) (A1_2 : Option Addr) (c1_2 : Nat) (l1_2 : List Int) (r : Bool) (w : World) (hr0_1 : Kd.C (Kd.int .u8) w A0_1 l0_1.length l0_1) (hc0_1 : l0_1.length ≤ c0_1) (hr0_2 : Kd.C (Kd.int .u8) w A0_2 l0_2.length l0_2) (hc0_2 : l0_2.length ≤ c0_2) (hr1_1 : Kd.C (Kd.int .u8) w A1_1 l1_1.length l1_1) (hc1_1 : l1_1.length ≤ c1_1) (hr1_2 : Kd.C (Kd.int .u8) w A1_2 l1_2.length l1_2) (hc1_2 : l1_2.length ≤ c1_2) (h : deedboxref24_SameLock.f k a0_0 l0_1 l0_2 a1_0 l1_1 l1_2 = some r) :
    Calls Tryd.prog 49 #[.agg #[.int .i64 a0_0, .slice A0_1 l0_1.length c0_1, .slice A0_2 l0_2.length c0_2], .agg #[.int .i64 a1_0, .slice A1_1 l1_1.length c1_1, .slice A1_2 l1_2.length c1_2]] w fun e w' => e = .returned (.bool r) ∧ Below w.heap.size w w' := by
  unfold deedboxref24_SameLock.f at h
  have hu := Tryd.underlying24
  have B0 := Lib.hid (below_alloc (below_alloc (Below.refl w.heap.size w) (.cells #[.int .i64 a0_0, .slice A0_1 l0_1.length c0_1, .slice A0_2 l0_2.length c0_2] 24)) (.cells #[.int .i64 a1_0, .slice A1_1 l1_1.length c1_1, .slice A1_2 l1_2.length c1_2] 24))
  by_cases q0 : a0_0 = a1_0
  · rw [if_pos q0] at h
    have t0 : (a0_0 == a1_0) = true := by simpa using q0
    clear q0
    obtain ⟨s1, g1, h⟩ := Option.bind_eq_some_iff.1 h
    cases s1 with
    | true =>
      simp only [if_true] at h
      have S1 := fun (W : World) (hW : Below w.heap.size w W) => deedboxref01_Same.calls k A0_1 c0_1 l0_1 A1_1 c1_1 l1_1 true W (Kd.C_below hr0_1 hW) hc0_1 (Kd.C_below hr1_1 hW) hc1_1 g1
      have S1 := Lib.hid S1
      clear g1
      obtain ⟨s2, g2, h⟩ := Option.bind_eq_some_iff.1 h
      have S2 := fun (W : World) (hW : Below w.heap.size w W) => deedboxref01_Same.calls k A0_2 c0_2 l0_2 A1_2 c1_2 l1_2 s2 W (Kd.C_below hr0_2 hW) hc0_2 (Kd.C_below hr1_2 hW) hc1_2 g2
      have S2 := Lib.hid S2
      obtain rfl := Option.some.inj h
      clear hr0_1 hr0_2 hr1_1 hr1_2
      go_enter Tryd.func49, Tryd.ntmps49
      go_wp2_with fail
      refine (S1.out _ B0.out).mono ?_
      rintro e w' ⟨rfl, ⟨nd, rfl⟩⟩
      go_wp2_with fail
      refine (S2.out _ (pw_below_drewN B0.out _)).mono ?_
      rintro e w' ⟨rfl, ⟨nd, rfl⟩⟩
      go_wp2_with fail
      go_ret
      exact ⟨rfl, (pw_below_drewN B0.out _)⟩
    | false =>
      simp only [Bool.false_eq_true, if_false] at h
      have S1 := fun (W : World) (hW : Below w.heap.size w W) => deedboxref01_Same.calls k A0_1 c0_1 l0_1 A1_1 c1_1 l1_1 false W (Kd.C_below hr0_1 hW) hc0_1 (Kd.C_below hr1_1 hW) hc1_1 g1
      have S1 := Lib.hid S1
      clear g1
      obtain rfl := Option.some.inj h
      clear hr0_1 hr0_2 hr1_1 hr1_2
      go_enter Tryd.func49, Tryd.ntmps49
      go_wp2_with fail
      refine (S1.out _ B0.out).mono ?_
      rintro e w' ⟨rfl, ⟨nd, rfl⟩⟩
      go_wp2_with fail
      go_ret
      exact ⟨rfl, (pw_below_drewN B0.out _)⟩
  · rw [if_neg q0] at h
    have t0 : (a0_0 == a1_0) = false := by simpa using q0
    clear q0
    obtain rfl := Option.some.inj h
    clear hr0_1 hr0_2 hr1_1 hr1_2
    go_enter Tryd.func49, Tryd.ntmps49
    go_wp2_with fail
    go_ret
    exact ⟨rfl, B0.out⟩
def deedboxref24_SameVersion.f (k : Nat) (a0_0 : Int) (a0_1 : Bool) (a0_2 : Bool) (a0_3 : Int) (a0_4 : Int) (a0_5 : Int) (l0_6 : List Int) (l0_7 : List Int) (a0_8 : Int) (l0_9 : List Int) (l0_10 : List Int) (a1_0 : Int) (a1_1 : Bool) (a1_2 : Bool) (a1_3 : Int) (a1_4 : Int) (a1_5 : Int) (l1_6 : List Int) (l1_7 : List Int) (a1_8 : Int) (l1_9 : List Int) (l1_10 : List Int) : Option Bool := if a0_0 = a1_0 then (if (a0_1 == a1_1) = true then (if (a0_2 == a1_2) = true then (if a0_3 = a1_3 then (if a0_4 = a1_4 then (if a0_5 = a1_5 then ((deedboxref01_Same.f k l0_6 l1_6).bind fun t => if t = true then ((deedboxref01_Same.f k l0_7 l1_7).bind fun t => if t = true then ((deedboxref24_SameLock.f k a0_8 l0_9 l0_10 a1_8 l1_9 l1_10).bind fun t => some t) else some false) else some false) else some false) else some false) else some false) else some false) else some false) else some false
theorem deedboxref24_SameVersion.mono : ∀ y0 y1 y2 y3 y4 y5 y6 y7 y8 y9 y10 y11 y12 y13 y14 y15 y16 y17 y18 y19 y20 y21 k, LeO (deedboxref24_SameVersion.f k y0 y1 y2 y3 y4 y5 y6 y7 y8 y9 y10 y11 y12 y13 y14 y15 y16 y17 y18 y19 y20 y21) (deedboxref24_SameVersion.f (k + 1) y0 y1 y2 y3 y4 y5 y6 y7 y8 y9 y10 y11 y12 y13 y14 y15 y16 y17 y18 y19 y20 y21) := by
  intro y0 y1 y2 y3 y4 y5 y6 y7 y8 y9 y10 y11 y12 y13 y14 y15 y16 y17 y18 y19 y20 y21 k
  unfold deedboxref24_SameVersion.f
  repeat' first
    | (with_reducible exact deedboxref01_Same.mono _ _ _)
    | (with_reducible exact deedboxref24_SameLock.mono _ _ _ _ _ _ _)
    | (with_reducible exact LeO.refl _)
    | (with_reducible exact LeO.none _)
    | (with_reducible refine LeO.ite ?_ ?_)
    | (with_reducible refine LeO.bind ?_ (fun _ => ?_))
set_option maxRecDepth 100000 in
set_option maxHeartbeats 4000000 in
theorem deedboxref24_SameVersion.calls (k : Nat) (a0_0 : Int) (a0_1 : Bool) (a0_2 : Bool) (a0_3 : Int) (a0_4 : Int) (a0_5 : Int) (A0_6 : Option Addr) (c0_6 : Nat) (l0_6 : List Int) (A0_7 : Option Addr) (c0_7 : Nat) (l0_7 : List Int) (a0_8 : Int) (A0_9 : Option Addr) (c0_9 : Nat) (l0_9 : List Int) (A0_10 : Option Addr) (c0_10 : Nat) (l0_10 : List Int) (a1_0 : Int) (a1_1 : Bool) (a1_2 : Bool) (a1_3 : Int) (a1_4 : Int) (a1_5 : Int) (A1_6 : Option Addr) (c1_6 : Nat) (l1_6 : List Int) (A1_7 : Option Addr) (c1_7 : Nat) (l1_7 : List Int) (a1_8 : Int) (A1_9 : Option Addr) (c1_9 : Nat) (l1_9 : List Int) (A1_10 : Option Addr) (c1_10 : Nat) (l1_10 : List Int) (r : Bool) (w : World) (hr0_6 : Kd.C (Kd.int .u8) w A0_6 l0_6.length l0_6) (hc0_6 : l0_6.length ≤ c0_6) (hr0_7 : Kd.C (Kd.int .u8) w A0_7 l0_7.length l0_7) (hc0_7 : l0_7.length ≤ c0_7) (hr0_9 : Kd.C (Kd.int .u8) w A0_9 l0_9.length l0_9) (hc0_9 : l0_9.length ≤ c0_9) (hr0_10 : Kd.C (Kd.int .u8) w A0_10 l0_10.length l0_10) (hc0_10 : l0_10.length ≤ c0_10) (hr1_6 : Kd.C (Kd.int .u8) w A1_6 l1_6.length l1_6) (hc1_6 : l1_6.length ≤ c1_6) (hr1_7 : Kd.C (Kd.int .u8) w A1_7 l1_7.length l1_7) (hc1_7 : l1_7.length ≤ c1_7) (hr1_9 : Kd.C (Kd.int .u8) w A1_9 l1_9.length l1_9) (hc1_9 : l1_9.length ≤ c1_9) (hr1_10 : Kd.C (Kd.int .u8) w A1_10 l1_10.length l1_10) (hc1_10 : l1_10.length ≤ c1_10) (h : deedboxref24_SameVersion.f k a0_0 a0_1 a0_2 a0_3 a0_4 a0_5 l0_6 l0_7 a0_8 l0_9 l0_10 a1_0 a1_1 a1_2 a1_3 a1_4 a1_5 l1_6 l1_7 a1_8 l1_9 l1_10 = some r) :
    Calls Tryd.prog 14 #[.agg #[.int .i64 a0_0, .bool a0_1, .bool a0_2, .int .i64 a0_3, .int .i64 a0_4, .int .i64 a0_5, .slice A0_6 l0_6.length c0_6, .slice A0_7 l0_7.length c0_7, .int .i64 a0_8, .slice A0_9 l0_9.length c0_9, .slice A0_10 l0_10.length c0_10], .agg #[.int .i64 a1_0, .bool a1_1, .bool a1_2, .int .i64 a1_3, .int .i64 a1_4, .int .i64 a1_5, .slice A1_6 l1_6.length c1_6, .slice A1_7 l1_7.length c1_7, .int .i64 a1_8, .slice A1_9 l1_9.length c1_9, .slice A1_10 l1_10.length c1_10]] w fun e w' => e = .returned (.bool r) ∧ Below w.heap.size w w' := by
  unfold deedboxref24_SameVersion.f at h
  have hu := Tryd.underlying26
  have hu24 := Tryd.underlying24
  have B0 := Lib.hid (below_alloc (below_alloc (Below.refl w.heap.size w) (.cells #[.int .i64 a0_0, .bool a0_1, .bool a0_2, .int .i64 a0_3, .int .i64 a0_4, .int .i64 a0_5, .slice A0_6 l0_6.length c0_6, .slice A0_7 l0_7.length c0_7, .int .i64 a0_8, .slice A0_9 l0_9.length c0_9, .slice A0_10 l0_10.length c0_10] 26)) (.cells #[.int .i64 a1_0, .bool a1_1, .bool a1_2, .int .i64 a1_3, .int .i64 a1_4, .int .i64 a1_5, .slice A1_6 l1_6.length c1_6, .slice A1_7 l1_7.length c1_7, .int .i64 a1_8, .slice A1_9 l1_9.length c1_9, .slice A1_10 l1_10.length c1_10] 26))
  by_cases q0 : a0_0 = a1_0
  · rw [if_pos q0] at h
    have t0 : (a0_0 == a1_0) = true := by simpa using q0
    clear q0
    by_cases q1 : (a0_1 == a1_1) = true
    · rw [if_pos q1] at h
      have t1 : (a0_1 == a1_1) = true := q1
      clear q1
      by_cases q2 : (a0_2 == a1_2) = true
      · rw [if_pos q2] at h
        have t2 : (a0_2 == a1_2) = true := q2
        clear q2
        by_cases q3 : a0_3 = a1_3
        · rw [if_pos q3] at h
          have t3 : (a0_3 == a1_3) = true := by simpa using q3
          clear q3
          by_cases q4 : a0_4 = a1_4
          · rw [if_pos q4] at h
            have t4 : (a0_4 == a1_4) = true := by simpa using q4
            clear q4
            by_cases q5 : a0_5 = a1_5
            · rw [if_pos q5] at h
              have t5 : (a0_5 == a1_5) = true := by simpa using q5
              clear q5
              obtain ⟨s6, g6, h⟩ := Option.bind_eq_some_iff.1 h
              cases s6 with
              | true =>
                simp only [if_true] at h
                have S6 := fun (W : World) (hW : Below w.heap.size w W) => deedboxref01_Same.calls k A0_6 c0_6 l0_6 A1_6 c1_6 l1_6 true W (Kd.C_below hr0_6 hW) hc0_6 (Kd.C_below hr1_6 hW) hc1_6 g6
                have S6 := Lib.hid S6
                clear g6
                obtain ⟨s7, g7, h⟩ := Option.bind_eq_some_iff.1 h
                cases s7 with
                | true =>
                  simp only [if_true] at h
                  have S7 := fun (W : World) (hW : Below w.heap.size w W) => deedboxref01_Same.calls k A0_7 c0_7 l0_7 A1_7 c1_7 l1_7 true W (Kd.C_below hr0_7 hW) hc0_7 (Kd.C_below hr1_7 hW) hc1_7 g7
                  have S7 := Lib.hid S7
                  clear g7
                  obtain ⟨s8, g8, h⟩ := Option.bind_eq_some_iff.1 h
                  have S8 := fun (W : World) (hW : Below w.heap.size w W) => deedboxref24_SameLock.calls k a0_8 A0_9 c0_9 l0_9 A0_10 c0_10 l0_10 a1_8 A1_9 c1_9 l1_9 A1_10 c1_10 l1_10 s8 W (Kd.C_below hr0_9 hW) hc0_9 (Kd.C_below hr0_10 hW) hc0_10 (Kd.C_below hr1_9 hW) hc1_9 (Kd.C_below hr1_10 hW) hc1_10 g8
                  have S8 := Lib.hid S8
                  obtain rfl := Option.some.inj h
                  clear hr0_6 hr0_7 hr0_9 hr0_10 hr1_6 hr1_7 hr1_9 hr1_10
                  go_enter Tryd.func14, Tryd.ntmps14
                  go_wp2_with fail
                  refine (S6.out _ B0.out).mono ?_
                  rintro e w' ⟨rfl, ⟨nd, rfl⟩⟩
                  go_wp2_with fail
                  refine (S7.out _ (pw_below_drewN B0.out _)).mono ?_
                  rintro e w' ⟨rfl, ⟨nd, rfl⟩⟩
                  go_wp2_with fail
                  refine (S8.out _ (pw_below_drewN B0.out _)).mono ?_
                  rintro e w' ⟨rfl, hb'⟩
                  go_wp2_with fail
                  go_ret
                  exact ⟨rfl, (below_step (pw_below_drewN B0.out _) hb')⟩
                | false =>
                  simp only [Bool.false_eq_true, if_false] at h
                  have S7 := fun (W : World) (hW : Below w.heap.size w W) => deedboxref01_Same.calls k A0_7 c0_7 l0_7 A1_7 c1_7 l1_7 false W (Kd.C_below hr0_7 hW) hc0_7 (Kd.C_below hr1_7 hW) hc1_7 g7
                  have S7 := Lib.hid S7
                  clear g7
                  obtain rfl := Option.some.inj h
                  clear hr0_6 hr0_7 hr0_9 hr0_10 hr1_6 hr1_7 hr1_9 hr1_10
                  go_enter Tryd.func14, Tryd.ntmps14
                  go_wp2_with fail
                  refine (S6.out _ B0.out).mono ?_
                  rintro e w' ⟨rfl, ⟨nd, rfl⟩⟩
                  go_wp2_with fail
                  refine (S7.out _ (pw_below_drewN B0.out _)).mono ?_
                  rintro e w' ⟨rfl, ⟨nd, rfl⟩⟩
                  go_wp2_with fail
                  go_ret
                  exact ⟨rfl, (pw_below_drewN B0.out _)⟩
              | false =>
                simp only [Bool.false_eq_true, if_false] at h
                have S6 := fun (W : World) (hW : Below w.heap.size w W) => deedboxref01_Same.calls k A0_6 c0_6 l0_6 A1_6 c1_6 l1_6 false W (Kd.C_below hr0_6 hW) hc0_6 (Kd.C_below hr1_6 hW) hc1_6 g6
                have S6 := Lib.hid S6
                clear g6
                obtain rfl := Option.some.inj h
                clear hr0_6 hr0_7 hr0_9 hr0_10 hr1_6 hr1_7 hr1_9 hr1_10
                go_enter Tryd.func14, Tryd.ntmps14
                go_wp2_with fail
                refine (S6.out _ B0.out).mono ?_
                rintro e w' ⟨rfl, ⟨nd, rfl⟩⟩
                go_wp2_with fail
                go_ret
                exact ⟨rfl, (pw_below_drewN B0.out _)⟩
            · rw [if_neg q5] at h
              have t5 : (a0_5 == a1_5) = false := by simpa using q5
              clear q5
              obtain rfl := Option.some.inj h
              clear hr0_6 hr0_7 hr0_9 hr0_10 hr1_6 hr1_7 hr1_9 hr1_10
              go_enter Tryd.func14, Tryd.ntmps14
              go_wp2_with fail
              go_ret
              exact ⟨rfl, B0.out⟩
          · rw [if_neg q4] at h
            have t4 : (a0_4 == a1_4) = false := by simpa using q4
            clear q4
            obtain rfl := Option.some.inj h
            clear hr0_6 hr0_7 hr0_9 hr0_10 hr1_6 hr1_7 hr1_9 hr1_10
            go_enter Tryd.func14, Tryd.ntmps14
            go_wp2_with fail
            go_ret
            exact ⟨rfl, B0.out⟩
        · rw [if_neg q3] at h
          have t3 : (a0_3 == a1_3) = false := by simpa using q3
          clear q3
          obtain rfl := Option.some.inj h
          clear hr0_6 hr0_7 hr0_9 hr0_10 hr1_6 hr1_7 hr1_9 hr1_10
          go_enter Tryd.func14, Tryd.ntmps14
          go_wp2_with fail
          go_ret
          exact ⟨rfl, B0.out⟩
      · rw [if_neg q2] at h
        have t2 : (a0_2 == a1_2) = false := by simpa using q2
        clear q2
        obtain rfl := Option.some.inj h
        clear hr0_6 hr0_7 hr0_9 hr0_10 hr1_6 hr1_7 hr1_9 hr1_10
        go_enter Tryd.func14, Tryd.ntmps14
        go_wp2_with fail
        go_ret
        exact ⟨rfl, B0.out⟩
    · rw [if_neg q1] at h
      have t1 : (a0_1 == a1_1) = false := by simpa using q1
      clear q1
      obtain rfl := Option.some.inj h
      clear hr0_6 hr0_7 hr0_9 hr0_10 hr1_6 hr1_7 hr1_9 hr1_10
      go_enter Tryd.func14, Tryd.ntmps14
      go_wp2_with fail
      go_ret
      exact ⟨rfl, B0.out⟩
  · rw [if_neg q0] at h
    have t0 : (a0_0 == a1_0) = false := by simpa using q0
    clear q0
    obtain rfl := Option.some.inj h
    clear hr0_6 hr0_7 hr0_9 hr0_10 hr1_6 hr1_7 hr1_9 hr1_10
    go_enter Tryd.func14, Tryd.ntmps14
    go_wp2_with fail
    go_ret
    exact ⟨rfl, B0.out⟩
def deedboxref24_SameUpload.f (k : Nat) (a0_0 : Int) (a0_1 : ByteArray) (l0_2 : List Int) (a0_3 : Int) (l0_4 : List Int) (l0_5 : List Int) (a1_0 : Int) (a1_1 : ByteArray) (l1_2 : List Int) (a1_3 : Int) (l1_4 : List Int) (l1_5 : List Int) : Option Bool := if a0_0 = a1_0 then (if a0_1.toList = a1_1.toList then ((deedboxref01_Same.f k l0_2 l1_2).bind fun t => if t = true then ((deedboxref24_SameLock.f k a0_3 l0_4 l0_5 a1_3 l1_4 l1_5).bind fun t => some t) else some false) else some false) else some false
theorem deedboxref24_SameUpload.mono : ∀ y0 y1 y2 y3 y4 y5 y6 y7 y8 y9 y10 y11 k, LeO (deedboxref24_SameUpload.f k y0 y1 y2 y3 y4 y5 y6 y7 y8 y9 y10 y11) (deedboxref24_SameUpload.f (k + 1) y0 y1 y2 y3 y4 y5 y6 y7 y8 y9 y10 y11) := by
  intro y0 y1 y2 y3 y4 y5 y6 y7 y8 y9 y10 y11 k
  unfold deedboxref24_SameUpload.f
  repeat' first
    | (with_reducible exact deedboxref01_Same.mono _ _ _)
    | (with_reducible exact deedboxref24_SameLock.mono _ _ _ _ _ _ _)
    | (with_reducible exact LeO.refl _)
    | (with_reducible exact LeO.none _)
    | (with_reducible refine LeO.ite ?_ ?_)
    | (with_reducible refine LeO.bind ?_ (fun _ => ?_))
set_option maxRecDepth 100000 in
set_option maxHeartbeats 4000000 in
theorem deedboxref24_SameUpload.calls (k : Nat) (a0_0 : Int) (a0_1 : ByteArray) (A0_2 : Option Addr) (c0_2 : Nat) (l0_2 : List Int) (a0_3 : Int) (A0_4 : Option Addr) (c0_4 : Nat) (l0_4 : List Int) (A0_5 : Option Addr) (c0_5 : Nat) (l0_5 : List Int) (a1_0 : Int) (a1_1 : ByteArray) (A1_2 : Option Addr) (c1_2 : Nat) (l1_2 : List Int) (a1_3 : Int) (A1_4 : Option Addr) (c1_4 : Nat) (l1_4 : List Int) (A1_5 : Option Addr) (c1_5 : Nat) (l1_5 : List Int) (r : Bool) (w : World) (hr0_2 : Kd.C (Kd.int .u8) w A0_2 l0_2.length l0_2) (hc0_2 : l0_2.length ≤ c0_2) (hr0_4 : Kd.C (Kd.int .u8) w A0_4 l0_4.length l0_4) (hc0_4 : l0_4.length ≤ c0_4) (hr0_5 : Kd.C (Kd.int .u8) w A0_5 l0_5.length l0_5) (hc0_5 : l0_5.length ≤ c0_5) (hr1_2 : Kd.C (Kd.int .u8) w A1_2 l1_2.length l1_2) (hc1_2 : l1_2.length ≤ c1_2) (hr1_4 : Kd.C (Kd.int .u8) w A1_4 l1_4.length l1_4) (hc1_4 : l1_4.length ≤ c1_4) (hr1_5 : Kd.C (Kd.int .u8) w A1_5 l1_5.length l1_5) (hc1_5 : l1_5.length ≤ c1_5) (h : deedboxref24_SameUpload.f k a0_0 a0_1 l0_2 a0_3 l0_4 l0_5 a1_0 a1_1 l1_2 a1_3 l1_4 l1_5 = some r) :
    Calls Tryd.prog 23 #[.agg #[.int .i64 a0_0, .string a0_1, .slice A0_2 l0_2.length c0_2, .int .i64 a0_3, .slice A0_4 l0_4.length c0_4, .slice A0_5 l0_5.length c0_5], .agg #[.int .i64 a1_0, .string a1_1, .slice A1_2 l1_2.length c1_2, .int .i64 a1_3, .slice A1_4 l1_4.length c1_4, .slice A1_5 l1_5.length c1_5]] w fun e w' => e = .returned (.bool r) ∧ Below w.heap.size w w' := by
  unfold deedboxref24_SameUpload.f at h
  have hu := Tryd.underlying44
  have hu24 := Tryd.underlying24
  have B0 := Lib.hid (below_alloc (below_alloc (Below.refl w.heap.size w) (.cells #[.int .i64 a0_0, .string a0_1, .slice A0_2 l0_2.length c0_2, .int .i64 a0_3, .slice A0_4 l0_4.length c0_4, .slice A0_5 l0_5.length c0_5] 44)) (.cells #[.int .i64 a1_0, .string a1_1, .slice A1_2 l1_2.length c1_2, .int .i64 a1_3, .slice A1_4 l1_4.length c1_4, .slice A1_5 l1_5.length c1_5] 44))
  by_cases q0 : a0_0 = a1_0
  · rw [if_pos q0] at h
    have t0 : (a0_0 == a1_0) = true := by simpa using q0
    clear q0
    by_cases q1 : a0_1.toList = a1_1.toList
    · rw [if_pos q1] at h
      have t1 : (a0_1.toList == a1_1.toList) = true := by simpa using q1
      clear q1
      obtain ⟨s2, g2, h⟩ := Option.bind_eq_some_iff.1 h
      cases s2 with
      | true =>
        simp only [if_true] at h
        have S2 := fun (W : World) (hW : Below w.heap.size w W) => deedboxref01_Same.calls k A0_2 c0_2 l0_2 A1_2 c1_2 l1_2 true W (Kd.C_below hr0_2 hW) hc0_2 (Kd.C_below hr1_2 hW) hc1_2 g2
        have S2 := Lib.hid S2
        clear g2
        obtain ⟨s3, g3, h⟩ := Option.bind_eq_some_iff.1 h
        have S3 := fun (W : World) (hW : Below w.heap.size w W) => deedboxref24_SameLock.calls k a0_3 A0_4 c0_4 l0_4 A0_5 c0_5 l0_5 a1_3 A1_4 c1_4 l1_4 A1_5 c1_5 l1_5 s3 W (Kd.C_below hr0_4 hW) hc0_4 (Kd.C_below hr0_5 hW) hc0_5 (Kd.C_below hr1_4 hW) hc1_4 (Kd.C_below hr1_5 hW) hc1_5 g3
        have S3 := Lib.hid S3
        obtain rfl := Option.some.inj h
        clear hr0_2 hr0_4 hr0_5 hr1_2 hr1_4 hr1_5
        go_enter Tryd.func23, Tryd.ntmps23
        go_wp2_with fail
        refine (S2.out _ B0.out).mono ?_
        rintro e w' ⟨rfl, ⟨nd, rfl⟩⟩
        go_wp2_with fail
        refine (S3.out _ (pw_below_drewN B0.out _)).mono ?_
        rintro e w' ⟨rfl, hb'⟩
        go_wp2_with fail
        go_ret
        exact ⟨rfl, (below_step (pw_below_drewN B0.out _) hb')⟩
      | false =>
        simp only [Bool.false_eq_true, if_false] at h
        have S2 := fun (W : World) (hW : Below w.heap.size w W) => deedboxref01_Same.calls k A0_2 c0_2 l0_2 A1_2 c1_2 l1_2 false W (Kd.C_below hr0_2 hW) hc0_2 (Kd.C_below hr1_2 hW) hc1_2 g2
        have S2 := Lib.hid S2
        clear g2
        obtain rfl := Option.some.inj h
        clear hr0_2 hr0_4 hr0_5 hr1_2 hr1_4 hr1_5
        go_enter Tryd.func23, Tryd.ntmps23
        go_wp2_with fail
        refine (S2.out _ B0.out).mono ?_
        rintro e w' ⟨rfl, ⟨nd, rfl⟩⟩
        go_wp2_with fail
        go_ret
        exact ⟨rfl, (pw_below_drewN B0.out _)⟩
    · rw [if_neg q1] at h
      have t1 : (a0_1.toList == a1_1.toList) = false := by simpa using q1
      clear q1
      obtain rfl := Option.some.inj h
      clear hr0_2 hr0_4 hr0_5 hr1_2 hr1_4 hr1_5
      go_enter Tryd.func23, Tryd.ntmps23
      go_wp2_with fail
      go_ret
      exact ⟨rfl, B0.out⟩
  · rw [if_neg q0] at h
    have t0 : (a0_0 == a1_0) = false := by simpa using q0
    clear q0
    obtain rfl := Option.some.inj h
    clear hr0_2 hr0_4 hr0_5 hr1_2 hr1_4 hr1_5
    go_enter Tryd.func23, Tryd.ntmps23
    go_wp2_with fail
    go_ret
    exact ⟨rfl, B0.out⟩
end Go.Proofs.YtmciigdfhikdnaaDoor
