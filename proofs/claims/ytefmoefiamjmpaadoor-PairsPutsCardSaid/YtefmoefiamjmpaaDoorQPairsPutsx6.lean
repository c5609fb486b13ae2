/- Walks of the program's functions that a statement of this seat reaches: each comes to what its plain Lean function beside it tells; no condition beside those in each theorem. -/
import Derived.Test.YtefmoefiamjmpaaDoorQPairsPutsx0
import Derived.Test.YtefmoefiamjmpaaDoorQPairsPutsx1
import Derived.Test.YtefmoefiamjmpaaDoorQPairsPutsx2
import Derived.Test.YtefmoefiamjmpaaDoorQPairsPutsx5
namespace Go.Proofs.YtefmoefiamjmpaaDoor.QPairsPuts
open Go.RowKit Go.Proofs.YtefmoefiamjmpaaDoorW.PrintWords Go.Proofs.YtefmoefiamjmpaaDoorW.PrintLast Go.Proofs.YtefmoefiamjmpaaDoorW.PrintMore
open Go.Proofs.YtefmoefiamjmpaaDoor.Pa
attribute [local go_sem] str_leq str_gtr str_geq max2_int min2_int max_two min_two max_three min_three max_four min_four   -- for this text's walks alone
set_option linter.unusedVariables false
set_option linter.unusedSimpArgs false

/-! ### deedboxlaw41_PairsPuts: function 3 -/
mutual
def deedboxlaw41_PairsPuts.j0 : Nat → List (S36) → ByteArray → Bool → Option (Bool)
  | 0, _, _, _ => none
  | k + 1, x0, x1, x19 => if x19 = true then ((deedboxlaw41_works.f k).bind fun t187 => (some t187)) else ((deedboxlaw41_own.f k x0).bind fun t188 => ((pairs_Put.f t188).bind fun bt191 => ((deedboxref41_Put.f k x0).bind fun bt193 => (if bt191.1.toList = bt193.1.toList then (if bt191.2 = bt193.2 then ((deedboxlaw41_own.f k x0).bind fun t195 => ((pairs_Check.f t195).bind fun t198 => ((deedboxref41_Check.f k x0).bind fun t199 => (deedboxlaw41_PairsPuts.j1 k x0 x1 (t198 != t199))))) else (deedboxlaw41_PairsPuts.j1 k x0 x1 true)) else (deedboxlaw41_PairsPuts.j1 k x0 x1 true)))))
def deedboxlaw41_PairsPuts.j1 : Nat → List (S36) → ByteArray → Bool → Option (Bool)
  | 0, _, _, _ => none
  | k + 1, x0, x1, x47 => if x47 = true then (none) else ((deedboxlaw41_own.f k x0).bind fun t200 => ((pairs_Value.f t200 x1).bind fun bt203 => (deedboxlaw41_PairsPuts.l0 k x0 x1 bt203.1 bt203.2 0)))
def deedboxlaw41_PairsPuts.l0 : Nat → List (S36) → ByteArray → ByteArray → Bool → Int → Option (Bool)
  | 0, _, _, _, _, _ => none
  | k + 1, x0, x1, x9, x10, x11 => if x11 < (x0.length : Int) then (if 0 ≤ x11 then (if ((rd_T36 x0 x11).f0).toList = x1.toList then (if x10 = true then (if x9.toList = ((rd_T36 x0 x11).f1).toList then ((deedboxlaw41_works.f k).bind fun t207 => (some t207)) else (none)) else (none)) else (deedboxlaw41_PairsPuts.l0 k x0 x1 x9 x10 (wrap64 (x11 + 1)))) else (none)) else (if x10 = true then (none) else ((deedboxlaw41_works.f k).bind fun t208 => (some t208)))
end
def deedboxlaw41_PairsPuts.f (k : Nat) (l0 : List (S36)) (a1 : ByteArray) : Option (Bool) := (deedboxlaw41_small.f k l0).bind fun t186 => (if t186 = true then (deedboxlaw41_PairsPuts.j0 k l0 a1 (decide ((a1.size : Int) > 100))) else (deedboxlaw41_PairsPuts.j0 k l0 a1 true))
theorem deedboxlaw41_PairsPuts.mono_l : ∀ k, (∀ y0 y1 y2, LeO (deedboxlaw41_PairsPuts.j0 k y0 y1 y2) (deedboxlaw41_PairsPuts.j0 (k + 1) y0 y1 y2)) ∧ (∀ y0 y1 y2, LeO (deedboxlaw41_PairsPuts.j1 k y0 y1 y2) (deedboxlaw41_PairsPuts.j1 (k + 1) y0 y1 y2)) ∧ (∀ y0 y1 y2 y3 y4, LeO (deedboxlaw41_PairsPuts.l0 k y0 y1 y2 y3 y4) (deedboxlaw41_PairsPuts.l0 (k + 1) y0 y1 y2 y3 y4))
  | 0 => ⟨fun _ _ _ r h => by simp [deedboxlaw41_PairsPuts.j0] at h, fun _ _ _ r h => by simp [deedboxlaw41_PairsPuts.j1] at h, fun _ _ _ _ _ r h => by simp [deedboxlaw41_PairsPuts.l0] at h⟩
  | k + 1 => by
    obtain ⟨ih0, ih1, ih2⟩ := deedboxlaw41_PairsPuts.mono_l k
    refine ⟨?_, ?_, ?_⟩
    · intro y0 y1 y2
      unfold deedboxlaw41_PairsPuts.j0
      repeat' first
      | (with_reducible exact ih0 _ _ _)
      | (with_reducible exact ih1 _ _ _)
      | (with_reducible exact ih2 _ _ _ _ _)
      | (with_reducible exact deedboxlaw41_own.mono _ _)
      | (with_reducible exact deedboxlaw41_small.mono _ _)
      | (with_reducible exact deedboxlaw41_works.mono _)
      | (with_reducible exact deedboxref41_Check.mono _ _)
      | (with_reducible exact deedboxref41_Put.mono _ _)
      | (with_reducible exact LeO.refl _)
      | (with_reducible exact LeO.none _)
      | (with_reducible refine LeO.ite ?_ ?_)
      | (with_reducible refine LeO.bind ?_ (fun _ => ?_))
      | exact ih0 _ _ _
      | exact ih1 _ _ _
      | exact ih2 _ _ _ _ _
      | exact deedboxlaw41_own.mono _ _
      | exact deedboxlaw41_small.mono _ _
      | exact deedboxlaw41_works.mono _
      | exact deedboxref41_Check.mono _ _
      | exact deedboxref41_Put.mono _ _
      | exact LeO.none _
      | refine LeO.ite ?_ ?_
      | refine LeO.bind ?_ (fun _ => ?_)
    · intro y0 y1 y2
      unfold deedboxlaw41_PairsPuts.j1
      repeat' first
      | (with_reducible exact ih0 _ _ _)
      | (with_reducible exact ih1 _ _ _)
      | (with_reducible exact ih2 _ _ _ _ _)
      | (with_reducible exact deedboxlaw41_own.mono _ _)
      | (with_reducible exact deedboxlaw41_small.mono _ _)
      | (with_reducible exact deedboxlaw41_works.mono _)
      | (with_reducible exact deedboxref41_Check.mono _ _)
      | (with_reducible exact deedboxref41_Put.mono _ _)
      | (with_reducible exact LeO.refl _)
      | (with_reducible exact LeO.none _)
      | (with_reducible refine LeO.ite ?_ ?_)
      | (with_reducible refine LeO.bind ?_ (fun _ => ?_))
      | exact ih0 _ _ _
      | exact ih1 _ _ _
      | exact ih2 _ _ _ _ _
      | exact deedboxlaw41_own.mono _ _
      | exact deedboxlaw41_small.mono _ _
      | exact deedboxlaw41_works.mono _
      | exact deedboxref41_Check.mono _ _
      | exact deedboxref41_Put.mono _ _
      | exact LeO.none _
      | refine LeO.ite ?_ ?_
      | refine LeO.bind ?_ (fun _ => ?_)
    · intro y0 y1 y2 y3 y4
      unfold deedboxlaw41_PairsPuts.l0
      repeat' first
      | (with_reducible exact ih0 _ _ _)
      | (with_reducible exact ih1 _ _ _)
      | (with_reducible exact ih2 _ _ _ _ _)
      | (with_reducible exact deedboxlaw41_own.mono _ _)
      | (with_reducible exact deedboxlaw41_small.mono _ _)
      | (with_reducible exact deedboxlaw41_works.mono _)
      | (with_reducible exact deedboxref41_Check.mono _ _)
      | (with_reducible exact deedboxref41_Put.mono _ _)
      | (with_reducible exact LeO.refl _)
      | (with_reducible exact LeO.none _)
      | (with_reducible refine LeO.ite ?_ ?_)
      | (with_reducible refine LeO.bind ?_ (fun _ => ?_))
      | exact ih0 _ _ _
      | exact ih1 _ _ _
      | exact ih2 _ _ _ _ _
      | exact deedboxlaw41_own.mono _ _
      | exact deedboxlaw41_small.mono _ _
      | exact deedboxlaw41_works.mono _
      | exact deedboxref41_Check.mono _ _
      | exact deedboxref41_Put.mono _ _
      | exact LeO.none _
      | refine LeO.ite ?_ ?_
      | refine LeO.bind ?_ (fun _ => ?_)
theorem deedboxlaw41_PairsPuts.mono : ∀ a0 a1 k, LeO (deedboxlaw41_PairsPuts.f k a0 a1) (deedboxlaw41_PairsPuts.f (k + 1) a0 a1) := by
  intro a0 a1 k
  obtain ⟨ih0, ih1, ih2⟩ := deedboxlaw41_PairsPuts.mono_l k
  unfold deedboxlaw41_PairsPuts.f
  repeat' first
      | (with_reducible exact ih0 _ _ _)
      | (with_reducible exact ih1 _ _ _)
      | (with_reducible exact ih2 _ _ _ _ _)
      | (with_reducible exact deedboxlaw41_own.mono _ _)
      | (with_reducible exact deedboxlaw41_small.mono _ _)
      | (with_reducible exact deedboxlaw41_works.mono _)
      | (with_reducible exact deedboxref41_Check.mono _ _)
      | (with_reducible exact deedboxref41_Put.mono _ _)
      | (with_reducible exact LeO.refl _)
      | (with_reducible exact LeO.none _)
      | (with_reducible refine LeO.ite ?_ ?_)
      | (with_reducible refine LeO.bind ?_ (fun _ => ?_))
      | exact ih0 _ _ _
      | exact ih1 _ _ _
      | exact ih2 _ _ _ _ _
      | exact deedboxlaw41_own.mono _ _
      | exact deedboxlaw41_small.mono _ _
      | exact deedboxlaw41_works.mono _
      | exact deedboxref41_Check.mono _ _
      | exact deedboxref41_Put.mono _ _
      | exact LeO.none _
      | refine LeO.ite ?_ ?_
      | refine LeO.bind ?_ (fun _ => ?_)
set_option maxHeartbeats 8000000 in
set_option maxRecDepth 100000 in
theorem deedboxlaw41_PairsPuts.calls (k : Nat) (A0 : Option Addr) (c0 : Nat) (l0 : List (S36)) (a1 : ByteArray) (r : Bool) (w : World) (hr0 : Kd.C k36 w A0 l0.length l0) (hc0 : l0.length ≤ c0) (h : deedboxlaw41_PairsPuts.f k l0 a1 = some r) :
    Calls Tryd.prog 3 #[.slice A0 l0.length c0, .string a1] w fun e w' => e = .returned (.bool r) ∧ Below w.heap.size w w' := by
  have HR0 := Aside0.mk hr0
  have HC0 := Aside0.mk hc0
  clear hr0 hc0
  have HB := Aside0.mk (Below.refl w.heap.size w)
  have H : ((deedboxlaw41_small.f k l0).bind fun t186 => (if t186 = true then (deedboxlaw41_PairsPuts.j0 k l0 a1 (decide ((a1.size : Int) > 100))) else (deedboxlaw41_PairsPuts.j0 k l0 a1 true))) = some r := h
  clear h
  have HC3 := Aside0.mk H
  clear H
  go_enter Tryd.func3, Tryd.ntmps3
  go_upto_region 1 with (fail)
  go_cut [19] (fun v19 wc => ∃ (kq : Nat) (x19_2 : Bool), v19 = .bool x19_2 ∧ Aside0 (deedboxlaw41_PairsPuts.j0 kq l0 a1 x19_2 = some r) ∧ Aside0 (kq ≤ k) ∧ Aside0 (Below w.heap.size w wc))
  case first =>
    have H := HC3.out
    clear HC3
    replace H := Option.bind_eq_some_iff.mp H
    obtain ⟨t186, A40, H⟩ := H
    replace H : (if t186 = true then (deedboxlaw41_PairsPuts.j0 k l0 a1 (decide ((a1.size : Int) > 100))) else (deedboxlaw41_PairsPuts.j0 k l0 a1 true)) = some r := H
    have A4 := Aside0.mk A40
    clear A40
    by_cases c5 : t186 = true
    · subst c5
      have H1 : (deedboxlaw41_PairsPuts.j0 k l0 a1 (decide ((a1.size : Int) > 100))) = some r := by rw [if_pos rfl] at H; exact H
      clear H
      have H := H1
      clear H1
      have H' := Aside0.mk H
      clear H
      go_wp2_with (first | ((with_reducible refine gate_callee (f := 6) rfl ?_); refine goesL_ (some 13) rfl rfl Tryd.func6 (by kernel_rfl) rfl #[.slice A0 l0.length c0] rfl (by (try simp only [List.map_toArray, List.map_cons, List.map_nil]); first | done | rfl | (simp only [List.length_drop, List.length_take]; rfl)) ?_; (with_reducible refine (deedboxlaw41_small.calls k _ _ l0 true _ ?side1 ?side2 A4.out).mono ?_); (case side1 => repeat (first | exact (Kd.C_below HR0.out HB.out) | (with_reducible refine Kd.C_alloc ?_ _) | (with_reducible refine Kd.C_drewN ?_ _) | (with_reducible refine Kd.C_drew ?_))); (case side2 => exact HC0.out); rintro e w' ⟨rfl, ⟨nd, rfl⟩⟩; refine ⟨_, rfl, ?_⟩))
      go_meet
      case rel => exact ⟨_, (decide ((a1.size : Int) > 100)), (by first | rfl | (simp; done) | (simp [*]; done) | (simp [less_total]; done)), H', ⟨by first | omega | exact Nat.le_refl _⟩, ⟨by repeat (first | (with_reducible first | exact HB.out | apply below_alloc | apply pw_below_drewN | apply below_drew1) | exact HB.out)⟩⟩
    · replace c5 := Bool.eq_false_iff.mpr c5
      subst c5
      have H1 : (deedboxlaw41_PairsPuts.j0 k l0 a1 true) = some r := by rw [if_neg (show ¬ (false = true) by decide)] at H; exact H
      clear H
      have H := H1
      clear H1
      have H' := Aside0.mk H
      clear H
      go_wp2_with (first | ((with_reducible refine gate_callee (f := 6) rfl ?_); refine goesL_ (some 13) rfl rfl Tryd.func6 (by kernel_rfl) rfl #[.slice A0 l0.length c0] rfl (by (try simp only [List.map_toArray, List.map_cons, List.map_nil]); first | done | rfl | (simp only [List.length_drop, List.length_take]; rfl)) ?_; (with_reducible refine (deedboxlaw41_small.calls k _ _ l0 false _ ?side1 ?side2 A4.out).mono ?_); (case side1 => repeat (first | exact (Kd.C_below HR0.out HB.out) | (with_reducible refine Kd.C_alloc ?_ _) | (with_reducible refine Kd.C_drewN ?_ _) | (with_reducible refine Kd.C_drew ?_))); (case side2 => exact HC0.out); rintro e w' ⟨rfl, ⟨nd, rfl⟩⟩; refine ⟨_, rfl, ?_⟩))
      go_meet
      case rel => exact ⟨_, (true), (by first | rfl | (simp; done) | (simp [*]; done) | (simp [less_total]; done)), H', ⟨by first | omega | exact Nat.le_refl _⟩, ⟨by repeat (first | (with_reducible first | exact HB.out | apply below_alloc | apply pw_below_drewN | apply below_drew1) | exact HB.out)⟩⟩
  case rest =>
    clear HC3
    try clear p2
    try clear c3
    try clear c5
    obtain ⟨kq, x19_2, rfl, HA, HJ2, HB⟩ := hcut
    cases kq with
    | zero => exact absurd HA.out (by simp [deedboxlaw41_PairsPuts.j0])
    | succ kj2 =>
      have H := HA.out
      clear HA
      simp only [deedboxlaw41_PairsPuts.j0] at H
      by_cases c6 : x19_2 = true
      · subst c6
        have H1 : ((deedboxlaw41_works.f kj2).bind fun t187 => (some t187)) = some r := by rw [if_pos rfl] at H; exact H
        clear H
        have H := H1
        clear H1
        replace H := Option.bind_eq_some_iff.mp H
        obtain ⟨t187, A70, H⟩ := H
        replace H : (some t187) = some r := H
        have A7 := Aside0.mk A70
        clear A70
        obtain rfl := Option.some.inj H
        go_wp2_with (first | ((with_reducible refine gate_callee (f := 7) rfl ?_); refine goesL_ (some 20) rfl rfl Tryd.func7 (by kernel_rfl) rfl #[] rfl (by (try simp only [List.map_toArray, List.map_cons, List.map_nil]); first | done | rfl | (simp only [List.length_drop, List.length_take]; rfl)) ?_; (with_reducible refine (deedboxlaw41_works.calls kj2  t187 _ A7.out).mono ?_); rintro e w8 ⟨rfl, hb⟩; refine ⟨_, rfl, ?_⟩; have n0_ := Aside0.mk (below_step (by repeat (first | (with_reducible first | exact HB.out | apply below_alloc | apply pw_below_drewN | apply below_drew1) | exact HB.out)) hb); clear HB; have HB := n0_; clear n0_; (try clear hb); (try clear hb2); (try clear hk); (try clear hi)))
        go_ret
        exact ⟨by first | rfl | (simp [errW_none, errW_some] <;> rfl) | (simp [*, errW_none, errW_some] <;> rfl), by repeat (first | (with_reducible first | exact HB.out | apply below_alloc | apply pw_below_drewN | apply below_drew1) | exact HB.out)⟩
      · replace c6 := Bool.eq_false_iff.mpr c6
        subst c6
        have H1 : ((deedboxlaw41_own.f kj2 l0).bind fun t188 => ((pairs_Put.f t188).bind fun bt191 => ((deedboxref41_Put.f kj2 l0).bind fun bt193 => (if bt191.1.toList = bt193.1.toList then (if bt191.2 = bt193.2 then ((deedboxlaw41_own.f kj2 l0).bind fun t195 => ((pairs_Check.f t195).bind fun t198 => ((deedboxref41_Check.f kj2 l0).bind fun t199 => (deedboxlaw41_PairsPuts.j1 kj2 l0 a1 (t198 != t199))))) else (deedboxlaw41_PairsPuts.j1 kj2 l0 a1 true)) else (deedboxlaw41_PairsPuts.j1 kj2 l0 a1 true))))) = some r := by rw [if_neg (show ¬ (false = true) by decide)] at H; exact H
        clear H
        have H := H1
        clear H1
        replace H := Option.bind_eq_some_iff.mp H
        obtain ⟨t188, A90, H⟩ := H
        replace H : ((pairs_Put.f t188).bind fun bt191 => ((deedboxref41_Put.f kj2 l0).bind fun bt193 => (if bt191.1.toList = bt193.1.toList then (if bt191.2 = bt193.2 then ((deedboxlaw41_own.f kj2 l0).bind fun t195 => ((pairs_Check.f t195).bind fun t198 => ((deedboxref41_Check.f kj2 l0).bind fun t199 => (deedboxlaw41_PairsPuts.j1 kj2 l0 a1 (t198 != t199))))) else (deedboxlaw41_PairsPuts.j1 kj2 l0 a1 true)) else (deedboxlaw41_PairsPuts.j1 kj2 l0 a1 true)))) = some r := H
        have A9 := Aside0.mk A90
        clear A90
        replace H := Option.bind_eq_some_iff.mp H
        obtain ⟨⟨t191, t192⟩, A100, H⟩ := H
        replace H : ((deedboxref41_Put.f kj2 l0).bind fun bt193 => (if t191.toList = bt193.1.toList then (if t192 = bt193.2 then ((deedboxlaw41_own.f kj2 l0).bind fun t195 => ((pairs_Check.f t195).bind fun t198 => ((deedboxref41_Check.f kj2 l0).bind fun t199 => (deedboxlaw41_PairsPuts.j1 kj2 l0 a1 (t198 != t199))))) else (deedboxlaw41_PairsPuts.j1 kj2 l0 a1 true)) else (deedboxlaw41_PairsPuts.j1 kj2 l0 a1 true))) = some r := H
        have A10 := Aside0.mk A100
        clear A100
        replace H := Option.bind_eq_some_iff.mp H
        obtain ⟨⟨t193, t194⟩, A110, H⟩ := H
        replace H : (if t191.toList = t193.toList then (if t192 = t194 then ((deedboxlaw41_own.f kj2 l0).bind fun t195 => ((pairs_Check.f t195).bind fun t198 => ((deedboxref41_Check.f kj2 l0).bind fun t199 => (deedboxlaw41_PairsPuts.j1 kj2 l0 a1 (t198 != t199))))) else (deedboxlaw41_PairsPuts.j1 kj2 l0 a1 true)) else (deedboxlaw41_PairsPuts.j1 kj2 l0 a1 true)) = some r := H
        have A11 := Aside0.mk A110
        clear A110
        have HC12 := Aside0.mk H
        clear H
        go_upto_region 5 with (first | ((with_reducible refine gate_callee (f := 9) rfl ?_); refine goesL_ (some 23) rfl rfl Tryd.func9 (by kernel_rfl) rfl #[.slice A0 l0.length c0] rfl (by (try simp only [List.map_toArray, List.map_cons, List.map_nil]); first | done | rfl | (simp only [List.length_drop, List.length_take]; rfl)) ?_; (with_reducible refine (deedboxlaw41_own.calls kj2 _ _ l0 t188 _ ?side1 ?side2 A9.out).mono ?_); (case side1 => repeat (first | exact (Kd.C_below HR0.out HB.out) | (with_reducible refine Kd.C_alloc ?_ _) | (with_reducible refine Kd.C_drewN ?_ _) | (with_reducible refine Kd.C_drew ?_))); (case side2 => exact HC0.out); rintro e w13 ⟨v189, rfl, ho0, hb⟩; refine ⟨_, rfl, ?_⟩; have n0_ := Aside0.mk (Kd.R_lower ho0 (below_size (by repeat (first | (with_reducible first | exact HB.out | apply below_alloc | apply pw_below_drewN | apply below_drew1) | exact HB.out)))); have n1_ := Aside0.mk (below_step (by repeat (first | (with_reducible first | exact HB.out | apply below_alloc | apply pw_below_drewN | apply below_drew1) | exact HB.out)) hb); clear HB; have HO190 := n0_; have HB := n1_; clear n0_ n1_; (try clear hb); (try clear hb2); (try clear hk); (try clear hi); (try clear ho0); obtain ⟨Ao14, co14, eo14⟩ := Kd.R_slice HO190.out; subst eo14) | ((with_reducible refine gate_callee (f := 8) rfl ?_); refine goesL_ (some 24) rfl rfl Tryd.func8 (by kernel_rfl) rfl #[.slice Ao14 t188.length co14] rfl (by (try simp only [List.map_toArray, List.map_cons, List.map_nil]); first | done | rfl | (simp only [List.length_drop, List.length_take]; rfl)) ?_; (with_reducible refine (pairs_Put.calls _ _ t188 t191 t192 _ ?side1 ?side2 A10.out).mono ?_); (case side1 => repeat (first | exact (Kd.R_reads' HO190.out).2.2 | (with_reducible refine Kd.C_alloc ?_ _) | (with_reducible refine Kd.C_drewN ?_ _) | (with_reducible refine Kd.C_drew ?_))); (case side2 => exact (Kd.R_reads' HO190.out).2.1); rintro e w15 ⟨rfl, hb⟩; refine ⟨_, rfl, ?_⟩; have n0_ := Aside0.mk (Kd.R_below (by (with_reducible repeat (first | apply Kd.R_alloc | apply Kd.R_drewN | apply Kd.R_drew)); exact HO190.out) hb); have n1_ := Aside0.mk (below_step (by repeat (first | (with_reducible first | exact HB.out | apply below_alloc | apply pw_below_drewN | apply below_drew1) | exact HB.out)) hb); clear HO190; clear HB; have HO190 := n0_; have HB := n1_; clear n0_ n1_; (try clear hb); (try clear hb2); (try clear hk); (try clear hi)) | ((with_reducible refine gate_callee (f := 10) rfl ?_); refine goesL_ (some 29) rfl rfl Tryd.func10 (by kernel_rfl) rfl #[.slice A0 l0.length c0] rfl (by (try simp only [List.map_toArray, List.map_cons, List.map_nil]); first | done | rfl | (simp only [List.length_drop, List.length_take]; rfl)) ?_; (with_reducible refine (deedboxref41_Put.calls kj2 _ _ l0 t193 t194 _ ?side1 ?side2 A11.out).mono ?_); (case side1 => repeat (first | exact (Kd.C_below HR0.out HB.out) | (with_reducible refine Kd.C_alloc ?_ _) | (with_reducible refine Kd.C_drewN ?_ _) | (with_reducible refine Kd.C_drew ?_))); (case side2 => exact HC0.out); rintro e w' ⟨rfl, ⟨nd, rfl⟩⟩; refine ⟨_, rfl, ?_⟩))
        (try simp only [Act.put, List.setIfInBounds_toArray, List.set_cons_zero, List.set_cons_succ])
        go_cut [47] (fun v47 wc => ∃ (kq : Nat) (x47_11 : Bool), v47 = .bool x47_11 ∧ Aside0 (deedboxlaw41_PairsPuts.j1 kq l0 a1 x47_11 = some r) ∧ Aside0 (kq ≤ kj2) ∧ Aside0 (Below w.heap.size w wc))
        case first =>
          have H := HC12.out
          clear HC12
          by_cases c16 : t191.toList = t193.toList
          · rw [if_pos c16] at H
            have c16b0 : (t191.toList == t193.toList) = true := beq_iff_eq.mpr c16
            have c16b1 : (t191.toList != t193.toList) = false := bne_eq_false_iff_eq.mpr c16
            clear c16
            (first | rw [c16b0] | (simp only [i64_w, i32_w]; rw [c16b0]) | skip)
            by_cases c17 : t192 = t194
            · rw [if_pos c17] at H
              have c17b0 : (t192 == t194) = true := beq_iff_eq.mpr c17
              have c17b1 : (t192 != t194) = false := bne_eq_false_iff_eq.mpr c17
              clear c17
              replace H := Option.bind_eq_some_iff.mp H
              obtain ⟨t195, A180, H⟩ := H
              replace H : ((pairs_Check.f t195).bind fun t198 => ((deedboxref41_Check.f kj2 l0).bind fun t199 => (deedboxlaw41_PairsPuts.j1 kj2 l0 a1 (t198 != t199)))) = some r := H
              have A18 := Aside0.mk A180
              clear A180
              replace H := Option.bind_eq_some_iff.mp H
              obtain ⟨t198, A190, H⟩ := H
              replace H : ((deedboxref41_Check.f kj2 l0).bind fun t199 => (deedboxlaw41_PairsPuts.j1 kj2 l0 a1 (t198 != t199))) = some r := H
              have A19 := Aside0.mk A190
              clear A190
              replace H := Option.bind_eq_some_iff.mp H
              obtain ⟨t199, A200, H⟩ := H
              replace H : (deedboxlaw41_PairsPuts.j1 kj2 l0 a1 (t198 != t199)) = some r := H
              have A20 := Aside0.mk A200
              clear A200
              have H' := Aside0.mk H
              clear H
              go_wp2_with (first | (go_at_call 9; (with_reducible refine (deedboxlaw41_own.calls kj2 _ _ l0 t195 _ ?side1 ?side2 A18.out).mono ?_); (case side1 => repeat (first | exact (Kd.C_below HR0.out HB.out) | (with_reducible refine Kd.C_alloc ?_ _) | (with_reducible refine Kd.C_drewN ?_ _) | (with_reducible refine Kd.C_drew ?_))); (case side2 => exact HC0.out); rintro e w21 ⟨v196, rfl, ho0, hb⟩; have n0_ := Aside0.mk (Kd.R_elder' (by (with_reducible repeat (first | apply Kd.R_alloc | apply Kd.R_drewN | apply Kd.R_drew)); exact HO190.out) (Kd.R_base ho0) hb); have n1_ := Aside0.mk (Kd.R_lower (Kd.R_new' ho0 (Kd.R_lt (by (with_reducible repeat (first | apply Kd.R_alloc | apply Kd.R_drewN | apply Kd.R_drew)); exact HO190.out))) (below_size (by repeat (first | (with_reducible first | exact HB.out | apply below_alloc | apply pw_below_drewN | apply below_drew1) | exact HB.out)))); have n2_ := Aside0.mk (below_step (by repeat (first | (with_reducible first | exact HB.out | apply below_alloc | apply pw_below_drewN | apply below_drew1) | exact HB.out)) hb); clear HO190; clear HB; have HO190 := n0_; have HO197 := n1_; have HB := n2_; clear n0_ n1_ n2_; (try clear hb); (try clear hb2); (try clear hk); (try clear hi); (try clear ho0); obtain ⟨Ao22, co22, eo22⟩ := Kd.R_slice HO197.out; subst eo22) | (go_at_call 11; (with_reducible refine (pairs_Check.calls _ _ t195 t198 _ ?side1 ?side2 A19.out).mono ?_); (case side1 => repeat (first | exact (Kd.R_reads' HO197.out).2.2 | (with_reducible refine Kd.C_alloc ?_ _) | (with_reducible refine Kd.C_drewN ?_ _) | (with_reducible refine Kd.C_drew ?_))); (case side2 => exact (Kd.R_reads' HO197.out).2.1); rintro e w23 ⟨rfl, hb⟩; have n0_ := Aside0.mk (Kd.R_below (by (with_reducible repeat (first | apply Kd.R_alloc | apply Kd.R_drewN | apply Kd.R_drew)); exact HO190.out) hb); have n1_ := Aside0.mk (Kd.R_below (by (with_reducible repeat (first | apply Kd.R_alloc | apply Kd.R_drewN | apply Kd.R_drew)); exact HO197.out) hb); have n2_ := Aside0.mk (below_step (by repeat (first | (with_reducible first | exact HB.out | apply below_alloc | apply pw_below_drewN | apply below_drew1) | exact HB.out)) hb); clear HO190; clear HO197; clear HB; have HO190 := n0_; have HO197 := n1_; have HB := n2_; clear n0_ n1_ n2_; (try clear hb); (try clear hb2); (try clear hk); (try clear hi)) | (go_at_call 12; (with_reducible refine (deedboxref41_Check.calls kj2 _ _ l0 t199 _ ?side1 ?side2 A20.out).mono ?_); (case side1 => repeat (first | exact (Kd.C_below HR0.out HB.out) | (with_reducible refine Kd.C_alloc ?_ _) | (with_reducible refine Kd.C_drewN ?_ _) | (with_reducible refine Kd.C_drew ?_))); (case side2 => exact HC0.out); rintro e w' ⟨rfl, ⟨nd, rfl⟩⟩))
              go_meet
              case rel => exact ⟨_, ((t198 != t199)), (by first | rfl | (simp; done) | (simp [*]; done) | (simp [less_total]; done)), H', ⟨by have := HJ2.out; first | omega | exact Nat.le_refl _⟩, ⟨by repeat (first | (with_reducible first | exact HB.out | apply below_alloc | apply pw_below_drewN | apply below_drew1) | exact HB.out)⟩⟩
            · rw [if_neg c17] at H
              have c17b0 : (t192 == t194) = false := beq_eq_false_iff_ne.mpr c17
              have c17b1 : (t192 != t194) = true := bne_iff_ne.mpr c17
              have H' := Aside0.mk H
              clear H
              go_wp2
              go_meet
              case rel => exact ⟨_, (true), (by first | rfl | (simp; done) | (simp [*]; done) | (simp [less_total]; done)), H', ⟨by have := HJ2.out; first | omega | exact Nat.le_refl _⟩, ⟨by repeat (first | (with_reducible first | exact HB.out | apply below_alloc | apply pw_below_drewN | apply below_drew1) | exact HB.out)⟩⟩
          · rw [if_neg c16] at H
            have c16b0 : (t191.toList == t193.toList) = false := beq_eq_false_iff_ne.mpr c16
            have c16b1 : (t191.toList != t193.toList) = true := bne_iff_ne.mpr c16
            (first | rw [c16b0] | (simp only [i64_w, i32_w]; rw [c16b0]) | skip)
            have H' := Aside0.mk H
            clear H
            go_wp2
            go_meet
            case rel => exact ⟨_, (true), (by first | rfl | (simp; done) | (simp [*]; done) | (simp [less_total]; done)), H', ⟨by have := HJ2.out; first | omega | exact Nat.le_refl _⟩, ⟨by repeat (first | (with_reducible first | exact HB.out | apply below_alloc | apply pw_below_drewN | apply below_drew1) | exact HB.out)⟩⟩
        case rest =>
          clear HC12
          try clear c1
          try clear p2
          try clear c3
          try clear c5
          try clear c6
          try clear c7
          try clear c8
          try clear c9
          try clear c10
          try clear c16
          try clear c16b0
          try clear c16b1
          try clear c17
          try clear c17b0
          try clear c17b1
          try clear p2
          obtain ⟨kq, x47_11, rfl, HA, HJ11, HB⟩ := hcut
          cases kq with
          | zero => exact absurd HA.out (by simp [deedboxlaw41_PairsPuts.j1])
          | succ kj11 =>
            have H := HA.out
            clear HA
            simp only [deedboxlaw41_PairsPuts.j1] at H
            by_cases c24 : x47_11 = true
            · subst c24
              have H1 : (none) = some r := by rw [if_pos rfl] at H; exact H
              clear H
              have H := H1
              clear H1
              exact absurd H (by simp)
            · replace c24 := Bool.eq_false_iff.mpr c24
              subst c24
              have H1 : ((deedboxlaw41_own.f kj11 l0).bind fun t200 => ((pairs_Value.f t200 a1).bind fun bt203 => (deedboxlaw41_PairsPuts.l0 kj11 l0 a1 bt203.1 bt203.2 0))) = some r := by rw [if_neg (show ¬ (false = true) by decide)] at H; exact H
              clear H
              have H := H1
              clear H1
              replace H := Option.bind_eq_some_iff.mp H
              obtain ⟨t200, A250, H⟩ := H
              replace H : ((pairs_Value.f t200 a1).bind fun bt203 => (deedboxlaw41_PairsPuts.l0 kj11 l0 a1 bt203.1 bt203.2 0)) = some r := H
              have A25 := Aside0.mk A250
              clear A250
              replace H := Option.bind_eq_some_iff.mp H
              obtain ⟨⟨t203, t204⟩, A260, H⟩ := H
              replace H : (deedboxlaw41_PairsPuts.l0 kj11 l0 a1 t203 t204 0) = some r := H
              have A26 := Aside0.mk A260
              clear A260
              have H' := Aside0.mk H
              clear H
              go_wp2_with (first | ((with_reducible refine gate_callee (f := 9) rfl ?_); refine goesL_ (some 50) rfl rfl Tryd.func9 (by kernel_rfl) rfl #[.slice A0 l0.length c0] rfl (by (try simp only [List.map_toArray, List.map_cons, List.map_nil]); first | done | rfl | (simp only [List.length_drop, List.length_take]; rfl)) ?_; (with_reducible refine (deedboxlaw41_own.calls kj11 _ _ l0 t200 _ ?side1 ?side2 A25.out).mono ?_); (case side1 => repeat (first | exact (Kd.C_below HR0.out HB.out) | (with_reducible refine Kd.C_alloc ?_ _) | (with_reducible refine Kd.C_drewN ?_ _) | (with_reducible refine Kd.C_drew ?_))); (case side2 => exact HC0.out); rintro e w27 ⟨v201, rfl, ho0, hb⟩; refine ⟨_, rfl, ?_⟩; have n0_ := Aside0.mk (Kd.R_lower ho0 (below_size (by repeat (first | (with_reducible first | exact HB.out | apply below_alloc | apply pw_below_drewN | apply below_drew1) | exact HB.out)))); have n1_ := Aside0.mk (below_step (by repeat (first | (with_reducible first | exact HB.out | apply below_alloc | apply pw_below_drewN | apply below_drew1) | exact HB.out)) hb); clear HB; have HO202 := n0_; have HB := n1_; clear n0_ n1_; (try clear hb); (try clear hb2); (try clear hk); (try clear hi); (try clear ho0); obtain ⟨Ao28, co28, eo28⟩ := Kd.R_slice HO202.out; subst eo28) | ((with_reducible refine gate_callee (f := 13) rfl ?_); refine goesL_ (some 52) rfl rfl Tryd.func13 (by kernel_rfl) rfl #[.slice Ao28 t200.length co28, .string a1] rfl (by (try simp only [List.map_toArray, List.map_cons, List.map_nil]); first | done | rfl | (simp only [List.length_drop, List.length_take]; rfl)) ?_; (with_reducible refine (pairs_Value.calls _ _ t200 a1 t203 t204 _ ?side1 ?side2 A26.out).mono ?_); (case side1 => repeat (first | exact (Kd.R_reads' HO202.out).2.2 | (with_reducible refine Kd.C_alloc ?_ _) | (with_reducible refine Kd.C_drewN ?_ _) | (with_reducible refine Kd.C_drew ?_))); (case side2 => exact (Kd.R_reads' HO202.out).2.1); rintro e w29 ⟨rfl, hb⟩; refine ⟨_, rfl, ?_⟩; have n0_ := Aside0.mk (Kd.R_below (by (with_reducible repeat (first | apply Kd.R_alloc | apply Kd.R_drewN | apply Kd.R_drew)); exact HO202.out) hb); have n1_ := Aside0.mk (below_step (by repeat (first | (with_reducible first | exact HB.out | apply below_alloc | apply pw_below_drewN | apply below_drew1) | exact HB.out)) hb); clear HO202; clear HB; have HO202 := n0_; have HB := n1_; clear n0_ n1_; (try clear hb); (try clear hb2); (try clear hk); (try clear hi)))
              go_loopg [11] kj11 (fun kq v11 w' => ∃ (x11_3 : Int), v11 = .int .i64 x11_3 ∧ Aside0 (deedboxlaw41_PairsPuts.l0 kq l0 a1 t203 t204 x11_3 = some r) ∧ Aside0 (kq ≤ kj11) ∧ Aside0 (Below w.heap.size w w'))
              case atStart => exact ⟨(0), (by first | rfl | (simp; done) | (simp [*]; done) | (simp [less_total]; done)), H', ⟨Nat.le_refl _⟩, ⟨by repeat (first | (with_reducible first | exact HB.out | apply below_alloc | apply pw_below_drewN | apply below_drew1) | exact HB.out)⟩⟩
              case round =>
                clear H'
                try clear c1
                try clear c2
                try clear p2
                try clear c3
                try clear c5
                try clear c6
                try clear c7
                try clear c8
                try clear c9
                try clear c10
                try clear c13
                try clear c16
                try clear c16b0
                try clear c16b1
                try clear c17
                try clear c17b0
                try clear c17b1
                try clear c24
                try clear p2
                obtain ⟨x11_3, rfl, HA, HK3, HB⟩ := hrel
                cases gk with
                | zero => exact absurd HA.out (by simp [deedboxlaw41_PairsPuts.l0])
                | succ k3 =>
                  have H := HA.out
                  clear HA
                  simp only [deedboxlaw41_PairsPuts.l0] at H
                  by_cases c30 : x11_3 < (l0.length : Int)
                  · rw [if_pos c30] at H
                    have c30b0 : decide (x11_3 < (l0.length : Int)) = true := decide_eq_true c30
                    clear c30
                    by_cases c31 : 0 ≤ x11_3
                    · rw [if_pos c31] at H
                      have c31b0 : decide (0 ≤ x11_3) = true := decide_eq_true c31
                      clear c31
                      by_cases c32 : ((rd_T36 l0 x11_3).f0).toList = a1.toList
                      · rw [if_pos c32] at H
                        have c32b0 : (((rd_T36 l0 x11_3).f0).toList == a1.toList) = true := beq_iff_eq.mpr c32
                        have c32b1 : (((rd_T36 l0 x11_3).f0).toList != a1.toList) = false := bne_eq_false_iff_eq.mpr c32
                        clear c32
                        by_cases c33 : t204 = true
                        · subst c33
                          have H1 : (if t203.toList = ((rd_T36 l0 x11_3).f1).toList then ((deedboxlaw41_works.f k3).bind fun t207 => (some t207)) else (none)) = some r := by rw [if_pos rfl] at H; exact H
                          clear H
                          have H := H1
                          clear H1
                          by_cases c34 : t203.toList = ((rd_T36 l0 x11_3).f1).toList
                          · rw [if_pos c34] at H
                            have c34b0 : (t203.toList == ((rd_T36 l0 x11_3).f1).toList) = true := beq_iff_eq.mpr c34
                            have c34b1 : (t203.toList != ((rd_T36 l0 x11_3).f1).toList) = false := bne_eq_false_iff_eq.mpr c34
                            clear c34
                            replace H := Option.bind_eq_some_iff.mp H
                            obtain ⟨t207, A350, H⟩ := H
                            replace H : (some t207) = some r := H
                            have A35 := Aside0.mk A350
                            clear A350
                            obtain rfl := Option.some.inj H
                            have p205 : 0 ≤ (x11_3 : Int) := of_decide_eq_true (by first | (with_reducible assumption) | assumption)
                            have q205 : x11_3 < (l0.length : Int) := of_decide_eq_true (by first | (with_reducible assumption) | assumption)
                            obtain ⟨ad205, e205, hx205_0, hx205_1⟩ := at_T36 HR0.out x11_3 p205 q205
                            cases e205
                            replace hx205_0 := (HB.out.cell (World.block_lt_of_cell? w _ hx205_0)).trans hx205_0
                            replace hx205_1 := (HB.out.cell (World.block_lt_of_cell? w _ hx205_1)).trans hx205_1
                            replace p205 := eq_true p205
                            replace q205 := eq_true q205
                            have p206 : 0 ≤ (x11_3 : Int) := of_decide_eq_true (by first | (with_reducible assumption) | assumption)
                            have q206 : x11_3 < (l0.length : Int) := of_decide_eq_true (by first | (with_reducible assumption) | assumption)
                            obtain ⟨ad206, e206, hx206_0, hx206_1⟩ := at_T36 HR0.out x11_3 p206 q206
                            obtain rfl : ad205 = ad206 := (by injection e206)
                            replace hx206_0 := (HB.out.cell (World.block_lt_of_cell? w _ hx206_0)).trans hx206_0
                            replace hx206_1 := (HB.out.cell (World.block_lt_of_cell? w _ hx206_1)).trans hx206_1
                            replace p206 := eq_true p206
                            replace q206 := eq_true q206
                            go_wp2_with (first | (go_at_call 7; (with_reducible refine (deedboxlaw41_works.calls k3  t207 _ A35.out).mono ?_); rintro e w36 ⟨rfl, hb⟩; have n0_ := Aside0.mk (below_step (by repeat (first | (with_reducible first | exact HB.out | apply below_alloc | apply pw_below_drewN | apply below_drew1) | exact HB.out)) hb); clear HB; have HB := n0_; clear n0_; (try clear hb); (try clear hb2); (try clear hk); (try clear hi)))
                            go_ret
                            exact ⟨by first | rfl | (simp [errW_none, errW_some] <;> rfl) | (simp [*, errW_none, errW_some] <;> rfl), by repeat (first | (with_reducible first | exact HB.out | apply below_alloc | apply pw_below_drewN | apply below_drew1) | exact HB.out)⟩
                          · rw [if_neg c34] at H
                            exact absurd H (by simp)
                        · replace c33 := Bool.eq_false_iff.mpr c33
                          subst c33
                          have H1 : (none) = some r := by rw [if_neg (show ¬ (false = true) by decide)] at H; exact H
                          clear H
                          have H := H1
                          clear H1
                          exact absurd H (by simp)
                      · rw [if_neg c32] at H
                        have c32b0 : (((rd_T36 l0 x11_3).f0).toList == a1.toList) = false := beq_eq_false_iff_ne.mpr c32
                        have c32b1 : (((rd_T36 l0 x11_3).f0).toList != a1.toList) = true := bne_iff_ne.mpr c32
                        have H' := Aside0.mk H
                        clear H
                        have p205 : 0 ≤ (x11_3 : Int) := of_decide_eq_true (by first | (with_reducible assumption) | assumption)
                        have q205 : x11_3 < (l0.length : Int) := of_decide_eq_true (by first | (with_reducible assumption) | assumption)
                        obtain ⟨ad205, e205, hx205_0, hx205_1⟩ := at_T36 HR0.out x11_3 p205 q205
                        cases e205
                        replace hx205_0 := (HB.out.cell (World.block_lt_of_cell? w _ hx205_0)).trans hx205_0
                        replace hx205_1 := (HB.out.cell (World.block_lt_of_cell? w _ hx205_1)).trans hx205_1
                        replace p205 := eq_true p205
                        replace q205 := eq_true q205
                        go_wp2
                        go_roundg k3
                        case measure => have := HJ2.out; have := HJ11.out; have := HK3.out; omega
                        case rel => exact ⟨(wrap64 (x11_3 + 1)), (by first | rfl | (simp; done) | (simp [*]; done) | (simp [less_total]; done)), H', ⟨by have := HJ2.out; have := HJ11.out; have := HK3.out; omega⟩, ⟨by repeat (first | (with_reducible first | exact HB.out | apply below_alloc | apply pw_below_drewN | apply below_drew1) | exact HB.out)⟩⟩
                    · rw [if_neg c31] at H
                      exact absurd H (by simp)
                  · rw [if_neg c30] at H
                    have c30b0 : decide (x11_3 < (l0.length : Int)) = false := decide_eq_false c30
                    clear c30
                    by_cases c37 : t204 = true
                    · subst c37
                      have H1 : (none) = some r := by rw [if_pos rfl] at H; exact H
                      clear H
                      have H := H1
                      clear H1
                      exact absurd H (by simp)
                    · replace c37 := Bool.eq_false_iff.mpr c37
                      subst c37
                      have H1 : ((deedboxlaw41_works.f k3).bind fun t208 => (some t208)) = some r := by rw [if_neg (show ¬ (false = true) by decide)] at H; exact H
                      clear H
                      have H := H1
                      clear H1
                      replace H := Option.bind_eq_some_iff.mp H
                      obtain ⟨t208, A380, H⟩ := H
                      replace H : (some t208) = some r := H
                      have A38 := Aside0.mk A380
                      clear A380
                      obtain rfl := Option.some.inj H
                      go_wp2_with (first | (go_at_call 7; (with_reducible refine (deedboxlaw41_works.calls k3  t208 _ A38.out).mono ?_); rintro e w39 ⟨rfl, hb⟩; have n0_ := Aside0.mk (below_step (by repeat (first | (with_reducible first | exact HB.out | apply below_alloc | apply pw_below_drewN | apply below_drew1) | exact HB.out)) hb); clear HB; have HB := n0_; clear n0_; (try clear hb); (try clear hb2); (try clear hk); (try clear hi)))
                      go_ret
                      exact ⟨by first | rfl | (simp [errW_none, errW_some] <;> rfl) | (simp [*, errW_none, errW_some] <;> rfl), by repeat (first | (with_reducible first | exact HB.out | apply below_alloc | apply pw_below_drewN | apply below_drew1) | exact HB.out)⟩

end Go.Proofs.YtefmoefiamjmpaaDoor.QPairsPuts
