/- Walks of the program's functions that a statement of this seat reaches: each comes to what its plain Lean function beside it tells; no condition beside those in each theorem. -/
import Derived.Test.YtefmoefiamjmpaaDoorQPairsGetsx0
import Derived.Test.YtefmoefiamjmpaaDoorQPairsGetsx2
namespace Go.Proofs.YtefmoefiamjmpaaDoor.QPairsGets
open Go.RowKit Go.Proofs.YtefmoefiamjmpaaDoorW.PrintWords Go.Proofs.YtefmoefiamjmpaaDoorW.PrintLast Go.Proofs.YtefmoefiamjmpaaDoorW.PrintMore
open Go.Proofs.YtefmoefiamjmpaaDoor.Pa
attribute [local go_sem] str_leq str_gtr str_geq max2_int min2_int max_two min_two max_three min_three max_four min_four   -- for this text's walks alone
set_option linter.unusedVariables false
set_option linter.unusedSimpArgs false

/-! ### deedboxlaw41_works: function 7 -/
def deedboxlaw41_works.f (k : Nat)  : Option (Bool) := (pairs_Put.f (([(⟨(⟨#[98]⟩ : ByteArray), (⟨#[50]⟩ : ByteArray)⟩ : S45), (⟨(⟨#[97]⟩ : ByteArray), (⟨#[]⟩ : ByteArray)⟩ : S45)] : List (S45)))).bind fun bt143 => ((pairs_Get.f k (⟨#[97, 61, 38, 98, 61, 50]⟩ : ByteArray)).bind fun bt145 => ((pairs_Get.f k (⟨#[98, 61, 50, 38, 97, 61]⟩ : ByteArray)).bind fun bt149 => ((pairs_Value.f bt145.1 (⟨#[98]⟩ : ByteArray)).bind fun bt153 => ((pairs_Value.f bt145.1 (⟨#[99]⟩ : ByteArray)).bind fun bt155 => (if bt143.2 = 0 then (if bt143.1.toList = ([97, 61, 38, 98, 61, 50] : List UInt8) then (if bt145.2 = 0 then (if (bt145.1.length : Int) = 2 then (if bt149.2 = 4 then (if bt153.2 = true then (if bt153.1.toList = ([50] : List UInt8) then (if bt155.2 = true then (none) else ((pairs_Check.f bt145.1).bind fun t157 => (some (t157 == 0)))) else (none)) else (none)) else (none)) else (none)) else (none)) else (none)) else (none))))))
theorem deedboxlaw41_works.mono : ∀ k, LeO (deedboxlaw41_works.f k ) (deedboxlaw41_works.f (k + 1) ) := by
  intro  k
  unfold deedboxlaw41_works.f
  repeat' first
      | (with_reducible exact pairs_Get.mono _ _)
      | (with_reducible exact LeO.refl _)
      | (with_reducible exact LeO.none _)
      | (with_reducible refine LeO.ite ?_ ?_)
      | (with_reducible refine LeO.bind ?_ (fun _ => ?_))
      | exact pairs_Get.mono _ _
      | exact LeO.none _
      | refine LeO.ite ?_ ?_
      | refine LeO.bind ?_ (fun _ => ?_)
set_option maxHeartbeats 8000000 in
set_option maxRecDepth 100000 in
theorem deedboxlaw41_works.calls (k : Nat)  (r : Bool) (w : World) (h : deedboxlaw41_works.f k  = some r) :
    Calls Tryd.prog 7 #[] w fun e w' => e = .returned (.bool r) ∧ Below w.heap.size w w' := by
  have hu45 := Tryd.underlying45
  have HB := Aside0.mk (Below.refl w.heap.size w)
  have H : ((pairs_Put.f (([(⟨(⟨#[98]⟩ : ByteArray), (⟨#[50]⟩ : ByteArray)⟩ : S45), (⟨(⟨#[97]⟩ : ByteArray), (⟨#[]⟩ : ByteArray)⟩ : S45)] : List (S45)))).bind fun bt143 => ((pairs_Get.f k (⟨#[97, 61, 38, 98, 61, 50]⟩ : ByteArray)).bind fun bt145 => ((pairs_Get.f k (⟨#[98, 61, 50, 38, 97, 61]⟩ : ByteArray)).bind fun bt149 => ((pairs_Value.f bt145.1 (⟨#[98]⟩ : ByteArray)).bind fun bt153 => ((pairs_Value.f bt145.1 (⟨#[99]⟩ : ByteArray)).bind fun bt155 => (if bt143.2 = 0 then (if bt143.1.toList = ([97, 61, 38, 98, 61, 50] : List UInt8) then (if bt145.2 = 0 then (if (bt145.1.length : Int) = 2 then (if bt149.2 = 4 then (if bt153.2 = true then (if bt153.1.toList = ([50] : List UInt8) then (if bt155.2 = true then (none) else ((pairs_Check.f bt145.1).bind fun t157 => (some (t157 == 0)))) else (none)) else (none)) else (none)) else (none)) else (none)) else (none)) else (none))))))) = some r := h
  clear h
  obtain ⟨y140, hy140⟩ : ∃ y_ : List (S45), y_ = (([(⟨(⟨#[98]⟩ : ByteArray), (⟨#[50]⟩ : ByteArray)⟩ : S45), (⟨(⟨#[97]⟩ : ByteArray), (⟨#[]⟩ : ByteArray)⟩ : S45)] : List (S45))) := ⟨_, rfl⟩
  replace H : ((pairs_Put.f y140).bind fun bt143 => ((pairs_Get.f k (⟨#[97, 61, 38, 98, 61, 50]⟩ : ByteArray)).bind fun bt145 => ((pairs_Get.f k (⟨#[98, 61, 50, 38, 97, 61]⟩ : ByteArray)).bind fun bt149 => ((pairs_Value.f bt145.1 (⟨#[98]⟩ : ByteArray)).bind fun bt153 => ((pairs_Value.f bt145.1 (⟨#[99]⟩ : ByteArray)).bind fun bt155 => (if bt143.2 = 0 then (if bt143.1.toList = ([97, 61, 38, 98, 61, 50] : List UInt8) then (if bt145.2 = 0 then (if (bt145.1.length : Int) = 2 then (if bt149.2 = 4 then (if bt153.2 = true then (if bt153.1.toList = ([50] : List UInt8) then (if bt155.2 = true then (none) else ((pairs_Check.f bt145.1).bind fun t157 => (some (t157 == 0)))) else (none)) else (none)) else (none)) else (none)) else (none)) else (none)) else (none))))))) = some r := by first | (rw [hy140]; with_reducible exact H) | (have H2_ := (Option.bind_some _ _).symm.trans H; rw [hy140]; with_reducible exact H2_) | (have H2_ := (Option.bind_some _ _).symm.trans H; with_reducible exact H2_) | with_reducible exact H | (rw [hy140]; exact H) | exact H
  have Ny140 := Aside0.mk hy140
  clear hy140
  replace H := Option.bind_eq_some_iff.mp H
  obtain ⟨⟨t143, t144⟩, A10, H⟩ := H
  replace H : ((pairs_Get.f k (⟨#[97, 61, 38, 98, 61, 50]⟩ : ByteArray)).bind fun bt145 => ((pairs_Get.f k (⟨#[98, 61, 50, 38, 97, 61]⟩ : ByteArray)).bind fun bt149 => ((pairs_Value.f bt145.1 (⟨#[98]⟩ : ByteArray)).bind fun bt153 => ((pairs_Value.f bt145.1 (⟨#[99]⟩ : ByteArray)).bind fun bt155 => (if t144 = 0 then (if t143.toList = ([97, 61, 38, 98, 61, 50] : List UInt8) then (if bt145.2 = 0 then (if (bt145.1.length : Int) = 2 then (if bt149.2 = 4 then (if bt153.2 = true then (if bt153.1.toList = ([50] : List UInt8) then (if bt155.2 = true then (none) else ((pairs_Check.f bt145.1).bind fun t157 => (some (t157 == 0)))) else (none)) else (none)) else (none)) else (none)) else (none)) else (none)) else (none)))))) = some r := H
  have A1 := Aside0.mk A10
  clear A10
  replace H := Option.bind_eq_some_iff.mp H
  obtain ⟨⟨t145, t146⟩, A20, H⟩ := H
  replace H : ((pairs_Get.f k (⟨#[98, 61, 50, 38, 97, 61]⟩ : ByteArray)).bind fun bt149 => ((pairs_Value.f t145 (⟨#[98]⟩ : ByteArray)).bind fun bt153 => ((pairs_Value.f t145 (⟨#[99]⟩ : ByteArray)).bind fun bt155 => (if t144 = 0 then (if t143.toList = ([97, 61, 38, 98, 61, 50] : List UInt8) then (if t146 = 0 then (if (t145.length : Int) = 2 then (if bt149.2 = 4 then (if bt153.2 = true then (if bt153.1.toList = ([50] : List UInt8) then (if bt155.2 = true then (none) else ((pairs_Check.f t145).bind fun t157 => (some (t157 == 0)))) else (none)) else (none)) else (none)) else (none)) else (none)) else (none)) else (none))))) = some r := H
  have A2 := Aside0.mk A20
  clear A20
  replace H := Option.bind_eq_some_iff.mp H
  obtain ⟨⟨t149, t150⟩, A30, H⟩ := H
  replace H : ((pairs_Value.f t145 (⟨#[98]⟩ : ByteArray)).bind fun bt153 => ((pairs_Value.f t145 (⟨#[99]⟩ : ByteArray)).bind fun bt155 => (if t144 = 0 then (if t143.toList = ([97, 61, 38, 98, 61, 50] : List UInt8) then (if t146 = 0 then (if (t145.length : Int) = 2 then (if t150 = 4 then (if bt153.2 = true then (if bt153.1.toList = ([50] : List UInt8) then (if bt155.2 = true then (none) else ((pairs_Check.f t145).bind fun t157 => (some (t157 == 0)))) else (none)) else (none)) else (none)) else (none)) else (none)) else (none)) else (none)))) = some r := H
  have A3 := Aside0.mk A30
  clear A30
  replace H := Option.bind_eq_some_iff.mp H
  obtain ⟨⟨t153, t154⟩, A40, H⟩ := H
  replace H : ((pairs_Value.f t145 (⟨#[99]⟩ : ByteArray)).bind fun bt155 => (if t144 = 0 then (if t143.toList = ([97, 61, 38, 98, 61, 50] : List UInt8) then (if t146 = 0 then (if (t145.length : Int) = 2 then (if t150 = 4 then (if t154 = true then (if t153.toList = ([50] : List UInt8) then (if bt155.2 = true then (none) else ((pairs_Check.f t145).bind fun t157 => (some (t157 == 0)))) else (none)) else (none)) else (none)) else (none)) else (none)) else (none)) else (none))) = some r := H
  have A4 := Aside0.mk A40
  clear A40
  replace H := Option.bind_eq_some_iff.mp H
  obtain ⟨⟨t155, t156⟩, A50, H⟩ := H
  replace H : (if t144 = 0 then (if t143.toList = ([97, 61, 38, 98, 61, 50] : List UInt8) then (if t146 = 0 then (if (t145.length : Int) = 2 then (if t150 = 4 then (if t154 = true then (if t153.toList = ([50] : List UInt8) then (if t156 = true then (none) else ((pairs_Check.f t145).bind fun t157 => (some (t157 == 0)))) else (none)) else (none)) else (none)) else (none)) else (none)) else (none)) else (none)) = some r := H
  have A5 := Aside0.mk A50
  clear A50
  by_cases c6 : t144 = 0
  · rw [if_pos c6] at H
    have c6b0 : (t144 == 0) = true := beq_iff_eq.mpr c6
    have c6b1 : (t144 != 0) = false := bne_eq_false_iff_eq.mpr c6
    clear c6
    by_cases c7 : t143.toList = ([97, 61, 38, 98, 61, 50] : List UInt8)
    · rw [if_pos c7] at H
      have c7b0 : (t143.toList == ([97, 61, 38, 98, 61, 50] : List UInt8)) = true := beq_iff_eq.mpr c7
      have c7b1 : (t143.toList != ([97, 61, 38, 98, 61, 50] : List UInt8)) = false := bne_eq_false_iff_eq.mpr c7
      clear c7
      by_cases c8 : t146 = 0
      · rw [if_pos c8] at H
        have c8b0 : (t146 == 0) = true := beq_iff_eq.mpr c8
        have c8b1 : (t146 != 0) = false := bne_eq_false_iff_eq.mpr c8
        clear c8
        by_cases c9 : (t145.length : Int) = 2
        · rw [if_pos c9] at H
          have c9b0 : ((t145.length : Int) == 2) = true := beq_iff_eq.mpr c9
          have c9b1 : ((t145.length : Int) != 2) = false := bne_eq_false_iff_eq.mpr c9
          clear c9
          by_cases c10 : t150 = 4
          · rw [if_pos c10] at H
            have c10b0 : (t150 == 4) = true := beq_iff_eq.mpr c10
            have c10b1 : (t150 != 4) = false := bne_eq_false_iff_eq.mpr c10
            clear c10
            by_cases c11 : t154 = true
            · subst c11
              have H1 : (if t153.toList = ([50] : List UInt8) then (if t156 = true then (none) else ((pairs_Check.f t145).bind fun t157 => (some (t157 == 0)))) else (none)) = some r := by rw [if_pos rfl] at H; exact H
              clear H
              have H := H1
              clear H1
              by_cases c12 : t153.toList = ([50] : List UInt8)
              · rw [if_pos c12] at H
                have c12b0 : (t153.toList == ([50] : List UInt8)) = true := beq_iff_eq.mpr c12
                have c12b1 : (t153.toList != ([50] : List UInt8)) = false := bne_eq_false_iff_eq.mpr c12
                clear c12
                by_cases c13 : t156 = true
                · subst c13
                  have H1 : (none) = some r := by rw [if_pos rfl] at H; exact H
                  clear H
                  have H := H1
                  clear H1
                  exact absurd H (by simp)
                · replace c13 := Bool.eq_false_iff.mpr c13
                  subst c13
                  have H1 : ((pairs_Check.f t145).bind fun t157 => (some (t157 == 0))) = some r := by rw [if_neg (show ¬ (false = true) by decide)] at H; exact H
                  clear H
                  have H := H1
                  clear H1
                  replace H := Option.bind_eq_some_iff.mp H
                  obtain ⟨t157, A140, H⟩ := H
                  replace H : (some (t157 == 0)) = some r := H
                  have A14 := Aside0.mk A140
                  clear A140
                  obtain rfl := Option.some.inj H
                  go_enter Tryd.func7, Tryd.ntmps7
                  go_wp2_with (first | ((with_reducible refine gate_dst (N := 14) rfl ?_); (try (refine gate_guard (by rfl) ?_; dsimp only)); refine Kd.R_lit k45 _ 45 ?hg (N := 14) ?hd (xs := ([(⟨(⟨#[98]⟩ : ByteArray), (⟨#[50]⟩ : ByteArray)⟩ : S45), (⟨(⟨#[97]⟩ : ByteArray), (⟨#[]⟩ : ByteArray)⟩ : S45)] : List (S45))) (inner := [.string (⟨#[98]⟩ : ByteArray), .string (⟨#[50]⟩ : ByteArray), .string (⟨#[97]⟩ : ByteArray), .string (⟨#[]⟩ : ByteArray)]) (ok := fun _ => True) (okp := fun _ => True) ?hr ?hp (fun _ hk => hk) trivial (Below.refl _ _) (Nat.le_refl _) (by simp) ?_; (case hd => rfl); (case hg => rfl); (case hr => first | (go_simp; done) | (go_simp; rfl)); (case hp => exact (Reps.c2 (show Kd.M k45 _ _ _ (⟨(⟨#[98]⟩ : ByteArray), (⟨#[50]⟩ : ByteArray)⟩ : S45) [.string (⟨#[98]⟩ : ByteArray), .string (⟨#[50]⟩ : ByteArray)] from (k45_mkM _ _ _ (⟨(⟨#[98]⟩ : ByteArray), (⟨#[50]⟩ : ByteArray)⟩ : S45) )) (Reps.c2 (show Kd.M k45 _ _ _ (⟨(⟨#[97]⟩ : ByteArray), (⟨#[]⟩ : ByteArray)⟩ : S45) [.string (⟨#[97]⟩ : ByteArray), .string (⟨#[]⟩ : ByteArray)] from (k45_mkM _ _ _ (⟨(⟨#[97]⟩ : ByteArray), (⟨#[]⟩ : ByteArray)⟩ : S45) )) (Reps.none _ _)))); intro v141 w15 ho16 hb hg_ hnew_; clear hg_ hnew_; (first | rw [← Ny140.out] at ho16 | (simp only [Int.reduceToNat] at ho16; rw [← Ny140.out] at ho16)); have n0_ := Aside0.mk (Kd.R_lower ho16 (below_size (by repeat (first | (with_reducible first | exact HB.out | apply below_alloc | apply pw_below_drewN | apply below_drew1) | exact HB.out)))); have n1_ := Aside0.mk (below_step (by repeat (first | (with_reducible first | exact HB.out | apply below_alloc | apply pw_below_drewN | apply below_drew1) | exact HB.out)) hb); clear HB; have HO142 := n0_; have HB := n1_; clear n0_ n1_; clear hb ho16; obtain ⟨Ao17, co17, eo17⟩ := Kd.R_slice HO142.out; subst eo17) | ((with_reducible refine gate_callee (f := 8) rfl ?_); refine goesL_ (some 15) rfl rfl Tryd.func8 (by kernel_rfl) rfl #[.slice Ao17 y140.length co17] rfl (by (try simp only [List.map_toArray, List.map_cons, List.map_nil]); first | done | rfl | (simp only [List.length_drop, List.length_take]; rfl)) ?_; (with_reducible refine (pairs_Put.calls _ _ y140 t143 t144 _ ?side1 ?side2 A1.out).mono ?_); (case side1 => repeat (first | exact (Kd.R_reads' HO142.out).2.2 | (with_reducible refine Kd.C_alloc ?_ _) | (with_reducible refine Kd.C_drewN ?_ _) | (with_reducible refine Kd.C_drew ?_))); (case side2 => exact (Kd.R_reads' HO142.out).2.1); rintro e w18 ⟨rfl, hb⟩; refine ⟨_, rfl, ?_⟩; have n0_ := Aside0.mk (Kd.R_below (by (with_reducible repeat (first | apply Kd.R_alloc | apply Kd.R_drewN | apply Kd.R_drew)); exact HO142.out) hb); have n1_ := Aside0.mk (below_step (by repeat (first | (with_reducible first | exact HB.out | apply below_alloc | apply pw_below_drewN | apply below_drew1) | exact HB.out)) hb); clear HO142; clear HB; have HO142 := n0_; have HB := n1_; clear n0_ n1_; (try clear hb); (try clear hb2); (try clear hk); (try clear hi)) | ((with_reducible refine gate_callee (f := 14) rfl ?_); refine goesL_ (some 19) rfl rfl Tryd.func14 (by kernel_rfl) rfl #[.string (⟨#[97, 61, 38, 98, 61, 50]⟩ : ByteArray)] rfl (by (try simp only [List.map_toArray, List.map_cons, List.map_nil]); first | done | rfl | (simp only [List.length_drop, List.length_take]; rfl)) ?_; (with_reducible refine (pairs_Get.calls k (⟨#[97, 61, 38, 98, 61, 50]⟩ : ByteArray) t145 t146 _ A2.out).mono ?_); rintro e w19 ⟨v147, rfl, ho0, hb⟩; refine ⟨_, rfl, ?_⟩; have n0_ := Aside0.mk (Kd.R_elder' (by (with_reducible repeat (first | apply Kd.R_alloc | apply Kd.R_drewN | apply Kd.R_drew)); exact HO142.out) (Kd.R_base ho0) hb); have n1_ := Aside0.mk (Kd.R_lower (Kd.R_new' ho0 (Kd.R_lt (by (with_reducible repeat (first | apply Kd.R_alloc | apply Kd.R_drewN | apply Kd.R_drew)); exact HO142.out))) (below_size (by repeat (first | (with_reducible first | exact HB.out | apply below_alloc | apply pw_below_drewN | apply below_drew1) | exact HB.out)))); have n2_ := Aside0.mk (below_step (by repeat (first | (with_reducible first | exact HB.out | apply below_alloc | apply pw_below_drewN | apply below_drew1) | exact HB.out)) hb); clear HO142; clear HB; have HO142 := n0_; have HO148 := n1_; have HB := n2_; clear n0_ n1_ n2_; (try clear hb); (try clear hb2); (try clear hk); (try clear hi); (try clear ho0)) | ((with_reducible refine gate_callee (f := 14) rfl ?_); refine goesL_ (some 23) rfl rfl Tryd.func14 (by kernel_rfl) rfl #[.string (⟨#[98, 61, 50, 38, 97, 61]⟩ : ByteArray)] rfl (by (try simp only [List.map_toArray, List.map_cons, List.map_nil]); first | done | rfl | (simp only [List.length_drop, List.length_take]; rfl)) ?_; (with_reducible refine (pairs_Get.calls k (⟨#[98, 61, 50, 38, 97, 61]⟩ : ByteArray) t149 t150 _ A3.out).mono ?_); rintro e w20 ⟨v151, rfl, ho0, hb⟩; refine ⟨_, rfl, ?_⟩; have n0_ := Aside0.mk (Kd.R_elder' (by (with_reducible repeat (first | apply Kd.R_alloc | apply Kd.R_drewN | apply Kd.R_drew)); exact HO142.out) (Kd.R_base ho0) hb); have n1_ := Aside0.mk (Kd.R_elder' (by (with_reducible repeat (first | apply Kd.R_alloc | apply Kd.R_drewN | apply Kd.R_drew)); exact HO148.out) (Kd.R_base ho0) hb); have n2_ := Aside0.mk (Kd.R_lower (Kd.R_new' (Kd.R_new' ho0 (Kd.R_lt (by (with_reducible repeat (first | apply Kd.R_alloc | apply Kd.R_drewN | apply Kd.R_drew)); exact HO142.out))) (Kd.R_lt (by (with_reducible repeat (first | apply Kd.R_alloc | apply Kd.R_drewN | apply Kd.R_drew)); exact HO148.out))) (below_size (by repeat (first | (with_reducible first | exact HB.out | apply below_alloc | apply pw_below_drewN | apply below_drew1) | exact HB.out)))); have n3_ := Aside0.mk (below_step (by repeat (first | (with_reducible first | exact HB.out | apply below_alloc | apply pw_below_drewN | apply below_drew1) | exact HB.out)) hb); clear HO142; clear HO148; clear HB; have HO142 := n0_; have HO148 := n1_; have HO152 := n2_; have HB := n3_; clear n0_ n1_ n2_ n3_; (try clear hb); (try clear hb2); (try clear hk); (try clear hi); (try clear ho0); obtain ⟨Ao21, co21, eo21⟩ := Kd.R_slice HO148.out; subst eo21) | ((with_reducible refine gate_callee (f := 13) rfl ?_); refine goesL_ (some 28) rfl rfl Tryd.func13 (by kernel_rfl) rfl #[.slice Ao21 t145.length co21, .string (⟨#[98]⟩ : ByteArray)] rfl (by (try simp only [List.map_toArray, List.map_cons, List.map_nil]); first | done | rfl | (simp only [List.length_drop, List.length_take]; rfl)) ?_; (with_reducible refine (pairs_Value.calls _ _ t145 (⟨#[98]⟩ : ByteArray) t153 true _ ?side1 ?side2 A4.out).mono ?_); (case side1 => repeat (first | exact (Kd.R_reads' HO148.out).2.2 | (with_reducible refine Kd.C_alloc ?_ _) | (with_reducible refine Kd.C_drewN ?_ _) | (with_reducible refine Kd.C_drew ?_))); (case side2 => exact (Kd.R_reads' HO148.out).2.1); rintro e w22 ⟨rfl, hb⟩; refine ⟨_, rfl, ?_⟩; have n0_ := Aside0.mk (Kd.R_below (by (with_reducible repeat (first | apply Kd.R_alloc | apply Kd.R_drewN | apply Kd.R_drew)); exact HO142.out) hb); have n1_ := Aside0.mk (Kd.R_below (by (with_reducible repeat (first | apply Kd.R_alloc | apply Kd.R_drewN | apply Kd.R_drew)); exact HO148.out) hb); have n2_ := Aside0.mk (Kd.R_below (by (with_reducible repeat (first | apply Kd.R_alloc | apply Kd.R_drewN | apply Kd.R_drew)); exact HO152.out) hb); have n3_ := Aside0.mk (below_step (by repeat (first | (with_reducible first | exact HB.out | apply below_alloc | apply pw_below_drewN | apply below_drew1) | exact HB.out)) hb); clear HO142; clear HO148; clear HO152; clear HB; have HO142 := n0_; have HO148 := n1_; have HO152 := n2_; have HB := n3_; clear n0_ n1_ n2_ n3_; (try clear hb); (try clear hb2); (try clear hk); (try clear hi)) | ((with_reducible refine gate_callee (f := 13) rfl ?_); refine goesL_ (some 33) rfl rfl Tryd.func13 (by kernel_rfl) rfl #[.slice Ao21 t145.length co21, .string (⟨#[99]⟩ : ByteArray)] rfl (by (try simp only [List.map_toArray, List.map_cons, List.map_nil]); first | done | rfl | (simp only [List.length_drop, List.length_take]; rfl)) ?_; (with_reducible refine (pairs_Value.calls _ _ t145 (⟨#[99]⟩ : ByteArray) t155 false _ ?side1 ?side2 A5.out).mono ?_); (case side1 => repeat (first | exact (Kd.R_reads' HO148.out).2.2 | (with_reducible refine Kd.C_alloc ?_ _) | (with_reducible refine Kd.C_drewN ?_ _) | (with_reducible refine Kd.C_drew ?_))); (case side2 => exact (Kd.R_reads' HO148.out).2.1); rintro e w23 ⟨rfl, hb⟩; refine ⟨_, rfl, ?_⟩; have n0_ := Aside0.mk (Kd.R_below (by (with_reducible repeat (first | apply Kd.R_alloc | apply Kd.R_drewN | apply Kd.R_drew)); exact HO142.out) hb); have n1_ := Aside0.mk (Kd.R_below (by (with_reducible repeat (first | apply Kd.R_alloc | apply Kd.R_drewN | apply Kd.R_drew)); exact HO148.out) hb); have n2_ := Aside0.mk (Kd.R_below (by (with_reducible repeat (first | apply Kd.R_alloc | apply Kd.R_drewN | apply Kd.R_drew)); exact HO152.out) hb); have n3_ := Aside0.mk (below_step (by repeat (first | (with_reducible first | exact HB.out | apply below_alloc | apply pw_below_drewN | apply below_drew1) | exact HB.out)) hb); clear HO142; clear HO148; clear HO152; clear HB; have HO142 := n0_; have HO148 := n1_; have HO152 := n2_; have HB := n3_; clear n0_ n1_ n2_ n3_; (try clear hb); (try clear hb2); (try clear hk); (try clear hi)) | (go_at_call 11; (with_reducible refine (pairs_Check.calls _ _ t145 t157 _ ?side1 ?side2 A14.out).mono ?_); (case side1 => repeat (first | exact (Kd.R_reads' HO148.out).2.2 | (with_reducible refine Kd.C_alloc ?_ _) | (with_reducible refine Kd.C_drewN ?_ _) | (with_reducible refine Kd.C_drew ?_))); (case side2 => exact (Kd.R_reads' HO148.out).2.1); rintro e w24 ⟨rfl, hb⟩; have n0_ := Aside0.mk (Kd.R_below (by (with_reducible repeat (first | apply Kd.R_alloc | apply Kd.R_drewN | apply Kd.R_drew)); exact HO142.out) hb); have n1_ := Aside0.mk (Kd.R_below (by (with_reducible repeat (first | apply Kd.R_alloc | apply Kd.R_drewN | apply Kd.R_drew)); exact HO148.out) hb); have n2_ := Aside0.mk (Kd.R_below (by (with_reducible repeat (first | apply Kd.R_alloc | apply Kd.R_drewN | apply Kd.R_drew)); exact HO152.out) hb); have n3_ := Aside0.mk (below_step (by repeat (first | (with_reducible first | exact HB.out | apply below_alloc | apply pw_below_drewN | apply below_drew1) | exact HB.out)) hb); clear HO142; clear HO148; clear HO152; clear HB; have HO142 := n0_; have HO148 := n1_; have HO152 := n2_; have HB := n3_; clear n0_ n1_ n2_ n3_; (try clear hb); (try clear hb2); (try clear hk); (try clear hi)))
                  go_ret
                  exact ⟨by first | rfl | (simp [errW_none, errW_some] <;> rfl) | (simp [*, errW_none, errW_some] <;> rfl), by repeat (first | (with_reducible first | exact HB.out | apply below_alloc | apply pw_below_drewN | apply below_drew1) | exact HB.out)⟩
              · rw [if_neg c12] at H
                exact absurd H (by simp)
            · replace c11 := Bool.eq_false_iff.mpr c11
              subst c11
              have H1 : (none) = some r := by rw [if_neg (show ¬ (false = true) by decide)] at H; exact H
              clear H
              have H := H1
              clear H1
              exact absurd H (by simp)
          · rw [if_neg c10] at H
            exact absurd H (by simp)
        · rw [if_neg c9] at H
          exact absurd H (by simp)
      · rw [if_neg c8] at H
        exact absurd H (by simp)
    · rw [if_neg c7] at H
      exact absurd H (by simp)
  · rw [if_neg c6] at H
    exact absurd H (by simp)

/-! ### deedboxref41_Text: function 19 -/
mutual
def deedboxref41_Text.l0 : Nat → List (S36) → ByteArray → ByteArray → Int → Option (ByteArray)
  | 0, _, _, _, _ => none
  | k + 1, x0, x3, x4, x5 => if x5 < (x0.length : Int) then (deedboxref41_Text.l1 k x0 x3 x4 x5 (-1) 0) else (some x3)
def deedboxref41_Text.l1 : Nat → List (S36) → ByteArray → ByteArray → Int → Int → Int → Option (ByteArray)
  | 0, _, _, _, _, _, _ => none
  | k + 1, x0, x3, x4, x5, x6, x7 => if x7 < (x0.length : Int) then (if x5 = 0 then (if x6 < 0 then (deedboxref41_Text.l1 k x0 x3 x4 x5 x7 (wrap64 (x7 + 1))) else (if 0 ≤ x7 then (if 0 ≤ x6 then (if x6 < (x0.length : Int) then (if (Op.bytesLess (((rd_T36 x0 x7).f0).toList) (((rd_T36 x0 x6).f0).toList)) = true then (deedboxref41_Text.l1 k x0 x3 x4 x5 x7 (wrap64 (x7 + 1))) else (deedboxref41_Text.l1 k x0 x3 x4 x5 x6 (wrap64 (x7 + 1)))) else (none)) else (none)) else (none))) else (if 0 ≤ x7 then (if (Op.bytesLess x4.toList (((rd_T36 x0 x7).f0).toList)) = true then (if x6 < 0 then (deedboxref41_Text.l1 k x0 x3 x4 x5 x7 (wrap64 (x7 + 1))) else (if 0 ≤ x6 then (if x6 < (x0.length : Int) then (if (Op.bytesLess (((rd_T36 x0 x7).f0).toList) (((rd_T36 x0 x6).f0).toList)) = true then (deedboxref41_Text.l1 k x0 x3 x4 x5 x7 (wrap64 (x7 + 1))) else (deedboxref41_Text.l1 k x0 x3 x4 x5 x6 (wrap64 (x7 + 1)))) else (none)) else (none))) else (deedboxref41_Text.l1 k x0 x3 x4 x5 x6 (wrap64 (x7 + 1)))) else (none))) else (if x6 < 0 then (some x3) else (if x5 > 0 then (if x3.size + 1 ≤ 9223372036854775807 then (if 0 ≤ x6 then (if x6 < (x0.length : Int) then (if x3.size + 1 + ((rd_T36 x0 x6).f0).size ≤ 9223372036854775807 then (if x3.size + 1 + ((rd_T36 x0 x6).f0).size + 1 ≤ 9223372036854775807 then (if x3.size + 1 + ((rd_T36 x0 x6).f0).size + 1 + ((rd_T36 x0 x6).f1).size ≤ 9223372036854775807 then (deedboxref41_Text.l0 k x0 ((((x3 ++ (⟨#[38]⟩ : ByteArray)) ++ ((rd_T36 x0 x6).f0)) ++ (⟨#[61]⟩ : ByteArray)) ++ ((rd_T36 x0 x6).f1)) ((rd_T36 x0 x6).f0) (wrap64 (x5 + 1))) else (none)) else (none)) else (none)) else (none)) else (none)) else (none)) else (if 0 ≤ x6 then (if x6 < (x0.length : Int) then (if x3.size + ((rd_T36 x0 x6).f0).size ≤ 9223372036854775807 then (if x3.size + ((rd_T36 x0 x6).f0).size + 1 ≤ 9223372036854775807 then (if x3.size + ((rd_T36 x0 x6).f0).size + 1 + ((rd_T36 x0 x6).f1).size ≤ 9223372036854775807 then (deedboxref41_Text.l0 k x0 (((x3 ++ ((rd_T36 x0 x6).f0)) ++ (⟨#[61]⟩ : ByteArray)) ++ ((rd_T36 x0 x6).f1)) ((rd_T36 x0 x6).f0) (wrap64 (x5 + 1))) else (none)) else (none)) else (none)) else (none)) else (none))))
end
def deedboxref41_Text.f (k : Nat) (l0 : List (S36)) : Option (ByteArray) := deedboxref41_Text.l0 k l0 (⟨#[]⟩ : ByteArray) (⟨#[]⟩ : ByteArray) 0
theorem deedboxref41_Text.mono_l : ∀ k, (∀ y0 y1 y2 y3, LeO (deedboxref41_Text.l0 k y0 y1 y2 y3) (deedboxref41_Text.l0 (k + 1) y0 y1 y2 y3)) ∧ (∀ y0 y1 y2 y3 y4 y5, LeO (deedboxref41_Text.l1 k y0 y1 y2 y3 y4 y5) (deedboxref41_Text.l1 (k + 1) y0 y1 y2 y3 y4 y5))
  | 0 => ⟨fun _ _ _ _ r h => by simp [deedboxref41_Text.l0] at h, fun _ _ _ _ _ _ r h => by simp [deedboxref41_Text.l1] at h⟩
  | k + 1 => by
    obtain ⟨ih0, ih1⟩ := deedboxref41_Text.mono_l k
    refine ⟨?_, ?_⟩
    · intro y0 y1 y2 y3
      unfold deedboxref41_Text.l0
      repeat' first
      | (with_reducible exact ih0 _ _ _ _)
      | (with_reducible exact ih1 _ _ _ _ _ _)
      | (with_reducible exact LeO.refl _)
      | (with_reducible exact LeO.none _)
      | (with_reducible refine LeO.ite ?_ ?_)
      | (with_reducible refine LeO.bind ?_ (fun _ => ?_))
      | exact ih0 _ _ _ _
      | exact ih1 _ _ _ _ _ _
      | exact LeO.none _
      | refine LeO.ite ?_ ?_
      | refine LeO.bind ?_ (fun _ => ?_)
    · intro y0 y1 y2 y3 y4 y5
      unfold deedboxref41_Text.l1
      repeat' first
      | (with_reducible exact ih0 _ _ _ _)
      | (with_reducible exact ih1 _ _ _ _ _ _)
      | (with_reducible exact LeO.refl _)
      | (with_reducible exact LeO.none _)
      | (with_reducible refine LeO.ite ?_ ?_)
      | (with_reducible refine LeO.bind ?_ (fun _ => ?_))
      | exact ih0 _ _ _ _
      | exact ih1 _ _ _ _ _ _
      | exact LeO.none _
      | refine LeO.ite ?_ ?_
      | refine LeO.bind ?_ (fun _ => ?_)
theorem deedboxref41_Text.mono : ∀ a0 k, LeO (deedboxref41_Text.f k a0) (deedboxref41_Text.f (k + 1) a0) := by
  intro a0 k
  obtain ⟨ih0, ih1⟩ := deedboxref41_Text.mono_l k
  unfold deedboxref41_Text.f
  repeat' first
      | (with_reducible exact ih0 _ _ _ _)
      | (with_reducible exact ih1 _ _ _ _ _ _)
      | (with_reducible exact LeO.refl _)
      | (with_reducible exact LeO.none _)
      | (with_reducible refine LeO.ite ?_ ?_)
      | (with_reducible refine LeO.bind ?_ (fun _ => ?_))
      | exact ih0 _ _ _ _
      | exact ih1 _ _ _ _ _ _
      | exact LeO.none _
      | refine LeO.ite ?_ ?_
      | refine LeO.bind ?_ (fun _ => ?_)
set_option maxHeartbeats 8000000 in
set_option maxRecDepth 100000 in
theorem deedboxref41_Text.calls (k : Nat) (A0 : Option Addr) (c0 : Nat) (l0 : List (S36)) (r : ByteArray) (w : World) (hr0 : Kd.C k36 w A0 l0.length l0) (hc0 : l0.length ≤ c0) (h : deedboxref41_Text.f k l0 = some r) :
    Calls Tryd.prog 19 #[.slice A0 l0.length c0] w fun e w' => e = .returned (.string r) ∧ Drawn0 w w' := by
  have HR0 := Aside0.mk hr0
  have HC0 := Aside0.mk hc0
  clear hr0 hc0
  have H : (deedboxref41_Text.l0 k l0 (⟨#[]⟩ : ByteArray) (⟨#[]⟩ : ByteArray) 0) = some r := h
  clear h
  have H' := Aside0.mk H
  clear H
  go_enter Tryd.func19, Tryd.ntmps19
  go_wp2
  repeat (go_quiet (fail); try go_wp2)
  go_loopg [3, 4, 5] k (fun kq v3 v4 v5 w' => ∃ (x3_1 : ByteArray) (x4_1 : ByteArray) (x5_1 : Int), v3 = .string x3_1 ∧ v4 = .string x4_1 ∧ v5 = .int .i64 x5_1 ∧ Aside0 (deedboxref41_Text.l0 kq l0 x3_1 x4_1 x5_1 = some r) ∧ Aside0 (kq ≤ k) ∧ Drawn0 w w')
  case atStart => exact ⟨((⟨#[]⟩ : ByteArray)), ((⟨#[]⟩ : ByteArray)), (0), (by first | rfl | (simp; done) | (simp [*]; done) | (simp [less_total]; done)), (by first | rfl | (simp; done) | (simp [*]; done) | (simp [less_total]; done)), (by first | rfl | (simp; done) | (simp [*]; done) | (simp [less_total]; done)), H', ⟨Nat.le_refl _⟩, by repeat (first | exact Drawn0.refl _ | apply Drawn0.step)⟩
  case round =>
    clear H'
    try clear c1
    obtain ⟨x3_1, x4_1, x5_1, rfl, rfl, rfl, HA, HK1, ⟨m1, rfl⟩⟩ := hrel
    cases gk with
    | zero => exact absurd HA.out (by simp [deedboxref41_Text.l0])
    | succ k1 =>
      have H := HA.out
      clear HA
      simp only [deedboxref41_Text.l0] at H
      by_cases c2 : x5_1 < (l0.length : Int)
      · rw [if_pos c2] at H
        have c2b0 : decide (x5_1 < (l0.length : Int)) = true := decide_eq_true c2
        clear c2
        have H' := Aside0.mk H
        clear H
        go_wp2
        repeat (go_quiet (fail); try go_wp2)
        go_loopg [6, 7] k1 (fun kq v6 v7 w' => ∃ (x6_2 : Int) (x7_2 : Int), v6 = .int .i64 x6_2 ∧ v7 = .int .i64 x7_2 ∧ Aside0 (deedboxref41_Text.l1 kq l0 x3_1 x4_1 x5_1 x6_2 x7_2 = some r) ∧ Aside0 (kq ≤ k1) ∧ Drawn0 w w')
        case atStart => exact ⟨((-1)), (0), (by first | rfl | (simp; done) | (simp [*]; done) | (simp [less_total]; done)), (by first | rfl | (simp; done) | (simp [*]; done) | (simp [less_total]; done)), H', ⟨Nat.le_refl _⟩, by repeat (first | exact Drawn0.refl _ | apply Drawn0.step)⟩
        case round =>
          clear H'
          try clear c1
          try clear c2
          try clear c2b0
          try clear p2
          obtain ⟨x6_2, x7_2, rfl, rfl, HA, HK2, ⟨m2, rfl⟩⟩ := hrel
          cases gk with
          | zero => exact absurd HA.out (by simp [deedboxref41_Text.l1])
          | succ k2 =>
            have H := HA.out
            clear HA
            simp only [deedboxref41_Text.l1] at H
            by_cases c3 : x7_2 < (l0.length : Int)
            · rw [if_pos c3] at H
              have c3b0 : decide (x7_2 < (l0.length : Int)) = true := decide_eq_true c3
              clear c3
              by_cases c4 : x5_1 = 0
              · rw [if_pos c4] at H
                have c4b0 : (x5_1 == 0) = true := beq_iff_eq.mpr c4
                have c4b1 : (x5_1 != 0) = false := bne_eq_false_iff_eq.mpr c4
                clear c4
                by_cases c5 : x6_2 < 0
                · rw [if_pos c5] at H
                  have c5b0 : decide (x6_2 < 0) = true := decide_eq_true c5
                  clear c5
                  have H' := Aside0.mk H
                  clear H
                  go_wp2
                  repeat (go_quiet (fail); try go_wp2)
                  go_roundg k2
                  case measure => have := HK1.out; have := HK2.out; omega
                  case rel => exact ⟨(x7_2), (wrap64 (x7_2 + 1)), (by first | rfl | (simp; done) | (simp [*]; done) | (simp [less_total]; done)), (by first | rfl | (simp; done) | (simp [*]; done) | (simp [less_total]; done)), H', ⟨by have := HK1.out; have := HK2.out; omega⟩, by repeat (first | exact Drawn0.refl _ | apply Drawn0.step)⟩
                · rw [if_neg c5] at H
                  have c5b0 : decide (x6_2 < 0) = false := decide_eq_false c5
                  clear c5
                  by_cases c6 : 0 ≤ x7_2
                  · rw [if_pos c6] at H
                    have c6b0 : decide (0 ≤ x7_2) = true := decide_eq_true c6
                    clear c6
                    by_cases c7 : 0 ≤ x6_2
                    · rw [if_pos c7] at H
                      have c7b0 : decide (0 ≤ x6_2) = true := decide_eq_true c7
                      clear c7
                      by_cases c8 : x6_2 < (l0.length : Int)
                      · rw [if_pos c8] at H
                        have c8b0 : decide (x6_2 < (l0.length : Int)) = true := decide_eq_true c8
                        clear c8
                        by_cases c9 : (Op.bytesLess (((rd_T36 l0 x7_2).f0).toList) (((rd_T36 l0 x6_2).f0).toList)) = true
                        · rw [if_pos c9] at H
                          have c9b0 : (Op.bytesLess (((rd_T36 l0 x7_2).f0).toList) (((rd_T36 l0 x6_2).f0).toList)) = true := c9
                          clear c9
                          have H' := Aside0.mk H
                          clear H
                          have p158 : 0 ≤ (x7_2 : Int) := of_decide_eq_true (by first | (with_reducible assumption) | assumption)
                          have q158 : x7_2 < (l0.length : Int) := of_decide_eq_true (by first | (with_reducible assumption) | assumption)
                          obtain ⟨ad158, e158, hx158_0, hx158_1⟩ := at_T36 HR0.out x7_2 p158 q158
                          cases e158
                          replace p158 := eq_true p158
                          replace q158 := eq_true q158
                          have p159 : 0 ≤ (x6_2 : Int) := of_decide_eq_true (by first | (with_reducible assumption) | assumption)
                          have q159 : x6_2 < (l0.length : Int) := of_decide_eq_true (by first | (with_reducible assumption) | assumption)
                          obtain ⟨ad159, e159, hx159_0, hx159_1⟩ := at_T36 HR0.out x6_2 p159 q159
                          obtain rfl : ad158 = ad159 := (by injection e159)
                          replace p159 := eq_true p159
                          replace q159 := eq_true q159
                          go_wp2
                          repeat (go_quiet (fail); try go_wp2)
                          go_roundg k2
                          case measure => have := HK1.out; have := HK2.out; omega
                          case rel => exact ⟨(x7_2), (wrap64 (x7_2 + 1)), (by first | rfl | (simp; done) | (simp [*]; done) | (simp [less_total]; done)), (by first | rfl | (simp; done) | (simp [*]; done) | (simp [less_total]; done)), H', ⟨by have := HK1.out; have := HK2.out; omega⟩, by repeat (first | exact Drawn0.refl _ | apply Drawn0.step)⟩
                        · rw [if_neg c9] at H
                          have c9b0 : (Op.bytesLess (((rd_T36 l0 x7_2).f0).toList) (((rd_T36 l0 x6_2).f0).toList)) = false := by simpa using c9
                          clear c9
                          have H' := Aside0.mk H
                          clear H
                          have p158 : 0 ≤ (x7_2 : Int) := of_decide_eq_true (by first | (with_reducible assumption) | assumption)
                          have q158 : x7_2 < (l0.length : Int) := of_decide_eq_true (by first | (with_reducible assumption) | assumption)
                          obtain ⟨ad158, e158, hx158_0, hx158_1⟩ := at_T36 HR0.out x7_2 p158 q158
                          cases e158
                          replace p158 := eq_true p158
                          replace q158 := eq_true q158
                          have p159 : 0 ≤ (x6_2 : Int) := of_decide_eq_true (by first | (with_reducible assumption) | assumption)
                          have q159 : x6_2 < (l0.length : Int) := of_decide_eq_true (by first | (with_reducible assumption) | assumption)
                          obtain ⟨ad159, e159, hx159_0, hx159_1⟩ := at_T36 HR0.out x6_2 p159 q159
                          obtain rfl : ad158 = ad159 := (by injection e159)
                          replace p159 := eq_true p159
                          replace q159 := eq_true q159
                          go_wp2
                          repeat (go_quiet (fail); try go_wp2)
                          go_roundg k2
                          case measure => have := HK1.out; have := HK2.out; omega
                          case rel => exact ⟨(x6_2), (wrap64 (x7_2 + 1)), (by first | rfl | (simp; done) | (simp [*]; done) | (simp [less_total]; done)), (by first | rfl | (simp; done) | (simp [*]; done) | (simp [less_total]; done)), H', ⟨by have := HK1.out; have := HK2.out; omega⟩, by repeat (first | exact Drawn0.refl _ | apply Drawn0.step)⟩
                      · rw [if_neg c8] at H
                        exact absurd H (by simp)
                    · rw [if_neg c7] at H
                      exact absurd H (by simp)
                  · rw [if_neg c6] at H
                    exact absurd H (by simp)
              · rw [if_neg c4] at H
                have c4b0 : (x5_1 == 0) = false := beq_eq_false_iff_ne.mpr c4
                have c4b1 : (x5_1 != 0) = true := bne_iff_ne.mpr c4
                by_cases c10 : 0 ≤ x7_2
                · rw [if_pos c10] at H
                  have c10b0 : decide (0 ≤ x7_2) = true := decide_eq_true c10
                  clear c10
                  by_cases c11 : (Op.bytesLess x4_1.toList (((rd_T36 l0 x7_2).f0).toList)) = true
                  · rw [if_pos c11] at H
                    have c11b0 : (Op.bytesLess x4_1.toList (((rd_T36 l0 x7_2).f0).toList)) = true := c11
                    have c11s0 : (!(Op.bytesLess (((rd_T36 l0 x7_2).f0).toList) x4_1.toList) && !((((rd_T36 l0 x7_2).f0).toList) == x4_1.toList)) = true := by
                      have h_ := less_total (((rd_T36 l0 x7_2).f0).toList) x4_1.toList
                      have e_ : (!(Op.bytesLess (((rd_T36 l0 x7_2).f0).toList) x4_1.toList) && !((((rd_T36 l0 x7_2).f0).toList) == x4_1.toList)) = !(Op.bytesLess (((rd_T36 l0 x7_2).f0).toList) x4_1.toList || (((rd_T36 l0 x7_2).f0).toList) == x4_1.toList) := by simp [Bool.not_or]
                      rw [e_, h_, Bool.not_not]
                      exact c11b0
                    clear c11
                    by_cases c12 : x6_2 < 0
                    · rw [if_pos c12] at H
                      have c12b0 : decide (x6_2 < 0) = true := decide_eq_true c12
                      clear c12
                      have H' := Aside0.mk H
                      clear H
                      have p160 : 0 ≤ (x7_2 : Int) := of_decide_eq_true (by first | (with_reducible assumption) | assumption)
                      have q160 : x7_2 < (l0.length : Int) := of_decide_eq_true (by first | (with_reducible assumption) | assumption)
                      obtain ⟨ad160, e160, hx160_0, hx160_1⟩ := at_T36 HR0.out x7_2 p160 q160
                      cases e160
                      replace p160 := eq_true p160
                      replace q160 := eq_true q160
                      go_wp2
                      repeat (go_quiet (fail); try go_wp2)
                      go_roundg k2
                      case measure => have := HK1.out; have := HK2.out; omega
                      case rel => exact ⟨(x7_2), (wrap64 (x7_2 + 1)), (by first | rfl | (simp; done) | (simp [*]; done) | (simp [less_total]; done)), (by first | rfl | (simp; done) | (simp [*]; done) | (simp [less_total]; done)), H', ⟨by have := HK1.out; have := HK2.out; omega⟩, by repeat (first | exact Drawn0.refl _ | apply Drawn0.step)⟩
                    · rw [if_neg c12] at H
                      have c12b0 : decide (x6_2 < 0) = false := decide_eq_false c12
                      clear c12
                      by_cases c13 : 0 ≤ x6_2
                      · rw [if_pos c13] at H
                        have c13b0 : decide (0 ≤ x6_2) = true := decide_eq_true c13
                        clear c13
                        by_cases c14 : x6_2 < (l0.length : Int)
                        · rw [if_pos c14] at H
                          have c14b0 : decide (x6_2 < (l0.length : Int)) = true := decide_eq_true c14
                          clear c14
                          by_cases c15 : (Op.bytesLess (((rd_T36 l0 x7_2).f0).toList) (((rd_T36 l0 x6_2).f0).toList)) = true
                          · rw [if_pos c15] at H
                            have c15b0 : (Op.bytesLess (((rd_T36 l0 x7_2).f0).toList) (((rd_T36 l0 x6_2).f0).toList)) = true := c15
                            clear c15
                            have H' := Aside0.mk H
                            clear H
                            have p160 : 0 ≤ (x7_2 : Int) := of_decide_eq_true (by first | (with_reducible assumption) | assumption)
                            have q160 : x7_2 < (l0.length : Int) := of_decide_eq_true (by first | (with_reducible assumption) | assumption)
                            obtain ⟨ad160, e160, hx160_0, hx160_1⟩ := at_T36 HR0.out x7_2 p160 q160
                            cases e160
                            replace p160 := eq_true p160
                            replace q160 := eq_true q160
                            have p161 : 0 ≤ (x7_2 : Int) := of_decide_eq_true (by first | (with_reducible assumption) | assumption)
                            have q161 : x7_2 < (l0.length : Int) := of_decide_eq_true (by first | (with_reducible assumption) | assumption)
                            obtain ⟨ad161, e161, hx161_0, hx161_1⟩ := at_T36 HR0.out x7_2 p161 q161
                            obtain rfl : ad160 = ad161 := (by injection e161)
                            replace p161 := eq_true p161
                            replace q161 := eq_true q161
                            have p162 : 0 ≤ (x6_2 : Int) := of_decide_eq_true (by first | (with_reducible assumption) | assumption)
                            have q162 : x6_2 < (l0.length : Int) := of_decide_eq_true (by first | (with_reducible assumption) | assumption)
                            obtain ⟨ad162, e162, hx162_0, hx162_1⟩ := at_T36 HR0.out x6_2 p162 q162
                            obtain rfl : ad160 = ad162 := (by injection e162)
                            replace p162 := eq_true p162
                            replace q162 := eq_true q162
                            go_wp2
                            repeat (go_quiet (fail); try go_wp2)
                            go_roundg k2
                            case measure => have := HK1.out; have := HK2.out; omega
                            case rel => exact ⟨(x7_2), (wrap64 (x7_2 + 1)), (by first | rfl | (simp; done) | (simp [*]; done) | (simp [less_total]; done)), (by first | rfl | (simp; done) | (simp [*]; done) | (simp [less_total]; done)), H', ⟨by have := HK1.out; have := HK2.out; omega⟩, by repeat (first | exact Drawn0.refl _ | apply Drawn0.step)⟩
                          · rw [if_neg c15] at H
                            have c15b0 : (Op.bytesLess (((rd_T36 l0 x7_2).f0).toList) (((rd_T36 l0 x6_2).f0).toList)) = false := by simpa using c15
                            clear c15
                            have H' := Aside0.mk H
                            clear H
                            have p160 : 0 ≤ (x7_2 : Int) := of_decide_eq_true (by first | (with_reducible assumption) | assumption)
                            have q160 : x7_2 < (l0.length : Int) := of_decide_eq_true (by first | (with_reducible assumption) | assumption)
                            obtain ⟨ad160, e160, hx160_0, hx160_1⟩ := at_T36 HR0.out x7_2 p160 q160
                            cases e160
                            replace p160 := eq_true p160
                            replace q160 := eq_true q160
                            have p161 : 0 ≤ (x7_2 : Int) := of_decide_eq_true (by first | (with_reducible assumption) | assumption)
                            have q161 : x7_2 < (l0.length : Int) := of_decide_eq_true (by first | (with_reducible assumption) | assumption)
                            obtain ⟨ad161, e161, hx161_0, hx161_1⟩ := at_T36 HR0.out x7_2 p161 q161
                            obtain rfl : ad160 = ad161 := (by injection e161)
                            replace p161 := eq_true p161
                            replace q161 := eq_true q161
                            have p162 : 0 ≤ (x6_2 : Int) := of_decide_eq_true (by first | (with_reducible assumption) | assumption)
                            have q162 : x6_2 < (l0.length : Int) := of_decide_eq_true (by first | (with_reducible assumption) | assumption)
                            obtain ⟨ad162, e162, hx162_0, hx162_1⟩ := at_T36 HR0.out x6_2 p162 q162
                            obtain rfl : ad160 = ad162 := (by injection e162)
                            replace p162 := eq_true p162
                            replace q162 := eq_true q162
                            go_wp2
                            repeat (go_quiet (fail); try go_wp2)
                            go_roundg k2
                            case measure => have := HK1.out; have := HK2.out; omega
                            case rel => exact ⟨(x6_2), (wrap64 (x7_2 + 1)), (by first | rfl | (simp; done) | (simp [*]; done) | (simp [less_total]; done)), (by first | rfl | (simp; done) | (simp [*]; done) | (simp [less_total]; done)), H', ⟨by have := HK1.out; have := HK2.out; omega⟩, by repeat (first | exact Drawn0.refl _ | apply Drawn0.step)⟩
                        · rw [if_neg c14] at H
                          exact absurd H (by simp)
                      · rw [if_neg c13] at H
                        exact absurd H (by simp)
                  · rw [if_neg c11] at H
                    have c11b0 : (Op.bytesLess x4_1.toList (((rd_T36 l0 x7_2).f0).toList)) = false := by simpa using c11
                    have c11s0 : (!(Op.bytesLess (((rd_T36 l0 x7_2).f0).toList) x4_1.toList) && !((((rd_T36 l0 x7_2).f0).toList) == x4_1.toList)) = false := by
                      have h_ := less_total (((rd_T36 l0 x7_2).f0).toList) x4_1.toList
                      have e_ : (!(Op.bytesLess (((rd_T36 l0 x7_2).f0).toList) x4_1.toList) && !((((rd_T36 l0 x7_2).f0).toList) == x4_1.toList)) = !(Op.bytesLess (((rd_T36 l0 x7_2).f0).toList) x4_1.toList || (((rd_T36 l0 x7_2).f0).toList) == x4_1.toList) := by simp [Bool.not_or]
                      rw [e_, h_, Bool.not_not]
                      exact c11b0
                    clear c11
                    have H' := Aside0.mk H
                    clear H
                    have p160 : 0 ≤ (x7_2 : Int) := of_decide_eq_true (by first | (with_reducible assumption) | assumption)
                    have q160 : x7_2 < (l0.length : Int) := of_decide_eq_true (by first | (with_reducible assumption) | assumption)
                    obtain ⟨ad160, e160, hx160_0, hx160_1⟩ := at_T36 HR0.out x7_2 p160 q160
                    cases e160
                    replace p160 := eq_true p160
                    replace q160 := eq_true q160
                    go_wp2
                    repeat (go_quiet (fail); try go_wp2)
                    go_roundg k2
                    case measure => have := HK1.out; have := HK2.out; omega
                    case rel => exact ⟨(x6_2), (wrap64 (x7_2 + 1)), (by first | rfl | (simp; done) | (simp [*]; done) | (simp [less_total]; done)), (by first | rfl | (simp; done) | (simp [*]; done) | (simp [less_total]; done)), H', ⟨by have := HK1.out; have := HK2.out; omega⟩, by repeat (first | exact Drawn0.refl _ | apply Drawn0.step)⟩
                · rw [if_neg c10] at H
                  exact absurd H (by simp)
            · rw [if_neg c3] at H
              have c3b0 : decide (x7_2 < (l0.length : Int)) = false := decide_eq_false c3
              clear c3
              by_cases c16 : x6_2 < 0
              · rw [if_pos c16] at H
                have c16b0 : decide (x6_2 < 0) = true := decide_eq_true c16
                clear c16
                obtain rfl := Option.some.inj H
                go_wp2
                repeat (go_quiet (fail); try go_wp2)
                go_ret
                exact ⟨by first | rfl | (simp; done) | (simp [*]; done) | (simp [less_total]; done), by repeat (first | exact Drawn0.refl _ | apply Drawn0.step)⟩
              · rw [if_neg c16] at H
                have c16b0 : decide (x6_2 < 0) = false := decide_eq_false c16
                clear c16
                by_cases c17 : x5_1 > 0
                · rw [if_pos c17] at H
                  have c17b0 : decide (0 < x5_1) = true := decide_eq_true c17
                  clear c17
                  by_cases c18 : x3_1.size + 1 ≤ 9223372036854775807
                  · rw [if_pos c18] at H
                    have c18b0 := eq_true c18
                    have c18b1 : decide (x3_1.size + 1 ≤ 9223372036854775807) = true := decide_eq_true c18
                    try have c18b2 : (9223372036854775807 < x3_1.size + 1) = False := eq_false (Nat.not_lt.2 c18)
                    by_cases c19 : 0 ≤ x6_2
                    · rw [if_pos c19] at H
                      have c19b0 : decide (0 ≤ x6_2) = true := decide_eq_true c19
                      clear c19
                      by_cases c20 : x6_2 < (l0.length : Int)
                      · rw [if_pos c20] at H
                        have c20b0 : decide (x6_2 < (l0.length : Int)) = true := decide_eq_true c20
                        clear c20
                        by_cases c21 : x3_1.size + 1 + ((rd_T36 l0 x6_2).f0).size ≤ 9223372036854775807
                        · rw [if_pos c21] at H
                          have c21b0 := eq_true c21
                          have c21b1 : decide (x3_1.size + 1 + ((rd_T36 l0 x6_2).f0).size ≤ 9223372036854775807) = true := decide_eq_true c21
                          try have c21b2 : (9223372036854775807 < x3_1.size + 1 + ((rd_T36 l0 x6_2).f0).size) = False := eq_false (Nat.not_lt.2 c21)
                          by_cases c22 : x3_1.size + 1 + ((rd_T36 l0 x6_2).f0).size + 1 ≤ 9223372036854775807
                          · rw [if_pos c22] at H
                            have c22b0 := eq_true c22
                            have c22b1 : decide (x3_1.size + 1 + ((rd_T36 l0 x6_2).f0).size + 1 ≤ 9223372036854775807) = true := decide_eq_true c22
                            try have c22b2 : (9223372036854775807 < x3_1.size + 1 + ((rd_T36 l0 x6_2).f0).size + 1) = False := eq_false (Nat.not_lt.2 c22)
                            by_cases c23 : x3_1.size + 1 + ((rd_T36 l0 x6_2).f0).size + 1 + ((rd_T36 l0 x6_2).f1).size ≤ 9223372036854775807
                            · rw [if_pos c23] at H
                              have c23b0 := eq_true c23
                              have c23b1 : decide (x3_1.size + 1 + ((rd_T36 l0 x6_2).f0).size + 1 + ((rd_T36 l0 x6_2).f1).size ≤ 9223372036854775807) = true := decide_eq_true c23
                              try have c23b2 : (9223372036854775807 < x3_1.size + 1 + ((rd_T36 l0 x6_2).f0).size + 1 + ((rd_T36 l0 x6_2).f1).size) = False := eq_false (Nat.not_lt.2 c23)
                              have H' := Aside0.mk H
                              clear H
                              have p163 : 0 ≤ (x6_2 : Int) := of_decide_eq_true (by first | (with_reducible assumption) | assumption)
                              have q163 : x6_2 < (l0.length : Int) := of_decide_eq_true (by first | (with_reducible assumption) | assumption)
                              obtain ⟨ad163, e163, hx163_0, hx163_1⟩ := at_T36 HR0.out x6_2 p163 q163
                              cases e163
                              replace p163 := eq_true p163
                              replace q163 := eq_true q163
                              have p164 : 0 ≤ (x6_2 : Int) := of_decide_eq_true (by first | (with_reducible assumption) | assumption)
                              have q164 : x6_2 < (l0.length : Int) := of_decide_eq_true (by first | (with_reducible assumption) | assumption)
                              obtain ⟨ad164, e164, hx164_0, hx164_1⟩ := at_T36 HR0.out x6_2 p164 q164
                              obtain rfl : ad163 = ad164 := (by injection e164)
                              replace p164 := eq_true p164
                              replace q164 := eq_true q164
                              have p165 : 0 ≤ (x6_2 : Int) := of_decide_eq_true (by first | (with_reducible assumption) | assumption)
                              have q165 : x6_2 < (l0.length : Int) := of_decide_eq_true (by first | (with_reducible assumption) | assumption)
                              obtain ⟨ad165, e165, hx165_0, hx165_1⟩ := at_T36 HR0.out x6_2 p165 q165
                              obtain rfl : ad163 = ad165 := (by injection e165)
                              replace p165 := eq_true p165
                              replace q165 := eq_true q165
                              go_wp2
                              repeat (go_quiet (fail); try go_wp2)
                              go_roundg k2
                              case measure => have := HK1.out; have := HK2.out; omega
                              case rel => exact ⟨((((x3_1 ++ (⟨#[38]⟩ : ByteArray)) ++ ((rd_T36 l0 x6_2).f0)) ++ (⟨#[61]⟩ : ByteArray)) ++ ((rd_T36 l0 x6_2).f1)), ((rd_T36 l0 x6_2).f0), (wrap64 (x5_1 + 1)), (by first | rfl | (simp; done) | (simp [*]; done) | (simp [less_total]; done)), (by first | rfl | (simp; done) | (simp [*]; done) | (simp [less_total]; done)), (by first | rfl | (simp; done) | (simp [*]; done) | (simp [less_total]; done)), H', ⟨by have := HK1.out; have := HK2.out; omega⟩, by repeat (first | exact Drawn0.refl _ | apply Drawn0.step)⟩
                            · rw [if_neg c23] at H
                              exact absurd H (by simp)
                          · rw [if_neg c22] at H
                            exact absurd H (by simp)
                        · rw [if_neg c21] at H
                          exact absurd H (by simp)
                      · rw [if_neg c20] at H
                        exact absurd H (by simp)
                    · rw [if_neg c19] at H
                      exact absurd H (by simp)
                  · rw [if_neg c18] at H
                    exact absurd H (by simp)
                · rw [if_neg c17] at H
                  have c17b0 : decide (0 < x5_1) = false := decide_eq_false c17
                  clear c17
                  by_cases c24 : 0 ≤ x6_2
                  · rw [if_pos c24] at H
                    have c24b0 : decide (0 ≤ x6_2) = true := decide_eq_true c24
                    clear c24
                    by_cases c25 : x6_2 < (l0.length : Int)
                    · rw [if_pos c25] at H
                      have c25b0 : decide (x6_2 < (l0.length : Int)) = true := decide_eq_true c25
                      clear c25
                      by_cases c26 : x3_1.size + ((rd_T36 l0 x6_2).f0).size ≤ 9223372036854775807
                      · rw [if_pos c26] at H
                        have c26b0 := eq_true c26
                        have c26b1 : decide (x3_1.size + ((rd_T36 l0 x6_2).f0).size ≤ 9223372036854775807) = true := decide_eq_true c26
                        try have c26b2 : (9223372036854775807 < x3_1.size + ((rd_T36 l0 x6_2).f0).size) = False := eq_false (Nat.not_lt.2 c26)
                        by_cases c27 : x3_1.size + ((rd_T36 l0 x6_2).f0).size + 1 ≤ 9223372036854775807
                        · rw [if_pos c27] at H
                          have c27b0 := eq_true c27
                          have c27b1 : decide (x3_1.size + ((rd_T36 l0 x6_2).f0).size + 1 ≤ 9223372036854775807) = true := decide_eq_true c27
                          try have c27b2 : (9223372036854775807 < x3_1.size + ((rd_T36 l0 x6_2).f0).size + 1) = False := eq_false (Nat.not_lt.2 c27)
                          by_cases c28 : x3_1.size + ((rd_T36 l0 x6_2).f0).size + 1 + ((rd_T36 l0 x6_2).f1).size ≤ 9223372036854775807
                          · rw [if_pos c28] at H
                            have c28b0 := eq_true c28
                            have c28b1 : decide (x3_1.size + ((rd_T36 l0 x6_2).f0).size + 1 + ((rd_T36 l0 x6_2).f1).size ≤ 9223372036854775807) = true := decide_eq_true c28
                            try have c28b2 : (9223372036854775807 < x3_1.size + ((rd_T36 l0 x6_2).f0).size + 1 + ((rd_T36 l0 x6_2).f1).size) = False := eq_false (Nat.not_lt.2 c28)
                            have H' := Aside0.mk H
                            clear H
                            have p166 : 0 ≤ (x6_2 : Int) := of_decide_eq_true (by first | (with_reducible assumption) | assumption)
                            have q166 : x6_2 < (l0.length : Int) := of_decide_eq_true (by first | (with_reducible assumption) | assumption)
                            obtain ⟨ad166, e166, hx166_0, hx166_1⟩ := at_T36 HR0.out x6_2 p166 q166
                            cases e166
                            replace p166 := eq_true p166
                            replace q166 := eq_true q166
                            have p167 : 0 ≤ (x6_2 : Int) := of_decide_eq_true (by first | (with_reducible assumption) | assumption)
                            have q167 : x6_2 < (l0.length : Int) := of_decide_eq_true (by first | (with_reducible assumption) | assumption)
                            obtain ⟨ad167, e167, hx167_0, hx167_1⟩ := at_T36 HR0.out x6_2 p167 q167
                            obtain rfl : ad166 = ad167 := (by injection e167)
                            replace p167 := eq_true p167
                            replace q167 := eq_true q167
                            have p168 : 0 ≤ (x6_2 : Int) := of_decide_eq_true (by first | (with_reducible assumption) | assumption)
                            have q168 : x6_2 < (l0.length : Int) := of_decide_eq_true (by first | (with_reducible assumption) | assumption)
                            obtain ⟨ad168, e168, hx168_0, hx168_1⟩ := at_T36 HR0.out x6_2 p168 q168
                            obtain rfl : ad166 = ad168 := (by injection e168)
                            replace p168 := eq_true p168
                            replace q168 := eq_true q168
                            go_wp2
                            repeat (go_quiet (fail); try go_wp2)
                            go_roundg k2
                            case measure => have := HK1.out; have := HK2.out; omega
                            case rel => exact ⟨(((x3_1 ++ ((rd_T36 l0 x6_2).f0)) ++ (⟨#[61]⟩ : ByteArray)) ++ ((rd_T36 l0 x6_2).f1)), ((rd_T36 l0 x6_2).f0), (wrap64 (x5_1 + 1)), (by first | rfl | (simp; done) | (simp [*]; done) | (simp [less_total]; done)), (by first | rfl | (simp; done) | (simp [*]; done) | (simp [less_total]; done)), (by first | rfl | (simp; done) | (simp [*]; done) | (simp [less_total]; done)), H', ⟨by have := HK1.out; have := HK2.out; omega⟩, by repeat (first | exact Drawn0.refl _ | apply Drawn0.step)⟩
                          · rw [if_neg c28] at H
                            exact absurd H (by simp)
                        · rw [if_neg c27] at H
                          exact absurd H (by simp)
                      · rw [if_neg c26] at H
                        exact absurd H (by simp)
                    · rw [if_neg c25] at H
                      exact absurd H (by simp)
                  · rw [if_neg c24] at H
                    exact absurd H (by simp)
      · rw [if_neg c2] at H
        have c2b0 : decide (x5_1 < (l0.length : Int)) = false := decide_eq_false c2
        clear c2
        obtain rfl := Option.some.inj H
        go_wp2
        repeat (go_quiet (fail); try go_wp2)
        go_ret
        exact ⟨by first | rfl | (simp; done) | (simp [*]; done) | (simp [less_total]; done), by repeat (first | exact Drawn0.refl _ | apply Drawn0.step)⟩

end Go.Proofs.YtefmoefiamjmpaaDoor.QPairsGets
