/- Walks of the program's functions that a statement of this seat reaches: each comes to what its plain Lean function beside it tells; no condition beside those in each theorem. -/
import Derived.Test.YtllhmnohmdgblaaQFeedDoesx0
import Derived.Test.YtllhmnohmdgblaaQFeedDoesx1
import Derived.Test.YtllhmnohmdgblaaQFeedDoesx2
import Derived.Test.YtllhmnohmdgblaaQFeedDoesx3
import Derived.Test.YtllhmnohmdgblaaQFeedDoesx4
namespace Go.Proofs.Ytllhmnohmdgblaa.QFeedDoes
open Go.RowKit Go.Proofs.YtllhmnohmdgblaaW.PrintWords Go.Proofs.YtllhmnohmdgblaaW.PrintLast Go.Proofs.YtllhmnohmdgblaaW.PrintMore
attribute [local go_sem] max2_int min2_int max_two min_two max_three min_three max_four min_four   -- for this text's walks alone
set_option linter.unusedVariables false
set_option linter.unusedSimpArgs false

attribute [local go_sem high] eqA39
set_option maxHeartbeats 8000000 in
set_option maxRecDepth 100000 in
theorem deedboxlaw39_FeedDoes.calls (k : Nat) (a0 : Int) (A1 : Option Addr) (c1 : Nat) (l1 : List (S36)) (r : Bool) (w : World) (hr1 : Kd.C k36 w A1 l1.length l1) (hc1 : l1.length ≤ c1) (h : deedboxlaw39_FeedDoes.f k a0 l1 = some r) :
    Calls Try.prog 3 #[.int .i64 a0, .slice A1 l1.length c1] w fun e w' => e = .returned (.bool r) ∧ Below w.heap.size w w' := by
  have hu30 := Try.underlying30
  have hu34 := Try.underlying34
  have hu39 := Try.underlying39
  have HR1 := Aside0.mk hr1
  have HC1 := Aside0.mk hc1
  clear hr1 hc1
  have HB := Aside0.mk (Below.refl w.heap.size w)
  have H : (if (l1.length : Int) > 200 then ((deedboxlaw39_works.f k).bind fun t192 => (some t192)) else (if 0 ≤ a0 then (if a0 ≤ 64 then ((feed_NewOk.f a0).bind fun bt193 => ((deedboxref39_New.f a0).bind fun bt198 => (if 0 = bt198.2.2.2.2 then (deedboxlaw39_FeedDoes.j0 k l1 bt198.2.2.2.2 (false != (bt198.2.2.2.2 != 0)) bt193.1 bt193.2.1 bt193.2.2.1 bt193.2.2.2 bt198.1 bt198.2.1 bt198.2.2.1 bt198.2.2.2.1) else (deedboxlaw39_FeedDoes.j0 k l1 bt198.2.2.2.2 true bt193.1 bt193.2.1 bt193.2.2.1 bt193.2.2.2 bt198.1 bt198.2.1 bt198.2.2.1 bt198.2.2.2.1)))) else (none)) else (none))) = some r := h
  clear h
  by_cases c3 : (l1.length : Int) > 200
  · rw [if_pos c3] at H
    have c3b0 : decide (200 < (l1.length : Int)) = true := decide_eq_true c3
    have c3b1 : decide (200 < l1.length) = true := decide_eq_true (by omega)
    clear c3
    replace H := Option.bind_eq_some_iff.mp H
    obtain ⟨t192, A40, H⟩ := H
    replace H : (some t192) = some r := H
    have A4 := Aside0.mk A40
    clear A40
    obtain rfl := Option.some.inj H
    go_enter Try.func3, Try.ntmps3
    go_wp2_with (first | ((with_reducible refine gate_callee (f := 8) rfl ?_); refine goesL_ (some 20) rfl rfl Try.func8 (by kernel_rfl) rfl #[] rfl (by (try simp only [List.map_toArray, List.map_cons, List.map_nil]); first | done | rfl | (simp only [List.length_drop, List.length_take]; rfl)) ?_; (with_reducible refine (deedboxlaw39_works.calls k  t192 _ A4.out).mono ?_); rintro e w5 ⟨rfl, hb⟩; refine ⟨_, rfl, ?_⟩; have n0_ := Aside0.mk (below_step (by repeat (first | (with_reducible first | exact HB.out | apply below_alloc | apply pw_below_drewN | apply below_drew1) | exact HB.out)) hb); clear HB; have HB := n0_; clear n0_; (try clear hb); (try clear hb2); (try clear hk); (try clear hi)))
    go_ret
    exact ⟨by first | rfl | (simp [errW_none, errW_some] <;> rfl) | (simp [*, errW_none, errW_some] <;> rfl), by repeat (first | (with_reducible first | exact HB.out | apply below_alloc | apply pw_below_drewN | apply below_drew1) | exact HB.out)⟩
  · rw [if_neg c3] at H
    have c3b0 : decide (200 < (l1.length : Int)) = false := decide_eq_false c3
    have c3b1 : decide (200 < l1.length) = false := decide_eq_false (by omega)
    clear c3
    by_cases c6 : 0 ≤ a0
    · rw [if_pos c6] at H
      have c6b0 : decide (0 ≤ a0) = true := decide_eq_true c6
      clear c6
      by_cases c7 : a0 ≤ 64
      · rw [if_pos c7] at H
        have c7b0 : decide (a0 ≤ 64) = true := decide_eq_true c7
        clear c7
        replace H := Option.bind_eq_some_iff.mp H
        obtain ⟨⟨t193, t194, t195, t196⟩, A80, H⟩ := H
        replace H : ((deedboxref39_New.f a0).bind fun bt198 => (if 0 = bt198.2.2.2.2 then (deedboxlaw39_FeedDoes.j0 k l1 bt198.2.2.2.2 (false != (bt198.2.2.2.2 != 0)) t193 t194 t195 t196 bt198.1 bt198.2.1 bt198.2.2.1 bt198.2.2.2.1) else (deedboxlaw39_FeedDoes.j0 k l1 bt198.2.2.2.2 true t193 t194 t195 t196 bt198.1 bt198.2.1 bt198.2.2.1 bt198.2.2.2.1))) = some r := H
        have A8 := Aside0.mk A80
        clear A80
        replace H := Option.bind_eq_some_iff.mp H
        obtain ⟨⟨t198, t199, t202, t203, t204⟩, A90, H⟩ := H
        replace H : (if 0 = t204 then (deedboxlaw39_FeedDoes.j0 k l1 t204 (false != (t204 != 0)) t193 t194 t195 t196 t198 t199 t202 t203) else (deedboxlaw39_FeedDoes.j0 k l1 t204 true t193 t194 t195 t196 t198 t199 t202 t203)) = some r := H
        have A9 := Aside0.mk A90
        clear A90
        have HC10 := Aside0.mk H
        clear H
        go_enter Try.func3, Try.ntmps3
        go_upto_region 5 with (first | ((with_reducible refine gate_callee (f := 9) rfl ?_); refine goesL_ (some 23) rfl rfl Try.func9 (by kernel_rfl) rfl #[.int .i64 a0] rfl (by (try simp only [List.map_toArray, List.map_cons, List.map_nil]); first | done | rfl | (simp only [List.length_drop, List.length_take]; rfl)) ?_; (with_reducible refine (feed_NewOk.calls a0 t193 t194 t195 t196 w _ ?side1 A8.out).mono ?_); (case side1 => repeat (first | (with_reducible first | exact HB.out | apply below_alloc | apply pw_below_drewN | apply below_drew1) | exact HB.out)); rintro e w11 ⟨g197, rfl, hi, hb, hb2⟩; refine ⟨_, rfl, ?_⟩; have n0_ := Aside0.mk (hb); have n1_ := Aside0.mk (hi); clear HB; have HB := n0_; have HI197 := n1_; clear n0_ n1_; (try clear hb); (try clear hb2); (try clear hk); (try clear hi)) | ((with_reducible refine gate_callee (f := 10) rfl ?_); refine goesL_ (some 28) rfl rfl Try.func10 (by kernel_rfl) rfl #[.int .i64 a0] rfl (by (try simp only [List.map_toArray, List.map_cons, List.map_nil]); first | done | rfl | (simp only [List.length_drop, List.length_take]; rfl)) ?_; (with_reducible refine (deedboxref39_New.calls a0 t198 t199 t202 t203 t204 _ A9.out).mono ?_); rintro e w12 ⟨v200, rfl, ho0, hb⟩; refine ⟨_, rfl, ?_⟩; have n0_ := Aside0.mk (Kd.R_lower ho0 (below_size (by repeat (first | (with_reducible first | exact HB.out | apply below_alloc | apply pw_below_drewN | apply below_drew1 | refine below_set ?_ (IsS71.ge HI197.out)) | exact HB.out)))); have n1_ := Aside0.mk (IsS71.below (by repeat (first | (with_reducible first | exact HI197.out | apply IsS71.alloc | apply IsS71.drewN | apply IsS71.drew | apply IsS71.set_0 | apply IsS71.set_1 | apply IsS71.set_2 | apply IsS71.set_3) | exact HI197.out)) hb); have n2_ := Aside0.mk (below_step (by repeat (first | (with_reducible first | exact HB.out | apply below_alloc | apply pw_below_drewN | apply below_drew1 | refine below_set ?_ (IsS71.ge HI197.out)) | exact HB.out)) hb); clear HI197; clear HB; have HO201 := n0_; have HI197 := n1_; have HB := n2_; clear n0_ n1_ n2_; (try clear hb); (try clear hb2); (try clear hk); (try clear hi); (try clear ho0)) | ((with_reducible refine gate_dst (N := 7) rfl ?_); (try (refine gate_guard (by rfl) ?_; dsimp only)); refine box_event ?hg (N := 7) ?hd (cs := #[.int .i64 0, .slice none 0 0, .int .i64 0, .int .i64 0]) (t := 30) ?hr ?_; (case hd => rfl); (case hg => rfl); (case hr => first | (go_simp; done) | (go_simp; rfl)); intro gb205 hg w13 hbox hb; have n0_ := Aside0.mk (Kd.R_below (by (with_reducible repeat (first | apply Kd.R_alloc | apply Kd.R_drewN | apply Kd.R_drew)); exact HO201.out) hb); have n1_ := Aside0.mk (IsS71.below (by repeat (first | (with_reducible first | exact HI197.out | apply IsS71.alloc | apply IsS71.drewN | apply IsS71.drew | apply IsS71.set_0 | apply IsS71.set_1 | apply IsS71.set_2 | apply IsS71.set_3) | exact HI197.out)) hb); have n2_ := Aside0.mk (below_step (by repeat (first | (with_reducible first | exact HB.out | apply below_alloc | apply pw_below_drewN | apply below_drew1 | refine below_set ?_ (IsS71.ge HI197.out)) | exact HB.out)) hb); have n3_ := Aside0.mk (hbox); have n4_ := Aside0.mk ((by rw [hg]; exact (below_size (by repeat (first | (with_reducible first | exact HB.out | apply below_alloc | apply pw_below_drewN | apply below_drew1 | refine below_set ?_ (IsS71.ge HI197.out)) | exact HB.out))) : w.heap.size ≤ gb205)); have n5_ := Aside0.mk ((by rw [hg]; exact (below_size (by repeat (first | (with_reducible first | exact HB.out | apply below_alloc | apply pw_below_drewN | apply below_drew1 | refine below_set ?_ (IsS71.ge HI197.out)) | exact HB.out))) : w.heap.size ≤ gb205)); have n6_ := Aside0.mk ((by rw [hg]; exact Nat.ne_of_lt (IsS71.lt (show IsS71 w _ g197 t193 t194 t195 t196 from by repeat (first | (with_reducible first | exact HI197.out | apply IsS71.alloc | apply IsS71.drewN | apply IsS71.drew | apply IsS71.set_0 | apply IsS71.set_1 | apply IsS71.set_2 | apply IsS71.set_3) | exact HI197.out))) : g197 ≠ gb205)); have n7_ := Aside0.mk ((by rw [hg]; exact Nat.ne_of_gt (IsS71.lt (show IsS71 w _ g197 t193 t194 t195 t196 from by repeat (first | (with_reducible first | exact HI197.out | apply IsS71.alloc | apply IsS71.drewN | apply IsS71.drew | apply IsS71.set_0 | apply IsS71.set_1 | apply IsS71.set_2 | apply IsS71.set_3) | exact HI197.out))) : gb205 ≠ g197)); clear HO201; clear HI197; clear HB; have HO201 := n0_; have HI197 := n1_; have HB := n2_; have BK205 := n3_; have GW205 := n4_; have GE205 := n5_; have NB197_205 := n6_; have NB205_197 := n7_; clear n0_ n1_ n2_ n3_ n4_ n5_ n6_ n7_; clear hb hbox hg; have hnb14 := NB205_197.out; have hnc14 := NB197_205.out; have hcz15_0 : w13.cell? ⟨gb205, 0, none⟩ = some (.int .i64 0) := (blk_cell BK205.out 0).trans rfl; have hcz15_1 : w13.cell? ⟨gb205, 1, none⟩ = some (.slice none 0 0) := (blk_cell BK205.out 1).trans rfl; have hcz15_2 : w13.cell? ⟨gb205, 2, none⟩ = some (.int .i64 0) := (blk_cell BK205.out 2).trans rfl; have hcz15_3 : w13.cell? ⟨gb205, 3, none⟩ = some (.int .i64 0) := (blk_cell BK205.out 3).trans rfl; have hfz15_0 := blk_frozen BK205.out 0; have hfz15_1 := blk_frozen BK205.out 1; have hfz15_2 := blk_frozen BK205.out 2; have hfz15_3 := blk_frozen BK205.out 3; obtain ⟨Ao16, co16, eo16⟩ := Kd.R_slice HO201.out; subst eo16))
        (try simp only [Act.put, List.setIfInBounds_toArray, List.set_cons_zero, List.set_cons_succ])
        go_cut [40] (fun v40 wc => ∃ (kq : Nat) (x40_9 : Bool), v40 = .bool x40_9 ∧ Aside0 (deedboxlaw39_FeedDoes.j0 kq l1 t204 x40_9 t193 t194 t195 t196 t198 t199 t202 t203 = some r) ∧ Aside0 (kq ≤ k) ∧ Aside0 (Kd.R k34 34 wc w.heap.size (fun _ => True) (.slice Ao16 t199.length co16) t199) ∧ Aside0 (wc.heap[gb205]? = some (.cells #[.int .i64 t198, (.slice Ao16 t199.length co16), .int .i64 t202, .int .i64 t203] 30 (0, 0))) ∧ Aside0 (IsS71 w wc g197 t193 t194 t195 t196) ∧ Aside0 (Below w.heap.size w wc))
        case first =>
          have H := HC10.out
          clear HC10
          by_cases c17 : 0 = t204
          · rw [if_pos c17] at H
            have c17b0 : (0 == t204) = true := beq_iff_eq.mpr c17
            have c17b1 : (0 != t204) = false := bne_eq_false_iff_eq.mpr c17
            clear c17
            (first | rw [c17b0] | (simp only [i64_w, i32_w]; rw [c17b0]) | skip)
            have H' := Aside0.mk H
            clear H
            go_wp2
            go_meet
            case rel => exact ⟨_, ((false != (t204 != 0))), (by first | rfl | (simp; done) | (simp [*]; done)), H', ⟨by first | omega | exact Nat.le_refl _⟩, ⟨by (with_reducible repeat (first | apply Kd.R_alloc | apply Kd.R_drewN | apply Kd.R_drew)); exact Kd.R_mono (Kd.R_far (p := ⟨gb205, 3, none⟩) (Kd.R_far (p := ⟨gb205, 2, none⟩) (Kd.R_far (p := ⟨gb205, 1, none⟩) (Kd.R_far (p := ⟨gb205, 0, none⟩) (Kd.R_types HO201.out BK205.out (by decide)) (fun _ hk => hk.2) (.int .i64 t198)) (fun _ hk => hk.2) (.slice Ao16 t199.length co16)) (fun _ hk => hk.2) (.int .i64 t202)) (fun _ hk => hk.2) (.int .i64 t203)) (fun _ hk => trivial)⟩, ⟨by (with_reducible repeat (first | refine blk_drewN ?_ _ | refine blk_drew ?_ | refine blk_alloc ?_ _)); refine blk_put (cs := #[.int .i64 t198, .slice Ao16 t199.length co16, .int .i64 t202, .int .i64 0]) ?_ 3 _ rfl; (with_reducible repeat (first | refine blk_drewN ?_ _ | refine blk_drew ?_ | refine blk_alloc ?_ _)); refine blk_put (cs := #[.int .i64 t198, .slice Ao16 t199.length co16, .int .i64 0, .int .i64 0]) ?_ 2 _ rfl; (with_reducible repeat (first | refine blk_drewN ?_ _ | refine blk_drew ?_ | refine blk_alloc ?_ _)); refine blk_put (cs := #[.int .i64 t198, .slice none 0 0, .int .i64 0, .int .i64 0]) ?_ 1 _ rfl; (with_reducible repeat (first | refine blk_drewN ?_ _ | refine blk_drew ?_ | refine blk_alloc ?_ _)); refine blk_put (cs := #[.int .i64 0, .slice none 0 0, .int .i64 0, .int .i64 0]) ?_ 0 _ rfl; (with_reducible repeat (first | refine blk_drewN ?_ _ | refine blk_drew ?_ | refine blk_alloc ?_ _)); exact BK205.out⟩, ⟨by repeat (first | (with_reducible first | exact HI197.out | apply IsS71.alloc | apply IsS71.drewN | apply IsS71.drew | apply IsS71.set_0 | apply IsS71.set_1 | apply IsS71.set_2 | apply IsS71.set_3 | refine IsS71.far ?_ NB197_205.out _) | exact HI197.out)⟩, ⟨by repeat (first | (with_reducible first | exact HB.out | apply below_alloc | apply pw_below_drewN | apply below_drew1 | refine below_set ?_ (IsS71.ge HI197.out) | refine below_set ?_ GE205.out) | exact HB.out)⟩⟩
          · rw [if_neg c17] at H
            have c17b0 : (0 == t204) = false := beq_eq_false_iff_ne.mpr c17
            have c17b1 : (0 != t204) = true := bne_iff_ne.mpr c17
            (first | rw [c17b0] | (simp only [i64_w, i32_w]; rw [c17b0]) | skip)
            have H' := Aside0.mk H
            clear H
            go_wp2
            go_meet
            case rel => exact ⟨_, (true), (by first | rfl | (simp; done) | (simp [*]; done)), H', ⟨by first | omega | exact Nat.le_refl _⟩, ⟨by (with_reducible repeat (first | apply Kd.R_alloc | apply Kd.R_drewN | apply Kd.R_drew)); exact Kd.R_mono (Kd.R_far (p := ⟨gb205, 3, none⟩) (Kd.R_far (p := ⟨gb205, 2, none⟩) (Kd.R_far (p := ⟨gb205, 1, none⟩) (Kd.R_far (p := ⟨gb205, 0, none⟩) (Kd.R_types HO201.out BK205.out (by decide)) (fun _ hk => hk.2) (.int .i64 t198)) (fun _ hk => hk.2) (.slice Ao16 t199.length co16)) (fun _ hk => hk.2) (.int .i64 t202)) (fun _ hk => hk.2) (.int .i64 t203)) (fun _ hk => trivial)⟩, ⟨by (with_reducible repeat (first | refine blk_drewN ?_ _ | refine blk_drew ?_ | refine blk_alloc ?_ _)); refine blk_put (cs := #[.int .i64 t198, .slice Ao16 t199.length co16, .int .i64 t202, .int .i64 0]) ?_ 3 _ rfl; (with_reducible repeat (first | refine blk_drewN ?_ _ | refine blk_drew ?_ | refine blk_alloc ?_ _)); refine blk_put (cs := #[.int .i64 t198, .slice Ao16 t199.length co16, .int .i64 0, .int .i64 0]) ?_ 2 _ rfl; (with_reducible repeat (first | refine blk_drewN ?_ _ | refine blk_drew ?_ | refine blk_alloc ?_ _)); refine blk_put (cs := #[.int .i64 t198, .slice none 0 0, .int .i64 0, .int .i64 0]) ?_ 1 _ rfl; (with_reducible repeat (first | refine blk_drewN ?_ _ | refine blk_drew ?_ | refine blk_alloc ?_ _)); refine blk_put (cs := #[.int .i64 0, .slice none 0 0, .int .i64 0, .int .i64 0]) ?_ 0 _ rfl; (with_reducible repeat (first | refine blk_drewN ?_ _ | refine blk_drew ?_ | refine blk_alloc ?_ _)); exact BK205.out⟩, ⟨by repeat (first | (with_reducible first | exact HI197.out | apply IsS71.alloc | apply IsS71.drewN | apply IsS71.drew | apply IsS71.set_0 | apply IsS71.set_1 | apply IsS71.set_2 | apply IsS71.set_3 | refine IsS71.far ?_ NB197_205.out _) | exact HI197.out)⟩, ⟨by repeat (first | (with_reducible first | exact HB.out | apply below_alloc | apply pw_below_drewN | apply below_drew1 | refine below_set ?_ (IsS71.ge HI197.out) | refine below_set ?_ GE205.out) | exact HB.out)⟩⟩
        case rest =>
          clear HC10
          try clear c1
          try clear p2
          try clear c3
          try clear c3b0
          try clear c3b1
          try clear c6
          try clear c6b0
          try clear c7
          try clear c7b0
          try clear c8
          try clear c9
          try clear c10
          try clear c14
          try clear c17
          try clear c17b0
          try clear c17b1
          try clear hcz15_0
          try clear hcz15_1
          try clear hcz15_2
          try clear hcz15_3
          try clear hfz15_0
          try clear hfz15_1
          try clear hfz15_2
          try clear hfz15_3
          obtain ⟨kq, x40_9, rfl, HA, HJ9, HO_206001, BK205, HI197, HB⟩ := hcut
          cases kq with
          | zero => exact absurd HA.out (by simp [deedboxlaw39_FeedDoes.j0])
          | succ kj9 =>
            have H := HA.out
            clear HA
            simp only [deedboxlaw39_FeedDoes.j0] at H
            by_cases c18 : x40_9 = true
            · subst c18
              have H1 : (none) = some r := by rw [if_pos rfl] at H; exact H
              clear H
              have H := H1
              clear H1
              exact absurd H (by simp)
            · replace c18 := Bool.eq_false_iff.mpr c18
              subst c18
              have H1 : (deedboxlaw39_FeedDoes.l0 kj9 l1 t204 0 t193 t194 t195 t196 t198 t199 t202 t203) = some r := by rw [if_neg (show ¬ (false = true) by decide)] at H; exact H
              clear H
              have H := H1
              clear H1
              have H' := Aside0.mk H
              clear H
              go_wp2
              go_loopg [9] kj9 (fun kq v9 w' => ∃ (x9_2 : Int) (x198000_2 : Int) (x198001_2 : List FNews) (x198002_2 : Int) (x198003_2 : Int) (x206000_2 : Int) (x206001_2 : List (S34)) (x206002_2 : Int) (x206003_2 : Int) (u206001 : Value), v9 = .int .i64 x9_2 ∧ Aside0 (deedboxlaw39_FeedDoes.l0 kq l1 t204 x9_2 x198000_2 x198001_2 x198002_2 x198003_2 x206000_2 x206001_2 x206002_2 x206003_2 = some r) ∧ Aside0 (kq ≤ kj9) ∧ Aside0 (Kd.V k34 34 w' w.heap.size (fun k_ => k_ ≠ gb205 ∧ k_ ≠ g197) u206001 x206001_2) ∧ Aside0 (w'.heap[gb205]? = some (.cells #[.int .i64 x206000_2, u206001, .int .i64 x206002_2, .int .i64 x206003_2] 30 (0, 0))) ∧ Aside0 (IsS71 w w' g197 x198000_2 x198001_2 x198002_2 x198003_2) ∧ Aside0 (Below w.heap.size w w'))
              case atStart => exact ⟨(0), (t193), (t194), (t195), (t196), (t198), (t199), (t202), (t203), (.slice Ao16 t199.length co16), (by first | rfl | (simp; done) | (simp [*]; done)), H', ⟨Nat.le_refl _⟩, ⟨Kd.R_V (by (with_reducible repeat (first | apply Kd.R_alloc | apply Kd.R_drewN | apply Kd.R_drew)); exact Kd.R_mono (IsS71.apart HI197.out (Kd.R_types HO_206001.out BK205.out (by decide)) (by decide)) (fun _ hk => ⟨hk.1.2, hk.2⟩))⟩, ⟨by (with_reducible repeat (first | refine blk_drewN ?_ _ | refine blk_drew ?_ | refine blk_alloc ?_ _)); exact BK205.out⟩, ⟨by repeat (first | (with_reducible first | exact HI197.out | apply IsS71.alloc | apply IsS71.drewN | apply IsS71.drew | apply IsS71.set_0 | apply IsS71.set_1 | apply IsS71.set_2 | apply IsS71.set_3 | refine IsS71.far ?_ NB197_205.out _) | exact HI197.out)⟩, ⟨by repeat (first | (with_reducible first | exact HB.out | apply below_alloc | apply pw_below_drewN | apply below_drew1 | refine below_set ?_ (IsS71.ge HI197.out) | refine below_set ?_ GE205.out) | exact HB.out)⟩⟩
              case round =>
                clear H'
                try clear c1
                try clear p2
                try clear c3
                try clear c3b0
                try clear c3b1
                try clear c6
                try clear c6b0
                try clear c7
                try clear c7b0
                try clear c8
                try clear c9
                try clear c10
                try clear c14
                try clear c17
                try clear c17b0
                try clear c17b1
                try clear c18
                try clear hcz15_0
                try clear hcz15_1
                try clear hcz15_2
                try clear hcz15_3
                try clear hfz15_0
                try clear hfz15_1
                try clear hfz15_2
                try clear hfz15_3
                try clear p2
                obtain ⟨x9_2, x198000_2, x198001_2, x198002_2, x198003_2, x206000_2, x206001_2, x206002_2, x206003_2, u206001, rfl, HA, HK2, HO_206001, BK205, HI197, HB⟩ := hrel
                cases gk with
                | zero => exact absurd HA.out (by simp [deedboxlaw39_FeedDoes.l0])
                | succ k2 =>
                  have H := HA.out
                  clear HA
                  simp only [deedboxlaw39_FeedDoes.l0] at H
                  have HC19 := Aside0.mk H
                  clear H
                  go_upto_region 8 with (fail)
                  go_cut [48] (fun v48 wc => ∃ (kq : Nat) (x48_18 : Bool), v48 = .bool x48_18 ∧ Aside0 (deedboxlaw39_FeedDoes.j2 kq l1 t204 x9_2 x48_18 x198000_2 x198001_2 x198002_2 x198003_2 x206000_2 x206001_2 x206002_2 x206003_2 = some r) ∧ Aside0 (kq ≤ k2) ∧ Aside0 (Kd.V k34 34 wc w.heap.size (fun k_ => k_ ≠ gb205 ∧ k_ ≠ g197) u206001 x206001_2) ∧ Aside0 (wc.heap[gb205]? = some (.cells #[.int .i64 x206000_2, u206001, .int .i64 x206002_2, .int .i64 x206003_2] 30 (0, 0))) ∧ Aside0 (IsS71 w wc g197 x198000_2 x198001_2 x198002_2 x198003_2) ∧ Aside0 (Below w.heap.size w wc))
                  case first =>
                    have H := HC19.out
                    clear HC19
                    by_cases c20 : x9_2 < (l1.length : Int)
                    · rw [if_pos c20] at H
                      have c20b0 : decide (x9_2 < (l1.length : Int)) = true := decide_eq_true c20
                      clear c20
                      (first | rw [c20b0] | (simp only [i64_w, i32_w]; rw [c20b0]) | skip)
                      have H' := Aside0.mk H
                      clear H
                      go_wp2
                      go_meet
                      case rel => exact ⟨_, ((t204 == 0)), (by first | rfl | (simp; done) | (simp [*]; done)), H', ⟨by have := HJ9.out; have := HK2.out; first | omega | exact Nat.le_refl _⟩, ⟨by (with_reducible repeat (first | apply Kd.V_alloc | apply Kd.V_drewN | apply Kd.V_drew)); exact HO_206001.out⟩, ⟨by (with_reducible repeat (first | refine blk_drewN ?_ _ | refine blk_drew ?_ | refine blk_alloc ?_ _)); exact BK205.out⟩, ⟨by repeat (first | (with_reducible first | exact HI197.out | apply IsS71.alloc | apply IsS71.drewN | apply IsS71.drew | apply IsS71.set_0 | apply IsS71.set_1 | apply IsS71.set_2 | apply IsS71.set_3 | refine IsS71.far ?_ NB197_205.out _) | exact HI197.out)⟩, ⟨by repeat (first | (with_reducible first | exact HB.out | apply below_alloc | apply pw_below_drewN | apply below_drew1 | refine below_set ?_ (IsS71.ge HI197.out) | refine below_set ?_ GE205.out) | exact HB.out)⟩⟩
                    · rw [if_neg c20] at H
                      have c20b0 : decide (x9_2 < (l1.length : Int)) = false := decide_eq_false c20
                      clear c20
                      (first | rw [c20b0] | (simp only [i64_w, i32_w]; rw [c20b0]) | skip)
                      have H' := Aside0.mk H
                      clear H
                      go_wp2
                      go_meet
                      case rel => exact ⟨_, (false), (by first | rfl | (simp; done) | (simp [*]; done)), H', ⟨by have := HJ9.out; have := HK2.out; first | omega | exact Nat.le_refl _⟩, ⟨by (with_reducible repeat (first | apply Kd.V_alloc | apply Kd.V_drewN | apply Kd.V_drew)); exact HO_206001.out⟩, ⟨by (with_reducible repeat (first | refine blk_drewN ?_ _ | refine blk_drew ?_ | refine blk_alloc ?_ _)); exact BK205.out⟩, ⟨by repeat (first | (with_reducible first | exact HI197.out | apply IsS71.alloc | apply IsS71.drewN | apply IsS71.drew | apply IsS71.set_0 | apply IsS71.set_1 | apply IsS71.set_2 | apply IsS71.set_3 | refine IsS71.far ?_ NB197_205.out _) | exact HI197.out)⟩, ⟨by repeat (first | (with_reducible first | exact HB.out | apply below_alloc | apply pw_below_drewN | apply below_drew1 | refine below_set ?_ (IsS71.ge HI197.out) | refine below_set ?_ GE205.out) | exact HB.out)⟩⟩
                  case rest =>
                    clear HC19
                    try clear c1
                    try clear c2
                    try clear p2
                    try clear c3
                    try clear c3b0
                    try clear c3b1
                    try clear c6
                    try clear c6b0
                    try clear c7
                    try clear c7b0
                    try clear c8
                    try clear c9
                    try clear c10
                    try clear c14
                    try clear c17
                    try clear c17b0
                    try clear c17b1
                    try clear c18
                    try clear c20
                    try clear c20b0
                    try clear hcz15_0
                    try clear hcz15_1
                    try clear hcz15_2
                    try clear hcz15_3
                    try clear hfz15_0
                    try clear hfz15_1
                    try clear hfz15_2
                    try clear hfz15_3
                    try clear p2
                    obtain ⟨kq, x48_18, rfl, HA, HJ18, HO_206001, BK205, HI197, HB⟩ := hcut
                    cases kq with
                    | zero => exact absurd HA.out (by simp [deedboxlaw39_FeedDoes.j2])
                    | succ kj18 =>
                      have H := HA.out
                      clear HA
                      simp only [deedboxlaw39_FeedDoes.j2] at H
                      by_cases c21 : x48_18 = true
                      · subst c21
                        have H1 : (if 0 ≤ x9_2 then (if x9_2 < (l1.length : Int) then (if (((rd_T36 l1 x9_2).f1.f1).size : Int) > 300 then (deedboxlaw39_FeedDoes.j3 kj18 l1 t204 x9_2 true x198000_2 x198001_2 x198002_2 x198003_2 x206000_2 x206001_2 x206002_2 x206003_2) else (deedboxlaw39_FeedDoes.j3 kj18 l1 t204 x9_2 (decide ((((rd_T36 l1 x9_2).f1.f2).size : Int) > 300)) x198000_2 x198001_2 x198002_2 x198003_2 x206000_2 x206001_2 x206002_2 x206003_2)) else (none)) else (none)) = some r := by rw [if_pos rfl] at H; exact H
                        clear H
                        have H := H1
                        clear H1
                        have HC22 := Aside0.mk H
                        clear H
                        go_upto_region 10 with (fail)
                        go_cut [68] (fun v68 wc => ∃ (kq : Nat) (x68_21 : Bool), v68 = .bool x68_21 ∧ Aside0 (deedboxlaw39_FeedDoes.j3 kq l1 t204 x9_2 x68_21 x198000_2 x198001_2 x198002_2 x198003_2 x206000_2 x206001_2 x206002_2 x206003_2 = some r) ∧ Aside0 (kq ≤ kj18) ∧ Aside0 (Kd.V k34 34 wc w.heap.size (fun k_ => k_ ≠ gb205 ∧ k_ ≠ g197) u206001 x206001_2) ∧ Aside0 (wc.heap[gb205]? = some (.cells #[.int .i64 x206000_2, u206001, .int .i64 x206002_2, .int .i64 x206003_2] 30 (0, 0))) ∧ Aside0 (IsS71 w wc g197 x198000_2 x198001_2 x198002_2 x198003_2) ∧ Aside0 (Below w.heap.size w wc))
                        case first =>
                          have H := HC22.out
                          clear HC22
                          by_cases c23 : 0 ≤ x9_2
                          · rw [if_pos c23] at H
                            have c23b0 : decide (0 ≤ x9_2) = true := decide_eq_true c23
                            clear c23
                            (first | rw [c23b0] | (simp only [i64_w, i32_w]; rw [c23b0]) | skip)
                            by_cases c24 : x9_2 < (l1.length : Int)
                            · rw [if_pos c24] at H
                              have c24b0 : decide (x9_2 < (l1.length : Int)) = true := decide_eq_true c24
                              clear c24
                              by_cases c25 : (((rd_T36 l1 x9_2).f1.f1).size : Int) > 300
                              · rw [if_pos c25] at H
                                have c25b0 : decide (300 < (((rd_T36 l1 x9_2).f1.f1).size : Int)) = true := decide_eq_true c25
                                have c25b1 : decide (300 < ((rd_T36 l1 x9_2).f1.f1).size) = true := decide_eq_true (by omega)
                                clear c25
                                have H' := Aside0.mk H
                                clear H
                                have p207 : 0 ≤ (x9_2 : Int) := of_decide_eq_true (by first | (with_reducible assumption) | assumption)
                                have q207 : x9_2 < (l1.length : Int) := of_decide_eq_true (by first | (with_reducible assumption) | assumption)
                                obtain ⟨ad207, e207, hx207_0, hx207_1, hx207_2, hx207_3, hx207_4⟩ := at_T36 HR1.out x9_2 p207 q207
                                cases e207
                                replace hx207_0 := (HB.out.cell (World.block_lt_of_cell? w _ hx207_0)).trans hx207_0
                                replace hx207_1 := (HB.out.cell (World.block_lt_of_cell? w _ hx207_1)).trans hx207_1
                                replace hx207_2 := (HB.out.cell (World.block_lt_of_cell? w _ hx207_2)).trans hx207_2
                                replace hx207_3 := (HB.out.cell (World.block_lt_of_cell? w _ hx207_3)).trans hx207_3
                                replace hx207_4 := (HB.out.cell (World.block_lt_of_cell? w _ hx207_4)).trans hx207_4
                                replace p207 := eq_true p207
                                replace q207 := eq_true q207
                                go_wp2
                                go_meet
                                case rel => exact ⟨_, (true), (by first | rfl | (simp; done) | (simp [*]; done)), H', ⟨by have := HJ9.out; have := HK2.out; have := HJ18.out; first | omega | exact Nat.le_refl _⟩, ⟨by (with_reducible repeat (first | apply Kd.V_alloc | apply Kd.V_drewN | apply Kd.V_drew)); exact HO_206001.out⟩, ⟨by (with_reducible repeat (first | refine blk_drewN ?_ _ | refine blk_drew ?_ | refine blk_alloc ?_ _)); exact BK205.out⟩, ⟨by repeat (first | (with_reducible first | exact HI197.out | apply IsS71.alloc | apply IsS71.drewN | apply IsS71.drew | apply IsS71.set_0 | apply IsS71.set_1 | apply IsS71.set_2 | apply IsS71.set_3 | refine IsS71.far ?_ NB197_205.out _) | exact HI197.out)⟩, ⟨by repeat (first | (with_reducible first | exact HB.out | apply below_alloc | apply pw_below_drewN | apply below_drew1 | refine below_set ?_ (IsS71.ge HI197.out) | refine below_set ?_ GE205.out) | exact HB.out)⟩⟩
                              · rw [if_neg c25] at H
                                have c25b0 : decide (300 < (((rd_T36 l1 x9_2).f1.f1).size : Int)) = false := decide_eq_false c25
                                have c25b1 : decide (300 < ((rd_T36 l1 x9_2).f1.f1).size) = false := decide_eq_false (by omega)
                                clear c25
                                have H' := Aside0.mk H
                                clear H
                                have p207 : 0 ≤ (x9_2 : Int) := of_decide_eq_true (by first | (with_reducible assumption) | assumption)
                                have q207 : x9_2 < (l1.length : Int) := of_decide_eq_true (by first | (with_reducible assumption) | assumption)
                                obtain ⟨ad207, e207, hx207_0, hx207_1, hx207_2, hx207_3, hx207_4⟩ := at_T36 HR1.out x9_2 p207 q207
                                cases e207
                                replace hx207_0 := (HB.out.cell (World.block_lt_of_cell? w _ hx207_0)).trans hx207_0
                                replace hx207_1 := (HB.out.cell (World.block_lt_of_cell? w _ hx207_1)).trans hx207_1
                                replace hx207_2 := (HB.out.cell (World.block_lt_of_cell? w _ hx207_2)).trans hx207_2
                                replace hx207_3 := (HB.out.cell (World.block_lt_of_cell? w _ hx207_3)).trans hx207_3
                                replace hx207_4 := (HB.out.cell (World.block_lt_of_cell? w _ hx207_4)).trans hx207_4
                                replace p207 := eq_true p207
                                replace q207 := eq_true q207
                                have p208 : 0 ≤ (x9_2 : Int) := of_decide_eq_true (by first | (with_reducible assumption) | assumption)
                                have q208 : x9_2 < (l1.length : Int) := of_decide_eq_true (by first | (with_reducible assumption) | assumption)
                                obtain ⟨ad208, e208, hx208_0, hx208_1, hx208_2, hx208_3, hx208_4⟩ := at_T36 HR1.out x9_2 p208 q208
                                obtain rfl : ad207 = ad208 := (by injection e208)
                                replace hx208_0 := (HB.out.cell (World.block_lt_of_cell? w _ hx208_0)).trans hx208_0
                                replace hx208_1 := (HB.out.cell (World.block_lt_of_cell? w _ hx208_1)).trans hx208_1
                                replace hx208_2 := (HB.out.cell (World.block_lt_of_cell? w _ hx208_2)).trans hx208_2
                                replace hx208_3 := (HB.out.cell (World.block_lt_of_cell? w _ hx208_3)).trans hx208_3
                                replace hx208_4 := (HB.out.cell (World.block_lt_of_cell? w _ hx208_4)).trans hx208_4
                                replace p208 := eq_true p208
                                replace q208 := eq_true q208
                                go_wp2
                                go_meet
                                case rel => exact ⟨_, (decide ((((rd_T36 l1 x9_2).f1.f2).size : Int) > 300)), (by first | rfl | (simp; done) | (simp [*]; done)), H', ⟨by have := HJ9.out; have := HK2.out; have := HJ18.out; first | omega | exact Nat.le_refl _⟩, ⟨by (with_reducible repeat (first | apply Kd.V_alloc | apply Kd.V_drewN | apply Kd.V_drew)); exact HO_206001.out⟩, ⟨by (with_reducible repeat (first | refine blk_drewN ?_ _ | refine blk_drew ?_ | refine blk_alloc ?_ _)); exact BK205.out⟩, ⟨by repeat (first | (with_reducible first | exact HI197.out | apply IsS71.alloc | apply IsS71.drewN | apply IsS71.drew | apply IsS71.set_0 | apply IsS71.set_1 | apply IsS71.set_2 | apply IsS71.set_3 | refine IsS71.far ?_ NB197_205.out _) | exact HI197.out)⟩, ⟨by repeat (first | (with_reducible first | exact HB.out | apply below_alloc | apply pw_below_drewN | apply below_drew1 | refine below_set ?_ (IsS71.ge HI197.out) | refine below_set ?_ GE205.out) | exact HB.out)⟩⟩
                            · rw [if_neg c24] at H
                              exact absurd H (by simp)
                          · rw [if_neg c23] at H
                            exact absurd H (by simp)
                        case rest =>
                          clear HC22
                          try clear c1
                          try clear c2
                          try clear p2
                          try clear q2
                          try clear hx2
                          try clear c3
                          try clear c3b0
                          try clear c3b1
                          try clear c6
                          try clear c6b0
                          try clear c7
                          try clear c7b0
                          try clear c8
                          try clear c9
                          try clear c10
                          try clear c14
                          try clear c17
                          try clear c17b0
                          try clear c17b1
                          try clear c18
                          try clear c20
                          try clear c20b0
                          try clear p20
                          try clear q20
                          try clear hx20
                          try clear c21
                          try clear c23
                          try clear c23b0
                          try clear c24
                          try clear c24b0
                          try clear c25
                          try clear c25b0
                          try clear c25b1
                          try clear hcz15_0
                          try clear hcz15_1
                          try clear hcz15_2
                          try clear hcz15_3
                          try clear hfz15_0
                          try clear hfz15_1
                          try clear hfz15_2
                          try clear hfz15_3
                          try clear hx207_0
                          try clear hx207_1
                          try clear hx207_2
                          try clear hx207_3
                          try clear hx207_4
                          try clear hx208_0
                          try clear hx208_1
                          try clear hx208_2
                          try clear hx208_3
                          try clear hx208_4
                          try clear p2
                          try clear p207
                          try clear p208
                          try clear q207
                          try clear q208
                          obtain ⟨kq, x68_21, rfl, HA, HJ21, HO_206001, BK205, HI197, HB⟩ := hcut
                          cases kq with
                          | zero => exact absurd HA.out (by simp [deedboxlaw39_FeedDoes.j3])
                          | succ kj21 =>
                            have H := HA.out
                            clear HA
                            simp only [deedboxlaw39_FeedDoes.j3] at H
                            by_cases c26 : x68_21 = true
                            · subst c26
                              have H1 : ((deedboxlaw39_works.f kj21).bind fun t209 => (some t209)) = some r := by rw [if_pos rfl] at H; exact H
                              clear H
                              have H := H1
                              clear H1
                              replace H := Option.bind_eq_some_iff.mp H
                              obtain ⟨t209, A270, H⟩ := H
                              replace H : (some t209) = some r := H
                              have A27 := Aside0.mk A270
                              clear A270
                              obtain rfl := Option.some.inj H
                              go_wp2_with (first | ((with_reducible refine gate_callee (f := 8) rfl ?_); refine goesL_ (some 69) rfl rfl Try.func8 (by kernel_rfl) rfl #[] rfl (by (try simp only [List.map_toArray, List.map_cons, List.map_nil]); first | done | rfl | (simp only [List.length_drop, List.length_take]; rfl)) ?_; (with_reducible refine (deedboxlaw39_works.calls kj21  t209 _ A27.out).mono ?_); rintro e w28 ⟨rfl, hb⟩; refine ⟨_, rfl, ?_⟩; have n0_ := Aside0.mk (Kd.V_below (by (with_reducible repeat (first | apply Kd.V_alloc | apply Kd.V_drewN | apply Kd.V_drew)); exact HO_206001.out) hb); have n1_ := Aside0.mk (blk_below (g := gb205) (o := .cells #[.int .i64 x206000_2, u206001, .int .i64 x206002_2, .int .i64 x206003_2] 30 (0, 0)) (by (with_reducible repeat (first | refine blk_drewN ?_ _ | refine blk_drew ?_ | refine blk_alloc ?_ _)); exact BK205.out) hb); have n2_ := Aside0.mk (IsS71.below (by repeat (first | (with_reducible first | exact HI197.out | apply IsS71.alloc | apply IsS71.drewN | apply IsS71.drew | apply IsS71.set_0 | apply IsS71.set_1 | apply IsS71.set_2 | apply IsS71.set_3 | refine IsS71.far ?_ NB197_205.out _) | exact HI197.out)) hb); have n3_ := Aside0.mk (below_step (by repeat (first | (with_reducible first | exact HB.out | apply below_alloc | apply pw_below_drewN | apply below_drew1 | refine below_set ?_ (IsS71.ge HI197.out) | refine below_set ?_ GE205.out) | exact HB.out)) hb); clear HO_206001; clear BK205; clear HI197; clear HB; have HO_206001 := n0_; have BK205 := n1_; have HI197 := n2_; have HB := n3_; clear n0_ n1_ n2_ n3_; (try clear hb); (try clear hb2); (try clear hk); (try clear hi)))
                              go_ret
                              exact ⟨by first | rfl | (simp [errW_none, errW_some] <;> rfl) | (simp [*, errW_none, errW_some] <;> rfl), by repeat (first | (with_reducible first | exact HB.out | apply below_alloc | apply pw_below_drewN | apply below_drew1 | refine below_set ?_ (IsS71.ge HI197.out) | refine below_set ?_ GE205.out) | exact HB.out)⟩
                            · replace c26 := Bool.eq_false_iff.mpr c26
                              subst c26
                              have H1 : (if 0 ≤ x9_2 then (if x9_2 < (l1.length : Int) then (if (rd_T36 l1 x9_2).f0 = true then ((deedboxref39_Hear.f x206000_2 x206001_2 x206002_2 x206003_2).bind fun bt211 => ((feed_Feed_Hear.f x198000_2 x198001_2 x198002_2 x198003_2).bind fun bt224 => (if (bt211.2.2.2.2.2.2.2.2 != bt224.2.2.2.2.1) = true then (none) else ((deedboxlaw39_own.f bt211.2.2.2.2.1 bt211.2.2.2.2.2.1 bt211.2.2.2.2.2.2.1 bt211.2.2.2.2.2.2.2.1).bind fun bt234 => (if (!(bt224.1 == bt234.1) || (!(bt224.2.1.toList == bt234.2.1.toList) || (!(bt224.2.2.1.toList == bt234.2.2.1.toList) || (!(bt224.2.2.2.1 == bt234.2.2.2))))) = true then (none) else (deedboxlaw39_FeedDoes.j4 kj21 l1 t204 x9_2 bt224.2.2.2.2.2.1 bt224.2.2.2.2.2.2.1 bt224.2.2.2.2.2.2.2.1 bt224.2.2.2.2.2.2.2.2 bt211.1 bt211.2.1 bt211.2.2.1 bt211.2.2.2.1)))))) else ((deedboxref39_Tell.f x206000_2 x206001_2 x206002_2 x206003_2 ((rd_T36 l1 x9_2).f1.f0) ((rd_T36 l1 x9_2).f1.f1) ((rd_T36 l1 x9_2).f1.f2) ((rd_T36 l1 x9_2).f1.f3)).bind fun bt239 => ((deedboxlaw39_own.f ((rd_T36 l1 x9_2).f1.f0) ((rd_T36 l1 x9_2).f1.f1) ((rd_T36 l1 x9_2).f1.f2) ((rd_T36 l1 x9_2).f1.f3)).bind fun bt248 => ((feed_Feed_Tell.f x198000_2 x198001_2 x198002_2 x198003_2 bt248.1 bt248.2.1 bt248.2.2.1 bt248.2.2.2).bind fun bt252 => (if (bt252.1 != bt239.2.2.2.2) = true then (none) else ((deedboxlaw39_own.f ((rd_T36 l1 x9_2).f1.f0) ((rd_T36 l1 x9_2).f1.f1) ((rd_T36 l1 x9_2).f1.f2) ((rd_T36 l1 x9_2).f1.f3)).bind fun bt258 => ((feed_Line.f kj21 bt258.1 bt258.2.1 bt258.2.2.1 bt258.2.2.2).bind fun t262 => ((deedboxref39_Line.f kj21 ((rd_T36 l1 x9_2).f1.f0) ((rd_T36 l1 x9_2).f1.f1) ((rd_T36 l1 x9_2).f1.f2) ((rd_T36 l1 x9_2).f1.f3)).bind fun t264 => (if t262.toList = t264.toList then (deedboxlaw39_FeedDoes.j4 kj21 l1 t204 x9_2 bt252.2.1 bt252.2.2.1 bt252.2.2.2.1 bt252.2.2.2.2 bt239.1 bt239.2.1 bt239.2.2.1 bt239.2.2.2.1) else (none)))))))))) else (none)) else (none)) = some r := by rw [if_neg (show ¬ (false = true) by decide)] at H; exact H
                              clear H
                              have H := H1
                              clear H1
                              by_cases c29 : 0 ≤ x9_2
                              · rw [if_pos c29] at H
                                have c29b0 : decide (0 ≤ x9_2) = true := decide_eq_true c29
                                clear c29
                                by_cases c30 : x9_2 < (l1.length : Int)
                                · rw [if_pos c30] at H
                                  have c30b0 : decide (x9_2 < (l1.length : Int)) = true := decide_eq_true c30
                                  clear c30
                                  have HC31 := Aside0.mk H
                                  clear H
                                  have p210 : 0 ≤ (x9_2 : Int) := of_decide_eq_true (by first | (with_reducible assumption) | assumption)
                                  have q210 : x9_2 < (l1.length : Int) := of_decide_eq_true (by first | (with_reducible assumption) | assumption)
                                  obtain ⟨ad210, e210, hx210_0, hx210_1, hx210_2, hx210_3, hx210_4⟩ := at_T36 HR1.out x9_2 p210 q210
                                  cases e210
                                  replace hx210_0 := (HB.out.cell (World.block_lt_of_cell? w _ hx210_0)).trans hx210_0
                                  replace hx210_1 := (HB.out.cell (World.block_lt_of_cell? w _ hx210_1)).trans hx210_1
                                  replace hx210_2 := (HB.out.cell (World.block_lt_of_cell? w _ hx210_2)).trans hx210_2
                                  replace hx210_3 := (HB.out.cell (World.block_lt_of_cell? w _ hx210_3)).trans hx210_3
                                  replace hx210_4 := (HB.out.cell (World.block_lt_of_cell? w _ hx210_4)).trans hx210_4
                                  replace p210 := eq_true p210
                                  replace q210 := eq_true q210
                                  go_upto_if 74 with (fail)
                                  go_cut [] (fun wc => ∃ (kq : Nat) (x198000_30 : Int) (x198001_30 : List FNews) (x198002_30 : Int) (x198003_30 : Int) (x206000_30 : Int) (x206001_30 : List (S34)) (x206002_30 : Int) (x206003_30 : Int) (u206001 : Value), Aside0 (deedboxlaw39_FeedDoes.j4 kq l1 t204 x9_2 x198000_30 x198001_30 x198002_30 x198003_30 x206000_30 x206001_30 x206002_30 x206003_30 = some r) ∧ Aside0 (kq ≤ kj21) ∧ Aside0 (Kd.V k34 34 wc w.heap.size (fun k_ => k_ ≠ gb205 ∧ k_ ≠ g197) u206001 x206001_30) ∧ Aside0 (wc.heap[gb205]? = some (.cells #[.int .i64 x206000_30, u206001, .int .i64 x206002_30, .int .i64 x206003_30] 30 (0, 0))) ∧ Aside0 (IsS71 w wc g197 x198000_30 x198001_30 x198002_30 x198003_30) ∧ Aside0 (Below w.heap.size w wc))
                                  case first =>
                                    have H := HC31.out
                                    clear HC31
                                    obtain ⟨bq32, hbq32⟩ : ∃ b_ : Bool, b_ = ((rd_T36 l1 x9_2).f0) := ⟨_, rfl⟩
                                    replace H : (if bq32 = true then ((deedboxref39_Hear.f x206000_2 x206001_2 x206002_2 x206003_2).bind fun bt211 => ((feed_Feed_Hear.f x198000_2 x198001_2 x198002_2 x198003_2).bind fun bt224 => (if (bt211.2.2.2.2.2.2.2.2 != bt224.2.2.2.2.1) = true then (none) else ((deedboxlaw39_own.f bt211.2.2.2.2.1 bt211.2.2.2.2.2.1 bt211.2.2.2.2.2.2.1 bt211.2.2.2.2.2.2.2.1).bind fun bt234 => (if (!(bt224.1 == bt234.1) || (!(bt224.2.1.toList == bt234.2.1.toList) || (!(bt224.2.2.1.toList == bt234.2.2.1.toList) || (!(bt224.2.2.2.1 == bt234.2.2.2))))) = true then (none) else (deedboxlaw39_FeedDoes.j4 kj21 l1 t204 x9_2 bt224.2.2.2.2.2.1 bt224.2.2.2.2.2.2.1 bt224.2.2.2.2.2.2.2.1 bt224.2.2.2.2.2.2.2.2 bt211.1 bt211.2.1 bt211.2.2.1 bt211.2.2.2.1)))))) else ((deedboxref39_Tell.f x206000_2 x206001_2 x206002_2 x206003_2 ((rd_T36 l1 x9_2).f1.f0) ((rd_T36 l1 x9_2).f1.f1) ((rd_T36 l1 x9_2).f1.f2) ((rd_T36 l1 x9_2).f1.f3)).bind fun bt239 => ((deedboxlaw39_own.f ((rd_T36 l1 x9_2).f1.f0) ((rd_T36 l1 x9_2).f1.f1) ((rd_T36 l1 x9_2).f1.f2) ((rd_T36 l1 x9_2).f1.f3)).bind fun bt248 => ((feed_Feed_Tell.f x198000_2 x198001_2 x198002_2 x198003_2 bt248.1 bt248.2.1 bt248.2.2.1 bt248.2.2.2).bind fun bt252 => (if (bt252.1 != bt239.2.2.2.2) = true then (none) else ((deedboxlaw39_own.f ((rd_T36 l1 x9_2).f1.f0) ((rd_T36 l1 x9_2).f1.f1) ((rd_T36 l1 x9_2).f1.f2) ((rd_T36 l1 x9_2).f1.f3)).bind fun bt258 => ((feed_Line.f kj21 bt258.1 bt258.2.1 bt258.2.2.1 bt258.2.2.2).bind fun t262 => ((deedboxref39_Line.f kj21 ((rd_T36 l1 x9_2).f1.f0) ((rd_T36 l1 x9_2).f1.f1) ((rd_T36 l1 x9_2).f1.f2) ((rd_T36 l1 x9_2).f1.f3)).bind fun t264 => (if t262.toList = t264.toList then (deedboxlaw39_FeedDoes.j4 kj21 l1 t204 x9_2 bt252.2.1 bt252.2.2.1 bt252.2.2.2.1 bt252.2.2.2.2 bt239.1 bt239.2.1 bt239.2.2.1 bt239.2.2.2.1) else (none)))))))))) = some r := by rw [← hbq32] at H; exact H
                                    have Nbq32 := Aside0.mk hbq32
                                    clear hbq32
                                    (try rw [← Nbq32.out])
                                    by_cases c33 : bq32 = true
                                    · subst c33
                                      have H1 : ((deedboxref39_Hear.f x206000_2 x206001_2 x206002_2 x206003_2).bind fun bt211 => ((feed_Feed_Hear.f x198000_2 x198001_2 x198002_2 x198003_2).bind fun bt224 => (if (bt211.2.2.2.2.2.2.2.2 != bt224.2.2.2.2.1) = true then (none) else ((deedboxlaw39_own.f bt211.2.2.2.2.1 bt211.2.2.2.2.2.1 bt211.2.2.2.2.2.2.1 bt211.2.2.2.2.2.2.2.1).bind fun bt234 => (if (!(bt224.1 == bt234.1) || (!(bt224.2.1.toList == bt234.2.1.toList) || (!(bt224.2.2.1.toList == bt234.2.2.1.toList) || (!(bt224.2.2.2.1 == bt234.2.2.2))))) = true then (none) else (deedboxlaw39_FeedDoes.j4 kj21 l1 t204 x9_2 bt224.2.2.2.2.2.1 bt224.2.2.2.2.2.2.1 bt224.2.2.2.2.2.2.2.1 bt224.2.2.2.2.2.2.2.2 bt211.1 bt211.2.1 bt211.2.2.1 bt211.2.2.2.1)))))) = some r := by rw [if_pos rfl] at H; exact H
                                      clear H
                                      have H := H1
                                      clear H1
                                      replace H := Option.bind_eq_some_iff.mp H
                                      obtain ⟨⟨t211, t212, t215, t216, t217, t218, t219, t220, t221⟩, A340, H⟩ := H
                                      replace H : ((feed_Feed_Hear.f x198000_2 x198001_2 x198002_2 x198003_2).bind fun bt224 => (if (t221 != bt224.2.2.2.2.1) = true then (none) else ((deedboxlaw39_own.f t217 t218 t219 t220).bind fun bt234 => (if (!(bt224.1 == bt234.1) || (!(bt224.2.1.toList == bt234.2.1.toList) || (!(bt224.2.2.1.toList == bt234.2.2.1.toList) || (!(bt224.2.2.2.1 == bt234.2.2.2))))) = true then (none) else (deedboxlaw39_FeedDoes.j4 kj21 l1 t204 x9_2 bt224.2.2.2.2.2.1 bt224.2.2.2.2.2.2.1 bt224.2.2.2.2.2.2.2.1 bt224.2.2.2.2.2.2.2.2 t211 t212 t215 t216))))) = some r := H
                                      have A34 := Aside0.mk A340
                                      clear A340
                                      replace H := Option.bind_eq_some_iff.mp H
                                      obtain ⟨⟨t224, t225, t226, t227, t228, t229, t230, t231, t232⟩, A350, H⟩ := H
                                      replace H : (if (t221 != t228) = true then (none) else ((deedboxlaw39_own.f t217 t218 t219 t220).bind fun bt234 => (if (!(t224 == bt234.1) || (!(t225.toList == bt234.2.1.toList) || (!(t226.toList == bt234.2.2.1.toList) || (!(t227 == bt234.2.2.2))))) = true then (none) else (deedboxlaw39_FeedDoes.j4 kj21 l1 t204 x9_2 t229 t230 t231 t232 t211 t212 t215 t216)))) = some r := H
                                      have A35 := Aside0.mk A350
                                      clear A350
                                      by_cases c36 : (t221 != t228) = true
                                      · rw [if_pos c36] at H
                                        exact absurd H (by simp)
                                      · rw [if_neg c36] at H
                                        have c36b0 : (t221 != t228) = false := by simpa using c36
                                        (try (have c36b1 : decide (t221 = t228) = true := by simpa using c36))
                                        (try (have c36b2 : (t221 == t228) = true := by simpa using c36))
                                        clear c36
                                        replace H := Option.bind_eq_some_iff.mp H
                                        obtain ⟨⟨t234, t235, t236, t237⟩, A370, H⟩ := H
                                        replace H : (if (!(t224 == t234) || (!(t225.toList == t235.toList) || (!(t226.toList == t236.toList) || (!(t227 == t237))))) = true then (none) else (deedboxlaw39_FeedDoes.j4 kj21 l1 t204 x9_2 t229 t230 t231 t232 t211 t212 t215 t216)) = some r := H
                                        have A37 := Aside0.mk A370
                                        clear A370
                                        by_cases c38 : (!(t224 == t234) || (!(t225.toList == t235.toList) || (!(t226.toList == t236.toList) || (!(t227 == t237))))) = true
                                        · rw [if_pos c38] at H
                                          exact absurd H (by simp)
                                        · rw [if_neg c38] at H
                                          have c38b0 : (!(t224 == t234) || (!(t225.toList == t235.toList) || (!(t226.toList == t236.toList) || (!(t227 == t237))))) = false := by simpa using c38
                                          clear c38
                                          have H' := Aside0.mk H
                                          clear H
                                          have hnb39 := NB205_197.out
                                          have hnc39 := NB197_205.out
                                          have hcz40_0 : wc.cell? ⟨gb205, 0, none⟩ = some (.int .i64 x206000_2) := (blk_cell BK205.out 0).trans rfl
                                          have hcz40_1 : wc.cell? ⟨gb205, 1, none⟩ = some (u206001) := (blk_cell BK205.out 1).trans rfl
                                          have hcz40_2 : wc.cell? ⟨gb205, 2, none⟩ = some (.int .i64 x206002_2) := (blk_cell BK205.out 2).trans rfl
                                          have hcz40_3 : wc.cell? ⟨gb205, 3, none⟩ = some (.int .i64 x206003_2) := (blk_cell BK205.out 3).trans rfl
                                          have hfz40_0 := blk_frozen BK205.out 0
                                          have hfz40_1 := blk_frozen BK205.out 1
                                          have hfz40_2 := blk_frozen BK205.out 2
                                          have hfz40_3 := blk_frozen BK205.out 3
                                          obtain ⟨Ao41, co41, eo41⟩ := Kd.V_slice HO_206001.out
                                          subst eo41
                                          try go_wp2_with (first | ((with_reducible refine gate_callee (f := 11) rfl ?_); refine goesL_ (some 77) rfl rfl Try.func11 (by kernel_rfl) rfl #[.agg #[.int .i64 x206000_2, .slice Ao41 x206001_2.length co41, .int .i64 x206002_2, .int .i64 x206003_2]] rfl (by (try simp only [List.map_toArray, List.map_cons, List.map_nil]); first | done | rfl | (simp only [List.length_drop, List.length_take]; rfl)) ?_; (with_reducible refine (deedboxref39_Hear.calls x206000_2 (fun k_ => (k_ ≠ gb205 ∧ k_ ≠ g197)) _ _ x206001_2 x206002_2 x206003_2 t211 t212 t215 t216 t217 t218 t219 t220 t221 _ ?side1 A34.out).mono ?_); (case side1 => exact HO_206001.out); rintro e w42 ⟨v213, rfl, ho0, hb⟩; refine ⟨_, rfl, ?_⟩; have n0_ := Aside0.mk (Kd.V_below (by (with_reducible repeat (first | apply Kd.V_alloc | apply Kd.V_drewN | apply Kd.V_drew)); exact HO_206001.out) hb); have n1_ := Aside0.mk (Kd.V_lower (Kd.V_mono (ok' := fun k_ => k_ ≠ gb205 ∧ k_ ≠ g197) ho0 (fun k_ hk_ => ⟨Or.elim hk_ (fun hs_ => hs_.1) (fun hn_ => (Kd.freshB (g := gb205) (o := .cells #[.int .i64 x206000_2, .slice Ao41 x206001_2.length co41, .int .i64 x206002_2, .int .i64 x206003_2] 30 (0, 0)) (by (with_reducible repeat (first | refine blk_drewN ?_ _ | refine blk_drew ?_ | refine blk_alloc ?_ _)); exact BK205.out) k_ hn_)), Or.elim hk_ (fun hs_ => hs_.2) (fun hn_ => (IsS71.fresh (by repeat (first | (with_reducible first | exact HI197.out | apply IsS71.alloc | apply IsS71.drewN | apply IsS71.drew | apply IsS71.set_0 | apply IsS71.set_1 | apply IsS71.set_2 | apply IsS71.set_3 | refine IsS71.far ?_ NB197_205.out _) | exact HI197.out)) k_ hn_))⟩)) (below_size (by repeat (first | (with_reducible first | exact HB.out | apply below_alloc | apply pw_below_drewN | apply below_drew1 | refine below_set ?_ (IsS71.ge HI197.out) | refine below_set ?_ GE205.out) | exact HB.out)))); have n2_ := Aside0.mk (blk_below (g := gb205) (o := .cells #[.int .i64 x206000_2, .slice Ao41 x206001_2.length co41, .int .i64 x206002_2, .int .i64 x206003_2] 30 (0, 0)) (by (with_reducible repeat (first | refine blk_drewN ?_ _ | refine blk_drew ?_ | refine blk_alloc ?_ _)); exact BK205.out) hb); have n3_ := Aside0.mk (IsS71.below (by repeat (first | (with_reducible first | exact HI197.out | apply IsS71.alloc | apply IsS71.drewN | apply IsS71.drew | apply IsS71.set_0 | apply IsS71.set_1 | apply IsS71.set_2 | apply IsS71.set_3 | refine IsS71.far ?_ NB197_205.out _) | exact HI197.out)) hb); have n4_ := Aside0.mk (below_step (by repeat (first | (with_reducible first | exact HB.out | apply below_alloc | apply pw_below_drewN | apply below_drew1 | refine below_set ?_ (IsS71.ge HI197.out) | refine below_set ?_ GE205.out) | exact HB.out)) hb); clear HO_206001; clear BK205; clear HI197; clear HB; have HO_206001 := n0_; have HO214 := n1_; have BK205 := n2_; have HI197 := n3_; have HB := n4_; clear n0_ n1_ n2_ n3_ n4_; (try clear hb); (try clear hb2); (try clear hk); (try clear hi); (try clear ho0)) | ((with_reducible refine gate_dst (N := 10) rfl ?_); (try (refine gate_guard (by rfl) ?_; dsimp only)); refine box_event ?hg (N := 10) ?hd (cs := #[.int .i64 0, .slice none 0 0, .int .i64 0, .int .i64 0]) (t := 30) ?hr ?_; (case hd => rfl); (case hg => rfl); (case hr => first | (go_simp; done) | (go_simp; rfl)); intro gb222 hg w43 hbox hb; have n0_ := Aside0.mk (Kd.V_below (Kd.V_elderB (by (with_reducible repeat (first | apply Kd.V_alloc | apply Kd.V_drewN | apply Kd.V_drew)); exact HO_206001.out) gb222 (Nat.le_of_eq hg.symm)) hb); have n1_ := Aside0.mk (Kd.V_below (Kd.V_elderB (by (with_reducible repeat (first | apply Kd.V_alloc | apply Kd.V_drewN | apply Kd.V_drew)); exact HO214.out) gb222 (Nat.le_of_eq hg.symm)) hb); have n2_ := Aside0.mk (blk_below (g := gb205) (o := .cells #[.int .i64 x206000_2, .slice Ao41 x206001_2.length co41, .int .i64 x206002_2, .int .i64 x206003_2] 30 (0, 0)) (by (with_reducible repeat (first | refine blk_drewN ?_ _ | refine blk_drew ?_ | refine blk_alloc ?_ _)); exact BK205.out) hb); have n3_ := Aside0.mk (IsS71.below (by repeat (first | (with_reducible first | exact HI197.out | apply IsS71.alloc | apply IsS71.drewN | apply IsS71.drew | apply IsS71.set_0 | apply IsS71.set_1 | apply IsS71.set_2 | apply IsS71.set_3 | refine IsS71.far ?_ NB197_205.out _) | exact HI197.out)) hb); have n4_ := Aside0.mk (below_step (by repeat (first | (with_reducible first | exact HB.out | apply below_alloc | apply pw_below_drewN | apply below_drew1 | refine below_set ?_ (IsS71.ge HI197.out) | refine below_set ?_ GE205.out) | exact HB.out)) hb); have n5_ := Aside0.mk (hbox); have n6_ := Aside0.mk ((by rw [hg]; exact (below_size (by repeat (first | (with_reducible first | exact HB.out | apply below_alloc | apply pw_below_drewN | apply below_drew1 | refine below_set ?_ (IsS71.ge HI197.out) | refine below_set ?_ GE205.out) | exact HB.out))) : w.heap.size ≤ gb222)); have n7_ := Aside0.mk ((by rw [hg]; exact (below_size (by repeat (first | (with_reducible first | exact HB.out | apply below_alloc | apply pw_below_drewN | apply below_drew1 | refine below_set ?_ (IsS71.ge HI197.out) | refine below_set ?_ GE205.out) | exact HB.out))) : w.heap.size ≤ gb222)); have n8_ := Aside0.mk ((by rw [hg]; exact Nat.ne_of_lt (blk_lt (g := gb205) (o := .cells #[.int .i64 x206000_2, .slice Ao41 x206001_2.length co41, .int .i64 x206002_2, .int .i64 x206003_2] 30 (0, 0)) (by (with_reducible repeat (first | refine blk_drewN ?_ _ | refine blk_drew ?_ | refine blk_alloc ?_ _)); exact BK205.out)) : gb205 ≠ gb222)); have n9_ := Aside0.mk ((by rw [hg]; exact Nat.ne_of_gt (blk_lt (g := gb205) (o := .cells #[.int .i64 x206000_2, .slice Ao41 x206001_2.length co41, .int .i64 x206002_2, .int .i64 x206003_2] 30 (0, 0)) (by (with_reducible repeat (first | refine blk_drewN ?_ _ | refine blk_drew ?_ | refine blk_alloc ?_ _)); exact BK205.out)) : gb222 ≠ gb205)); have n10_ := Aside0.mk ((by rw [hg]; exact Nat.ne_of_lt (IsS71.lt (show IsS71 w _ g197 x198000_2 x198001_2 x198002_2 x198003_2 from by repeat (first | (with_reducible first | exact HI197.out | apply IsS71.alloc | apply IsS71.drewN | apply IsS71.drew | apply IsS71.set_0 | apply IsS71.set_1 | apply IsS71.set_2 | apply IsS71.set_3 | refine IsS71.far ?_ NB197_205.out _) | exact HI197.out))) : g197 ≠ gb222)); have n11_ := Aside0.mk ((by rw [hg]; exact Nat.ne_of_gt (IsS71.lt (show IsS71 w _ g197 x198000_2 x198001_2 x198002_2 x198003_2 from by repeat (first | (with_reducible first | exact HI197.out | apply IsS71.alloc | apply IsS71.drewN | apply IsS71.drew | apply IsS71.set_0 | apply IsS71.set_1 | apply IsS71.set_2 | apply IsS71.set_3 | refine IsS71.far ?_ NB197_205.out _) | exact HI197.out))) : gb222 ≠ g197)); clear HO_206001; clear HO214; clear BK205; clear HI197; clear HB; have HO_206001 := n0_; have HO214 := n1_; have BK205 := n2_; have HI197 := n3_; have HB := n4_; have BK222 := n5_; have GW222 := n6_; have GE222 := n7_; have NB205_222 := n8_; have NB222_205 := n9_; have NB197_222 := n10_; have NB222_197 := n11_; clear n0_ n1_ n2_ n3_ n4_ n5_ n6_ n7_ n8_ n9_ n10_ n11_; clear hb hbox hg) | ((with_reducible refine gate_dst (N := 11) rfl ?_); (try (refine gate_guard (by rfl) ?_; dsimp only)); refine box_event ?hg (N := 11) ?hd (cs := #[.int .i64 0, .string (⟨#[]⟩ : ByteArray), .string (⟨#[]⟩ : ByteArray), .int .i64 0]) (t := 34) ?hr ?_; (case hd => rfl); (case hg => rfl); (case hr => first | (go_simp; done) | (go_simp; rfl)); intro gb223 hg w44 hbox hb; have n0_ := Aside0.mk (Kd.V_below (Kd.V_elderB (by (with_reducible repeat (first | apply Kd.V_alloc | apply Kd.V_drewN | apply Kd.V_drew)); exact HO_206001.out) gb223 (Nat.le_of_eq hg.symm)) hb); have n1_ := Aside0.mk (Kd.V_below (Kd.V_elderB (by (with_reducible repeat (first | apply Kd.V_alloc | apply Kd.V_drewN | apply Kd.V_drew)); exact HO214.out) gb223 (Nat.le_of_eq hg.symm)) hb); have n2_ := Aside0.mk (blk_below (g := gb205) (o := .cells #[.int .i64 x206000_2, .slice Ao41 x206001_2.length co41, .int .i64 x206002_2, .int .i64 x206003_2] 30 (0, 0)) (by (with_reducible repeat (first | refine blk_drewN ?_ _ | refine blk_drew ?_ | refine blk_alloc ?_ _)); exact BK205.out) hb); have n3_ := Aside0.mk (IsS71.below (by repeat (first | (with_reducible first | exact HI197.out | apply IsS71.alloc | apply IsS71.drewN | apply IsS71.drew | apply IsS71.set_0 | apply IsS71.set_1 | apply IsS71.set_2 | apply IsS71.set_3 | refine IsS71.far ?_ NB197_205.out _ | refine IsS71.far ?_ NB197_222.out _) | exact HI197.out)) hb); have n4_ := Aside0.mk (blk_below (g := gb222) (o := .cells #[.int .i64 0, .slice none 0 0, .int .i64 0, .int .i64 0] 30 (0, 0)) (by (with_reducible repeat (first | refine blk_drewN ?_ _ | refine blk_drew ?_ | refine blk_alloc ?_ _)); exact BK222.out) hb); have n5_ := Aside0.mk (below_step (by repeat (first | (with_reducible first | exact HB.out | apply below_alloc | apply pw_below_drewN | apply below_drew1 | refine below_set ?_ (IsS71.ge HI197.out) | refine below_set ?_ GE205.out | refine below_set ?_ GE222.out) | exact HB.out)) hb); have n6_ := Aside0.mk (hbox); have n7_ := Aside0.mk ((by rw [hg]; exact (below_size (by repeat (first | (with_reducible first | exact HB.out | apply below_alloc | apply pw_below_drewN | apply below_drew1 | refine below_set ?_ (IsS71.ge HI197.out) | refine below_set ?_ GE205.out | refine below_set ?_ GE222.out) | exact HB.out))) : w.heap.size ≤ gb223)); have n8_ := Aside0.mk ((by rw [hg]; exact (below_size (by repeat (first | (with_reducible first | exact HB.out | apply below_alloc | apply pw_below_drewN | apply below_drew1 | refine below_set ?_ (IsS71.ge HI197.out) | refine below_set ?_ GE205.out | refine below_set ?_ GE222.out) | exact HB.out))) : w.heap.size ≤ gb223)); have n9_ := Aside0.mk ((by rw [hg]; exact Nat.ne_of_lt (blk_lt (g := gb205) (o := .cells #[.int .i64 x206000_2, .slice Ao41 x206001_2.length co41, .int .i64 x206002_2, .int .i64 x206003_2] 30 (0, 0)) (by (with_reducible repeat (first | refine blk_drewN ?_ _ | refine blk_drew ?_ | refine blk_alloc ?_ _)); exact BK205.out)) : gb205 ≠ gb223)); have n10_ := Aside0.mk ((by rw [hg]; exact Nat.ne_of_gt (blk_lt (g := gb205) (o := .cells #[.int .i64 x206000_2, .slice Ao41 x206001_2.length co41, .int .i64 x206002_2, .int .i64 x206003_2] 30 (0, 0)) (by (with_reducible repeat (first | refine blk_drewN ?_ _ | refine blk_drew ?_ | refine blk_alloc ?_ _)); exact BK205.out)) : gb223 ≠ gb205)); have n11_ := Aside0.mk ((by rw [hg]; exact Nat.ne_of_lt (blk_lt (g := gb222) (o := .cells #[.int .i64 0, .slice none 0 0, .int .i64 0, .int .i64 0] 30 (0, 0)) (by (with_reducible repeat (first | refine blk_drewN ?_ _ | refine blk_drew ?_ | refine blk_alloc ?_ _)); exact BK222.out)) : gb222 ≠ gb223)); have n12_ := Aside0.mk ((by rw [hg]; exact Nat.ne_of_gt (blk_lt (g := gb222) (o := .cells #[.int .i64 0, .slice none 0 0, .int .i64 0, .int .i64 0] 30 (0, 0)) (by (with_reducible repeat (first | refine blk_drewN ?_ _ | refine blk_drew ?_ | refine blk_alloc ?_ _)); exact BK222.out)) : gb223 ≠ gb222)); have n13_ := Aside0.mk ((by rw [hg]; exact Nat.ne_of_lt (IsS71.lt (show IsS71 w _ g197 x198000_2 x198001_2 x198002_2 x198003_2 from by repeat (first | (with_reducible first | exact HI197.out | apply IsS71.alloc | apply IsS71.drewN | apply IsS71.drew | apply IsS71.set_0 | apply IsS71.set_1 | apply IsS71.set_2 | apply IsS71.set_3 | refine IsS71.far ?_ NB197_205.out _ | refine IsS71.far ?_ NB197_222.out _) | exact HI197.out))) : g197 ≠ gb223)); have n14_ := Aside0.mk ((by rw [hg]; exact Nat.ne_of_gt (IsS71.lt (show IsS71 w _ g197 x198000_2 x198001_2 x198002_2 x198003_2 from by repeat (first | (with_reducible first | exact HI197.out | apply IsS71.alloc | apply IsS71.drewN | apply IsS71.drew | apply IsS71.set_0 | apply IsS71.set_1 | apply IsS71.set_2 | apply IsS71.set_3 | refine IsS71.far ?_ NB197_205.out _ | refine IsS71.far ?_ NB197_222.out _) | exact HI197.out))) : gb223 ≠ g197)); clear HO_206001; clear HO214; clear BK205; clear HI197; clear BK222; clear HB; have HO_206001 := n0_; have HO214 := n1_; have BK205 := n2_; have HI197 := n3_; have BK222 := n4_; have HB := n5_; have BK223 := n6_; have GW223 := n7_; have GE223 := n8_; have NB205_223 := n9_; have NB223_205 := n10_; have NB222_223 := n11_; have NB223_222 := n12_; have NB197_223 := n13_; have NB223_197 := n14_; clear n0_ n1_ n2_ n3_ n4_ n5_ n6_ n7_ n8_ n9_ n10_ n11_ n12_ n13_ n14_; clear hb hbox hg; have hnb45 := NB222_205.out; have hnc45 := NB205_222.out; have hnb46 := NB222_223.out; have hnc46 := NB223_222.out; have hnb47 := NB222_197.out; have hnc47 := NB197_222.out; have hcz48_0 : w44.cell? ⟨gb222, 0, none⟩ = some (.int .i64 0) := (blk_cell BK222.out 0).trans rfl; have hcz48_1 : w44.cell? ⟨gb222, 1, none⟩ = some (.slice none 0 0) := (blk_cell BK222.out 1).trans rfl; have hcz48_2 : w44.cell? ⟨gb222, 2, none⟩ = some (.int .i64 0) := (blk_cell BK222.out 2).trans rfl; have hcz48_3 : w44.cell? ⟨gb222, 3, none⟩ = some (.int .i64 0) := (blk_cell BK222.out 3).trans rfl; have hfz48_0 := blk_frozen BK222.out 0; have hfz48_1 := blk_frozen BK222.out 1; have hfz48_2 := blk_frozen BK222.out 2; have hfz48_3 := blk_frozen BK222.out 3; obtain ⟨Ao49, co49, eo49⟩ := Kd.V_slice HO214.out; subst eo49; have hnb50 := NB223_205.out; have hnc50 := NB205_223.out; have hnb51 := NB223_197.out; have hnc51 := NB197_223.out; have hcz52_0 : w44.cell? ⟨gb223, 0, none⟩ = some (.int .i64 0) := (blk_cell BK223.out 0).trans rfl; have hcz52_1 : w44.cell? ⟨gb223, 1, none⟩ = some (.string (⟨#[]⟩ : ByteArray)) := (blk_cell BK223.out 1).trans rfl; have hcz52_2 : w44.cell? ⟨gb223, 2, none⟩ = some (.string (⟨#[]⟩ : ByteArray)) := (blk_cell BK223.out 2).trans rfl; have hcz52_3 : w44.cell? ⟨gb223, 3, none⟩ = some (.int .i64 0) := (blk_cell BK223.out 3).trans rfl; have hfz52_0 := blk_frozen BK223.out 0; have hfz52_1 := blk_frozen BK223.out 1; have hfz52_2 := blk_frozen BK223.out 2; have hfz52_3 := blk_frozen BK223.out 3; have hcz53_0 : w44.cell? ⟨gb205, 0, none⟩ = some (.int .i64 x206000_2) := (blk_cell BK205.out 0).trans rfl; have hcz53_1 : w44.cell? ⟨gb205, 1, none⟩ = some (.slice Ao41 x206001_2.length co41) := (blk_cell BK205.out 1).trans rfl; have hcz53_2 : w44.cell? ⟨gb205, 2, none⟩ = some (.int .i64 x206002_2) := (blk_cell BK205.out 2).trans rfl; have hcz53_3 : w44.cell? ⟨gb205, 3, none⟩ = some (.int .i64 x206003_2) := (blk_cell BK205.out 3).trans rfl; have hfz53_0 := blk_frozen BK205.out 0; have hfz53_1 := blk_frozen BK205.out 1; have hfz53_2 := blk_frozen BK205.out 2; have hfz53_3 := blk_frozen BK205.out 3) | ((with_reducible refine gate_callee (f := 12) rfl ?_); refine goesL_ (some 84) rfl rfl Try.func12 (by kernel_rfl) rfl #[.pointer (some ⟨g197, 0, none⟩)] rfl (by (try simp only [List.map_toArray, List.map_cons, List.map_nil]); first | done | rfl | (simp only [List.length_drop, List.length_take]; rfl)) ?_; (with_reducible refine (feed_Feed_Hear.calls g197 x198000_2 x198001_2 x198002_2 x198003_2 t224 t225 t226 t227 t228 t229 t230 t231 t232 w _ ?side1 ?side2 A35.out).mono ?_); (case side1 => repeat (first | (with_reducible first | exact HI197.out | apply IsS71.alloc | apply IsS71.drewN | apply IsS71.drew | apply IsS71.set_0 | apply IsS71.set_1 | apply IsS71.set_2 | apply IsS71.set_3 | refine IsS71.far ?_ NB197_205.out _ | refine IsS71.far ?_ NB197_222.out _ | refine IsS71.far ?_ NB197_223.out _) | exact HI197.out)); (case side2 => repeat (first | (with_reducible first | exact HB.out | apply below_alloc | apply pw_below_drewN | apply below_drew1 | refine below_set ?_ (IsS71.ge HI197.out) | refine below_set ?_ GE205.out | refine below_set ?_ GE222.out | refine below_set ?_ GE223.out) | exact HB.out)); rintro e w54 ⟨rfl, hi, hb, hk⟩; refine ⟨_, rfl, ?_⟩; have n0_ := Aside0.mk (Kd.V_mono (KeepF.V (Kd.V_mono (ok := fun k_ => (((k_ ≠ gb205 ∧ k_ ≠ g197) ∧ k_ ≠ gb222) ∧ k_ ≠ gb223)) (by (with_reducible repeat (first | apply Kd.V_alloc | apply Kd.V_drewN | apply Kd.V_drew)); exact (Kd.V_mono (Kd.V_mono (Kd.V_mono (Kd.V_far (p := ⟨gb205, 3, none⟩) (Kd.V_far (p := ⟨gb205, 2, none⟩) (Kd.V_far (p := ⟨gb205, 1, none⟩) (Kd.V_far (p := ⟨gb205, 0, none⟩) (Kd.V_far (p := ⟨gb223, 3, none⟩) (Kd.V_far (p := ⟨gb223, 2, none⟩) (Kd.V_far (p := ⟨gb223, 1, none⟩) (Kd.V_far (p := ⟨gb223, 0, none⟩) (Kd.V_far (p := ⟨gb222, 3, none⟩) (Kd.V_far (p := ⟨gb222, 2, none⟩) (Kd.V_far (p := ⟨gb222, 1, none⟩) (Kd.V_far (p := ⟨gb222, 0, none⟩) (Kd.V_mono (Kd.V_mono (Kd.V_mono HO_206001.out (fun k_ hk => (⟨hk, hk.1.2⟩ : _ ∧ k_ ≠ gb222))) (fun k_ hk => (⟨hk, hk.1.2⟩ : _ ∧ k_ ≠ gb223))) (fun k_ hk => (⟨hk, hk.1.1.1.1.1⟩ : _ ∧ k_ ≠ gb205))) (fun _ hk => hk.1.1.2) (.int .i64 t211)) (fun _ hk => hk.1.1.2) (.slice Ao49 t212.length co49)) (fun _ hk => hk.1.1.2) (.int .i64 t215)) (fun _ hk => hk.1.1.2) (.int .i64 t216)) (fun _ hk => hk.1.2) (.int .i64 t217)) (fun _ hk => hk.1.2) (.string t218)) (fun _ hk => hk.1.2) (.string t219)) (fun _ hk => hk.1.2) (.int .i64 t220)) (fun _ hk => hk.2) (.int .i64 t211)) (fun _ hk => hk.2) (.slice Ao49 t212.length co49)) (fun _ hk => hk.2) (.int .i64 t215)) (fun _ hk => hk.2) (.int .i64 t216)) (fun _ h_ => h_.1)) (fun _ h_ => h_.1)) (fun _ h_ => h_.1))) (fun k_ hk_ => (⟨hk_, hk_.1.1.2⟩ : _ ∧ k_ ≠ g197))) hk (fun _ h => h.2)) (fun _ h => h.1)); have n1_ := Aside0.mk (KeepF.blk hk (g' := gb205) (o := .cells #[.int .i64 t211, .slice Ao49 t212.length co49, .int .i64 t215, .int .i64 t216] 30 (0, 0)) (by (with_reducible repeat (first | refine blk_drewN ?_ _ | refine blk_drew ?_ | refine blk_alloc ?_ _)); refine blk_put (cs := #[.int .i64 t211, .slice Ao49 t212.length co49, .int .i64 t215, .int .i64 x206003_2]) ?_ 3 _ rfl; (with_reducible repeat (first | refine blk_drewN ?_ _ | refine blk_drew ?_ | refine blk_alloc ?_ _)); refine blk_put (cs := #[.int .i64 t211, .slice Ao49 t212.length co49, .int .i64 x206002_2, .int .i64 x206003_2]) ?_ 2 _ rfl; (with_reducible repeat (first | refine blk_drewN ?_ _ | refine blk_drew ?_ | refine blk_alloc ?_ _)); refine blk_put (cs := #[.int .i64 t211, .slice Ao41 x206001_2.length co41, .int .i64 x206002_2, .int .i64 x206003_2]) ?_ 1 _ rfl; (with_reducible repeat (first | refine blk_drewN ?_ _ | refine blk_drew ?_ | refine blk_alloc ?_ _)); refine blk_put (cs := #[.int .i64 x206000_2, .slice Ao41 x206001_2.length co41, .int .i64 x206002_2, .int .i64 x206003_2]) ?_ 0 _ rfl; (with_reducible repeat (first | refine blk_drewN ?_ _ | refine blk_drew ?_ | refine blk_alloc ?_ _)); refine blk_far ?_ NB205_223.out _; (with_reducible repeat (first | refine blk_drewN ?_ _ | refine blk_drew ?_ | refine blk_alloc ?_ _)); refine blk_far ?_ NB205_223.out _; (with_reducible repeat (first | refine blk_drewN ?_ _ | refine blk_drew ?_ | refine blk_alloc ?_ _)); refine blk_far ?_ NB205_223.out _; (with_reducible repeat (first | refine blk_drewN ?_ _ | refine blk_drew ?_ | refine blk_alloc ?_ _)); refine blk_far ?_ NB205_223.out _; (with_reducible repeat (first | refine blk_drewN ?_ _ | refine blk_drew ?_ | refine blk_alloc ?_ _)); refine blk_far ?_ NB205_222.out _; (with_reducible repeat (first | refine blk_drewN ?_ _ | refine blk_drew ?_ | refine blk_alloc ?_ _)); refine blk_far ?_ NB205_222.out _; (with_reducible repeat (first | refine blk_drewN ?_ _ | refine blk_drew ?_ | refine blk_alloc ?_ _)); refine blk_far ?_ NB205_222.out _; (with_reducible repeat (first | refine blk_drewN ?_ _ | refine blk_drew ?_ | refine blk_alloc ?_ _)); refine blk_far ?_ NB205_222.out _; (with_reducible repeat (first | refine blk_drewN ?_ _ | refine blk_drew ?_ | refine blk_alloc ?_ _)); exact BK205.out) NB205_197.out (by simp)); have n2_ := Aside0.mk (Kd.V_mono (KeepF.V (Kd.V_mono (ok := fun k_ => (((k_ ≠ gb205 ∧ k_ ≠ g197) ∧ k_ ≠ gb222) ∧ k_ ≠ gb223)) (by (with_reducible repeat (first | apply Kd.V_alloc | apply Kd.V_drewN | apply Kd.V_drew)); exact (Kd.V_mono (Kd.V_mono (Kd.V_mono (Kd.V_far (p := ⟨gb205, 3, none⟩) (Kd.V_far (p := ⟨gb205, 2, none⟩) (Kd.V_far (p := ⟨gb205, 1, none⟩) (Kd.V_far (p := ⟨gb205, 0, none⟩) (Kd.V_far (p := ⟨gb223, 3, none⟩) (Kd.V_far (p := ⟨gb223, 2, none⟩) (Kd.V_far (p := ⟨gb223, 1, none⟩) (Kd.V_far (p := ⟨gb223, 0, none⟩) (Kd.V_far (p := ⟨gb222, 3, none⟩) (Kd.V_far (p := ⟨gb222, 2, none⟩) (Kd.V_far (p := ⟨gb222, 1, none⟩) (Kd.V_far (p := ⟨gb222, 0, none⟩) (Kd.V_mono (Kd.V_mono (Kd.V_mono HO214.out (fun k_ hk => (⟨hk, hk.1.2⟩ : _ ∧ k_ ≠ gb222))) (fun k_ hk => (⟨hk, hk.1.2⟩ : _ ∧ k_ ≠ gb223))) (fun k_ hk => (⟨hk, hk.1.1.1.1.1⟩ : _ ∧ k_ ≠ gb205))) (fun _ hk => hk.1.1.2) (.int .i64 t211)) (fun _ hk => hk.1.1.2) (.slice Ao49 t212.length co49)) (fun _ hk => hk.1.1.2) (.int .i64 t215)) (fun _ hk => hk.1.1.2) (.int .i64 t216)) (fun _ hk => hk.1.2) (.int .i64 t217)) (fun _ hk => hk.1.2) (.string t218)) (fun _ hk => hk.1.2) (.string t219)) (fun _ hk => hk.1.2) (.int .i64 t220)) (fun _ hk => hk.2) (.int .i64 t211)) (fun _ hk => hk.2) (.slice Ao49 t212.length co49)) (fun _ hk => hk.2) (.int .i64 t215)) (fun _ hk => hk.2) (.int .i64 t216)) (fun _ h_ => h_.1)) (fun _ h_ => h_.1)) (fun _ h_ => h_.1))) (fun k_ hk_ => (⟨hk_, hk_.1.1.2⟩ : _ ∧ k_ ≠ g197))) hk (fun _ h => h.2)) (fun _ h => h.1)); have n3_ := Aside0.mk (KeepF.blk hk (g' := gb222) (o := .cells #[.int .i64 t211, .slice Ao49 t212.length co49, .int .i64 t215, .int .i64 t216] 30 (0, 0)) (by (with_reducible repeat (first | refine blk_drewN ?_ _ | refine blk_drew ?_ | refine blk_alloc ?_ _)); refine blk_far ?_ NB222_205.out _; (with_reducible repeat (first | refine blk_drewN ?_ _ | refine blk_drew ?_ | refine blk_alloc ?_ _)); refine blk_far ?_ NB222_205.out _; (with_reducible repeat (first | refine blk_drewN ?_ _ | refine blk_drew ?_ | refine blk_alloc ?_ _)); refine blk_far ?_ NB222_205.out _; (with_reducible repeat (first | refine blk_drewN ?_ _ | refine blk_drew ?_ | refine blk_alloc ?_ _)); refine blk_far ?_ NB222_205.out _; (with_reducible repeat (first | refine blk_drewN ?_ _ | refine blk_drew ?_ | refine blk_alloc ?_ _)); refine blk_far ?_ NB222_223.out _; (with_reducible repeat (first | refine blk_drewN ?_ _ | refine blk_drew ?_ | refine blk_alloc ?_ _)); refine blk_far ?_ NB222_223.out _; (with_reducible repeat (first | refine blk_drewN ?_ _ | refine blk_drew ?_ | refine blk_alloc ?_ _)); refine blk_far ?_ NB222_223.out _; (with_reducible repeat (first | refine blk_drewN ?_ _ | refine blk_drew ?_ | refine blk_alloc ?_ _)); refine blk_far ?_ NB222_223.out _; (with_reducible repeat (first | refine blk_drewN ?_ _ | refine blk_drew ?_ | refine blk_alloc ?_ _)); refine blk_put (cs := #[.int .i64 t211, .slice Ao49 t212.length co49, .int .i64 t215, .int .i64 0]) ?_ 3 _ rfl; (with_reducible repeat (first | refine blk_drewN ?_ _ | refine blk_drew ?_ | refine blk_alloc ?_ _)); refine blk_put (cs := #[.int .i64 t211, .slice Ao49 t212.length co49, .int .i64 0, .int .i64 0]) ?_ 2 _ rfl; (with_reducible repeat (first | refine blk_drewN ?_ _ | refine blk_drew ?_ | refine blk_alloc ?_ _)); refine blk_put (cs := #[.int .i64 t211, .slice none 0 0, .int .i64 0, .int .i64 0]) ?_ 1 _ rfl; (with_reducible repeat (first | refine blk_drewN ?_ _ | refine blk_drew ?_ | refine blk_alloc ?_ _)); refine blk_put (cs := #[.int .i64 0, .slice none 0 0, .int .i64 0, .int .i64 0]) ?_ 0 _ rfl; (with_reducible repeat (first | refine blk_drewN ?_ _ | refine blk_drew ?_ | refine blk_alloc ?_ _)); exact BK222.out) NB222_197.out (by simp)); have n4_ := Aside0.mk (KeepF.blk hk (g' := gb223) (o := .cells #[.int .i64 t217, .string t218, .string t219, .int .i64 t220] 34 (0, 0)) (by (with_reducible repeat (first | refine blk_drewN ?_ _ | refine blk_drew ?_ | refine blk_alloc ?_ _)); refine blk_far ?_ NB223_205.out _; (with_reducible repeat (first | refine blk_drewN ?_ _ | refine blk_drew ?_ | refine blk_alloc ?_ _)); refine blk_far ?_ NB223_205.out _; (with_reducible repeat (first | refine blk_drewN ?_ _ | refine blk_drew ?_ | refine blk_alloc ?_ _)); refine blk_far ?_ NB223_205.out _; (with_reducible repeat (first | refine blk_drewN ?_ _ | refine blk_drew ?_ | refine blk_alloc ?_ _)); refine blk_far ?_ NB223_205.out _; (with_reducible repeat (first | refine blk_drewN ?_ _ | refine blk_drew ?_ | refine blk_alloc ?_ _)); refine blk_put (cs := #[.int .i64 t217, .string t218, .string t219, .int .i64 0]) ?_ 3 _ rfl; (with_reducible repeat (first | refine blk_drewN ?_ _ | refine blk_drew ?_ | refine blk_alloc ?_ _)); refine blk_put (cs := #[.int .i64 t217, .string t218, .string (⟨#[]⟩ : ByteArray), .int .i64 0]) ?_ 2 _ rfl; (with_reducible repeat (first | refine blk_drewN ?_ _ | refine blk_drew ?_ | refine blk_alloc ?_ _)); refine blk_put (cs := #[.int .i64 t217, .string (⟨#[]⟩ : ByteArray), .string (⟨#[]⟩ : ByteArray), .int .i64 0]) ?_ 1 _ rfl; (with_reducible repeat (first | refine blk_drewN ?_ _ | refine blk_drew ?_ | refine blk_alloc ?_ _)); refine blk_put (cs := #[.int .i64 0, .string (⟨#[]⟩ : ByteArray), .string (⟨#[]⟩ : ByteArray), .int .i64 0]) ?_ 0 _ rfl; (with_reducible repeat (first | refine blk_drewN ?_ _ | refine blk_drew ?_ | refine blk_alloc ?_ _)); refine blk_far ?_ NB223_222.out _; (with_reducible repeat (first | refine blk_drewN ?_ _ | refine blk_drew ?_ | refine blk_alloc ?_ _)); refine blk_far ?_ NB223_222.out _; (with_reducible repeat (first | refine blk_drewN ?_ _ | refine blk_drew ?_ | refine blk_alloc ?_ _)); refine blk_far ?_ NB223_222.out _; (with_reducible repeat (first | refine blk_drewN ?_ _ | refine blk_drew ?_ | refine blk_alloc ?_ _)); refine blk_far ?_ NB223_222.out _; (with_reducible repeat (first | refine blk_drewN ?_ _ | refine blk_drew ?_ | refine blk_alloc ?_ _)); exact BK223.out) NB223_197.out (by simp)); have n5_ := Aside0.mk (hb); have n6_ := Aside0.mk (hi); clear HO_206001; clear BK205; clear HO214; clear BK222; clear BK223; clear HB; clear HI197; have HO_206001 := n0_; have BK205 := n1_; have HO214 := n2_; have BK222 := n3_; have BK223 := n4_; have HB := n5_; have HI197 := n6_; clear n0_ n1_ n2_ n3_ n4_ n5_ n6_; (try clear hb); (try clear hb2); (try clear hk); (try clear hi)) | ((with_reducible refine gate_dst (N := 13) rfl ?_); (try (refine gate_guard (by rfl) ?_; dsimp only)); refine box_event ?hg (N := 13) ?hd (cs := #[.int .i64 0, .string (⟨#[]⟩ : ByteArray), .string (⟨#[]⟩ : ByteArray), .int .i64 0]) (t := 39) ?hr ?_; (case hd => rfl); (case hg => rfl); (case hr => first | (go_simp; done) | (go_simp; rfl)); intro gb233 hg w55 hbox hb; have n0_ := Aside0.mk (Kd.V_below (Kd.V_elderB (by (with_reducible repeat (first | apply Kd.V_alloc | apply Kd.V_drewN | apply Kd.V_drew)); exact HO_206001.out) gb233 (Nat.le_of_eq hg.symm)) hb); have n1_ := Aside0.mk (Kd.V_below (Kd.V_elderB (by (with_reducible repeat (first | apply Kd.V_alloc | apply Kd.V_drewN | apply Kd.V_drew)); exact HO214.out) gb233 (Nat.le_of_eq hg.symm)) hb); have n2_ := Aside0.mk (blk_below (g := gb205) (o := .cells #[.int .i64 t211, .slice Ao49 t212.length co49, .int .i64 t215, .int .i64 t216] 30 (0, 0)) (by (with_reducible repeat (first | refine blk_drewN ?_ _ | refine blk_drew ?_ | refine blk_alloc ?_ _)); exact BK205.out) hb); have n3_ := Aside0.mk (IsS71.below (by repeat (first | (with_reducible first | exact HI197.out | apply IsS71.alloc | apply IsS71.drewN | apply IsS71.drew | apply IsS71.set_0 | apply IsS71.set_1 | apply IsS71.set_2 | apply IsS71.set_3 | refine IsS71.far ?_ NB197_205.out _ | refine IsS71.far ?_ NB197_222.out _ | refine IsS71.far ?_ NB197_223.out _) | exact HI197.out)) hb); have n4_ := Aside0.mk (blk_below (g := gb222) (o := .cells #[.int .i64 t211, .slice Ao49 t212.length co49, .int .i64 t215, .int .i64 t216] 30 (0, 0)) (by (with_reducible repeat (first | refine blk_drewN ?_ _ | refine blk_drew ?_ | refine blk_alloc ?_ _)); exact BK222.out) hb); have n5_ := Aside0.mk (blk_below (g := gb223) (o := .cells #[.int .i64 t217, .string t218, .string t219, .int .i64 t220] 34 (0, 0)) (by (with_reducible repeat (first | refine blk_drewN ?_ _ | refine blk_drew ?_ | refine blk_alloc ?_ _)); exact BK223.out) hb); have n6_ := Aside0.mk (below_step (by repeat (first | (with_reducible first | exact HB.out | apply below_alloc | apply pw_below_drewN | apply below_drew1 | refine below_set ?_ (IsS71.ge HI197.out) | refine below_set ?_ GE205.out | refine below_set ?_ GE222.out | refine below_set ?_ GE223.out) | exact HB.out)) hb); have n7_ := Aside0.mk (hbox); have n8_ := Aside0.mk ((by rw [hg]; exact (below_size (by repeat (first | (with_reducible first | exact HB.out | apply below_alloc | apply pw_below_drewN | apply below_drew1 | refine below_set ?_ (IsS71.ge HI197.out) | refine below_set ?_ GE205.out | refine below_set ?_ GE222.out | refine below_set ?_ GE223.out) | exact HB.out))) : w.heap.size ≤ gb233)); have n9_ := Aside0.mk ((by rw [hg]; exact (below_size (by repeat (first | (with_reducible first | exact HB.out | apply below_alloc | apply pw_below_drewN | apply below_drew1 | refine below_set ?_ (IsS71.ge HI197.out) | refine below_set ?_ GE205.out | refine below_set ?_ GE222.out | refine below_set ?_ GE223.out) | exact HB.out))) : w.heap.size ≤ gb233)); have n10_ := Aside0.mk ((by rw [hg]; exact Nat.ne_of_lt (blk_lt (g := gb205) (o := .cells #[.int .i64 t211, .slice Ao49 t212.length co49, .int .i64 t215, .int .i64 t216] 30 (0, 0)) (by (with_reducible repeat (first | refine blk_drewN ?_ _ | refine blk_drew ?_ | refine blk_alloc ?_ _)); exact BK205.out)) : gb205 ≠ gb233)); have n11_ := Aside0.mk ((by rw [hg]; exact Nat.ne_of_gt (blk_lt (g := gb205) (o := .cells #[.int .i64 t211, .slice Ao49 t212.length co49, .int .i64 t215, .int .i64 t216] 30 (0, 0)) (by (with_reducible repeat (first | refine blk_drewN ?_ _ | refine blk_drew ?_ | refine blk_alloc ?_ _)); exact BK205.out)) : gb233 ≠ gb205)); have n12_ := Aside0.mk ((by rw [hg]; exact Nat.ne_of_lt (blk_lt (g := gb222) (o := .cells #[.int .i64 t211, .slice Ao49 t212.length co49, .int .i64 t215, .int .i64 t216] 30 (0, 0)) (by (with_reducible repeat (first | refine blk_drewN ?_ _ | refine blk_drew ?_ | refine blk_alloc ?_ _)); exact BK222.out)) : gb222 ≠ gb233)); have n13_ := Aside0.mk ((by rw [hg]; exact Nat.ne_of_gt (blk_lt (g := gb222) (o := .cells #[.int .i64 t211, .slice Ao49 t212.length co49, .int .i64 t215, .int .i64 t216] 30 (0, 0)) (by (with_reducible repeat (first | refine blk_drewN ?_ _ | refine blk_drew ?_ | refine blk_alloc ?_ _)); exact BK222.out)) : gb233 ≠ gb222)); have n14_ := Aside0.mk ((by rw [hg]; exact Nat.ne_of_lt (blk_lt (g := gb223) (o := .cells #[.int .i64 t217, .string t218, .string t219, .int .i64 t220] 34 (0, 0)) (by (with_reducible repeat (first | refine blk_drewN ?_ _ | refine blk_drew ?_ | refine blk_alloc ?_ _)); exact BK223.out)) : gb223 ≠ gb233)); have n15_ := Aside0.mk ((by rw [hg]; exact Nat.ne_of_gt (blk_lt (g := gb223) (o := .cells #[.int .i64 t217, .string t218, .string t219, .int .i64 t220] 34 (0, 0)) (by (with_reducible repeat (first | refine blk_drewN ?_ _ | refine blk_drew ?_ | refine blk_alloc ?_ _)); exact BK223.out)) : gb233 ≠ gb223)); have n16_ := Aside0.mk ((by rw [hg]; exact Nat.ne_of_lt (IsS71.lt (show IsS71 w _ g197 t229 t230 t231 t232 from by repeat (first | (with_reducible first | exact HI197.out | apply IsS71.alloc | apply IsS71.drewN | apply IsS71.drew | apply IsS71.set_0 | apply IsS71.set_1 | apply IsS71.set_2 | apply IsS71.set_3 | refine IsS71.far ?_ NB197_205.out _ | refine IsS71.far ?_ NB197_222.out _ | refine IsS71.far ?_ NB197_223.out _) | exact HI197.out))) : g197 ≠ gb233)); have n17_ := Aside0.mk ((by rw [hg]; exact Nat.ne_of_gt (IsS71.lt (show IsS71 w _ g197 t229 t230 t231 t232 from by repeat (first | (with_reducible first | exact HI197.out | apply IsS71.alloc | apply IsS71.drewN | apply IsS71.drew | apply IsS71.set_0 | apply IsS71.set_1 | apply IsS71.set_2 | apply IsS71.set_3 | refine IsS71.far ?_ NB197_205.out _ | refine IsS71.far ?_ NB197_222.out _ | refine IsS71.far ?_ NB197_223.out _) | exact HI197.out))) : gb233 ≠ g197)); clear HO_206001; clear HO214; clear BK205; clear HI197; clear BK222; clear BK223; clear HB; have HO_206001 := n0_; have HO214 := n1_; have BK205 := n2_; have HI197 := n3_; have BK222 := n4_; have BK223 := n5_; have HB := n6_; have BK233 := n7_; have GW233 := n8_; have GE233 := n9_; have NB205_233 := n10_; have NB233_205 := n11_; have NB222_233 := n12_; have NB233_222 := n13_; have NB223_233 := n14_; have NB233_223 := n15_; have NB197_233 := n16_; have NB233_197 := n17_; clear n0_ n1_ n2_ n3_ n4_ n5_ n6_ n7_ n8_ n9_ n10_ n11_ n12_ n13_ n14_ n15_ n16_ n17_; clear hb hbox hg; have hnb56 := NB233_205.out; have hnc56 := NB205_233.out; have hnb57 := NB233_222.out; have hnc57 := NB222_233.out; have hnb58 := NB233_223.out; have hnc58 := NB223_233.out; have hnb59 := NB233_197.out; have hnc59 := NB197_233.out; have hcz60_0 : w55.cell? ⟨gb233, 0, none⟩ = some (.int .i64 0) := (blk_cell BK233.out 0).trans rfl; have hcz60_1 : w55.cell? ⟨gb233, 1, none⟩ = some (.string (⟨#[]⟩ : ByteArray)) := (blk_cell BK233.out 1).trans rfl; have hcz60_2 : w55.cell? ⟨gb233, 2, none⟩ = some (.string (⟨#[]⟩ : ByteArray)) := (blk_cell BK233.out 2).trans rfl; have hcz60_3 : w55.cell? ⟨gb233, 3, none⟩ = some (.int .i64 0) := (blk_cell BK233.out 3).trans rfl; have hfz60_0 := blk_frozen BK233.out 0; have hfz60_1 := blk_frozen BK233.out 1; have hfz60_2 := blk_frozen BK233.out 2; have hfz60_3 := blk_frozen BK233.out 3))
                                          have n0_ : Aside0 (Kd.V k34 34 ((((w55.setCell ⟨gb233, 0, none⟩ (.int .i64 t224)).setCell ⟨gb233, 1, none⟩ (.string t225)).setCell ⟨gb233, 2, none⟩ (.string t226)).setCell ⟨gb233, 3, none⟩ (.int .i64 t227)) w.heap.size (fun k_ => k_ ≠ gb205 ∧ k_ ≠ g197 ∧ k_ ≠ gb222 ∧ k_ ≠ gb223 ∧ k_ ≠ gb233) (.slice Ao41 x206001_2.length co41) x206001_2) := ⟨by (with_reducible repeat (first | apply Kd.V_alloc | apply Kd.V_drewN | apply Kd.V_drew)); exact Kd.V_mono (Kd.V_far (p := ⟨gb233, 3, none⟩) (Kd.V_far (p := ⟨gb233, 2, none⟩) (Kd.V_far (p := ⟨gb233, 1, none⟩) (Kd.V_far (p := ⟨gb233, 0, none⟩) (Kd.V_mono HO_206001.out (fun k_ hk => (⟨hk, hk.2⟩ : _ ∧ k_ ≠ gb233))) (fun _ hk => hk.2) (.int .i64 t224)) (fun _ hk => hk.2) (.string t225)) (fun _ hk => hk.2) (.string t226)) (fun _ hk => hk.2) (.int .i64 t227)) (fun _ hk => ⟨hk.1.1.1.1.1, ⟨hk.1.1.1.1.2, ⟨hk.1.1.1.2, ⟨hk.1.1.2, hk.1.2⟩⟩⟩⟩)⟩
                                          have n1_ : Aside0 (Kd.V k34 34 ((((w55.setCell ⟨gb233, 0, none⟩ (.int .i64 t224)).setCell ⟨gb233, 1, none⟩ (.string t225)).setCell ⟨gb233, 2, none⟩ (.string t226)).setCell ⟨gb233, 3, none⟩ (.int .i64 t227)) w.heap.size (fun k_ => k_ ≠ gb205 ∧ k_ ≠ g197 ∧ k_ ≠ gb222 ∧ k_ ≠ gb223 ∧ k_ ≠ gb233) (.slice Ao49 t212.length co49) t212) := ⟨by (with_reducible repeat (first | apply Kd.V_alloc | apply Kd.V_drewN | apply Kd.V_drew)); exact Kd.V_mono (Kd.V_far (p := ⟨gb233, 3, none⟩) (Kd.V_far (p := ⟨gb233, 2, none⟩) (Kd.V_far (p := ⟨gb233, 1, none⟩) (Kd.V_far (p := ⟨gb233, 0, none⟩) (Kd.V_mono HO214.out (fun k_ hk => (⟨hk, hk.2⟩ : _ ∧ k_ ≠ gb233))) (fun _ hk => hk.2) (.int .i64 t224)) (fun _ hk => hk.2) (.string t225)) (fun _ hk => hk.2) (.string t226)) (fun _ hk => hk.2) (.int .i64 t227)) (fun _ hk => ⟨hk.1.1.1.1.1, ⟨hk.1.1.1.1.2, ⟨hk.1.1.1.2, ⟨hk.1.1.2, hk.1.2⟩⟩⟩⟩)⟩
                                          have n2_ : Aside0 (((((w55.setCell ⟨gb233, 0, none⟩ (.int .i64 t224)).setCell ⟨gb233, 1, none⟩ (.string t225)).setCell ⟨gb233, 2, none⟩ (.string t226)).setCell ⟨gb233, 3, none⟩ (.int .i64 t227)).heap[gb205]? = some (.cells #[.int .i64 t211, .slice Ao49 t212.length co49, .int .i64 t215, .int .i64 t216] 30 (0, 0))) := ⟨by (with_reducible repeat (first | refine blk_drewN ?_ _ | refine blk_drew ?_ | refine blk_alloc ?_ _)); refine blk_far ?_ NB205_233.out _; (with_reducible repeat (first | refine blk_drewN ?_ _ | refine blk_drew ?_ | refine blk_alloc ?_ _)); refine blk_far ?_ NB205_233.out _; (with_reducible repeat (first | refine blk_drewN ?_ _ | refine blk_drew ?_ | refine blk_alloc ?_ _)); refine blk_far ?_ NB205_233.out _; (with_reducible repeat (first | refine blk_drewN ?_ _ | refine blk_drew ?_ | refine blk_alloc ?_ _)); refine blk_far ?_ NB205_233.out _; (with_reducible repeat (first | refine blk_drewN ?_ _ | refine blk_drew ?_ | refine blk_alloc ?_ _)); exact BK205.out⟩
                                          have n3_ : Aside0 (((((w55.setCell ⟨gb233, 0, none⟩ (.int .i64 t224)).setCell ⟨gb233, 1, none⟩ (.string t225)).setCell ⟨gb233, 2, none⟩ (.string t226)).setCell ⟨gb233, 3, none⟩ (.int .i64 t227)).heap[gb222]? = some (.cells #[.int .i64 t211, .slice Ao49 t212.length co49, .int .i64 t215, .int .i64 t216] 30 (0, 0))) := ⟨by (with_reducible repeat (first | refine blk_drewN ?_ _ | refine blk_drew ?_ | refine blk_alloc ?_ _)); refine blk_far ?_ NB222_233.out _; (with_reducible repeat (first | refine blk_drewN ?_ _ | refine blk_drew ?_ | refine blk_alloc ?_ _)); refine blk_far ?_ NB222_233.out _; (with_reducible repeat (first | refine blk_drewN ?_ _ | refine blk_drew ?_ | refine blk_alloc ?_ _)); refine blk_far ?_ NB222_233.out _; (with_reducible repeat (first | refine blk_drewN ?_ _ | refine blk_drew ?_ | refine blk_alloc ?_ _)); refine blk_far ?_ NB222_233.out _; (with_reducible repeat (first | refine blk_drewN ?_ _ | refine blk_drew ?_ | refine blk_alloc ?_ _)); exact BK222.out⟩
                                          have n4_ : Aside0 (((((w55.setCell ⟨gb233, 0, none⟩ (.int .i64 t224)).setCell ⟨gb233, 1, none⟩ (.string t225)).setCell ⟨gb233, 2, none⟩ (.string t226)).setCell ⟨gb233, 3, none⟩ (.int .i64 t227)).heap[gb223]? = some (.cells #[.int .i64 t217, .string t218, .string t219, .int .i64 t220] 34 (0, 0))) := ⟨by (with_reducible repeat (first | refine blk_drewN ?_ _ | refine blk_drew ?_ | refine blk_alloc ?_ _)); refine blk_far ?_ NB223_233.out _; (with_reducible repeat (first | refine blk_drewN ?_ _ | refine blk_drew ?_ | refine blk_alloc ?_ _)); refine blk_far ?_ NB223_233.out _; (with_reducible repeat (first | refine blk_drewN ?_ _ | refine blk_drew ?_ | refine blk_alloc ?_ _)); refine blk_far ?_ NB223_233.out _; (with_reducible repeat (first | refine blk_drewN ?_ _ | refine blk_drew ?_ | refine blk_alloc ?_ _)); refine blk_far ?_ NB223_233.out _; (with_reducible repeat (first | refine blk_drewN ?_ _ | refine blk_drew ?_ | refine blk_alloc ?_ _)); exact BK223.out⟩
                                          have n5_ : Aside0 (((((w55.setCell ⟨gb233, 0, none⟩ (.int .i64 t224)).setCell ⟨gb233, 1, none⟩ (.string t225)).setCell ⟨gb233, 2, none⟩ (.string t226)).setCell ⟨gb233, 3, none⟩ (.int .i64 t227)).heap[gb233]? = some (.cells #[.int .i64 t224, .string t225, .string t226, .int .i64 t227] 39 (0, 0))) := ⟨by (with_reducible repeat (first | refine blk_drewN ?_ _ | refine blk_drew ?_ | refine blk_alloc ?_ _)); refine blk_put (cs := #[.int .i64 t224, .string t225, .string t226, .int .i64 0]) ?_ 3 _ rfl; (with_reducible repeat (first | refine blk_drewN ?_ _ | refine blk_drew ?_ | refine blk_alloc ?_ _)); refine blk_put (cs := #[.int .i64 t224, .string t225, .string (⟨#[]⟩ : ByteArray), .int .i64 0]) ?_ 2 _ rfl; (with_reducible repeat (first | refine blk_drewN ?_ _ | refine blk_drew ?_ | refine blk_alloc ?_ _)); refine blk_put (cs := #[.int .i64 t224, .string (⟨#[]⟩ : ByteArray), .string (⟨#[]⟩ : ByteArray), .int .i64 0]) ?_ 1 _ rfl; (with_reducible repeat (first | refine blk_drewN ?_ _ | refine blk_drew ?_ | refine blk_alloc ?_ _)); refine blk_put (cs := #[.int .i64 0, .string (⟨#[]⟩ : ByteArray), .string (⟨#[]⟩ : ByteArray), .int .i64 0]) ?_ 0 _ rfl; (with_reducible repeat (first | refine blk_drewN ?_ _ | refine blk_drew ?_ | refine blk_alloc ?_ _)); exact BK233.out⟩
                                          have n6_ : Aside0 (IsS71 w ((((w55.setCell ⟨gb233, 0, none⟩ (.int .i64 t224)).setCell ⟨gb233, 1, none⟩ (.string t225)).setCell ⟨gb233, 2, none⟩ (.string t226)).setCell ⟨gb233, 3, none⟩ (.int .i64 t227)) g197 t229 t230 t231 t232) := ⟨by repeat (first | (with_reducible first | exact HI197.out | apply IsS71.alloc | apply IsS71.drewN | apply IsS71.drew | apply IsS71.set_0 | apply IsS71.set_1 | apply IsS71.set_2 | apply IsS71.set_3 | refine IsS71.far ?_ NB197_205.out _ | refine IsS71.far ?_ NB197_222.out _ | refine IsS71.far ?_ NB197_223.out _ | refine IsS71.far ?_ NB197_233.out _) | exact HI197.out)⟩
                                          have n7_ : Aside0 (Below w.heap.size w ((((w55.setCell ⟨gb233, 0, none⟩ (.int .i64 t224)).setCell ⟨gb233, 1, none⟩ (.string t225)).setCell ⟨gb233, 2, none⟩ (.string t226)).setCell ⟨gb233, 3, none⟩ (.int .i64 t227))) := ⟨by repeat (first | (with_reducible first | exact HB.out | apply below_alloc | apply pw_below_drewN | apply below_drew1 | refine below_set ?_ (IsS71.ge HI197.out) | refine below_set ?_ GE205.out | refine below_set ?_ GE222.out | refine below_set ?_ GE223.out | refine below_set ?_ GE233.out) | exact HB.out)⟩
                                          (try clear HO_206001)
                                          (try clear HO214)
                                          (try clear BK205)
                                          (try clear BK222)
                                          (try clear BK223)
                                          (try clear BK233)
                                          (try clear HI197)
                                          (try clear HB)
                                          generalize ((((w55.setCell ⟨gb233, 0, none⟩ (.int .i64 t224)).setCell ⟨gb233, 1, none⟩ (.string t225)).setCell ⟨gb233, 2, none⟩ (.string t226)).setCell ⟨gb233, 3, none⟩ (.int .i64 t227)) = w61 at n0_ n1_ n2_ n3_ n4_ n5_ n6_ n7_ ⊢
                                          have HO_206001 := n0_
                                          have HO214 := n1_
                                          have BK205 := n2_
                                          have BK222 := n3_
                                          have BK223 := n4_
                                          have BK233 := n5_
                                          have HI197 := n6_
                                          have HB := n7_
                                          clear n0_ n1_ n2_ n3_ n4_ n5_ n6_ n7_
                                          have n0_ := Aside0.mk (Kd.V_drew HO_206001.out)
                                          have n1_ := Aside0.mk (Kd.V_drew HO214.out)
                                          have n2_ := Aside0.mk (blk_drew BK205.out)
                                          have n3_ := Aside0.mk (blk_drew BK222.out)
                                          have n4_ := Aside0.mk (blk_drew BK223.out)
                                          have n5_ := Aside0.mk (blk_drew BK233.out)
                                          have n6_ := Aside0.mk (IsS71.drew HI197.out)
                                          have n7_ := Aside0.mk (below_drew1 HB.out)
                                          clear HO_206001
                                          clear HO214
                                          clear BK205
                                          clear BK222
                                          clear BK223
                                          clear BK233
                                          clear HI197
                                          clear HB
                                          have HO_206001 := n0_
                                          have HO214 := n1_
                                          have BK205 := n2_
                                          have BK222 := n3_
                                          have BK223 := n4_
                                          have BK233 := n5_
                                          have HI197 := n6_
                                          have HB := n7_
                                          clear n0_ n1_ n2_ n3_ n4_ n5_ n6_ n7_
                                          refine start_ (n := 9) (S := fun w' => w'.cell? ⟨gb233, 0, none⟩ = some (.int .i64 t224) ∧ w'.cell? ⟨gb233, 1, none⟩ = some (.string t225) ∧ w'.cell? ⟨gb233, 2, none⟩ = some (.string t226) ∧ w'.cell? ⟨gb233, 3, none⟩ = some (.int .i64 t227) ∧ w'.cell? ⟨gb223, 0, none⟩ = some (.int .i64 t217) ∧ w'.cell? ⟨gb223, 1, none⟩ = some (.string t218) ∧ w'.cell? ⟨gb223, 2, none⟩ = some (.string t219) ∧ w'.cell? ⟨gb223, 3, none⟩ = some (.int .i64 t220)) (ds := []) #[false, false, false, false, false, false, false, false, false] (by kernel_rfl) rfl rfl ⟨(blk_cell BK233.out 0).trans rfl, (blk_cell BK233.out 1).trans rfl, (blk_cell BK233.out 2).trans rfl, (blk_cell BK233.out 3).trans rfl, (blk_cell BK223.out 0).trans rfl, (blk_cell BK223.out 1).trans rfl, (blk_cell BK223.out 2).trans rfl, (blk_cell BK223.out 3).trans rfl⟩ (fun hHeld => ?_); refine with_tabW deedboxlaw39_FeedDoes.tab16 deedboxlaw39_FeedDoes.bits16 (fun HT_ HW_ => ?_)
                                          generalize w61.drew = w62 at HO_206001 HO214 BK205 BK222 BK223 BK233 HI197 HB hHeld ⊢
                                          refine pure_ (i := 0) (N := some 87) (v := ?_) (a' := ?_) #[true, false, false, false, false, false, false, false, false] rfl rfl (any_of HT_.out (by kernel_rfl)) (fun _ _ _ h => h) (Or.inl ⟨by rfl, ?_⟩) ?_ ?_
                                          rotate_left
                                          · intro w'
                                            go_simp
                                            with_reducible rfl
                                          rotate_left
                                          · simp only [Act.put, List.setIfInBounds_toArray, List.set_cons_zero, List.set_cons_succ, i64_w, i32_w]
                                            rfl
                                          refine pure_ (i := 1) (N := some 88) (v := ?_) (a' := ?_) #[true, true, false, false, false, false, false, false, false] rfl rfl (any_of HT_.out (by kernel_rfl)) (fun _ _ _ h => h) (Or.inl ⟨by rfl, ?_⟩) ?_ ?_
                                          rotate_left
                                          · intro w'
                                            go_simp
                                            with_reducible rfl
                                          rotate_left
                                          · simp only [Act.put, List.setIfInBounds_toArray, List.set_cons_zero, List.set_cons_succ, i64_w, i32_w]
                                            rfl
                                          refine pure_ (i := 2) (N := some 89) (v := ?_) (a' := ?_) #[true, true, true, false, false, false, false, false, false] rfl rfl (any_of HT_.out (by kernel_rfl)) (fun _ _ _ h => h) (Or.inl ⟨by rfl, ?_⟩) ?_ ?_
                                          rotate_left
                                          · intro w'
                                            go_simp
                                            with_reducible rfl
                                          rotate_left
                                          · simp only [Act.put, List.setIfInBounds_toArray, List.set_cons_zero, List.set_cons_succ, i64_w, i32_w]
                                            rfl
                                          refine pure_ (i := 3) (N := some 90) (v := ?_) (a' := ?_) #[true, true, true, true, false, false, false, false, false] rfl rfl (any_of HT_.out (by kernel_rfl)) (fun _ _ _ h => h) (Or.inl ⟨by rfl, ?_⟩) ?_ ?_
                                          rotate_left
                                          · intro w'
                                            go_simp
                                            with_reducible rfl
                                          rotate_left
                                          · simp only [Act.put, List.setIfInBounds_toArray, List.set_cons_zero, List.set_cons_succ, i64_w, i32_w]
                                            rfl
                                          refine take_ (i := 4) (N := some 91) (v := ?_) (a' := ?_) #[true, true, true, true, true, false, false, false, false] rfl rfl (take_ofW HT_.out HW_.out (by kernel_rfl)) (fun _ _ _ h => h) (Or.inl ⟨by rfl, ?_⟩) hHeld ?_ ?_
                                          rotate_left
                                          · rintro w' ⟨s0, s1, s2, s3, s4, s5, s6, s7⟩
                                            go_simp
                                            with_reducible rfl
                                          rotate_left
                                          · simp only [Act.put, List.setIfInBounds_toArray, List.set_cons_zero, List.set_cons_succ, i64_w, i32_w]
                                            rfl
                                          refine take_ (i := 5) (N := some 92) (v := ?_) (a' := ?_) #[true, true, true, true, true, true, false, false, false] rfl rfl (take_ofW HT_.out HW_.out (by kernel_rfl)) (fun _ _ _ h => h) (Or.inl ⟨by rfl, ?_⟩) hHeld ?_ ?_
                                          rotate_left
                                          · rintro w' ⟨s0, s1, s2, s3, s4, s5, s6, s7⟩
                                            go_simp
                                            with_reducible rfl
                                          rotate_left
                                          · simp only [Act.put, List.setIfInBounds_toArray, List.set_cons_zero, List.set_cons_succ, i64_w, i32_w]
                                            rfl
                                          refine one_ (i := 6) (N := some 93) #[true, true, true, true, true, true, true, false, false] rfl rfl (one_of HT_.out (by kernel_rfl)) (by decide) (fun K hK => ?_)
                                          refine goes_ Try.func13 (by kernel_rfl) rfl #[.agg #[.int .i64 t217, .string t218, .string t219, .int .i64 t220]] (by rfl) rfl rfl (by (try simp only [List.map_toArray, List.map_cons, List.map_nil]); first | done | rfl | (simp only [List.length_drop, List.length_take]; rfl)) ?_
                                          with_reducible refine (deedboxlaw39_own.calls t217 t218 t219 t220 t234 t235 t236 t237 _ A37.out).mono ?_
                                          rintro e w63 ⟨rfl, hb⟩
                                          refine ⟨_, rfl, ?_⟩
                                          have n0_ := Aside0.mk (Kd.V_below (by (with_reducible repeat (first | apply Kd.V_alloc | apply Kd.V_drewN | apply Kd.V_drew)); exact HO_206001.out) hb)
                                          have n1_ := Aside0.mk (Kd.V_below (by (with_reducible repeat (first | apply Kd.V_alloc | apply Kd.V_drewN | apply Kd.V_drew)); exact HO214.out) hb)
                                          have n2_ := Aside0.mk (blk_below (g := gb205) (o := .cells #[.int .i64 t211, .slice Ao49 t212.length co49, .int .i64 t215, .int .i64 t216] 30 (0, 0)) (by (with_reducible repeat (first | refine blk_drewN ?_ _ | refine blk_drew ?_ | refine blk_alloc ?_ _)); exact BK205.out) hb)
                                          have n3_ := Aside0.mk (IsS71.below (by repeat (first | (with_reducible first | exact HI197.out | apply IsS71.alloc | apply IsS71.drewN | apply IsS71.drew | apply IsS71.set_0 | apply IsS71.set_1 | apply IsS71.set_2 | apply IsS71.set_3 | refine IsS71.far ?_ NB197_205.out _ | refine IsS71.far ?_ NB197_222.out _ | refine IsS71.far ?_ NB197_223.out _ | refine IsS71.far ?_ NB197_233.out _) | exact HI197.out)) hb)
                                          have n4_ := Aside0.mk (blk_below (g := gb222) (o := .cells #[.int .i64 t211, .slice Ao49 t212.length co49, .int .i64 t215, .int .i64 t216] 30 (0, 0)) (by (with_reducible repeat (first | refine blk_drewN ?_ _ | refine blk_drew ?_ | refine blk_alloc ?_ _)); exact BK222.out) hb)
                                          have n5_ := Aside0.mk (blk_below (g := gb223) (o := .cells #[.int .i64 t217, .string t218, .string t219, .int .i64 t220] 34 (0, 0)) (by (with_reducible repeat (first | refine blk_drewN ?_ _ | refine blk_drew ?_ | refine blk_alloc ?_ _)); exact BK223.out) hb)
                                          have n6_ := Aside0.mk (blk_below (g := gb233) (o := .cells #[.int .i64 t224, .string t225, .string t226, .int .i64 t227] 39 (0, 0)) (by (with_reducible repeat (first | refine blk_drewN ?_ _ | refine blk_drew ?_ | refine blk_alloc ?_ _)); exact BK233.out) hb)
                                          have n7_ := Aside0.mk (below_step (by repeat (first | (with_reducible first | exact HB.out | apply below_alloc | apply pw_below_drewN | apply below_drew1 | refine below_set ?_ (IsS71.ge HI197.out) | refine below_set ?_ GE205.out | refine below_set ?_ GE222.out | refine below_set ?_ GE223.out | refine below_set ?_ GE233.out) | exact HB.out)) hb)
                                          clear HO_206001
                                          clear HO214
                                          clear BK205
                                          clear HI197
                                          clear BK222
                                          clear BK223
                                          clear BK233
                                          clear HB
                                          have HO_206001 := n0_
                                          have HO214 := n1_
                                          have BK205 := n2_
                                          have HI197 := n3_
                                          have BK222 := n4_
                                          have BK223 := n5_
                                          have BK233 := n6_
                                          have HB := n7_
                                          clear n0_ n1_ n2_ n3_ n4_ n5_ n6_ n7_
                                          (try clear hb)
                                          (try clear hb2)
                                          (try clear hk)
                                          (try clear hi)
                                          refine hK.out _ _ ⟨(blk_cell BK233.out 0).trans rfl, (blk_cell BK233.out 1).trans rfl, (blk_cell BK233.out 2).trans rfl, (blk_cell BK233.out 3).trans rfl, (blk_cell BK223.out 0).trans rfl, (blk_cell BK223.out 1).trans rfl, (blk_cell BK223.out 2).trans rfl, (blk_cell BK223.out 3).trans rfl⟩ (fun hHeld => ?_)
                                          clear hK K
                                          refine norm_ (a' := ?_) ?_ ?_
                                          rotate_left
                                          · show Act.put _ (some 93) _ = _
                                            simp only [Act.put, List.setIfInBounds_toArray, List.set_cons_zero, List.set_cons_succ, i64_w, i32_w]
                                            rfl
                                          refine pure_ (i := 7) (N := some 94) (v := ?_) (a' := ?_) #[true, true, true, true, true, true, true, true, false] rfl rfl (any_of HT_.out (by kernel_rfl)) (fun _ _ _ h => h) (Or.inl ⟨by rfl, ?_⟩) ?_ ?_
                                          rotate_left
                                          · intro w'
                                            go_simp
                                            with_reducible rfl
                                          rotate_left
                                          · simp only [Act.put, List.setIfInBounds_toArray, List.set_cons_zero, List.set_cons_succ, i64_w, i32_w]
                                            rfl
                                          refine pure_ (i := 8) (N := some 95) (v := ?_) (a' := ?_) #[true, true, true, true, true, true, true, true, true] rfl rfl (any_of HT_.out (by kernel_rfl)) (fun _ _ _ h => h) (Or.inl ⟨by rfl, ?_⟩) ?_ ?_
                                          rotate_left
                                          · intro w'
                                            go_simp
                                            with_reducible rfl
                                          rotate_left
                                          · simp only [Act.put, List.setIfInBounds_toArray, List.set_cons_zero, List.set_cons_succ, i64_w, i32_w]
                                            rfl
                                          refine done_ (done_of HT_.out (by kernel_rfl)) ?_
                                          try go_wp2
                                          go_meet
                                          case rel => exact ⟨_, (t229), (t230), (t231), (t232), (t211), (t212), (t215), (t216), (.slice Ao49 t212.length co49), H', ⟨by have := HJ9.out; have := HK2.out; have := HJ18.out; have := HJ21.out; first | omega | exact Nat.le_refl _⟩, ⟨by (with_reducible repeat (first | apply Kd.V_alloc | apply Kd.V_drewN | apply Kd.V_drew)); exact Kd.V_mono HO214.out (fun _ hk => ⟨hk.1, hk.2.1⟩)⟩, ⟨by (with_reducible repeat (first | refine blk_drewN ?_ _ | refine blk_drew ?_ | refine blk_alloc ?_ _)); exact BK205.out⟩, ⟨by repeat (first | (with_reducible first | exact HI197.out | apply IsS71.alloc | apply IsS71.drewN | apply IsS71.drew | apply IsS71.set_0 | apply IsS71.set_1 | apply IsS71.set_2 | apply IsS71.set_3 | refine IsS71.far ?_ NB197_205.out _ | refine IsS71.far ?_ NB197_222.out _ | refine IsS71.far ?_ NB197_223.out _ | refine IsS71.far ?_ NB197_233.out _) | exact HI197.out)⟩, ⟨by repeat (first | (with_reducible first | exact HB.out | apply below_alloc | apply pw_below_drewN | apply below_drew1 | refine below_set ?_ (IsS71.ge HI197.out) | refine below_set ?_ GE205.out | refine below_set ?_ GE222.out | refine below_set ?_ GE223.out | refine below_set ?_ GE233.out) | exact HB.out)⟩⟩
                                    · replace c33 := Bool.eq_false_iff.mpr c33
                                      subst c33
                                      have H1 : ((deedboxref39_Tell.f x206000_2 x206001_2 x206002_2 x206003_2 ((rd_T36 l1 x9_2).f1.f0) ((rd_T36 l1 x9_2).f1.f1) ((rd_T36 l1 x9_2).f1.f2) ((rd_T36 l1 x9_2).f1.f3)).bind fun bt239 => ((deedboxlaw39_own.f ((rd_T36 l1 x9_2).f1.f0) ((rd_T36 l1 x9_2).f1.f1) ((rd_T36 l1 x9_2).f1.f2) ((rd_T36 l1 x9_2).f1.f3)).bind fun bt248 => ((feed_Feed_Tell.f x198000_2 x198001_2 x198002_2 x198003_2 bt248.1 bt248.2.1 bt248.2.2.1 bt248.2.2.2).bind fun bt252 => (if (bt252.1 != bt239.2.2.2.2) = true then (none) else ((deedboxlaw39_own.f ((rd_T36 l1 x9_2).f1.f0) ((rd_T36 l1 x9_2).f1.f1) ((rd_T36 l1 x9_2).f1.f2) ((rd_T36 l1 x9_2).f1.f3)).bind fun bt258 => ((feed_Line.f kj21 bt258.1 bt258.2.1 bt258.2.2.1 bt258.2.2.2).bind fun t262 => ((deedboxref39_Line.f kj21 ((rd_T36 l1 x9_2).f1.f0) ((rd_T36 l1 x9_2).f1.f1) ((rd_T36 l1 x9_2).f1.f2) ((rd_T36 l1 x9_2).f1.f3)).bind fun t264 => (if t262.toList = t264.toList then (deedboxlaw39_FeedDoes.j4 kj21 l1 t204 x9_2 bt252.2.1 bt252.2.2.1 bt252.2.2.2.1 bt252.2.2.2.2 bt239.1 bt239.2.1 bt239.2.2.1 bt239.2.2.2.1) else (none))))))))) = some r := by rw [if_neg (show ¬ (false = true) by decide)] at H; exact H
                                      clear H
                                      have H := H1
                                      clear H1
                                      replace H := Option.bind_eq_some_iff.mp H
                                      obtain ⟨⟨t239, t240, t243, t244, t245⟩, A640, H⟩ := H
                                      replace H : ((deedboxlaw39_own.f ((rd_T36 l1 x9_2).f1.f0) ((rd_T36 l1 x9_2).f1.f1) ((rd_T36 l1 x9_2).f1.f2) ((rd_T36 l1 x9_2).f1.f3)).bind fun bt248 => ((feed_Feed_Tell.f x198000_2 x198001_2 x198002_2 x198003_2 bt248.1 bt248.2.1 bt248.2.2.1 bt248.2.2.2).bind fun bt252 => (if (bt252.1 != t245) = true then (none) else ((deedboxlaw39_own.f ((rd_T36 l1 x9_2).f1.f0) ((rd_T36 l1 x9_2).f1.f1) ((rd_T36 l1 x9_2).f1.f2) ((rd_T36 l1 x9_2).f1.f3)).bind fun bt258 => ((feed_Line.f kj21 bt258.1 bt258.2.1 bt258.2.2.1 bt258.2.2.2).bind fun t262 => ((deedboxref39_Line.f kj21 ((rd_T36 l1 x9_2).f1.f0) ((rd_T36 l1 x9_2).f1.f1) ((rd_T36 l1 x9_2).f1.f2) ((rd_T36 l1 x9_2).f1.f3)).bind fun t264 => (if t262.toList = t264.toList then (deedboxlaw39_FeedDoes.j4 kj21 l1 t204 x9_2 bt252.2.1 bt252.2.2.1 bt252.2.2.2.1 bt252.2.2.2.2 t239 t240 t243 t244) else (none)))))))) = some r := H
                                      have A64 := Aside0.mk A640
                                      clear A640
                                      replace H := Option.bind_eq_some_iff.mp H
                                      obtain ⟨⟨t248, t249, t250, t251⟩, A650, H⟩ := H
                                      replace H : ((feed_Feed_Tell.f x198000_2 x198001_2 x198002_2 x198003_2 t248 t249 t250 t251).bind fun bt252 => (if (bt252.1 != t245) = true then (none) else ((deedboxlaw39_own.f ((rd_T36 l1 x9_2).f1.f0) ((rd_T36 l1 x9_2).f1.f1) ((rd_T36 l1 x9_2).f1.f2) ((rd_T36 l1 x9_2).f1.f3)).bind fun bt258 => ((feed_Line.f kj21 bt258.1 bt258.2.1 bt258.2.2.1 bt258.2.2.2).bind fun t262 => ((deedboxref39_Line.f kj21 ((rd_T36 l1 x9_2).f1.f0) ((rd_T36 l1 x9_2).f1.f1) ((rd_T36 l1 x9_2).f1.f2) ((rd_T36 l1 x9_2).f1.f3)).bind fun t264 => (if t262.toList = t264.toList then (deedboxlaw39_FeedDoes.j4 kj21 l1 t204 x9_2 bt252.2.1 bt252.2.2.1 bt252.2.2.2.1 bt252.2.2.2.2 t239 t240 t243 t244) else (none))))))) = some r := H
                                      have A65 := Aside0.mk A650
                                      clear A650
                                      replace H := Option.bind_eq_some_iff.mp H
                                      obtain ⟨⟨t252, t253, t254, t255, t256⟩, A660, H⟩ := H
                                      replace H : (if (t252 != t245) = true then (none) else ((deedboxlaw39_own.f ((rd_T36 l1 x9_2).f1.f0) ((rd_T36 l1 x9_2).f1.f1) ((rd_T36 l1 x9_2).f1.f2) ((rd_T36 l1 x9_2).f1.f3)).bind fun bt258 => ((feed_Line.f kj21 bt258.1 bt258.2.1 bt258.2.2.1 bt258.2.2.2).bind fun t262 => ((deedboxref39_Line.f kj21 ((rd_T36 l1 x9_2).f1.f0) ((rd_T36 l1 x9_2).f1.f1) ((rd_T36 l1 x9_2).f1.f2) ((rd_T36 l1 x9_2).f1.f3)).bind fun t264 => (if t262.toList = t264.toList then (deedboxlaw39_FeedDoes.j4 kj21 l1 t204 x9_2 t253 t254 t255 t256 t239 t240 t243 t244) else (none)))))) = some r := H
                                      have A66 := Aside0.mk A660
                                      clear A660
                                      by_cases c67 : (t252 != t245) = true
                                      · rw [if_pos c67] at H
                                        exact absurd H (by simp)
                                      · rw [if_neg c67] at H
                                        have c67b0 : (t252 != t245) = false := by simpa using c67
                                        (try (have c67b1 : decide (t252 = t245) = true := by simpa using c67))
                                        (try (have c67b2 : (t252 == t245) = true := by simpa using c67))
                                        clear c67
                                        replace H := Option.bind_eq_some_iff.mp H
                                        obtain ⟨⟨t258, t259, t260, t261⟩, A680, H⟩ := H
                                        replace H : ((feed_Line.f kj21 t258 t259 t260 t261).bind fun t262 => ((deedboxref39_Line.f kj21 ((rd_T36 l1 x9_2).f1.f0) ((rd_T36 l1 x9_2).f1.f1) ((rd_T36 l1 x9_2).f1.f2) ((rd_T36 l1 x9_2).f1.f3)).bind fun t264 => (if t262.toList = t264.toList then (deedboxlaw39_FeedDoes.j4 kj21 l1 t204 x9_2 t253 t254 t255 t256 t239 t240 t243 t244) else (none)))) = some r := H
                                        have A68 := Aside0.mk A680
                                        clear A680
                                        replace H := Option.bind_eq_some_iff.mp H
                                        obtain ⟨t262, A690, H⟩ := H
                                        replace H : ((deedboxref39_Line.f kj21 ((rd_T36 l1 x9_2).f1.f0) ((rd_T36 l1 x9_2).f1.f1) ((rd_T36 l1 x9_2).f1.f2) ((rd_T36 l1 x9_2).f1.f3)).bind fun t264 => (if t262.toList = t264.toList then (deedboxlaw39_FeedDoes.j4 kj21 l1 t204 x9_2 t253 t254 t255 t256 t239 t240 t243 t244) else (none))) = some r := H
                                        have A69 := Aside0.mk A690
                                        clear A690
                                        replace H := Option.bind_eq_some_iff.mp H
                                        obtain ⟨t264, A700, H⟩ := H
                                        replace H : (if t262.toList = t264.toList then (deedboxlaw39_FeedDoes.j4 kj21 l1 t204 x9_2 t253 t254 t255 t256 t239 t240 t243 t244) else (none)) = some r := H
                                        have A70 := Aside0.mk A700
                                        clear A700
                                        by_cases c71 : t262.toList = t264.toList
                                        · rw [if_pos c71] at H
                                          have c71b0 : (t262.toList == t264.toList) = true := beq_iff_eq.mpr c71
                                          have c71b1 : (t262.toList != t264.toList) = false := bne_eq_false_iff_eq.mpr c71
                                          clear c71
                                          have H' := Aside0.mk H
                                          clear H
                                          obtain ⟨Ao72, co72, eo72⟩ := Kd.V_slice HO_206001.out
                                          subst eo72
                                          try go_wp2
                                          have n0_ := Aside0.mk (Kd.V_drew HO_206001.out)
                                          have n1_ := Aside0.mk (blk_drew BK205.out)
                                          have n2_ := Aside0.mk (IsS71.drew HI197.out)
                                          have n3_ := Aside0.mk (below_drew1 HB.out)
                                          clear HO_206001
                                          clear BK205
                                          clear HI197
                                          clear HB
                                          have HO_206001 := n0_
                                          have BK205 := n1_
                                          have HI197 := n2_
                                          have HB := n3_
                                          clear n0_ n1_ n2_ n3_
                                          have p238 : 0 ≤ (x9_2 : Int) := of_decide_eq_true (by first | (with_reducible assumption) | assumption)
                                          have q238 : x9_2 < (l1.length : Int) := of_decide_eq_true (by first | (with_reducible assumption) | assumption)
                                          obtain ⟨ad238, e238, hx238_0, hx238_1, hx238_2, hx238_3, hx238_4⟩ := at_T36 HR1.out x9_2 p238 q238
                                          have hw238_4 := hx238_4
                                          have hw238_3 := hx238_3
                                          have hw238_2 := hx238_2
                                          have hw238_1 := hx238_1
                                          have hw238_0 := hx238_0
                                          (try rw [← Nbq32.out] at hw238_0)
                                          (try rw [← Nbq32.out] at hx238_0)
                                          obtain rfl : ad210 = ad238 := (by injection e238)
                                          replace hx238_0 := (HB.out.cell (World.block_lt_of_cell? w _ hx238_0)).trans hx238_0
                                          replace hx238_1 := (HB.out.cell (World.block_lt_of_cell? w _ hx238_1)).trans hx238_1
                                          replace hx238_2 := (HB.out.cell (World.block_lt_of_cell? w _ hx238_2)).trans hx238_2
                                          replace hx238_3 := (HB.out.cell (World.block_lt_of_cell? w _ hx238_3)).trans hx238_3
                                          replace hx238_4 := (HB.out.cell (World.block_lt_of_cell? w _ hx238_4)).trans hx238_4
                                          replace p238 := eq_true p238
                                          replace q238 := eq_true q238
                                          refine start_ (n := 13) (S := fun w' => w'.cell? ⟨gb205, 0, none⟩ = some (.int .i64 x206000_2) ∧ w'.cell? ⟨gb205, 1, none⟩ = some (.slice Ao72 x206001_2.length co72) ∧ w'.cell? ⟨gb205, 2, none⟩ = some (.int .i64 x206002_2) ∧ w'.cell? ⟨gb205, 3, none⟩ = some (.int .i64 x206003_2) ∧ w'.cell? (ad210.add ((x9_2).toNat * 5)) = some (.bool (false)) ∧ w'.cell? ⟨(ad210.add ((x9_2).toNat * 5)).block, (ad210.add ((x9_2).toNat * 5)).off + 1, none⟩ = some (.int .i64 ((rd_T36 l1 x9_2).f1.f0)) ∧ w'.cell? ⟨(ad210.add ((x9_2).toNat * 5)).block, (ad210.add ((x9_2).toNat * 5)).off + 2, none⟩ = some (.string ((rd_T36 l1 x9_2).f1.f1)) ∧ w'.cell? ⟨(ad210.add ((x9_2).toNat * 5)).block, (ad210.add ((x9_2).toNat * 5)).off + 3, none⟩ = some (.string ((rd_T36 l1 x9_2).f1.f2)) ∧ w'.cell? ⟨(ad210.add ((x9_2).toNat * 5)).block, (ad210.add ((x9_2).toNat * 5)).off + 4, none⟩ = some (.int .i64 ((rd_T36 l1 x9_2).f1.f3))) (ds := []) #[false, false, false, false, false, false, false, false, false, false, false, false, false] (by kernel_rfl) rfl rfl ⟨(blk_cell BK205.out 0).trans rfl, (blk_cell BK205.out 1).trans rfl, (blk_cell BK205.out 2).trans rfl, (blk_cell BK205.out 3).trans rfl, ((HB.out.cell (World.block_lt_of_cell? w _ hw238_0)).trans hw238_0), ((HB.out.cell (World.block_lt_of_cell? w _ hw238_1)).trans hw238_1), ((HB.out.cell (World.block_lt_of_cell? w _ hw238_2)).trans hw238_2), ((HB.out.cell (World.block_lt_of_cell? w _ hw238_3)).trans hw238_3), ((HB.out.cell (World.block_lt_of_cell? w _ hw238_4)).trans hw238_4)⟩ (fun hHeld => ?_); refine with_tabW deedboxlaw39_FeedDoes.tab18 deedboxlaw39_FeedDoes.bits18 (fun HT_ HW_ => ?_)
                                          generalize wc.drew = w73 at HO_206001 BK205 HI197 HB hx238_0 hx238_1 hx238_2 hx238_3 hx238_4 hHeld ⊢
                                          refine pure_ (i := 1) (N := some 98) (v := ?_) (a' := ?_) #[false, true, false, false, false, false, false, false, false, false, false, false, false] rfl rfl (any_of HT_.out (by kernel_rfl)) (fun _ _ _ h => h) (Or.inl ⟨by rfl, ?_⟩) ?_ ?_
                                          rotate_left
                                          · intro w'
                                            go_simp
                                            with_reducible rfl
                                          rotate_left
                                          · simp only [Act.put, List.setIfInBounds_toArray, List.set_cons_zero, List.set_cons_succ, i64_w, i32_w]
                                            rfl
                                          refine pure_ (i := 2) (N := some 99) (v := ?_) (a' := ?_) #[false, true, true, false, false, false, false, false, false, false, false, false, false] rfl rfl (any_of HT_.out (by kernel_rfl)) (fun _ _ _ h => h) (Or.inl ⟨by rfl, ?_⟩) ?_ ?_
                                          rotate_left
                                          · intro w'
                                            go_simp
                                            with_reducible rfl
                                          rotate_left
                                          · simp only [Act.put, List.setIfInBounds_toArray, List.set_cons_zero, List.set_cons_succ, i64_w, i32_w]
                                            rfl
                                          refine pure_ (i := 3) (N := some 100) (v := ?_) (a' := ?_) #[false, true, true, true, false, false, false, false, false, false, false, false, false] rfl rfl (any_of HT_.out (by kernel_rfl)) (fun _ _ _ h => h) (Or.inl ⟨by rfl, ?_⟩) ?_ ?_
                                          rotate_left
                                          · intro w'
                                            go_simp
                                            with_reducible rfl
                                          rotate_left
                                          · simp only [Act.put, List.setIfInBounds_toArray, List.set_cons_zero, List.set_cons_succ, i64_w, i32_w]
                                            rfl
                                          refine pure_ (i := 4) (N := some 101) (v := ?_) (a' := ?_) #[false, true, true, true, true, false, false, false, false, false, false, false, false] rfl rfl (any_of HT_.out (by kernel_rfl)) (fun _ _ _ h => h) (Or.inl ⟨by rfl, ?_⟩) ?_ ?_
                                          rotate_left
                                          · intro w'
                                            go_simp
                                            with_reducible rfl
                                          rotate_left
                                          · simp only [Act.put, List.setIfInBounds_toArray, List.set_cons_zero, List.set_cons_succ, i64_w, i32_w]
                                            rfl
                                          refine take_ (i := 0) (N := some 97) (v := ?_) (a' := ?_) #[true, true, true, true, true, false, false, false, false, false, false, false, false] rfl rfl (take_ofW HT_.out HW_.out (by kernel_rfl)) (fun _ _ _ h => h) (Or.inl ⟨by rfl, ?_⟩) hHeld ?_ ?_
                                          rotate_left
                                          · rintro w' ⟨s0, s1, s2, s3, s4, s5, s6, s7, s8⟩
                                            go_simp
                                            with_reducible rfl
                                          rotate_left
                                          · simp only [Act.put, List.setIfInBounds_toArray, List.set_cons_zero, List.set_cons_succ, i64_w, i32_w]
                                            rfl
                                          refine take_ (i := 5) (N := some 102) (v := ?_) (a' := ?_) #[true, true, true, true, true, true, false, false, false, false, false, false, false] rfl rfl (take_ofW HT_.out HW_.out (by kernel_rfl)) (fun _ _ _ h => h) (Or.inl ⟨by rfl, ?_⟩) hHeld ?_ ?_
                                          rotate_left
                                          · rintro w' ⟨s0, s1, s2, s3, s4, s5, s6, s7, s8⟩
                                            go_simp
                                            with_reducible rfl
                                          rotate_left
                                          · simp only [Act.put, List.setIfInBounds_toArray, List.set_cons_zero, List.set_cons_succ, i64_w, i32_w]
                                            rfl
                                          refine join_ (σ := Value × Nat) 2 #[true, true, true, true, true, true, true, true, true, true, true, false, false] (fun s_ => [(103, .tuple #[.agg #[.int .i64 t239, s_.1, .int .i64 t243, .int .i64 t244], .bool t245]), (15, .pointer (some ⟨s_.2, 0, none⟩)), (96, .tuple #[.agg #[.int .i64 t239, s_.1, .int .i64 t243, .int .i64 t244], .bool t245]), (104, .agg #[.int .i64 t239, s_.1, .int .i64 t243, .int .i64 t244]), (105, .bool t245)]) (fun s_ w' => (w'.cell? ⟨gb205, 0, none⟩ = some (.int .i64 x206000_2) ∧ w'.cell? ⟨gb205, 1, none⟩ = some (.slice Ao72 x206001_2.length co72) ∧ w'.cell? ⟨gb205, 2, none⟩ = some (.int .i64 x206002_2) ∧ w'.cell? ⟨gb205, 3, none⟩ = some (.int .i64 x206003_2) ∧ w'.cell? (ad210.add ((x9_2).toNat * 5)) = some (.bool (false)) ∧ w'.cell? ⟨(ad210.add ((x9_2).toNat * 5)).block, (ad210.add ((x9_2).toNat * 5)).off + 1, none⟩ = some (.int .i64 ((rd_T36 l1 x9_2).f1.f0)) ∧ w'.cell? ⟨(ad210.add ((x9_2).toNat * 5)).block, (ad210.add ((x9_2).toNat * 5)).off + 2, none⟩ = some (.string ((rd_T36 l1 x9_2).f1.f1)) ∧ w'.cell? ⟨(ad210.add ((x9_2).toNat * 5)).block, (ad210.add ((x9_2).toNat * 5)).off + 3, none⟩ = some (.string ((rd_T36 l1 x9_2).f1.f2)) ∧ w'.cell? ⟨(ad210.add ((x9_2).toNat * 5)).block, (ad210.add ((x9_2).toNat * 5)).off + 4, none⟩ = some (.int .i64 ((rd_T36 l1 x9_2).f1.f3))) ∧ (Kd.V k34 34 w' w.heap.size (fun k_ => k_ ≠ g197 ∧ k_ ≠ gb205 ∧ k_ ≠ s_.2) s_.1 t240) ∧ (Kd.V k34 34 w' w.heap.size (fun k_ => k_ ≠ g197 ∧ k_ ≠ gb205 ∧ k_ ≠ s_.2) (.slice Ao72 x206001_2.length co72) x206001_2) ∧ (w'.heap[gb205]? = some (.cells #[.int .i64 x206000_2, .slice Ao72 x206001_2.length co72, .int .i64 x206002_2, .int .i64 x206003_2] 30 (0, 0))) ∧ (w'.heap[s_.2]? = some (.cells #[.int .i64 0, .slice none 0 0, .int .i64 0, .int .i64 0] 30 (0, 0))) ∧ (w.heap.size ≤ s_.2) ∧ (w.heap.size ≤ s_.2) ∧ (g197 ≠ s_.2) ∧ (s_.2 ≠ g197) ∧ (gb205 ≠ s_.2) ∧ (s_.2 ≠ gb205) ∧ (IsS71 w w' g197 x198000_2 x198001_2 x198002_2 x198003_2) ∧ (Below w.heap.size w w')) ?_ ?_
                                          rotate_left
                                          · intro hCont
                                            refine two_ (i := 6) (j := 10) (Ni := some 103) (Nj := some 15) #[true, true, true, true, true, true, true, false, false, false, false, false, false] #[true, true, true, true, true, true, false, false, false, false, true, false, false] rfl rfl rfl rfl (two_of HT_.out (by kernel_rfl)) (by decide) (by decide) (fun K hK => ?_) (fun K hK => ?_)
                                            · skip
                                              refine goes_ Try.func14 (by kernel_rfl) rfl #[.agg #[.int .i64 x206000_2, .slice Ao72 x206001_2.length co72, .int .i64 x206002_2, .int .i64 x206003_2], .agg #[.int .i64 ((rd_T36 l1 x9_2).f1.f0), .string ((rd_T36 l1 x9_2).f1.f1), .string ((rd_T36 l1 x9_2).f1.f2), .int .i64 ((rd_T36 l1 x9_2).f1.f3)]] (by rfl) rfl rfl (by (try simp only [List.map_toArray, List.map_cons, List.map_nil]); first | done | rfl | (simp only [List.length_drop, List.length_take]; rfl)) ?_
                                              with_reducible refine (deedboxref39_Tell.calls x206000_2 (fun k_ => (k_ ≠ gb205 ∧ k_ ≠ g197)) _ _ x206001_2 x206002_2 x206003_2 ((rd_T36 l1 x9_2).f1.f0) ((rd_T36 l1 x9_2).f1.f1) ((rd_T36 l1 x9_2).f1.f2) ((rd_T36 l1 x9_2).f1.f3) t239 t240 t243 t244 t245 _ ?side1 A64.out).mono ?_
                                              (case side1 => exact HO_206001.out)
                                              rintro e w74 ⟨v241, rfl, ho0, hb⟩
                                              refine ⟨_, rfl, ?_⟩
                                              have n0_ := Aside0.mk (Kd.V_below (by (with_reducible repeat (first | apply Kd.V_alloc | apply Kd.V_drewN | apply Kd.V_drew)); exact HO_206001.out) hb)
                                              have n1_ := Aside0.mk (Kd.V_lower (Kd.V_mono (ok' := fun k_ => k_ ≠ gb205 ∧ k_ ≠ g197) ho0 (fun k_ hk_ => ⟨Or.elim hk_ (fun hs_ => hs_.1) (fun hn_ => (Kd.freshB (g := gb205) (o := .cells #[.int .i64 x206000_2, .slice Ao72 x206001_2.length co72, .int .i64 x206002_2, .int .i64 x206003_2] 30 (0, 0)) (by (with_reducible repeat (first | refine blk_drewN ?_ _ | refine blk_drew ?_ | refine blk_alloc ?_ _)); exact BK205.out) k_ hn_)), Or.elim hk_ (fun hs_ => hs_.2) (fun hn_ => (IsS71.fresh (by repeat (first | (with_reducible first | exact HI197.out | apply IsS71.alloc | apply IsS71.drewN | apply IsS71.drew | apply IsS71.set_0 | apply IsS71.set_1 | apply IsS71.set_2 | apply IsS71.set_3 | refine IsS71.far ?_ NB197_205.out _) | exact HI197.out)) k_ hn_))⟩)) (below_size (by repeat (first | (with_reducible first | exact HB.out | apply below_alloc | apply pw_below_drewN | apply below_drew1 | refine below_set ?_ (IsS71.ge HI197.out) | refine below_set ?_ GE205.out) | exact HB.out))))
                                              have n2_ := Aside0.mk (blk_below (g := gb205) (o := .cells #[.int .i64 x206000_2, .slice Ao72 x206001_2.length co72, .int .i64 x206002_2, .int .i64 x206003_2] 30 (0, 0)) (by (with_reducible repeat (first | refine blk_drewN ?_ _ | refine blk_drew ?_ | refine blk_alloc ?_ _)); exact BK205.out) hb)
                                              have n3_ := Aside0.mk (IsS71.below (by repeat (first | (with_reducible first | exact HI197.out | apply IsS71.alloc | apply IsS71.drewN | apply IsS71.drew | apply IsS71.set_0 | apply IsS71.set_1 | apply IsS71.set_2 | apply IsS71.set_3 | refine IsS71.far ?_ NB197_205.out _) | exact HI197.out)) hb)
                                              have n4_ := Aside0.mk (below_step (by repeat (first | (with_reducible first | exact HB.out | apply below_alloc | apply pw_below_drewN | apply below_drew1 | refine below_set ?_ (IsS71.ge HI197.out) | refine below_set ?_ GE205.out) | exact HB.out)) hb)
                                              clear HO_206001
                                              clear BK205
                                              clear HI197
                                              clear HB
                                              have HO_206001 := n0_
                                              have HO242 := n1_
                                              have BK205 := n2_
                                              have HI197 := n3_
                                              have HB := n4_
                                              clear n0_ n1_ n2_ n3_ n4_
                                              (try clear hb)
                                              (try clear hb2)
                                              (try clear hk)
                                              (try clear hi)
                                              (try clear ho0)
                                              refine hK.out _ _ ⟨(blk_cell BK205.out 0).trans rfl, (blk_cell BK205.out 1).trans rfl, (blk_cell BK205.out 2).trans rfl, (blk_cell BK205.out 3).trans rfl, ((HB.out.cell (World.block_lt_of_cell? w _ hw238_0)).trans hw238_0), ((HB.out.cell (World.block_lt_of_cell? w _ hw238_1)).trans hw238_1), ((HB.out.cell (World.block_lt_of_cell? w _ hw238_2)).trans hw238_2), ((HB.out.cell (World.block_lt_of_cell? w _ hw238_3)).trans hw238_3), ((HB.out.cell (World.block_lt_of_cell? w _ hw238_4)).trans hw238_4)⟩ (fun hHeld => ?_)
                                              clear hK K
                                              refine norm_ (a' := ?_) ?_ ?_
                                              rotate_left
                                              · show Act.put _ (some 103) _ = _
                                                simp only [Act.put, List.setIfInBounds_toArray, List.set_cons_zero, List.set_cons_succ, i64_w, i32_w]
                                                rfl
                                              refine pure_ (i := 7) (N := some 96) (v := ?_) (a' := ?_) #[true, true, true, true, true, true, true, true, false, false, false, false, false] rfl rfl (any_of HT_.out (by kernel_rfl)) (fun _ _ _ h => h) (Or.inl ⟨by rfl, ?_⟩) ?_ ?_
                                              rotate_left
                                              · intro w'
                                                go_simp
                                                with_reducible rfl
                                              rotate_left
                                              · simp only [Act.put, List.setIfInBounds_toArray, List.set_cons_zero, List.set_cons_succ, i64_w, i32_w]
                                                rfl
                                              refine pure_ (i := 8) (N := some 104) (v := ?_) (a' := ?_) #[true, true, true, true, true, true, true, true, true, false, false, false, false] rfl rfl (any_of HT_.out (by kernel_rfl)) (fun _ _ _ h => h) (Or.inl ⟨by rfl, ?_⟩) ?_ ?_
                                              rotate_left
                                              · intro w'
                                                go_simp
                                                with_reducible rfl
                                              rotate_left
                                              · simp only [Act.put, List.setIfInBounds_toArray, List.set_cons_zero, List.set_cons_succ, i64_w, i32_w]
                                                rfl
                                              refine pure_ (i := 9) (N := some 105) (v := ?_) (a' := ?_) #[true, true, true, true, true, true, true, true, true, true, false, false, false] rfl rfl (any_of HT_.out (by kernel_rfl)) (fun _ _ _ h => h) (Or.inl ⟨by rfl, ?_⟩) ?_ ?_
                                              rotate_left
                                              · intro w'
                                                go_simp
                                                with_reducible rfl
                                              rotate_left
                                              · simp only [Act.put, List.setIfInBounds_toArray, List.set_cons_zero, List.set_cons_succ, i64_w, i32_w]
                                                rfl
                                              refine one_ (i := 10) (N := some 15) #[true, true, true, true, true, true, true, true, true, true, true, false, false] rfl rfl (one_of HT_.out (by kernel_rfl)) (by decide) (fun K hK => ?_)
                                              refine box_step ?hg (N := 15) ?hd (cs := #[.int .i64 0, .slice none 0 0, .int .i64 0, .int .i64 0]) (t := 30) ?hr ?_; (case hd => rfl); (case hg => rfl); (case hr => first | (go_simp; done) | (go_simp; rfl))
                                              intro gb246 hg w75 hbox hb
                                              have n0_ := Aside0.mk (Kd.V_below (Kd.V_elderB (by (with_reducible repeat (first | apply Kd.V_alloc | apply Kd.V_drewN | apply Kd.V_drew)); exact HO_206001.out) gb246 (Nat.le_of_eq hg.symm)) hb)
                                              have n1_ := Aside0.mk (Kd.V_below (Kd.V_elderB (by (with_reducible repeat (first | apply Kd.V_alloc | apply Kd.V_drewN | apply Kd.V_drew)); exact HO242.out) gb246 (Nat.le_of_eq hg.symm)) hb)
                                              have n2_ := Aside0.mk (blk_below (g := gb205) (o := .cells #[.int .i64 x206000_2, .slice Ao72 x206001_2.length co72, .int .i64 x206002_2, .int .i64 x206003_2] 30 (0, 0)) (by (with_reducible repeat (first | refine blk_drewN ?_ _ | refine blk_drew ?_ | refine blk_alloc ?_ _)); exact BK205.out) hb)
                                              have n3_ := Aside0.mk (IsS71.below (by repeat (first | (with_reducible first | exact HI197.out | apply IsS71.alloc | apply IsS71.drewN | apply IsS71.drew | apply IsS71.set_0 | apply IsS71.set_1 | apply IsS71.set_2 | apply IsS71.set_3 | refine IsS71.far ?_ NB197_205.out _) | exact HI197.out)) hb)
                                              have n4_ := Aside0.mk (below_step (by repeat (first | (with_reducible first | exact HB.out | apply below_alloc | apply pw_below_drewN | apply below_drew1 | refine below_set ?_ (IsS71.ge HI197.out) | refine below_set ?_ GE205.out) | exact HB.out)) hb)
                                              have n5_ := Aside0.mk (hbox)
                                              have n6_ := Aside0.mk ((by rw [hg]; exact (below_size (by repeat (first | (with_reducible first | exact HB.out | apply below_alloc | apply pw_below_drewN | apply below_drew1 | refine below_set ?_ (IsS71.ge HI197.out) | refine below_set ?_ GE205.out) | exact HB.out))) : w.heap.size ≤ gb246))
                                              have n7_ := Aside0.mk ((by rw [hg]; exact (below_size (by repeat (first | (with_reducible first | exact HB.out | apply below_alloc | apply pw_below_drewN | apply below_drew1 | refine below_set ?_ (IsS71.ge HI197.out) | refine below_set ?_ GE205.out) | exact HB.out))) : w.heap.size ≤ gb246))
                                              have n8_ := Aside0.mk ((by rw [hg]; exact Nat.ne_of_lt (blk_lt (g := gb205) (o := .cells #[.int .i64 x206000_2, .slice Ao72 x206001_2.length co72, .int .i64 x206002_2, .int .i64 x206003_2] 30 (0, 0)) (by (with_reducible repeat (first | refine blk_drewN ?_ _ | refine blk_drew ?_ | refine blk_alloc ?_ _)); exact BK205.out)) : gb205 ≠ gb246))
                                              have n9_ := Aside0.mk ((by rw [hg]; exact Nat.ne_of_gt (blk_lt (g := gb205) (o := .cells #[.int .i64 x206000_2, .slice Ao72 x206001_2.length co72, .int .i64 x206002_2, .int .i64 x206003_2] 30 (0, 0)) (by (with_reducible repeat (first | refine blk_drewN ?_ _ | refine blk_drew ?_ | refine blk_alloc ?_ _)); exact BK205.out)) : gb246 ≠ gb205))
                                              have n10_ := Aside0.mk ((by rw [hg]; exact Nat.ne_of_lt (IsS71.lt (show IsS71 w _ g197 x198000_2 x198001_2 x198002_2 x198003_2 from by repeat (first | (with_reducible first | exact HI197.out | apply IsS71.alloc | apply IsS71.drewN | apply IsS71.drew | apply IsS71.set_0 | apply IsS71.set_1 | apply IsS71.set_2 | apply IsS71.set_3 | refine IsS71.far ?_ NB197_205.out _) | exact HI197.out))) : g197 ≠ gb246))
                                              have n11_ := Aside0.mk ((by rw [hg]; exact Nat.ne_of_gt (IsS71.lt (show IsS71 w _ g197 x198000_2 x198001_2 x198002_2 x198003_2 from by repeat (first | (with_reducible first | exact HI197.out | apply IsS71.alloc | apply IsS71.drewN | apply IsS71.drew | apply IsS71.set_0 | apply IsS71.set_1 | apply IsS71.set_2 | apply IsS71.set_3 | refine IsS71.far ?_ NB197_205.out _) | exact HI197.out))) : gb246 ≠ g197))
                                              clear HO_206001
                                              clear HO242
                                              clear BK205
                                              clear HI197
                                              clear HB
                                              have HO_206001 := n0_
                                              have HO242 := n1_
                                              have BK205 := n2_
                                              have HI197 := n3_
                                              have HB := n4_
                                              have BK246 := n5_
                                              have GW246 := n6_
                                              have GE246 := n7_
                                              have NB205_246 := n8_
                                              have NB246_205 := n9_
                                              have NB197_246 := n10_
                                              have NB246_197 := n11_
                                              clear n0_ n1_ n2_ n3_ n4_ n5_ n6_ n7_ n8_ n9_ n10_ n11_
                                              clear hb hbox hg
                                              refine hK.out _ _ ⟨(blk_cell BK205.out 0).trans rfl, (blk_cell BK205.out 1).trans rfl, (blk_cell BK205.out 2).trans rfl, (blk_cell BK205.out 3).trans rfl, ((HB.out.cell (World.block_lt_of_cell? w _ hw238_0)).trans hw238_0), ((HB.out.cell (World.block_lt_of_cell? w _ hw238_1)).trans hw238_1), ((HB.out.cell (World.block_lt_of_cell? w _ hw238_2)).trans hw238_2), ((HB.out.cell (World.block_lt_of_cell? w _ hw238_3)).trans hw238_3), ((HB.out.cell (World.block_lt_of_cell? w _ hw238_4)).trans hw238_4)⟩ (fun hHeld => ?_)
                                              clear hK K
                                              refine norm_ (a' := ?_) ?_ ?_
                                              rotate_left
                                              · show Act.put _ (some 15) _ = _
                                                simp only [Act.put, List.setIfInBounds_toArray, List.set_cons_zero, List.set_cons_succ, i64_w, i32_w]
                                                rfl
                                              exact norm_ (by simp only [putAll, Act.put, List.setIfInBounds_toArray, List.set_cons_zero, List.set_cons_succ]) (hCont (v241, gb246) _ ⟨hHeld, (by (with_reducible repeat (first | apply Kd.V_alloc | apply Kd.V_drewN | apply Kd.V_drew)); exact Kd.V_mono HO242.out (fun _ hk => ⟨hk.1.2, ⟨hk.1.1, hk.2⟩⟩)), (by (with_reducible repeat (first | apply Kd.V_alloc | apply Kd.V_drewN | apply Kd.V_drew)); exact Kd.V_mono HO_206001.out (fun _ hk => ⟨hk.1.2, ⟨hk.1.1, hk.2⟩⟩)), (by (with_reducible repeat (first | refine blk_drewN ?_ _ | refine blk_drew ?_ | refine blk_alloc ?_ _)); exact BK205.out), (by (with_reducible repeat (first | refine blk_drewN ?_ _ | refine blk_drew ?_ | refine blk_alloc ?_ _)); exact BK246.out), GW246.out, GE246.out, NB197_246.out, NB246_197.out, NB205_246.out, NB246_205.out, (by repeat (first | (with_reducible first | exact HI197.out | apply IsS71.alloc | apply IsS71.drewN | apply IsS71.drew | apply IsS71.set_0 | apply IsS71.set_1 | apply IsS71.set_2 | apply IsS71.set_3 | refine IsS71.far ?_ NB197_205.out _ | refine IsS71.far ?_ NB197_246.out _) | exact HI197.out)), (by repeat (first | (with_reducible first | exact HB.out | apply below_alloc | apply pw_below_drewN | apply below_drew1 | refine below_set ?_ (IsS71.ge HI197.out) | refine below_set ?_ GE205.out | refine below_set ?_ GE246.out) | exact HB.out))⟩)
                                            · skip
                                              refine box_step ?hg (N := 15) ?hd (cs := #[.int .i64 0, .slice none 0 0, .int .i64 0, .int .i64 0]) (t := 30) ?hr ?_; (case hd => rfl); (case hg => rfl); (case hr => first | (go_simp; done) | (go_simp; rfl))
                                              intro gb246 hg w74 hbox hb
                                              have n0_ := Aside0.mk (Kd.V_below (Kd.V_elderB (by (with_reducible repeat (first | apply Kd.V_alloc | apply Kd.V_drewN | apply Kd.V_drew)); exact HO_206001.out) gb246 (Nat.le_of_eq hg.symm)) hb)
                                              have n1_ := Aside0.mk (blk_below (g := gb205) (o := .cells #[.int .i64 x206000_2, .slice Ao72 x206001_2.length co72, .int .i64 x206002_2, .int .i64 x206003_2] 30 (0, 0)) (by (with_reducible repeat (first | refine blk_drewN ?_ _ | refine blk_drew ?_ | refine blk_alloc ?_ _)); exact BK205.out) hb)
                                              have n2_ := Aside0.mk (IsS71.below (by repeat (first | (with_reducible first | exact HI197.out | apply IsS71.alloc | apply IsS71.drewN | apply IsS71.drew | apply IsS71.set_0 | apply IsS71.set_1 | apply IsS71.set_2 | apply IsS71.set_3 | refine IsS71.far ?_ NB197_205.out _) | exact HI197.out)) hb)
                                              have n3_ := Aside0.mk (below_step (by repeat (first | (with_reducible first | exact HB.out | apply below_alloc | apply pw_below_drewN | apply below_drew1 | refine below_set ?_ (IsS71.ge HI197.out) | refine below_set ?_ GE205.out) | exact HB.out)) hb)
                                              have n4_ := Aside0.mk (hbox)
                                              have n5_ := Aside0.mk ((by rw [hg]; exact (below_size (by repeat (first | (with_reducible first | exact HB.out | apply below_alloc | apply pw_below_drewN | apply below_drew1 | refine below_set ?_ (IsS71.ge HI197.out) | refine below_set ?_ GE205.out) | exact HB.out))) : w.heap.size ≤ gb246))
                                              have n6_ := Aside0.mk ((by rw [hg]; exact (below_size (by repeat (first | (with_reducible first | exact HB.out | apply below_alloc | apply pw_below_drewN | apply below_drew1 | refine below_set ?_ (IsS71.ge HI197.out) | refine below_set ?_ GE205.out) | exact HB.out))) : w.heap.size ≤ gb246))
                                              have n7_ := Aside0.mk ((by rw [hg]; exact Nat.ne_of_lt (blk_lt (g := gb205) (o := .cells #[.int .i64 x206000_2, .slice Ao72 x206001_2.length co72, .int .i64 x206002_2, .int .i64 x206003_2] 30 (0, 0)) (by (with_reducible repeat (first | refine blk_drewN ?_ _ | refine blk_drew ?_ | refine blk_alloc ?_ _)); exact BK205.out)) : gb205 ≠ gb246))
                                              have n8_ := Aside0.mk ((by rw [hg]; exact Nat.ne_of_gt (blk_lt (g := gb205) (o := .cells #[.int .i64 x206000_2, .slice Ao72 x206001_2.length co72, .int .i64 x206002_2, .int .i64 x206003_2] 30 (0, 0)) (by (with_reducible repeat (first | refine blk_drewN ?_ _ | refine blk_drew ?_ | refine blk_alloc ?_ _)); exact BK205.out)) : gb246 ≠ gb205))
                                              have n9_ := Aside0.mk ((by rw [hg]; exact Nat.ne_of_lt (IsS71.lt (show IsS71 w _ g197 x198000_2 x198001_2 x198002_2 x198003_2 from by repeat (first | (with_reducible first | exact HI197.out | apply IsS71.alloc | apply IsS71.drewN | apply IsS71.drew | apply IsS71.set_0 | apply IsS71.set_1 | apply IsS71.set_2 | apply IsS71.set_3 | refine IsS71.far ?_ NB197_205.out _) | exact HI197.out))) : g197 ≠ gb246))
                                              have n10_ := Aside0.mk ((by rw [hg]; exact Nat.ne_of_gt (IsS71.lt (show IsS71 w _ g197 x198000_2 x198001_2 x198002_2 x198003_2 from by repeat (first | (with_reducible first | exact HI197.out | apply IsS71.alloc | apply IsS71.drewN | apply IsS71.drew | apply IsS71.set_0 | apply IsS71.set_1 | apply IsS71.set_2 | apply IsS71.set_3 | refine IsS71.far ?_ NB197_205.out _) | exact HI197.out))) : gb246 ≠ g197))
                                              clear HO_206001
                                              clear BK205
                                              clear HI197
                                              clear HB
                                              have HO_206001 := n0_
                                              have BK205 := n1_
                                              have HI197 := n2_
                                              have HB := n3_
                                              have BK246 := n4_
                                              have GW246 := n5_
                                              have GE246 := n6_
                                              have NB205_246 := n7_
                                              have NB246_205 := n8_
                                              have NB197_246 := n9_
                                              have NB246_197 := n10_
                                              clear n0_ n1_ n2_ n3_ n4_ n5_ n6_ n7_ n8_ n9_ n10_
                                              clear hb hbox hg
                                              refine hK.out _ _ ⟨(blk_cell BK205.out 0).trans rfl, (blk_cell BK205.out 1).trans rfl, (blk_cell BK205.out 2).trans rfl, (blk_cell BK205.out 3).trans rfl, ((HB.out.cell (World.block_lt_of_cell? w _ hw238_0)).trans hw238_0), ((HB.out.cell (World.block_lt_of_cell? w _ hw238_1)).trans hw238_1), ((HB.out.cell (World.block_lt_of_cell? w _ hw238_2)).trans hw238_2), ((HB.out.cell (World.block_lt_of_cell? w _ hw238_3)).trans hw238_3), ((HB.out.cell (World.block_lt_of_cell? w _ hw238_4)).trans hw238_4)⟩ (fun hHeld => ?_)
                                              clear hK K
                                              refine norm_ (a' := ?_) ?_ ?_
                                              rotate_left
                                              · show Act.put _ (some 15) _ = _
                                                simp only [Act.put, List.setIfInBounds_toArray, List.set_cons_zero, List.set_cons_succ, i64_w, i32_w]
                                                rfl
                                              refine one_ (i := 6) (N := some 103) #[true, true, true, true, true, true, true, false, false, false, true, false, false] rfl rfl (one_of HT_.out (by kernel_rfl)) (by decide) (fun K hK => ?_)
                                              refine goes_ Try.func14 (by kernel_rfl) rfl #[.agg #[.int .i64 x206000_2, .slice Ao72 x206001_2.length co72, .int .i64 x206002_2, .int .i64 x206003_2], .agg #[.int .i64 ((rd_T36 l1 x9_2).f1.f0), .string ((rd_T36 l1 x9_2).f1.f1), .string ((rd_T36 l1 x9_2).f1.f2), .int .i64 ((rd_T36 l1 x9_2).f1.f3)]] (by rfl) rfl rfl (by (try simp only [List.map_toArray, List.map_cons, List.map_nil]); first | done | rfl | (simp only [List.length_drop, List.length_take]; rfl)) ?_
                                              with_reducible refine (deedboxref39_Tell.calls x206000_2 (fun k_ => ((k_ ≠ gb205 ∧ k_ ≠ g197) ∧ k_ ≠ gb246)) _ _ x206001_2 x206002_2 x206003_2 ((rd_T36 l1 x9_2).f1.f0) ((rd_T36 l1 x9_2).f1.f1) ((rd_T36 l1 x9_2).f1.f2) ((rd_T36 l1 x9_2).f1.f3) t239 t240 t243 t244 t245 _ ?side1 A64.out).mono ?_
                                              (case side1 => exact HO_206001.out)
                                              rintro e w75 ⟨v241, rfl, ho0, hb⟩
                                              refine ⟨_, rfl, ?_⟩
                                              have n0_ := Aside0.mk (Kd.V_below (by (with_reducible repeat (first | apply Kd.V_alloc | apply Kd.V_drewN | apply Kd.V_drew)); exact HO_206001.out) hb)
                                              have n1_ := Aside0.mk (Kd.V_lower (Kd.V_mono (ok' := fun k_ => k_ ≠ gb205 ∧ k_ ≠ gb246 ∧ k_ ≠ g197) ho0 (fun k_ hk_ => ⟨Or.elim hk_ (fun hs_ => hs_.1.1) (fun hn_ => (Kd.freshB (g := gb205) (o := .cells #[.int .i64 x206000_2, .slice Ao72 x206001_2.length co72, .int .i64 x206002_2, .int .i64 x206003_2] 30 (0, 0)) (by (with_reducible repeat (first | refine blk_drewN ?_ _ | refine blk_drew ?_ | refine blk_alloc ?_ _)); exact BK205.out) k_ hn_)), Or.elim hk_ (fun hs_ => hs_.2) (fun hn_ => (Kd.freshB (g := gb246) (o := .cells #[.int .i64 0, .slice none 0 0, .int .i64 0, .int .i64 0] 30 (0, 0)) (by (with_reducible repeat (first | refine blk_drewN ?_ _ | refine blk_drew ?_ | refine blk_alloc ?_ _)); exact BK246.out) k_ hn_)), Or.elim hk_ (fun hs_ => hs_.1.2) (fun hn_ => (IsS71.fresh (by repeat (first | (with_reducible first | exact HI197.out | apply IsS71.alloc | apply IsS71.drewN | apply IsS71.drew | apply IsS71.set_0 | apply IsS71.set_1 | apply IsS71.set_2 | apply IsS71.set_3 | refine IsS71.far ?_ NB197_205.out _ | refine IsS71.far ?_ NB197_246.out _) | exact HI197.out)) k_ hn_))⟩)) (below_size (by repeat (first | (with_reducible first | exact HB.out | apply below_alloc | apply pw_below_drewN | apply below_drew1 | refine below_set ?_ (IsS71.ge HI197.out) | refine below_set ?_ GE205.out | refine below_set ?_ GE246.out) | exact HB.out))))
                                              have n2_ := Aside0.mk (blk_below (g := gb205) (o := .cells #[.int .i64 x206000_2, .slice Ao72 x206001_2.length co72, .int .i64 x206002_2, .int .i64 x206003_2] 30 (0, 0)) (by (with_reducible repeat (first | refine blk_drewN ?_ _ | refine blk_drew ?_ | refine blk_alloc ?_ _)); exact BK205.out) hb)
                                              have n3_ := Aside0.mk (IsS71.below (by repeat (first | (with_reducible first | exact HI197.out | apply IsS71.alloc | apply IsS71.drewN | apply IsS71.drew | apply IsS71.set_0 | apply IsS71.set_1 | apply IsS71.set_2 | apply IsS71.set_3 | refine IsS71.far ?_ NB197_205.out _ | refine IsS71.far ?_ NB197_246.out _) | exact HI197.out)) hb)
                                              have n4_ := Aside0.mk (blk_below (g := gb246) (o := .cells #[.int .i64 0, .slice none 0 0, .int .i64 0, .int .i64 0] 30 (0, 0)) (by (with_reducible repeat (first | refine blk_drewN ?_ _ | refine blk_drew ?_ | refine blk_alloc ?_ _)); exact BK246.out) hb)
                                              have n5_ := Aside0.mk (below_step (by repeat (first | (with_reducible first | exact HB.out | apply below_alloc | apply pw_below_drewN | apply below_drew1 | refine below_set ?_ (IsS71.ge HI197.out) | refine below_set ?_ GE205.out | refine below_set ?_ GE246.out) | exact HB.out)) hb)
                                              clear HO_206001
                                              clear BK205
                                              clear HI197
                                              clear BK246
                                              clear HB
                                              have HO_206001 := n0_
                                              have HO242 := n1_
                                              have BK205 := n2_
                                              have HI197 := n3_
                                              have BK246 := n4_
                                              have HB := n5_
                                              clear n0_ n1_ n2_ n3_ n4_ n5_
                                              (try clear hb)
                                              (try clear hb2)
                                              (try clear hk)
                                              (try clear hi)
                                              (try clear ho0)
                                              refine hK.out _ _ ⟨(blk_cell BK205.out 0).trans rfl, (blk_cell BK205.out 1).trans rfl, (blk_cell BK205.out 2).trans rfl, (blk_cell BK205.out 3).trans rfl, ((HB.out.cell (World.block_lt_of_cell? w _ hw238_0)).trans hw238_0), ((HB.out.cell (World.block_lt_of_cell? w _ hw238_1)).trans hw238_1), ((HB.out.cell (World.block_lt_of_cell? w _ hw238_2)).trans hw238_2), ((HB.out.cell (World.block_lt_of_cell? w _ hw238_3)).trans hw238_3), ((HB.out.cell (World.block_lt_of_cell? w _ hw238_4)).trans hw238_4)⟩ (fun hHeld => ?_)
                                              clear hK K
                                              refine norm_ (a' := ?_) ?_ ?_
                                              rotate_left
                                              · show Act.put _ (some 103) _ = _
                                                simp only [Act.put, List.setIfInBounds_toArray, List.set_cons_zero, List.set_cons_succ, i64_w, i32_w]
                                                rfl
                                              refine pure_ (i := 7) (N := some 96) (v := ?_) (a' := ?_) #[true, true, true, true, true, true, true, true, false, false, true, false, false] rfl rfl (any_of HT_.out (by kernel_rfl)) (fun _ _ _ h => h) (Or.inl ⟨by rfl, ?_⟩) ?_ ?_
                                              rotate_left
                                              · intro w'
                                                go_simp
                                                with_reducible rfl
                                              rotate_left
                                              · simp only [Act.put, List.setIfInBounds_toArray, List.set_cons_zero, List.set_cons_succ, i64_w, i32_w]
                                                rfl
                                              refine pure_ (i := 8) (N := some 104) (v := ?_) (a' := ?_) #[true, true, true, true, true, true, true, true, true, false, true, false, false] rfl rfl (any_of HT_.out (by kernel_rfl)) (fun _ _ _ h => h) (Or.inl ⟨by rfl, ?_⟩) ?_ ?_
                                              rotate_left
                                              · intro w'
                                                go_simp
                                                with_reducible rfl
                                              rotate_left
                                              · simp only [Act.put, List.setIfInBounds_toArray, List.set_cons_zero, List.set_cons_succ, i64_w, i32_w]
                                                rfl
                                              refine pure_ (i := 9) (N := some 105) (v := ?_) (a' := ?_) #[true, true, true, true, true, true, true, true, true, true, true, false, false] rfl rfl (any_of HT_.out (by kernel_rfl)) (fun _ _ _ h => h) (Or.inl ⟨by rfl, ?_⟩) ?_ ?_
                                              rotate_left
                                              · intro w'
                                                go_simp
                                                with_reducible rfl
                                              rotate_left
                                              · simp only [Act.put, List.setIfInBounds_toArray, List.set_cons_zero, List.set_cons_succ, i64_w, i32_w]
                                                rfl
                                              exact norm_ (by simp only [putAll, Act.put, List.setIfInBounds_toArray, List.set_cons_zero, List.set_cons_succ]) (hCont (v241, gb246) _ ⟨hHeld, (by (with_reducible repeat (first | apply Kd.V_alloc | apply Kd.V_drewN | apply Kd.V_drew)); exact Kd.V_mono HO242.out (fun _ hk => ⟨hk.2.2, ⟨hk.1, hk.2.1⟩⟩)), (by (with_reducible repeat (first | apply Kd.V_alloc | apply Kd.V_drewN | apply Kd.V_drew)); exact Kd.V_mono HO_206001.out (fun _ hk => ⟨hk.1.2, ⟨hk.1.1, hk.2⟩⟩)), (by (with_reducible repeat (first | refine blk_drewN ?_ _ | refine blk_drew ?_ | refine blk_alloc ?_ _)); exact BK205.out), (by (with_reducible repeat (first | refine blk_drewN ?_ _ | refine blk_drew ?_ | refine blk_alloc ?_ _)); exact BK246.out), GW246.out, GE246.out, NB197_246.out, NB246_197.out, NB205_246.out, NB246_205.out, (by repeat (first | (with_reducible first | exact HI197.out | apply IsS71.alloc | apply IsS71.drewN | apply IsS71.drew | apply IsS71.set_0 | apply IsS71.set_1 | apply IsS71.set_2 | apply IsS71.set_3 | refine IsS71.far ?_ NB197_205.out _ | refine IsS71.far ?_ NB197_246.out _) | exact HI197.out)), (by repeat (first | (with_reducible first | exact HB.out | apply below_alloc | apply pw_below_drewN | apply below_drew1 | refine below_set ?_ (IsS71.ge HI197.out) | refine below_set ?_ GE205.out | refine below_set ?_ GE246.out) | exact HB.out))⟩)
                                          rintro ⟨v241, gb246⟩ w76 ⟨hS_, h0_, h1_, h2_, h3_, h4_, h5_, h6_, h7_, h8_, h9_, h10_, h11_⟩
                                          have n0_ : Aside0 (Kd.V k34 34 w76 w.heap.size (fun k_ => k_ ≠ g197 ∧ k_ ≠ gb205 ∧ k_ ≠ gb246) v241 t240) := ⟨h0_⟩
                                          have n1_ : Aside0 (Kd.V k34 34 w76 w.heap.size (fun k_ => k_ ≠ g197 ∧ k_ ≠ gb205 ∧ k_ ≠ gb246) (.slice Ao72 x206001_2.length co72) x206001_2) := ⟨h1_⟩
                                          have n2_ : Aside0 (w76.heap[gb205]? = some (.cells #[.int .i64 x206000_2, .slice Ao72 x206001_2.length co72, .int .i64 x206002_2, .int .i64 x206003_2] 30 (0, 0))) := ⟨h2_⟩
                                          have n3_ : Aside0 (w76.heap[gb246]? = some (.cells #[.int .i64 0, .slice none 0 0, .int .i64 0, .int .i64 0] 30 (0, 0))) := ⟨h3_⟩
                                          have n4_ : Aside0 (w.heap.size ≤ gb246) := ⟨h4_⟩
                                          have n5_ : Aside0 (w.heap.size ≤ gb246) := ⟨h5_⟩
                                          have n6_ : Aside0 (g197 ≠ gb246) := ⟨h6_⟩
                                          have n7_ : Aside0 (gb246 ≠ g197) := ⟨h7_⟩
                                          have n8_ : Aside0 (gb205 ≠ gb246) := ⟨h8_⟩
                                          have n9_ : Aside0 (gb246 ≠ gb205) := ⟨h9_⟩
                                          have n10_ : Aside0 (IsS71 w w76 g197 x198000_2 x198001_2 x198002_2 x198003_2) := ⟨h10_⟩
                                          have n11_ : Aside0 (Below w.heap.size w w76) := ⟨h11_⟩
                                          clear HO_206001
                                          clear BK205
                                          clear HI197
                                          clear HB
                                          clear h0_ h1_ h2_ h3_ h4_ h5_ h6_ h7_ h8_ h9_ h10_ h11_
                                          have HO242 := n0_
                                          have HO_206001 := n1_
                                          have BK205 := n2_
                                          have BK246 := n3_
                                          have GW246 := n4_
                                          have GE246 := n5_
                                          have NB197_246 := n6_
                                          have NB246_197 := n7_
                                          have NB205_246 := n8_
                                          have NB246_205 := n9_
                                          have HI197 := n10_
                                          have HB := n11_
                                          clear n0_ n1_ n2_ n3_ n4_ n5_ n6_ n7_ n8_ n9_ n10_ n11_
                                          have hHeld : w76.cell? ⟨gb205, 0, none⟩ = some (.int .i64 x206000_2) ∧ w76.cell? ⟨gb205, 1, none⟩ = some (.slice Ao72 x206001_2.length co72) ∧ w76.cell? ⟨gb205, 2, none⟩ = some (.int .i64 x206002_2) ∧ w76.cell? ⟨gb205, 3, none⟩ = some (.int .i64 x206003_2) ∧ w76.cell? (ad210.add ((x9_2).toNat * 5)) = some (.bool (false)) ∧ w76.cell? ⟨(ad210.add ((x9_2).toNat * 5)).block, (ad210.add ((x9_2).toNat * 5)).off + 1, none⟩ = some (.int .i64 ((rd_T36 l1 x9_2).f1.f0)) ∧ w76.cell? ⟨(ad210.add ((x9_2).toNat * 5)).block, (ad210.add ((x9_2).toNat * 5)).off + 2, none⟩ = some (.string ((rd_T36 l1 x9_2).f1.f1)) ∧ w76.cell? ⟨(ad210.add ((x9_2).toNat * 5)).block, (ad210.add ((x9_2).toNat * 5)).off + 3, none⟩ = some (.string ((rd_T36 l1 x9_2).f1.f2)) ∧ w76.cell? ⟨(ad210.add ((x9_2).toNat * 5)).block, (ad210.add ((x9_2).toNat * 5)).off + 4, none⟩ = some (.int .i64 ((rd_T36 l1 x9_2).f1.f3)) := hS_
                                          obtain ⟨Ao78, co78, eo78⟩ := Kd.V_slice HO242.out
                                          (first | subst eo78 | (injection eo78 with f1_ f2_ f3_; have f4_ := f1_.symm; have f5_ := f3_.symm; clear f1_ f2_ f3_; subst f4_; subst f5_))
                                          refine norm_ (a' := ?_) ?_ ?_
                                          rotate_left
                                          · simp only [putAll, Act.put, List.setIfInBounds_toArray, List.set_cons_zero, List.set_cons_succ]
                                            rfl
                                          refine one_ (i := 11) (N := none) #[true, true, true, true, true, true, true, true, true, true, true, true, false] rfl rfl (one_of HT_.out (by kernel_rfl)) (by decide) (fun K hK => ?_)
                                          have hs77 : w76.cell? ⟨gb246, 0, none⟩ = some (.int .i64 0) := (blk_cell BK246.out 0).trans rfl
                                          have hfs77 := blk_frozen BK246.out 0
                                          have hns77_0 := NB205_246.out
                                          have hms77_0 := NB246_205.out
                                          have hs79 : w76.cell? ⟨gb246, 1, none⟩ = some (.slice none 0 0) := (blk_cell BK246.out 1).trans rfl
                                          have hfs79 := blk_frozen BK246.out 1
                                          have hns79_0 := NB205_246.out
                                          have hms79_0 := NB246_205.out
                                          have hs80 : w76.cell? ⟨gb246, 2, none⟩ = some (.int .i64 0) := (blk_cell BK246.out 2).trans rfl
                                          have hfs80 := blk_frozen BK246.out 2
                                          have hns80_0 := NB205_246.out
                                          have hms80_0 := NB246_205.out
                                          have hs81 : w76.cell? ⟨gb246, 3, none⟩ = some (.int .i64 0) := (blk_cell BK246.out 3).trans rfl
                                          have hfs81 := blk_frozen BK246.out 3
                                          have hns81_0 := NB205_246.out
                                          have hms81_0 := NB246_205.out
                                          refine skip_ (w1 := ?_) (by rfl) rfl ?_ ?_
                                          rotate_left
                                          · go_simp
                                            rfl
                                          refine hK.out _ _ ⟨((cell_far (p := ⟨gb246, _, none⟩) NB205_246.out _).trans (((cell_far (p := ⟨gb246, _, none⟩) NB205_246.out _).trans (((cell_far (p := ⟨gb246, _, none⟩) NB205_246.out _).trans (((cell_far (p := ⟨gb246, _, none⟩) NB205_246.out _).trans (hHeld.1)))))))), ((cell_far (p := ⟨gb246, _, none⟩) NB205_246.out _).trans (((cell_far (p := ⟨gb246, _, none⟩) NB205_246.out _).trans (((cell_far (p := ⟨gb246, _, none⟩) NB205_246.out _).trans (((cell_far (p := ⟨gb246, _, none⟩) NB205_246.out _).trans (hHeld.2.1)))))))), ((cell_far (p := ⟨gb246, _, none⟩) NB205_246.out _).trans (((cell_far (p := ⟨gb246, _, none⟩) NB205_246.out _).trans (((cell_far (p := ⟨gb246, _, none⟩) NB205_246.out _).trans (((cell_far (p := ⟨gb246, _, none⟩) NB205_246.out _).trans (hHeld.2.2.1)))))))), ((cell_far (p := ⟨gb246, _, none⟩) NB205_246.out _).trans (((cell_far (p := ⟨gb246, _, none⟩) NB205_246.out _).trans (((cell_far (p := ⟨gb246, _, none⟩) NB205_246.out _).trans (((cell_far (p := ⟨gb246, _, none⟩) NB205_246.out _).trans (hHeld.2.2.2.1)))))))), ((cell_far (p := ⟨gb246, _, none⟩) (by first | exact Nat.ne_of_lt (Nat.lt_of_lt_of_le (by have := World.block_lt_of_cell? _ _ hw238_0; first | rwa [add_block] at this | exact this) GW246.out) | (rw [add_block]; exact Nat.ne_of_lt (Nat.lt_of_lt_of_le (by have := World.block_lt_of_cell? _ _ hw238_0; first | rwa [add_block] at this | exact this) GW246.out)) | (show (Addr.add _ _).block ≠ _; rw [add_block]; exact Nat.ne_of_lt (Nat.lt_of_lt_of_le (by have := World.block_lt_of_cell? _ _ hw238_0; first | rwa [add_block] at this | exact this) GW246.out)) | (dsimp only; exact Nat.ne_of_lt (Nat.lt_of_lt_of_le (by have := World.block_lt_of_cell? _ _ hw238_0; first | rwa [add_block] at this | exact this) GW246.out))) _).trans (((cell_far (p := ⟨gb246, _, none⟩) (by first | exact Nat.ne_of_lt (Nat.lt_of_lt_of_le (by have := World.block_lt_of_cell? _ _ hw238_0; first | rwa [add_block] at this | exact this) GW246.out) | (rw [add_block]; exact Nat.ne_of_lt (Nat.lt_of_lt_of_le (by have := World.block_lt_of_cell? _ _ hw238_0; first | rwa [add_block] at this | exact this) GW246.out)) | (show (Addr.add _ _).block ≠ _; rw [add_block]; exact Nat.ne_of_lt (Nat.lt_of_lt_of_le (by have := World.block_lt_of_cell? _ _ hw238_0; first | rwa [add_block] at this | exact this) GW246.out)) | (dsimp only; exact Nat.ne_of_lt (Nat.lt_of_lt_of_le (by have := World.block_lt_of_cell? _ _ hw238_0; first | rwa [add_block] at this | exact this) GW246.out))) _).trans (((cell_far (p := ⟨gb246, _, none⟩) (by first | exact Nat.ne_of_lt (Nat.lt_of_lt_of_le (by have := World.block_lt_of_cell? _ _ hw238_0; first | rwa [add_block] at this | exact this) GW246.out) | (rw [add_block]; exact Nat.ne_of_lt (Nat.lt_of_lt_of_le (by have := World.block_lt_of_cell? _ _ hw238_0; first | rwa [add_block] at this | exact this) GW246.out)) | (show (Addr.add _ _).block ≠ _; rw [add_block]; exact Nat.ne_of_lt (Nat.lt_of_lt_of_le (by have := World.block_lt_of_cell? _ _ hw238_0; first | rwa [add_block] at this | exact this) GW246.out)) | (dsimp only; exact Nat.ne_of_lt (Nat.lt_of_lt_of_le (by have := World.block_lt_of_cell? _ _ hw238_0; first | rwa [add_block] at this | exact this) GW246.out))) _).trans (((cell_far (p := ⟨gb246, _, none⟩) (by first | exact Nat.ne_of_lt (Nat.lt_of_lt_of_le (by have := World.block_lt_of_cell? _ _ hw238_0; first | rwa [add_block] at this | exact this) GW246.out) | (rw [add_block]; exact Nat.ne_of_lt (Nat.lt_of_lt_of_le (by have := World.block_lt_of_cell? _ _ hw238_0; first | rwa [add_block] at this | exact this) GW246.out)) | (show (Addr.add _ _).block ≠ _; rw [add_block]; exact Nat.ne_of_lt (Nat.lt_of_lt_of_le (by have := World.block_lt_of_cell? _ _ hw238_0; first | rwa [add_block] at this | exact this) GW246.out)) | (dsimp only; exact Nat.ne_of_lt (Nat.lt_of_lt_of_le (by have := World.block_lt_of_cell? _ _ hw238_0; first | rwa [add_block] at this | exact this) GW246.out))) _).trans (hHeld.2.2.2.2.1)))))))), ((cell_far (p := ⟨gb246, _, none⟩) (by first | exact Nat.ne_of_lt (Nat.lt_of_lt_of_le (by have := World.block_lt_of_cell? _ _ hw238_1; first | rwa [add_block] at this | exact this) GW246.out) | (rw [add_block]; exact Nat.ne_of_lt (Nat.lt_of_lt_of_le (by have := World.block_lt_of_cell? _ _ hw238_1; first | rwa [add_block] at this | exact this) GW246.out)) | (show (Addr.add _ _).block ≠ _; rw [add_block]; exact Nat.ne_of_lt (Nat.lt_of_lt_of_le (by have := World.block_lt_of_cell? _ _ hw238_1; first | rwa [add_block] at this | exact this) GW246.out)) | (dsimp only; exact Nat.ne_of_lt (Nat.lt_of_lt_of_le (by have := World.block_lt_of_cell? _ _ hw238_1; first | rwa [add_block] at this | exact this) GW246.out))) _).trans (((cell_far (p := ⟨gb246, _, none⟩) (by first | exact Nat.ne_of_lt (Nat.lt_of_lt_of_le (by have := World.block_lt_of_cell? _ _ hw238_1; first | rwa [add_block] at this | exact this) GW246.out) | (rw [add_block]; exact Nat.ne_of_lt (Nat.lt_of_lt_of_le (by have := World.block_lt_of_cell? _ _ hw238_1; first | rwa [add_block] at this | exact this) GW246.out)) | (show (Addr.add _ _).block ≠ _; rw [add_block]; exact Nat.ne_of_lt (Nat.lt_of_lt_of_le (by have := World.block_lt_of_cell? _ _ hw238_1; first | rwa [add_block] at this | exact this) GW246.out)) | (dsimp only; exact Nat.ne_of_lt (Nat.lt_of_lt_of_le (by have := World.block_lt_of_cell? _ _ hw238_1; first | rwa [add_block] at this | exact this) GW246.out))) _).trans (((cell_far (p := ⟨gb246, _, none⟩) (by first | exact Nat.ne_of_lt (Nat.lt_of_lt_of_le (by have := World.block_lt_of_cell? _ _ hw238_1; first | rwa [add_block] at this | exact this) GW246.out) | (rw [add_block]; exact Nat.ne_of_lt (Nat.lt_of_lt_of_le (by have := World.block_lt_of_cell? _ _ hw238_1; first | rwa [add_block] at this | exact this) GW246.out)) | (show (Addr.add _ _).block ≠ _; rw [add_block]; exact Nat.ne_of_lt (Nat.lt_of_lt_of_le (by have := World.block_lt_of_cell? _ _ hw238_1; first | rwa [add_block] at this | exact this) GW246.out)) | (dsimp only; exact Nat.ne_of_lt (Nat.lt_of_lt_of_le (by have := World.block_lt_of_cell? _ _ hw238_1; first | rwa [add_block] at this | exact this) GW246.out))) _).trans (((cell_far (p := ⟨gb246, _, none⟩) (by first | exact Nat.ne_of_lt (Nat.lt_of_lt_of_le (by have := World.block_lt_of_cell? _ _ hw238_1; first | rwa [add_block] at this | exact this) GW246.out) | (rw [add_block]; exact Nat.ne_of_lt (Nat.lt_of_lt_of_le (by have := World.block_lt_of_cell? _ _ hw238_1; first | rwa [add_block] at this | exact this) GW246.out)) | (show (Addr.add _ _).block ≠ _; rw [add_block]; exact Nat.ne_of_lt (Nat.lt_of_lt_of_le (by have := World.block_lt_of_cell? _ _ hw238_1; first | rwa [add_block] at this | exact this) GW246.out)) | (dsimp only; exact Nat.ne_of_lt (Nat.lt_of_lt_of_le (by have := World.block_lt_of_cell? _ _ hw238_1; first | rwa [add_block] at this | exact this) GW246.out))) _).trans (hHeld.2.2.2.2.2.1)))))))), ((cell_far (p := ⟨gb246, _, none⟩) (by first | exact Nat.ne_of_lt (Nat.lt_of_lt_of_le (by have := World.block_lt_of_cell? _ _ hw238_2; first | rwa [add_block] at this | exact this) GW246.out) | (rw [add_block]; exact Nat.ne_of_lt (Nat.lt_of_lt_of_le (by have := World.block_lt_of_cell? _ _ hw238_2; first | rwa [add_block] at this | exact this) GW246.out)) | (show (Addr.add _ _).block ≠ _; rw [add_block]; exact Nat.ne_of_lt (Nat.lt_of_lt_of_le (by have := World.block_lt_of_cell? _ _ hw238_2; first | rwa [add_block] at this | exact this) GW246.out)) | (dsimp only; exact Nat.ne_of_lt (Nat.lt_of_lt_of_le (by have := World.block_lt_of_cell? _ _ hw238_2; first | rwa [add_block] at this | exact this) GW246.out))) _).trans (((cell_far (p := ⟨gb246, _, none⟩) (by first | exact Nat.ne_of_lt (Nat.lt_of_lt_of_le (by have := World.block_lt_of_cell? _ _ hw238_2; first | rwa [add_block] at this | exact this) GW246.out) | (rw [add_block]; exact Nat.ne_of_lt (Nat.lt_of_lt_of_le (by have := World.block_lt_of_cell? _ _ hw238_2; first | rwa [add_block] at this | exact this) GW246.out)) | (show (Addr.add _ _).block ≠ _; rw [add_block]; exact Nat.ne_of_lt (Nat.lt_of_lt_of_le (by have := World.block_lt_of_cell? _ _ hw238_2; first | rwa [add_block] at this | exact this) GW246.out)) | (dsimp only; exact Nat.ne_of_lt (Nat.lt_of_lt_of_le (by have := World.block_lt_of_cell? _ _ hw238_2; first | rwa [add_block] at this | exact this) GW246.out))) _).trans (((cell_far (p := ⟨gb246, _, none⟩) (by first | exact Nat.ne_of_lt (Nat.lt_of_lt_of_le (by have := World.block_lt_of_cell? _ _ hw238_2; first | rwa [add_block] at this | exact this) GW246.out) | (rw [add_block]; exact Nat.ne_of_lt (Nat.lt_of_lt_of_le (by have := World.block_lt_of_cell? _ _ hw238_2; first | rwa [add_block] at this | exact this) GW246.out)) | (show (Addr.add _ _).block ≠ _; rw [add_block]; exact Nat.ne_of_lt (Nat.lt_of_lt_of_le (by have := World.block_lt_of_cell? _ _ hw238_2; first | rwa [add_block] at this | exact this) GW246.out)) | (dsimp only; exact Nat.ne_of_lt (Nat.lt_of_lt_of_le (by have := World.block_lt_of_cell? _ _ hw238_2; first | rwa [add_block] at this | exact this) GW246.out))) _).trans (((cell_far (p := ⟨gb246, _, none⟩) (by first | exact Nat.ne_of_lt (Nat.lt_of_lt_of_le (by have := World.block_lt_of_cell? _ _ hw238_2; first | rwa [add_block] at this | exact this) GW246.out) | (rw [add_block]; exact Nat.ne_of_lt (Nat.lt_of_lt_of_le (by have := World.block_lt_of_cell? _ _ hw238_2; first | rwa [add_block] at this | exact this) GW246.out)) | (show (Addr.add _ _).block ≠ _; rw [add_block]; exact Nat.ne_of_lt (Nat.lt_of_lt_of_le (by have := World.block_lt_of_cell? _ _ hw238_2; first | rwa [add_block] at this | exact this) GW246.out)) | (dsimp only; exact Nat.ne_of_lt (Nat.lt_of_lt_of_le (by have := World.block_lt_of_cell? _ _ hw238_2; first | rwa [add_block] at this | exact this) GW246.out))) _).trans (hHeld.2.2.2.2.2.2.1)))))))), ((cell_far (p := ⟨gb246, _, none⟩) (by first | exact Nat.ne_of_lt (Nat.lt_of_lt_of_le (by have := World.block_lt_of_cell? _ _ hw238_3; first | rwa [add_block] at this | exact this) GW246.out) | (rw [add_block]; exact Nat.ne_of_lt (Nat.lt_of_lt_of_le (by have := World.block_lt_of_cell? _ _ hw238_3; first | rwa [add_block] at this | exact this) GW246.out)) | (show (Addr.add _ _).block ≠ _; rw [add_block]; exact Nat.ne_of_lt (Nat.lt_of_lt_of_le (by have := World.block_lt_of_cell? _ _ hw238_3; first | rwa [add_block] at this | exact this) GW246.out)) | (dsimp only; exact Nat.ne_of_lt (Nat.lt_of_lt_of_le (by have := World.block_lt_of_cell? _ _ hw238_3; first | rwa [add_block] at this | exact this) GW246.out))) _).trans (((cell_far (p := ⟨gb246, _, none⟩) (by first | exact Nat.ne_of_lt (Nat.lt_of_lt_of_le (by have := World.block_lt_of_cell? _ _ hw238_3; first | rwa [add_block] at this | exact this) GW246.out) | (rw [add_block]; exact Nat.ne_of_lt (Nat.lt_of_lt_of_le (by have := World.block_lt_of_cell? _ _ hw238_3; first | rwa [add_block] at this | exact this) GW246.out)) | (show (Addr.add _ _).block ≠ _; rw [add_block]; exact Nat.ne_of_lt (Nat.lt_of_lt_of_le (by have := World.block_lt_of_cell? _ _ hw238_3; first | rwa [add_block] at this | exact this) GW246.out)) | (dsimp only; exact Nat.ne_of_lt (Nat.lt_of_lt_of_le (by have := World.block_lt_of_cell? _ _ hw238_3; first | rwa [add_block] at this | exact this) GW246.out))) _).trans (((cell_far (p := ⟨gb246, _, none⟩) (by first | exact Nat.ne_of_lt (Nat.lt_of_lt_of_le (by have := World.block_lt_of_cell? _ _ hw238_3; first | rwa [add_block] at this | exact this) GW246.out) | (rw [add_block]; exact Nat.ne_of_lt (Nat.lt_of_lt_of_le (by have := World.block_lt_of_cell? _ _ hw238_3; first | rwa [add_block] at this | exact this) GW246.out)) | (show (Addr.add _ _).block ≠ _; rw [add_block]; exact Nat.ne_of_lt (Nat.lt_of_lt_of_le (by have := World.block_lt_of_cell? _ _ hw238_3; first | rwa [add_block] at this | exact this) GW246.out)) | (dsimp only; exact Nat.ne_of_lt (Nat.lt_of_lt_of_le (by have := World.block_lt_of_cell? _ _ hw238_3; first | rwa [add_block] at this | exact this) GW246.out))) _).trans (((cell_far (p := ⟨gb246, _, none⟩) (by first | exact Nat.ne_of_lt (Nat.lt_of_lt_of_le (by have := World.block_lt_of_cell? _ _ hw238_3; first | rwa [add_block] at this | exact this) GW246.out) | (rw [add_block]; exact Nat.ne_of_lt (Nat.lt_of_lt_of_le (by have := World.block_lt_of_cell? _ _ hw238_3; first | rwa [add_block] at this | exact this) GW246.out)) | (show (Addr.add _ _).block ≠ _; rw [add_block]; exact Nat.ne_of_lt (Nat.lt_of_lt_of_le (by have := World.block_lt_of_cell? _ _ hw238_3; first | rwa [add_block] at this | exact this) GW246.out)) | (dsimp only; exact Nat.ne_of_lt (Nat.lt_of_lt_of_le (by have := World.block_lt_of_cell? _ _ hw238_3; first | rwa [add_block] at this | exact this) GW246.out))) _).trans (hHeld.2.2.2.2.2.2.2.1)))))))), ((cell_far (p := ⟨gb246, _, none⟩) (by first | exact Nat.ne_of_lt (Nat.lt_of_lt_of_le (by have := World.block_lt_of_cell? _ _ hw238_4; first | rwa [add_block] at this | exact this) GW246.out) | (rw [add_block]; exact Nat.ne_of_lt (Nat.lt_of_lt_of_le (by have := World.block_lt_of_cell? _ _ hw238_4; first | rwa [add_block] at this | exact this) GW246.out)) | (show (Addr.add _ _).block ≠ _; rw [add_block]; exact Nat.ne_of_lt (Nat.lt_of_lt_of_le (by have := World.block_lt_of_cell? _ _ hw238_4; first | rwa [add_block] at this | exact this) GW246.out)) | (dsimp only; exact Nat.ne_of_lt (Nat.lt_of_lt_of_le (by have := World.block_lt_of_cell? _ _ hw238_4; first | rwa [add_block] at this | exact this) GW246.out))) _).trans (((cell_far (p := ⟨gb246, _, none⟩) (by first | exact Nat.ne_of_lt (Nat.lt_of_lt_of_le (by have := World.block_lt_of_cell? _ _ hw238_4; first | rwa [add_block] at this | exact this) GW246.out) | (rw [add_block]; exact Nat.ne_of_lt (Nat.lt_of_lt_of_le (by have := World.block_lt_of_cell? _ _ hw238_4; first | rwa [add_block] at this | exact this) GW246.out)) | (show (Addr.add _ _).block ≠ _; rw [add_block]; exact Nat.ne_of_lt (Nat.lt_of_lt_of_le (by have := World.block_lt_of_cell? _ _ hw238_4; first | rwa [add_block] at this | exact this) GW246.out)) | (dsimp only; exact Nat.ne_of_lt (Nat.lt_of_lt_of_le (by have := World.block_lt_of_cell? _ _ hw238_4; first | rwa [add_block] at this | exact this) GW246.out))) _).trans (((cell_far (p := ⟨gb246, _, none⟩) (by first | exact Nat.ne_of_lt (Nat.lt_of_lt_of_le (by have := World.block_lt_of_cell? _ _ hw238_4; first | rwa [add_block] at this | exact this) GW246.out) | (rw [add_block]; exact Nat.ne_of_lt (Nat.lt_of_lt_of_le (by have := World.block_lt_of_cell? _ _ hw238_4; first | rwa [add_block] at this | exact this) GW246.out)) | (show (Addr.add _ _).block ≠ _; rw [add_block]; exact Nat.ne_of_lt (Nat.lt_of_lt_of_le (by have := World.block_lt_of_cell? _ _ hw238_4; first | rwa [add_block] at this | exact this) GW246.out)) | (dsimp only; exact Nat.ne_of_lt (Nat.lt_of_lt_of_le (by have := World.block_lt_of_cell? _ _ hw238_4; first | rwa [add_block] at this | exact this) GW246.out))) _).trans (((cell_far (p := ⟨gb246, _, none⟩) (by first | exact Nat.ne_of_lt (Nat.lt_of_lt_of_le (by have := World.block_lt_of_cell? _ _ hw238_4; first | rwa [add_block] at this | exact this) GW246.out) | (rw [add_block]; exact Nat.ne_of_lt (Nat.lt_of_lt_of_le (by have := World.block_lt_of_cell? _ _ hw238_4; first | rwa [add_block] at this | exact this) GW246.out)) | (show (Addr.add _ _).block ≠ _; rw [add_block]; exact Nat.ne_of_lt (Nat.lt_of_lt_of_le (by have := World.block_lt_of_cell? _ _ hw238_4; first | rwa [add_block] at this | exact this) GW246.out)) | (dsimp only; exact Nat.ne_of_lt (Nat.lt_of_lt_of_le (by have := World.block_lt_of_cell? _ _ hw238_4; first | rwa [add_block] at this | exact this) GW246.out))) _).trans (hHeld.2.2.2.2.2.2.2.2))))))))⟩ (fun hHeld => ?_)
                                          clear hK K
                                          refine pure_ (i := 12) (N := some 16) (v := ?_) (a' := ?_) #[true, true, true, true, true, true, true, true, true, true, true, true, true] rfl rfl (any_of HT_.out (by kernel_rfl)) (fun _ _ _ h => h) (Or.inl ⟨by rfl, ?_⟩) ?_ ?_
                                          rotate_left
                                          · intro w'
                                            go_simp
                                            with_reducible rfl
                                          rotate_left
                                          · simp only [Act.put, List.setIfInBounds_toArray, List.set_cons_zero, List.set_cons_succ, i64_w, i32_w]
                                            rfl
                                          refine done_ (done_of HT_.out (by kernel_rfl)) ?_
                                          have hnb82 := NB246_205.out
                                          have hnc82 := NB205_246.out
                                          have hnb83 := NB246_197.out
                                          have hnc83 := NB197_246.out
                                          have hcz84_0 : w76.cell? ⟨gb246, 0, none⟩ = some (.int .i64 0) := (blk_cell BK246.out 0).trans rfl
                                          have hcz84_1 : w76.cell? ⟨gb246, 1, none⟩ = some (.slice none 0 0) := (blk_cell BK246.out 1).trans rfl
                                          have hcz84_2 : w76.cell? ⟨gb246, 2, none⟩ = some (.int .i64 0) := (blk_cell BK246.out 2).trans rfl
                                          have hcz84_3 : w76.cell? ⟨gb246, 3, none⟩ = some (.int .i64 0) := (blk_cell BK246.out 3).trans rfl
                                          have hfz84_0 := blk_frozen BK246.out 0
                                          have hfz84_1 := blk_frozen BK246.out 1
                                          have hfz84_2 := blk_frozen BK246.out 2
                                          have hfz84_3 := blk_frozen BK246.out 3
                                          have hnb85 := NB205_197.out
                                          have hnc85 := NB197_205.out
                                          have hcz86_0 : w76.cell? ⟨gb205, 0, none⟩ = some (.int .i64 x206000_2) := (blk_cell BK205.out 0).trans rfl
                                          have hcz86_1 : w76.cell? ⟨gb205, 1, none⟩ = some (.slice Ao72 x206001_2.length co72) := (blk_cell BK205.out 1).trans rfl
                                          have hcz86_2 : w76.cell? ⟨gb205, 2, none⟩ = some (.int .i64 x206002_2) := (blk_cell BK205.out 2).trans rfl
                                          have hcz86_3 : w76.cell? ⟨gb205, 3, none⟩ = some (.int .i64 x206003_2) := (blk_cell BK205.out 3).trans rfl
                                          have hfz86_0 := blk_frozen BK205.out 0
                                          have hfz86_1 := blk_frozen BK205.out 1
                                          have hfz86_2 := blk_frozen BK205.out 2
                                          have hfz86_3 := blk_frozen BK205.out 3
                                          try go_wp2
                                          have n0_ : Aside0 (Kd.V k34 34 ((((((((w76.setCell ⟨gb246, 0, none⟩ (.int .i64 t239)).setCell ⟨gb246, 1, none⟩ (.slice Ao78 t240.length co78)).setCell ⟨gb246, 2, none⟩ (.int .i64 t243)).setCell ⟨gb246, 3, none⟩ (.int .i64 t244)).setCell ⟨gb205, 0, none⟩ (.int .i64 t239)).setCell ⟨gb205, 1, none⟩ (.slice Ao78 t240.length co78)).setCell ⟨gb205, 2, none⟩ (.int .i64 t243)).setCell ⟨gb205, 3, none⟩ (.int .i64 t244)) w.heap.size (fun k_ => k_ ≠ g197 ∧ k_ ≠ gb205 ∧ k_ ≠ gb246) (.slice Ao72 x206001_2.length co72) x206001_2) := ⟨by (with_reducible repeat (first | apply Kd.V_alloc | apply Kd.V_drewN | apply Kd.V_drew)); exact Kd.V_mono (Kd.V_far (p := ⟨gb205, 3, none⟩) (Kd.V_far (p := ⟨gb205, 2, none⟩) (Kd.V_far (p := ⟨gb205, 1, none⟩) (Kd.V_far (p := ⟨gb205, 0, none⟩) (Kd.V_far (p := ⟨gb246, 3, none⟩) (Kd.V_far (p := ⟨gb246, 2, none⟩) (Kd.V_far (p := ⟨gb246, 1, none⟩) (Kd.V_far (p := ⟨gb246, 0, none⟩) (Kd.V_mono (Kd.V_mono HO_206001.out (fun k_ hk => (⟨hk, hk.2.2⟩ : _ ∧ k_ ≠ gb246))) (fun k_ hk => (⟨hk, hk.1.2.1⟩ : _ ∧ k_ ≠ gb205))) (fun _ hk => hk.1.2) (.int .i64 t239)) (fun _ hk => hk.1.2) (.slice Ao78 t240.length co78)) (fun _ hk => hk.1.2) (.int .i64 t243)) (fun _ hk => hk.1.2) (.int .i64 t244)) (fun _ hk => hk.2) (.int .i64 t239)) (fun _ hk => hk.2) (.slice Ao78 t240.length co78)) (fun _ hk => hk.2) (.int .i64 t243)) (fun _ hk => hk.2) (.int .i64 t244)) (fun _ hk => ⟨hk.1.1.1, ⟨hk.1.1.2.1, hk.1.1.2.2⟩⟩)⟩
                                          have n1_ : Aside0 (Kd.V k34 34 ((((((((w76.setCell ⟨gb246, 0, none⟩ (.int .i64 t239)).setCell ⟨gb246, 1, none⟩ (.slice Ao78 t240.length co78)).setCell ⟨gb246, 2, none⟩ (.int .i64 t243)).setCell ⟨gb246, 3, none⟩ (.int .i64 t244)).setCell ⟨gb205, 0, none⟩ (.int .i64 t239)).setCell ⟨gb205, 1, none⟩ (.slice Ao78 t240.length co78)).setCell ⟨gb205, 2, none⟩ (.int .i64 t243)).setCell ⟨gb205, 3, none⟩ (.int .i64 t244)) w.heap.size (fun k_ => k_ ≠ g197 ∧ k_ ≠ gb205 ∧ k_ ≠ gb246) (.slice Ao78 t240.length co78) t240) := ⟨by (with_reducible repeat (first | apply Kd.V_alloc | apply Kd.V_drewN | apply Kd.V_drew)); exact Kd.V_mono (Kd.V_far (p := ⟨gb205, 3, none⟩) (Kd.V_far (p := ⟨gb205, 2, none⟩) (Kd.V_far (p := ⟨gb205, 1, none⟩) (Kd.V_far (p := ⟨gb205, 0, none⟩) (Kd.V_far (p := ⟨gb246, 3, none⟩) (Kd.V_far (p := ⟨gb246, 2, none⟩) (Kd.V_far (p := ⟨gb246, 1, none⟩) (Kd.V_far (p := ⟨gb246, 0, none⟩) (Kd.V_mono (Kd.V_mono HO242.out (fun k_ hk => (⟨hk, hk.2.2⟩ : _ ∧ k_ ≠ gb246))) (fun k_ hk => (⟨hk, hk.1.2.1⟩ : _ ∧ k_ ≠ gb205))) (fun _ hk => hk.1.2) (.int .i64 t239)) (fun _ hk => hk.1.2) (.slice Ao78 t240.length co78)) (fun _ hk => hk.1.2) (.int .i64 t243)) (fun _ hk => hk.1.2) (.int .i64 t244)) (fun _ hk => hk.2) (.int .i64 t239)) (fun _ hk => hk.2) (.slice Ao78 t240.length co78)) (fun _ hk => hk.2) (.int .i64 t243)) (fun _ hk => hk.2) (.int .i64 t244)) (fun _ hk => ⟨hk.1.1.1, ⟨hk.1.1.2.1, hk.1.1.2.2⟩⟩)⟩
                                          have n2_ : Aside0 (((((((((w76.setCell ⟨gb246, 0, none⟩ (.int .i64 t239)).setCell ⟨gb246, 1, none⟩ (.slice Ao78 t240.length co78)).setCell ⟨gb246, 2, none⟩ (.int .i64 t243)).setCell ⟨gb246, 3, none⟩ (.int .i64 t244)).setCell ⟨gb205, 0, none⟩ (.int .i64 t239)).setCell ⟨gb205, 1, none⟩ (.slice Ao78 t240.length co78)).setCell ⟨gb205, 2, none⟩ (.int .i64 t243)).setCell ⟨gb205, 3, none⟩ (.int .i64 t244)).heap[gb205]? = some (.cells #[.int .i64 t239, .slice Ao78 t240.length co78, .int .i64 t243, .int .i64 t244] 30 (0, 0))) := ⟨by (with_reducible repeat (first | refine blk_drewN ?_ _ | refine blk_drew ?_ | refine blk_alloc ?_ _)); refine blk_put (cs := #[.int .i64 t239, .slice Ao78 t240.length co78, .int .i64 t243, .int .i64 x206003_2]) ?_ 3 _ rfl; (with_reducible repeat (first | refine blk_drewN ?_ _ | refine blk_drew ?_ | refine blk_alloc ?_ _)); refine blk_put (cs := #[.int .i64 t239, .slice Ao78 t240.length co78, .int .i64 x206002_2, .int .i64 x206003_2]) ?_ 2 _ rfl; (with_reducible repeat (first | refine blk_drewN ?_ _ | refine blk_drew ?_ | refine blk_alloc ?_ _)); refine blk_put (cs := #[.int .i64 t239, .slice Ao72 x206001_2.length co72, .int .i64 x206002_2, .int .i64 x206003_2]) ?_ 1 _ rfl; (with_reducible repeat (first | refine blk_drewN ?_ _ | refine blk_drew ?_ | refine blk_alloc ?_ _)); refine blk_put (cs := #[.int .i64 x206000_2, .slice Ao72 x206001_2.length co72, .int .i64 x206002_2, .int .i64 x206003_2]) ?_ 0 _ rfl; (with_reducible repeat (first | refine blk_drewN ?_ _ | refine blk_drew ?_ | refine blk_alloc ?_ _)); refine blk_far ?_ NB205_246.out _; (with_reducible repeat (first | refine blk_drewN ?_ _ | refine blk_drew ?_ | refine blk_alloc ?_ _)); refine blk_far ?_ NB205_246.out _; (with_reducible repeat (first | refine blk_drewN ?_ _ | refine blk_drew ?_ | refine blk_alloc ?_ _)); refine blk_far ?_ NB205_246.out _; (with_reducible repeat (first | refine blk_drewN ?_ _ | refine blk_drew ?_ | refine blk_alloc ?_ _)); refine blk_far ?_ NB205_246.out _; (with_reducible repeat (first | refine blk_drewN ?_ _ | refine blk_drew ?_ | refine blk_alloc ?_ _)); exact BK205.out⟩
                                          have n3_ : Aside0 (((((((((w76.setCell ⟨gb246, 0, none⟩ (.int .i64 t239)).setCell ⟨gb246, 1, none⟩ (.slice Ao78 t240.length co78)).setCell ⟨gb246, 2, none⟩ (.int .i64 t243)).setCell ⟨gb246, 3, none⟩ (.int .i64 t244)).setCell ⟨gb205, 0, none⟩ (.int .i64 t239)).setCell ⟨gb205, 1, none⟩ (.slice Ao78 t240.length co78)).setCell ⟨gb205, 2, none⟩ (.int .i64 t243)).setCell ⟨gb205, 3, none⟩ (.int .i64 t244)).heap[gb246]? = some (.cells #[.int .i64 t239, .slice Ao78 t240.length co78, .int .i64 t243, .int .i64 t244] 30 (0, 0))) := ⟨by (with_reducible repeat (first | refine blk_drewN ?_ _ | refine blk_drew ?_ | refine blk_alloc ?_ _)); refine blk_far ?_ NB246_205.out _; (with_reducible repeat (first | refine blk_drewN ?_ _ | refine blk_drew ?_ | refine blk_alloc ?_ _)); refine blk_far ?_ NB246_205.out _; (with_reducible repeat (first | refine blk_drewN ?_ _ | refine blk_drew ?_ | refine blk_alloc ?_ _)); refine blk_far ?_ NB246_205.out _; (with_reducible repeat (first | refine blk_drewN ?_ _ | refine blk_drew ?_ | refine blk_alloc ?_ _)); refine blk_far ?_ NB246_205.out _; (with_reducible repeat (first | refine blk_drewN ?_ _ | refine blk_drew ?_ | refine blk_alloc ?_ _)); refine blk_put (cs := #[.int .i64 t239, .slice Ao78 t240.length co78, .int .i64 t243, .int .i64 0]) ?_ 3 _ rfl; (with_reducible repeat (first | refine blk_drewN ?_ _ | refine blk_drew ?_ | refine blk_alloc ?_ _)); refine blk_put (cs := #[.int .i64 t239, .slice Ao78 t240.length co78, .int .i64 0, .int .i64 0]) ?_ 2 _ rfl; (with_reducible repeat (first | refine blk_drewN ?_ _ | refine blk_drew ?_ | refine blk_alloc ?_ _)); refine blk_put (cs := #[.int .i64 t239, .slice none 0 0, .int .i64 0, .int .i64 0]) ?_ 1 _ rfl; (with_reducible repeat (first | refine blk_drewN ?_ _ | refine blk_drew ?_ | refine blk_alloc ?_ _)); refine blk_put (cs := #[.int .i64 0, .slice none 0 0, .int .i64 0, .int .i64 0]) ?_ 0 _ rfl; (with_reducible repeat (first | refine blk_drewN ?_ _ | refine blk_drew ?_ | refine blk_alloc ?_ _)); exact BK246.out⟩
                                          have n4_ : Aside0 (IsS71 w ((((((((w76.setCell ⟨gb246, 0, none⟩ (.int .i64 t239)).setCell ⟨gb246, 1, none⟩ (.slice Ao78 t240.length co78)).setCell ⟨gb246, 2, none⟩ (.int .i64 t243)).setCell ⟨gb246, 3, none⟩ (.int .i64 t244)).setCell ⟨gb205, 0, none⟩ (.int .i64 t239)).setCell ⟨gb205, 1, none⟩ (.slice Ao78 t240.length co78)).setCell ⟨gb205, 2, none⟩ (.int .i64 t243)).setCell ⟨gb205, 3, none⟩ (.int .i64 t244)) g197 x198000_2 x198001_2 x198002_2 x198003_2) := ⟨by repeat (first | (with_reducible first | exact HI197.out | apply IsS71.alloc | apply IsS71.drewN | apply IsS71.drew | apply IsS71.set_0 | apply IsS71.set_1 | apply IsS71.set_2 | apply IsS71.set_3 | refine IsS71.far ?_ NB197_205.out _ | refine IsS71.far ?_ NB197_246.out _) | exact HI197.out)⟩
                                          have n5_ : Aside0 (Below w.heap.size w ((((((((w76.setCell ⟨gb246, 0, none⟩ (.int .i64 t239)).setCell ⟨gb246, 1, none⟩ (.slice Ao78 t240.length co78)).setCell ⟨gb246, 2, none⟩ (.int .i64 t243)).setCell ⟨gb246, 3, none⟩ (.int .i64 t244)).setCell ⟨gb205, 0, none⟩ (.int .i64 t239)).setCell ⟨gb205, 1, none⟩ (.slice Ao78 t240.length co78)).setCell ⟨gb205, 2, none⟩ (.int .i64 t243)).setCell ⟨gb205, 3, none⟩ (.int .i64 t244))) := ⟨by repeat (first | (with_reducible first | exact HB.out | apply below_alloc | apply pw_below_drewN | apply below_drew1 | refine below_set ?_ (IsS71.ge HI197.out) | refine below_set ?_ GE205.out | refine below_set ?_ GE246.out) | exact HB.out)⟩
                                          (try clear HO_206001)
                                          (try clear HO242)
                                          (try clear BK205)
                                          (try clear BK246)
                                          (try clear HI197)
                                          (try clear HB)
                                          generalize ((((((((w76.setCell ⟨gb246, 0, none⟩ (.int .i64 t239)).setCell ⟨gb246, 1, none⟩ (.slice Ao78 t240.length co78)).setCell ⟨gb246, 2, none⟩ (.int .i64 t243)).setCell ⟨gb246, 3, none⟩ (.int .i64 t244)).setCell ⟨gb205, 0, none⟩ (.int .i64 t239)).setCell ⟨gb205, 1, none⟩ (.slice Ao78 t240.length co78)).setCell ⟨gb205, 2, none⟩ (.int .i64 t243)).setCell ⟨gb205, 3, none⟩ (.int .i64 t244)) = w87 at n0_ n1_ n2_ n3_ n4_ n5_ ⊢
                                          have HO_206001 := n0_
                                          have HO242 := n1_
                                          have BK205 := n2_
                                          have BK246 := n3_
                                          have HI197 := n4_
                                          have HB := n5_
                                          clear n0_ n1_ n2_ n3_ n4_ n5_
                                          have n0_ := Aside0.mk (Kd.V_drew HO_206001.out)
                                          have n1_ := Aside0.mk (Kd.V_drew HO242.out)
                                          have n2_ := Aside0.mk (blk_drew BK205.out)
                                          have n3_ := Aside0.mk (blk_drew BK246.out)
                                          have n4_ := Aside0.mk (IsS71.drew HI197.out)
                                          have n5_ := Aside0.mk (below_drew1 HB.out)
                                          clear HO_206001
                                          clear HO242
                                          clear BK205
                                          clear BK246
                                          clear HI197
                                          clear HB
                                          have HO_206001 := n0_
                                          have HO242 := n1_
                                          have BK205 := n2_
                                          have BK246 := n3_
                                          have HI197 := n4_
                                          have HB := n5_
                                          clear n0_ n1_ n2_ n3_ n4_ n5_
                                          have p247 : 0 ≤ (x9_2 : Int) := of_decide_eq_true (by first | (with_reducible assumption) | assumption)
                                          have q247 : x9_2 < (l1.length : Int) := of_decide_eq_true (by first | (with_reducible assumption) | assumption)
                                          obtain ⟨ad247, e247, hx247_0, hx247_1, hx247_2, hx247_3, hx247_4⟩ := at_T36 HR1.out x9_2 p247 q247
                                          have hw247_4 := hx247_4
                                          have hw247_3 := hx247_3
                                          have hw247_2 := hx247_2
                                          have hw247_1 := hx247_1
                                          have hw247_0 := hx247_0
                                          (try rw [← Nbq32.out] at hw247_0)
                                          (try rw [← Nbq32.out] at hx247_0)
                                          obtain rfl : ad210 = ad247 := (by injection e247)
                                          replace hx247_0 := (HB.out.cell (World.block_lt_of_cell? w _ hx247_0)).trans hx247_0
                                          replace hx247_1 := (HB.out.cell (World.block_lt_of_cell? w _ hx247_1)).trans hx247_1
                                          replace hx247_2 := (HB.out.cell (World.block_lt_of_cell? w _ hx247_2)).trans hx247_2
                                          replace hx247_3 := (HB.out.cell (World.block_lt_of_cell? w _ hx247_3)).trans hx247_3
                                          replace hx247_4 := (HB.out.cell (World.block_lt_of_cell? w _ hx247_4)).trans hx247_4
                                          replace p247 := eq_true p247
                                          replace q247 := eq_true q247
                                          have p257 : 0 ≤ (x9_2 : Int) := of_decide_eq_true (by first | (with_reducible assumption) | assumption)
                                          have q257 : x9_2 < (l1.length : Int) := of_decide_eq_true (by first | (with_reducible assumption) | assumption)
                                          obtain ⟨ad257, e257, hx257_0, hx257_1, hx257_2, hx257_3, hx257_4⟩ := at_T36 HR1.out x9_2 p257 q257
                                          have hw257_4 := hx257_4
                                          have hw257_3 := hx257_3
                                          have hw257_2 := hx257_2
                                          have hw257_1 := hx257_1
                                          have hw257_0 := hx257_0
                                          (try rw [← Nbq32.out] at hw257_0)
                                          (try rw [← Nbq32.out] at hx257_0)
                                          obtain rfl : ad210 = ad257 := (by injection e257)
                                          replace hx257_0 := (HB.out.cell (World.block_lt_of_cell? w _ hx257_0)).trans hx257_0
                                          replace hx257_1 := (HB.out.cell (World.block_lt_of_cell? w _ hx257_1)).trans hx257_1
                                          replace hx257_2 := (HB.out.cell (World.block_lt_of_cell? w _ hx257_2)).trans hx257_2
                                          replace hx257_3 := (HB.out.cell (World.block_lt_of_cell? w _ hx257_3)).trans hx257_3
                                          replace hx257_4 := (HB.out.cell (World.block_lt_of_cell? w _ hx257_4)).trans hx257_4
                                          replace p257 := eq_true p257
                                          replace q257 := eq_true q257
                                          have p263 : 0 ≤ (x9_2 : Int) := of_decide_eq_true (by first | (with_reducible assumption) | assumption)
                                          have q263 : x9_2 < (l1.length : Int) := of_decide_eq_true (by first | (with_reducible assumption) | assumption)
                                          obtain ⟨ad263, e263, hx263_0, hx263_1, hx263_2, hx263_3, hx263_4⟩ := at_T36 HR1.out x9_2 p263 q263
                                          have hw263_4 := hx263_4
                                          have hw263_3 := hx263_3
                                          have hw263_2 := hx263_2
                                          have hw263_1 := hx263_1
                                          have hw263_0 := hx263_0
                                          (try rw [← Nbq32.out] at hw263_0)
                                          (try rw [← Nbq32.out] at hx263_0)
                                          obtain rfl : ad210 = ad263 := (by injection e263)
                                          replace hx263_0 := (HB.out.cell (World.block_lt_of_cell? w _ hx263_0)).trans hx263_0
                                          replace hx263_1 := (HB.out.cell (World.block_lt_of_cell? w _ hx263_1)).trans hx263_1
                                          replace hx263_2 := (HB.out.cell (World.block_lt_of_cell? w _ hx263_2)).trans hx263_2
                                          replace hx263_3 := (HB.out.cell (World.block_lt_of_cell? w _ hx263_3)).trans hx263_3
                                          replace hx263_4 := (HB.out.cell (World.block_lt_of_cell? w _ hx263_4)).trans hx263_4
                                          replace p263 := eq_true p263
                                          replace q263 := eq_true q263
                                          refine start_ (n := 26) (S := fun w' => w'.cell? (ad210.add ((x9_2).toNat * 5)) = some (.bool (false)) ∧ w'.cell? ⟨(ad210.add ((x9_2).toNat * 5)).block, (ad210.add ((x9_2).toNat * 5)).off + 1, none⟩ = some (.int .i64 ((rd_T36 l1 x9_2).f1.f0)) ∧ w'.cell? ⟨(ad210.add ((x9_2).toNat * 5)).block, (ad210.add ((x9_2).toNat * 5)).off + 2, none⟩ = some (.string ((rd_T36 l1 x9_2).f1.f1)) ∧ w'.cell? ⟨(ad210.add ((x9_2).toNat * 5)).block, (ad210.add ((x9_2).toNat * 5)).off + 3, none⟩ = some (.string ((rd_T36 l1 x9_2).f1.f2)) ∧ w'.cell? ⟨(ad210.add ((x9_2).toNat * 5)).block, (ad210.add ((x9_2).toNat * 5)).off + 4, none⟩ = some (.int .i64 ((rd_T36 l1 x9_2).f1.f3)) ∧ w'.cell? (ad210.add ((x9_2).toNat * 5)) = some (.bool (false)) ∧ w'.cell? ⟨(ad210.add ((x9_2).toNat * 5)).block, (ad210.add ((x9_2).toNat * 5)).off + 1, none⟩ = some (.int .i64 ((rd_T36 l1 x9_2).f1.f0)) ∧ w'.cell? ⟨(ad210.add ((x9_2).toNat * 5)).block, (ad210.add ((x9_2).toNat * 5)).off + 2, none⟩ = some (.string ((rd_T36 l1 x9_2).f1.f1)) ∧ w'.cell? ⟨(ad210.add ((x9_2).toNat * 5)).block, (ad210.add ((x9_2).toNat * 5)).off + 3, none⟩ = some (.string ((rd_T36 l1 x9_2).f1.f2)) ∧ w'.cell? ⟨(ad210.add ((x9_2).toNat * 5)).block, (ad210.add ((x9_2).toNat * 5)).off + 4, none⟩ = some (.int .i64 ((rd_T36 l1 x9_2).f1.f3)) ∧ w'.cell? (ad210.add ((x9_2).toNat * 5)) = some (.bool (false)) ∧ w'.cell? ⟨(ad210.add ((x9_2).toNat * 5)).block, (ad210.add ((x9_2).toNat * 5)).off + 1, none⟩ = some (.int .i64 ((rd_T36 l1 x9_2).f1.f0)) ∧ w'.cell? ⟨(ad210.add ((x9_2).toNat * 5)).block, (ad210.add ((x9_2).toNat * 5)).off + 2, none⟩ = some (.string ((rd_T36 l1 x9_2).f1.f1)) ∧ w'.cell? ⟨(ad210.add ((x9_2).toNat * 5)).block, (ad210.add ((x9_2).toNat * 5)).off + 3, none⟩ = some (.string ((rd_T36 l1 x9_2).f1.f2)) ∧ w'.cell? ⟨(ad210.add ((x9_2).toNat * 5)).block, (ad210.add ((x9_2).toNat * 5)).off + 4, none⟩ = some (.int .i64 ((rd_T36 l1 x9_2).f1.f3))) (ds := []) #[false, false, false, false, false, false, false, false, false, false, false, false, false, false, false, false, false, false, false, false, false, false, false, false, false, false] (by kernel_rfl) rfl rfl ⟨((HB.out.cell (World.block_lt_of_cell? w _ hw247_0)).trans hw247_0), ((HB.out.cell (World.block_lt_of_cell? w _ hw247_1)).trans hw247_1), ((HB.out.cell (World.block_lt_of_cell? w _ hw247_2)).trans hw247_2), ((HB.out.cell (World.block_lt_of_cell? w _ hw247_3)).trans hw247_3), ((HB.out.cell (World.block_lt_of_cell? w _ hw247_4)).trans hw247_4), ((HB.out.cell (World.block_lt_of_cell? w _ hw257_0)).trans hw257_0), ((HB.out.cell (World.block_lt_of_cell? w _ hw257_1)).trans hw257_1), ((HB.out.cell (World.block_lt_of_cell? w _ hw257_2)).trans hw257_2), ((HB.out.cell (World.block_lt_of_cell? w _ hw257_3)).trans hw257_3), ((HB.out.cell (World.block_lt_of_cell? w _ hw257_4)).trans hw257_4), ((HB.out.cell (World.block_lt_of_cell? w _ hw263_0)).trans hw263_0), ((HB.out.cell (World.block_lt_of_cell? w _ hw263_1)).trans hw263_1), ((HB.out.cell (World.block_lt_of_cell? w _ hw263_2)).trans hw263_2), ((HB.out.cell (World.block_lt_of_cell? w _ hw263_3)).trans hw263_3), ((HB.out.cell (World.block_lt_of_cell? w _ hw263_4)).trans hw263_4)⟩ (fun hHeld => ?_); refine with_tabW deedboxlaw39_FeedDoes.tab20 deedboxlaw39_FeedDoes.bits20 (fun HT_ HW_ => ?_)
                                          generalize w87.drew = w88 at HO_206001 HO242 BK205 BK246 HI197 HB hx247_0 hx247_1 hx247_2 hx247_3 hx247_4 hx257_0 hx257_1 hx257_2 hx257_3 hx257_4 hx263_0 hx263_1 hx263_2 hx263_3 hx263_4 hHeld ⊢
                                          refine pure_ (i := 0) (N := some 107) (v := ?_) (a' := ?_) #[true, false, false, false, false, false, false, false, false, false, false, false, false, false, false, false, false, false, false, false, false, false, false, false, false, false] rfl rfl (any_of HT_.out (by kernel_rfl)) (fun _ _ _ h => h) (Or.inl ⟨by rfl, ?_⟩) ?_ ?_
                                          rotate_left
                                          · intro w'
                                            go_simp
                                            with_reducible rfl
                                          rotate_left
                                          · simp only [Act.put, List.setIfInBounds_toArray, List.set_cons_zero, List.set_cons_succ, i64_w, i32_w]
                                            rfl
                                          refine pure_ (i := 1) (N := some 108) (v := ?_) (a' := ?_) #[true, true, false, false, false, false, false, false, false, false, false, false, false, false, false, false, false, false, false, false, false, false, false, false, false, false] rfl rfl (any_of HT_.out (by kernel_rfl)) (fun _ _ _ h => h) (Or.inl ⟨by rfl, ?_⟩) ?_ ?_
                                          rotate_left
                                          · intro w'
                                            go_simp
                                            with_reducible rfl
                                          rotate_left
                                          · simp only [Act.put, List.setIfInBounds_toArray, List.set_cons_zero, List.set_cons_succ, i64_w, i32_w]
                                            rfl
                                          refine pure_ (i := 2) (N := some 109) (v := ?_) (a' := ?_) #[true, true, true, false, false, false, false, false, false, false, false, false, false, false, false, false, false, false, false, false, false, false, false, false, false, false] rfl rfl (any_of HT_.out (by kernel_rfl)) (fun _ _ _ h => h) (Or.inl ⟨by rfl, ?_⟩) ?_ ?_
                                          rotate_left
                                          · intro w'
                                            go_simp
                                            with_reducible rfl
                                          rotate_left
                                          · simp only [Act.put, List.setIfInBounds_toArray, List.set_cons_zero, List.set_cons_succ, i64_w, i32_w]
                                            rfl
                                          refine pure_ (i := 3) (N := some 110) (v := ?_) (a' := ?_) #[true, true, true, true, false, false, false, false, false, false, false, false, false, false, false, false, false, false, false, false, false, false, false, false, false, false] rfl rfl (any_of HT_.out (by kernel_rfl)) (fun _ _ _ h => h) (Or.inl ⟨by rfl, ?_⟩) ?_ ?_
                                          rotate_left
                                          · intro w'
                                            go_simp
                                            with_reducible rfl
                                          rotate_left
                                          · simp only [Act.put, List.setIfInBounds_toArray, List.set_cons_zero, List.set_cons_succ, i64_w, i32_w]
                                            rfl
                                          refine pure_ (i := 4) (N := some 111) (v := ?_) (a' := ?_) #[true, true, true, true, true, false, false, false, false, false, false, false, false, false, false, false, false, false, false, false, false, false, false, false, false, false] rfl rfl (any_of HT_.out (by kernel_rfl)) (fun _ _ _ h => h) (Or.inl ⟨by rfl, ?_⟩) ?_ ?_
                                          rotate_left
                                          · intro w'
                                            go_simp
                                            with_reducible rfl
                                          rotate_left
                                          · simp only [Act.put, List.setIfInBounds_toArray, List.set_cons_zero, List.set_cons_succ, i64_w, i32_w]
                                            rfl
                                          refine pure_ (i := 8) (N := some 115) (v := ?_) (a' := ?_) #[true, true, true, true, true, false, false, false, true, false, false, false, false, false, false, false, false, false, false, false, false, false, false, false, false, false] rfl rfl (any_of HT_.out (by kernel_rfl)) (fun _ _ _ h => h) (Or.inl ⟨by rfl, ?_⟩) ?_ ?_
                                          rotate_left
                                          · intro w'
                                            go_simp
                                            with_reducible rfl
                                          rotate_left
                                          · simp only [Act.put, List.setIfInBounds_toArray, List.set_cons_zero, List.set_cons_succ, i64_w, i32_w]
                                            rfl
                                          refine take_ (i := 5) (N := some 112) (v := ?_) (a' := ?_) #[true, true, true, true, true, true, false, false, true, false, false, false, false, false, false, false, false, false, false, false, false, false, false, false, false, false] rfl rfl (take_ofW HT_.out HW_.out (by kernel_rfl)) (fun _ _ _ h => h) (Or.inl ⟨by rfl, ?_⟩) hHeld ?_ ?_
                                          rotate_left
                                          · rintro w' ⟨s0, s1, s2, s3, s4, s5, s6, s7, s8, s9, s10, s11, s12, s13, s14⟩
                                            go_simp
                                            with_reducible rfl
                                          rotate_left
                                          · simp only [Act.put, List.setIfInBounds_toArray, List.set_cons_zero, List.set_cons_succ, i64_w, i32_w]
                                            rfl
                                          refine one_ (i := 6) (N := some 113) #[true, true, true, true, true, true, true, false, true, false, false, false, false, false, false, false, false, false, false, false, false, false, false, false, false, false] rfl rfl (one_of HT_.out (by kernel_rfl)) (by decide) (fun K hK => ?_)
                                          refine goes_ Try.func13 (by kernel_rfl) rfl #[.agg #[.int .i64 ((rd_T36 l1 x9_2).f1.f0), .string ((rd_T36 l1 x9_2).f1.f1), .string ((rd_T36 l1 x9_2).f1.f2), .int .i64 ((rd_T36 l1 x9_2).f1.f3)]] (by rfl) rfl rfl (by (try simp only [List.map_toArray, List.map_cons, List.map_nil]); first | done | rfl | (simp only [List.length_drop, List.length_take]; rfl)) ?_
                                          with_reducible refine (deedboxlaw39_own.calls ((rd_T36 l1 x9_2).f1.f0) ((rd_T36 l1 x9_2).f1.f1) ((rd_T36 l1 x9_2).f1.f2) ((rd_T36 l1 x9_2).f1.f3) t248 t249 t250 t251 _ A65.out).mono ?_
                                          rintro e w89 ⟨rfl, hb⟩
                                          refine ⟨_, rfl, ?_⟩
                                          have n0_ := Aside0.mk (Kd.V_below (by (with_reducible repeat (first | apply Kd.V_alloc | apply Kd.V_drewN | apply Kd.V_drew)); exact HO_206001.out) hb)
                                          have n1_ := Aside0.mk (Kd.V_below (by (with_reducible repeat (first | apply Kd.V_alloc | apply Kd.V_drewN | apply Kd.V_drew)); exact HO242.out) hb)
                                          have n2_ := Aside0.mk (blk_below (g := gb205) (o := .cells #[.int .i64 t239, .slice Ao78 t240.length co78, .int .i64 t243, .int .i64 t244] 30 (0, 0)) (by (with_reducible repeat (first | refine blk_drewN ?_ _ | refine blk_drew ?_ | refine blk_alloc ?_ _)); exact BK205.out) hb)
                                          have n3_ := Aside0.mk (IsS71.below (by repeat (first | (with_reducible first | exact HI197.out | apply IsS71.alloc | apply IsS71.drewN | apply IsS71.drew | apply IsS71.set_0 | apply IsS71.set_1 | apply IsS71.set_2 | apply IsS71.set_3 | refine IsS71.far ?_ NB197_205.out _ | refine IsS71.far ?_ NB197_246.out _) | exact HI197.out)) hb)
                                          have n4_ := Aside0.mk (blk_below (g := gb246) (o := .cells #[.int .i64 t239, .slice Ao78 t240.length co78, .int .i64 t243, .int .i64 t244] 30 (0, 0)) (by (with_reducible repeat (first | refine blk_drewN ?_ _ | refine blk_drew ?_ | refine blk_alloc ?_ _)); exact BK246.out) hb)
                                          have n5_ := Aside0.mk (below_step (by repeat (first | (with_reducible first | exact HB.out | apply below_alloc | apply pw_below_drewN | apply below_drew1 | refine below_set ?_ (IsS71.ge HI197.out) | refine below_set ?_ GE205.out | refine below_set ?_ GE246.out) | exact HB.out)) hb)
                                          clear HO_206001
                                          clear HO242
                                          clear BK205
                                          clear HI197
                                          clear BK246
                                          clear HB
                                          have HO_206001 := n0_
                                          have HO242 := n1_
                                          have BK205 := n2_
                                          have HI197 := n3_
                                          have BK246 := n4_
                                          have HB := n5_
                                          clear n0_ n1_ n2_ n3_ n4_ n5_
                                          (try clear hb)
                                          (try clear hb2)
                                          (try clear hk)
                                          (try clear hi)
                                          refine hK.out _ _ ⟨((HB.out.cell (World.block_lt_of_cell? w _ hw247_0)).trans hw247_0), ((HB.out.cell (World.block_lt_of_cell? w _ hw247_1)).trans hw247_1), ((HB.out.cell (World.block_lt_of_cell? w _ hw247_2)).trans hw247_2), ((HB.out.cell (World.block_lt_of_cell? w _ hw247_3)).trans hw247_3), ((HB.out.cell (World.block_lt_of_cell? w _ hw247_4)).trans hw247_4), ((HB.out.cell (World.block_lt_of_cell? w _ hw257_0)).trans hw257_0), ((HB.out.cell (World.block_lt_of_cell? w _ hw257_1)).trans hw257_1), ((HB.out.cell (World.block_lt_of_cell? w _ hw257_2)).trans hw257_2), ((HB.out.cell (World.block_lt_of_cell? w _ hw257_3)).trans hw257_3), ((HB.out.cell (World.block_lt_of_cell? w _ hw257_4)).trans hw257_4), ((HB.out.cell (World.block_lt_of_cell? w _ hw263_0)).trans hw263_0), ((HB.out.cell (World.block_lt_of_cell? w _ hw263_1)).trans hw263_1), ((HB.out.cell (World.block_lt_of_cell? w _ hw263_2)).trans hw263_2), ((HB.out.cell (World.block_lt_of_cell? w _ hw263_3)).trans hw263_3), ((HB.out.cell (World.block_lt_of_cell? w _ hw263_4)).trans hw263_4)⟩ (fun hHeld => ?_)
                                          clear hK K
                                          refine norm_ (a' := ?_) ?_ ?_
                                          rotate_left
                                          · show Act.put _ (some 113) _ = _
                                            simp only [Act.put, List.setIfInBounds_toArray, List.set_cons_zero, List.set_cons_succ, i64_w, i32_w]
                                            rfl
                                          refine one_ (i := 7) (N := some 114) #[true, true, true, true, true, true, true, true, true, false, false, false, false, false, false, false, false, false, false, false, false, false, false, false, false, false] rfl rfl (one_of HT_.out (by kernel_rfl)) (by decide) (fun K hK => ?_)
                                          refine goes_ Try.func15 (by kernel_rfl) rfl #[.pointer (some ⟨g197, 0, none⟩), .agg #[.int .i64 t248, .string t249, .string t250, .int .i64 t251]] (by rfl) rfl rfl (by (try simp only [List.map_toArray, List.map_cons, List.map_nil]); first | done | rfl | (simp only [List.length_drop, List.length_take]; rfl)) ?_
                                          with_reducible refine (feed_Feed_Tell.calls g197 x198000_2 x198001_2 x198002_2 x198003_2 t248 t249 t250 t251 t252 t253 t254 t255 t256 w _ ?side1 ?side2 A66.out).mono ?_
                                          (case side1 => repeat (first | (with_reducible first | exact HI197.out | apply IsS71.alloc | apply IsS71.drewN | apply IsS71.drew | apply IsS71.set_0 | apply IsS71.set_1 | apply IsS71.set_2 | apply IsS71.set_3 | refine IsS71.far ?_ NB197_205.out _ | refine IsS71.far ?_ NB197_246.out _) | exact HI197.out))
                                          (case side2 => repeat (first | (with_reducible first | exact HB.out | apply below_alloc | apply pw_below_drewN | apply below_drew1 | refine below_set ?_ (IsS71.ge HI197.out) | refine below_set ?_ GE205.out | refine below_set ?_ GE246.out) | exact HB.out))
                                          rintro e w90 ⟨rfl, hi, hb, hk⟩
                                          refine ⟨_, rfl, ?_⟩
                                          have n0_ := Aside0.mk (Kd.V_mono (KeepF.V (Kd.V_mono (ok := fun k_ => (k_ ≠ g197 ∧ (k_ ≠ gb205 ∧ k_ ≠ gb246))) (by (with_reducible repeat (first | apply Kd.V_alloc | apply Kd.V_drewN | apply Kd.V_drew)); exact HO_206001.out) (fun k_ hk_ => (⟨hk_, hk_.1⟩ : _ ∧ k_ ≠ g197))) hk (fun _ h => h.2)) (fun _ h => h.1))
                                          have n1_ := Aside0.mk (KeepF.blk hk (g' := gb205) (o := .cells #[.int .i64 t239, .slice Ao78 t240.length co78, .int .i64 t243, .int .i64 t244] 30 (0, 0)) (by (with_reducible repeat (first | refine blk_drewN ?_ _ | refine blk_drew ?_ | refine blk_alloc ?_ _)); exact BK205.out) NB205_197.out (by simp))
                                          have n2_ := Aside0.mk (Kd.V_mono (KeepF.V (Kd.V_mono (ok := fun k_ => (k_ ≠ g197 ∧ (k_ ≠ gb205 ∧ k_ ≠ gb246))) (by (with_reducible repeat (first | apply Kd.V_alloc | apply Kd.V_drewN | apply Kd.V_drew)); exact HO242.out) (fun k_ hk_ => (⟨hk_, hk_.1⟩ : _ ∧ k_ ≠ g197))) hk (fun _ h => h.2)) (fun _ h => h.1))
                                          have n3_ := Aside0.mk (KeepF.blk hk (g' := gb246) (o := .cells #[.int .i64 t239, .slice Ao78 t240.length co78, .int .i64 t243, .int .i64 t244] 30 (0, 0)) (by (with_reducible repeat (first | refine blk_drewN ?_ _ | refine blk_drew ?_ | refine blk_alloc ?_ _)); exact BK246.out) NB246_197.out (by simp))
                                          have n4_ := Aside0.mk (hb)
                                          have n5_ := Aside0.mk (hi)
                                          clear HO_206001
                                          clear BK205
                                          clear HO242
                                          clear BK246
                                          clear HB
                                          clear HI197
                                          have HO_206001 := n0_
                                          have BK205 := n1_
                                          have HO242 := n2_
                                          have BK246 := n3_
                                          have HB := n4_
                                          have HI197 := n5_
                                          clear n0_ n1_ n2_ n3_ n4_ n5_
                                          (try clear hb)
                                          (try clear hb2)
                                          (try clear hk)
                                          (try clear hi)
                                          refine hK.out _ _ ⟨((HB.out.cell (World.block_lt_of_cell? w _ hw247_0)).trans hw247_0), ((HB.out.cell (World.block_lt_of_cell? w _ hw247_1)).trans hw247_1), ((HB.out.cell (World.block_lt_of_cell? w _ hw247_2)).trans hw247_2), ((HB.out.cell (World.block_lt_of_cell? w _ hw247_3)).trans hw247_3), ((HB.out.cell (World.block_lt_of_cell? w _ hw247_4)).trans hw247_4), ((HB.out.cell (World.block_lt_of_cell? w _ hw257_0)).trans hw257_0), ((HB.out.cell (World.block_lt_of_cell? w _ hw257_1)).trans hw257_1), ((HB.out.cell (World.block_lt_of_cell? w _ hw257_2)).trans hw257_2), ((HB.out.cell (World.block_lt_of_cell? w _ hw257_3)).trans hw257_3), ((HB.out.cell (World.block_lt_of_cell? w _ hw257_4)).trans hw257_4), ((HB.out.cell (World.block_lt_of_cell? w _ hw263_0)).trans hw263_0), ((HB.out.cell (World.block_lt_of_cell? w _ hw263_1)).trans hw263_1), ((HB.out.cell (World.block_lt_of_cell? w _ hw263_2)).trans hw263_2), ((HB.out.cell (World.block_lt_of_cell? w _ hw263_3)).trans hw263_3), ((HB.out.cell (World.block_lt_of_cell? w _ hw263_4)).trans hw263_4)⟩ (fun hHeld => ?_)
                                          clear hK K
                                          refine norm_ (a' := ?_) ?_ ?_
                                          rotate_left
                                          · show Act.put _ (some 114) _ = _
                                            simp only [Act.put, List.setIfInBounds_toArray, List.set_cons_zero, List.set_cons_succ, i64_w, i32_w]
                                            rfl
                                          refine pure_ (i := 9) (N := some 116) (v := ?_) (a' := ?_) #[true, true, true, true, true, true, true, true, true, true, false, false, false, false, false, false, false, false, false, false, false, false, false, false, false, false] rfl rfl (any_of HT_.out (by kernel_rfl)) (fun _ _ _ h => h) (Or.inl ⟨by rfl, ?_⟩) ?_ ?_
                                          rotate_left
                                          · intro w'
                                            go_simp
                                            with_reducible rfl
                                          rotate_left
                                          · simp only [Act.put, List.setIfInBounds_toArray, List.set_cons_zero, List.set_cons_succ, i64_w, i32_w]
                                            rfl
                                          refine pure_ (i := 10) (N := some 117) (v := ?_) (a' := ?_) #[true, true, true, true, true, true, true, true, true, true, true, false, false, false, false, false, false, false, false, false, false, false, false, false, false, false] rfl rfl (any_of HT_.out (by kernel_rfl)) (fun _ _ _ h => h) (Or.inl ⟨by rfl, ?_⟩) ?_ ?_
                                          rotate_left
                                          · intro w'
                                            go_simp
                                            with_reducible rfl
                                          rotate_left
                                          · simp only [Act.put, List.setIfInBounds_toArray, List.set_cons_zero, List.set_cons_succ, i64_w, i32_w]
                                            rfl
                                          refine pure_ (i := 11) (N := some 118) (v := ?_) (a' := ?_) #[true, true, true, true, true, true, true, true, true, true, true, true, false, false, false, false, false, false, false, false, false, false, false, false, false, false] rfl rfl (any_of HT_.out (by kernel_rfl)) (fun _ _ _ h => h) (Or.inl ⟨by rfl, ?_⟩) ?_ ?_
                                          rotate_left
                                          · intro w'
                                            go_simp
                                            with_reducible rfl
                                          rotate_left
                                          · simp only [Act.put, List.setIfInBounds_toArray, List.set_cons_zero, List.set_cons_succ, i64_w, i32_w]
                                            rfl
                                          refine pure_ (i := 12) (N := some 119) (v := ?_) (a' := ?_) #[true, true, true, true, true, true, true, true, true, true, true, true, true, false, false, false, false, false, false, false, false, false, false, false, false, false] rfl rfl (any_of HT_.out (by kernel_rfl)) (fun _ _ _ h => h) (Or.inl ⟨by rfl, ?_⟩) ?_ ?_
                                          rotate_left
                                          · intro w'
                                            go_simp
                                            with_reducible rfl
                                          rotate_left
                                          · simp only [Act.put, List.setIfInBounds_toArray, List.set_cons_zero, List.set_cons_succ, i64_w, i32_w]
                                            rfl
                                          refine pure_ (i := 13) (N := some 120) (v := ?_) (a' := ?_) #[true, true, true, true, true, true, true, true, true, true, true, true, true, true, false, false, false, false, false, false, false, false, false, false, false, false] rfl rfl (any_of HT_.out (by kernel_rfl)) (fun _ _ _ h => h) (Or.inl ⟨by rfl, ?_⟩) ?_ ?_
                                          rotate_left
                                          · intro w'
                                            go_simp
                                            with_reducible rfl
                                          rotate_left
                                          · simp only [Act.put, List.setIfInBounds_toArray, List.set_cons_zero, List.set_cons_succ, i64_w, i32_w]
                                            rfl
                                          refine pure_ (i := 14) (N := some 121) (v := ?_) (a' := ?_) #[true, true, true, true, true, true, true, true, true, true, true, true, true, true, true, false, false, false, false, false, false, false, false, false, false, false] rfl rfl (any_of HT_.out (by kernel_rfl)) (fun _ _ _ h => h) (Or.inl ⟨by rfl, ?_⟩) ?_ ?_
                                          rotate_left
                                          · intro w'
                                            go_simp
                                            with_reducible rfl
                                          rotate_left
                                          · simp only [Act.put, List.setIfInBounds_toArray, List.set_cons_zero, List.set_cons_succ, i64_w, i32_w]
                                            rfl
                                          refine pure_ (i := 18) (N := some 125) (v := ?_) (a' := ?_) #[true, true, true, true, true, true, true, true, true, true, true, true, true, true, true, false, false, false, true, false, false, false, false, false, false, false] rfl rfl (any_of HT_.out (by kernel_rfl)) (fun _ _ _ h => h) (Or.inl ⟨by rfl, ?_⟩) ?_ ?_
                                          rotate_left
                                          · intro w'
                                            go_simp
                                            with_reducible rfl
                                          rotate_left
                                          · simp only [Act.put, List.setIfInBounds_toArray, List.set_cons_zero, List.set_cons_succ, i64_w, i32_w]
                                            rfl
                                          refine pure_ (i := 19) (N := some 126) (v := ?_) (a' := ?_) #[true, true, true, true, true, true, true, true, true, true, true, true, true, true, true, false, false, false, true, true, false, false, false, false, false, false] rfl rfl (any_of HT_.out (by kernel_rfl)) (fun _ _ _ h => h) (Or.inl ⟨by rfl, ?_⟩) ?_ ?_
                                          rotate_left
                                          · intro w'
                                            go_simp
                                            with_reducible rfl
                                          rotate_left
                                          · simp only [Act.put, List.setIfInBounds_toArray, List.set_cons_zero, List.set_cons_succ, i64_w, i32_w]
                                            rfl
                                          refine pure_ (i := 20) (N := some 127) (v := ?_) (a' := ?_) #[true, true, true, true, true, true, true, true, true, true, true, true, true, true, true, false, false, false, true, true, true, false, false, false, false, false] rfl rfl (any_of HT_.out (by kernel_rfl)) (fun _ _ _ h => h) (Or.inl ⟨by rfl, ?_⟩) ?_ ?_
                                          rotate_left
                                          · intro w'
                                            go_simp
                                            with_reducible rfl
                                          rotate_left
                                          · simp only [Act.put, List.setIfInBounds_toArray, List.set_cons_zero, List.set_cons_succ, i64_w, i32_w]
                                            rfl
                                          refine pure_ (i := 21) (N := some 128) (v := ?_) (a' := ?_) #[true, true, true, true, true, true, true, true, true, true, true, true, true, true, true, false, false, false, true, true, true, true, false, false, false, false] rfl rfl (any_of HT_.out (by kernel_rfl)) (fun _ _ _ h => h) (Or.inl ⟨by rfl, ?_⟩) ?_ ?_
                                          rotate_left
                                          · intro w'
                                            go_simp
                                            with_reducible rfl
                                          rotate_left
                                          · simp only [Act.put, List.setIfInBounds_toArray, List.set_cons_zero, List.set_cons_succ, i64_w, i32_w]
                                            rfl
                                          refine take_ (i := 15) (N := some 122) (v := ?_) (a' := ?_) #[true, true, true, true, true, true, true, true, true, true, true, true, true, true, true, true, false, false, true, true, true, true, false, false, false, false] rfl rfl (take_ofW HT_.out HW_.out (by kernel_rfl)) (fun _ _ _ h => h) (Or.inl ⟨by rfl, ?_⟩) hHeld ?_ ?_
                                          rotate_left
                                          · rintro w' ⟨s0, s1, s2, s3, s4, s5, s6, s7, s8, s9, s10, s11, s12, s13, s14⟩
                                            go_simp
                                            with_reducible rfl
                                          rotate_left
                                          · simp only [Act.put, List.setIfInBounds_toArray, List.set_cons_zero, List.set_cons_succ, i64_w, i32_w]
                                            rfl
                                          refine take_ (i := 22) (N := some 129) (v := ?_) (a' := ?_) #[true, true, true, true, true, true, true, true, true, true, true, true, true, true, true, true, false, false, true, true, true, true, true, false, false, false] rfl rfl (take_ofW HT_.out HW_.out (by kernel_rfl)) (fun _ _ _ h => h) (Or.inl ⟨by rfl, ?_⟩) hHeld ?_ ?_
                                          rotate_left
                                          · rintro w' ⟨s0, s1, s2, s3, s4, s5, s6, s7, s8, s9, s10, s11, s12, s13, s14⟩
                                            go_simp
                                            with_reducible rfl
                                          rotate_left
                                          · simp only [Act.put, List.setIfInBounds_toArray, List.set_cons_zero, List.set_cons_succ, i64_w, i32_w]
                                            rfl
                                          refine one_ (i := 16) (N := some 123) #[true, true, true, true, true, true, true, true, true, true, true, true, true, true, true, true, true, false, true, true, true, true, true, false, false, false] rfl rfl (one_of HT_.out (by kernel_rfl)) (by decide) (fun K hK => ?_)
                                          refine goes_ Try.func13 (by kernel_rfl) rfl #[.agg #[.int .i64 ((rd_T36 l1 x9_2).f1.f0), .string ((rd_T36 l1 x9_2).f1.f1), .string ((rd_T36 l1 x9_2).f1.f2), .int .i64 ((rd_T36 l1 x9_2).f1.f3)]] (by rfl) rfl rfl (by (try simp only [List.map_toArray, List.map_cons, List.map_nil]); first | done | rfl | (simp only [List.length_drop, List.length_take]; rfl)) ?_
                                          with_reducible refine (deedboxlaw39_own.calls ((rd_T36 l1 x9_2).f1.f0) ((rd_T36 l1 x9_2).f1.f1) ((rd_T36 l1 x9_2).f1.f2) ((rd_T36 l1 x9_2).f1.f3) t258 t259 t260 t261 _ A68.out).mono ?_
                                          rintro e w91 ⟨rfl, hb⟩
                                          refine ⟨_, rfl, ?_⟩
                                          have n0_ := Aside0.mk (Kd.V_below (by (with_reducible repeat (first | apply Kd.V_alloc | apply Kd.V_drewN | apply Kd.V_drew)); exact HO_206001.out) hb)
                                          have n1_ := Aside0.mk (Kd.V_below (by (with_reducible repeat (first | apply Kd.V_alloc | apply Kd.V_drewN | apply Kd.V_drew)); exact HO242.out) hb)
                                          have n2_ := Aside0.mk (blk_below (g := gb205) (o := .cells #[.int .i64 t239, .slice Ao78 t240.length co78, .int .i64 t243, .int .i64 t244] 30 (0, 0)) (by (with_reducible repeat (first | refine blk_drewN ?_ _ | refine blk_drew ?_ | refine blk_alloc ?_ _)); exact BK205.out) hb)
                                          have n3_ := Aside0.mk (IsS71.below (by repeat (first | (with_reducible first | exact HI197.out | apply IsS71.alloc | apply IsS71.drewN | apply IsS71.drew | apply IsS71.set_0 | apply IsS71.set_1 | apply IsS71.set_2 | apply IsS71.set_3 | refine IsS71.far ?_ NB197_205.out _ | refine IsS71.far ?_ NB197_246.out _) | exact HI197.out)) hb)
                                          have n4_ := Aside0.mk (blk_below (g := gb246) (o := .cells #[.int .i64 t239, .slice Ao78 t240.length co78, .int .i64 t243, .int .i64 t244] 30 (0, 0)) (by (with_reducible repeat (first | refine blk_drewN ?_ _ | refine blk_drew ?_ | refine blk_alloc ?_ _)); exact BK246.out) hb)
                                          have n5_ := Aside0.mk (below_step (by repeat (first | (with_reducible first | exact HB.out | apply below_alloc | apply pw_below_drewN | apply below_drew1 | refine below_set ?_ (IsS71.ge HI197.out) | refine below_set ?_ GE205.out | refine below_set ?_ GE246.out) | exact HB.out)) hb)
                                          clear HO_206001
                                          clear HO242
                                          clear BK205
                                          clear HI197
                                          clear BK246
                                          clear HB
                                          have HO_206001 := n0_
                                          have HO242 := n1_
                                          have BK205 := n2_
                                          have HI197 := n3_
                                          have BK246 := n4_
                                          have HB := n5_
                                          clear n0_ n1_ n2_ n3_ n4_ n5_
                                          (try clear hb)
                                          (try clear hb2)
                                          (try clear hk)
                                          (try clear hi)
                                          refine hK.out _ _ ⟨((HB.out.cell (World.block_lt_of_cell? w _ hw247_0)).trans hw247_0), ((HB.out.cell (World.block_lt_of_cell? w _ hw247_1)).trans hw247_1), ((HB.out.cell (World.block_lt_of_cell? w _ hw247_2)).trans hw247_2), ((HB.out.cell (World.block_lt_of_cell? w _ hw247_3)).trans hw247_3), ((HB.out.cell (World.block_lt_of_cell? w _ hw247_4)).trans hw247_4), ((HB.out.cell (World.block_lt_of_cell? w _ hw257_0)).trans hw257_0), ((HB.out.cell (World.block_lt_of_cell? w _ hw257_1)).trans hw257_1), ((HB.out.cell (World.block_lt_of_cell? w _ hw257_2)).trans hw257_2), ((HB.out.cell (World.block_lt_of_cell? w _ hw257_3)).trans hw257_3), ((HB.out.cell (World.block_lt_of_cell? w _ hw257_4)).trans hw257_4), ((HB.out.cell (World.block_lt_of_cell? w _ hw263_0)).trans hw263_0), ((HB.out.cell (World.block_lt_of_cell? w _ hw263_1)).trans hw263_1), ((HB.out.cell (World.block_lt_of_cell? w _ hw263_2)).trans hw263_2), ((HB.out.cell (World.block_lt_of_cell? w _ hw263_3)).trans hw263_3), ((HB.out.cell (World.block_lt_of_cell? w _ hw263_4)).trans hw263_4)⟩ (fun hHeld => ?_)
                                          clear hK K
                                          refine norm_ (a' := ?_) ?_ ?_
                                          rotate_left
                                          · show Act.put _ (some 123) _ = _
                                            simp only [Act.put, List.setIfInBounds_toArray, List.set_cons_zero, List.set_cons_succ, i64_w, i32_w]
                                            rfl
                                          refine one_ (i := 17) (N := some 124) #[true, true, true, true, true, true, true, true, true, true, true, true, true, true, true, true, true, true, true, true, true, true, true, false, false, false] rfl rfl (one_of HT_.out (by kernel_rfl)) (by decide) (fun K hK => ?_)
                                          refine goes_ Try.func16 (by kernel_rfl) rfl #[.agg #[.int .i64 t258, .string t259, .string t260, .int .i64 t261]] (by rfl) rfl rfl (by (try simp only [List.map_toArray, List.map_cons, List.map_nil]); first | done | rfl | (simp only [List.length_drop, List.length_take]; rfl)) ?_
                                          with_reducible refine (feed_Line.calls kj21 t258 t259 t260 t261 t262 _ A69.out).mono ?_
                                          rintro e w92 ⟨rfl, hb⟩
                                          refine ⟨_, rfl, ?_⟩
                                          have n0_ := Aside0.mk (Kd.V_below (by (with_reducible repeat (first | apply Kd.V_alloc | apply Kd.V_drewN | apply Kd.V_drew)); exact HO_206001.out) hb)
                                          have n1_ := Aside0.mk (Kd.V_below (by (with_reducible repeat (first | apply Kd.V_alloc | apply Kd.V_drewN | apply Kd.V_drew)); exact HO242.out) hb)
                                          have n2_ := Aside0.mk (blk_below (g := gb205) (o := .cells #[.int .i64 t239, .slice Ao78 t240.length co78, .int .i64 t243, .int .i64 t244] 30 (0, 0)) (by (with_reducible repeat (first | refine blk_drewN ?_ _ | refine blk_drew ?_ | refine blk_alloc ?_ _)); exact BK205.out) hb)
                                          have n3_ := Aside0.mk (IsS71.below (by repeat (first | (with_reducible first | exact HI197.out | apply IsS71.alloc | apply IsS71.drewN | apply IsS71.drew | apply IsS71.set_0 | apply IsS71.set_1 | apply IsS71.set_2 | apply IsS71.set_3 | refine IsS71.far ?_ NB197_205.out _ | refine IsS71.far ?_ NB197_246.out _) | exact HI197.out)) hb)
                                          have n4_ := Aside0.mk (blk_below (g := gb246) (o := .cells #[.int .i64 t239, .slice Ao78 t240.length co78, .int .i64 t243, .int .i64 t244] 30 (0, 0)) (by (with_reducible repeat (first | refine blk_drewN ?_ _ | refine blk_drew ?_ | refine blk_alloc ?_ _)); exact BK246.out) hb)
                                          have n5_ := Aside0.mk (below_step (by repeat (first | (with_reducible first | exact HB.out | apply below_alloc | apply pw_below_drewN | apply below_drew1 | refine below_set ?_ (IsS71.ge HI197.out) | refine below_set ?_ GE205.out | refine below_set ?_ GE246.out) | exact HB.out)) hb)
                                          clear HO_206001
                                          clear HO242
                                          clear BK205
                                          clear HI197
                                          clear BK246
                                          clear HB
                                          have HO_206001 := n0_
                                          have HO242 := n1_
                                          have BK205 := n2_
                                          have HI197 := n3_
                                          have BK246 := n4_
                                          have HB := n5_
                                          clear n0_ n1_ n2_ n3_ n4_ n5_
                                          (try clear hb)
                                          (try clear hb2)
                                          (try clear hk)
                                          (try clear hi)
                                          refine hK.out _ _ ⟨((HB.out.cell (World.block_lt_of_cell? w _ hw247_0)).trans hw247_0), ((HB.out.cell (World.block_lt_of_cell? w _ hw247_1)).trans hw247_1), ((HB.out.cell (World.block_lt_of_cell? w _ hw247_2)).trans hw247_2), ((HB.out.cell (World.block_lt_of_cell? w _ hw247_3)).trans hw247_3), ((HB.out.cell (World.block_lt_of_cell? w _ hw247_4)).trans hw247_4), ((HB.out.cell (World.block_lt_of_cell? w _ hw257_0)).trans hw257_0), ((HB.out.cell (World.block_lt_of_cell? w _ hw257_1)).trans hw257_1), ((HB.out.cell (World.block_lt_of_cell? w _ hw257_2)).trans hw257_2), ((HB.out.cell (World.block_lt_of_cell? w _ hw257_3)).trans hw257_3), ((HB.out.cell (World.block_lt_of_cell? w _ hw257_4)).trans hw257_4), ((HB.out.cell (World.block_lt_of_cell? w _ hw263_0)).trans hw263_0), ((HB.out.cell (World.block_lt_of_cell? w _ hw263_1)).trans hw263_1), ((HB.out.cell (World.block_lt_of_cell? w _ hw263_2)).trans hw263_2), ((HB.out.cell (World.block_lt_of_cell? w _ hw263_3)).trans hw263_3), ((HB.out.cell (World.block_lt_of_cell? w _ hw263_4)).trans hw263_4)⟩ (fun hHeld => ?_)
                                          clear hK K
                                          refine norm_ (a' := ?_) ?_ ?_
                                          rotate_left
                                          · show Act.put _ (some 124) _ = _
                                            simp only [Act.put, List.setIfInBounds_toArray, List.set_cons_zero, List.set_cons_succ, i64_w, i32_w]
                                            rfl
                                          refine one_ (i := 23) (N := some 130) #[true, true, true, true, true, true, true, true, true, true, true, true, true, true, true, true, true, true, true, true, true, true, true, true, false, false] rfl rfl (one_of HT_.out (by kernel_rfl)) (by decide) (fun K hK => ?_)
                                          refine goes_ Try.func17 (by kernel_rfl) rfl #[.agg #[.int .i64 ((rd_T36 l1 x9_2).f1.f0), .string ((rd_T36 l1 x9_2).f1.f1), .string ((rd_T36 l1 x9_2).f1.f2), .int .i64 ((rd_T36 l1 x9_2).f1.f3)]] (by rfl) rfl rfl (by (try simp only [List.map_toArray, List.map_cons, List.map_nil]); first | done | rfl | (simp only [List.length_drop, List.length_take]; rfl)) ?_
                                          with_reducible refine (deedboxref39_Line.calls kj21 ((rd_T36 l1 x9_2).f1.f0) ((rd_T36 l1 x9_2).f1.f1) ((rd_T36 l1 x9_2).f1.f2) ((rd_T36 l1 x9_2).f1.f3) t264 _ A70.out).mono ?_
                                          rintro e w93 ⟨rfl, hb⟩
                                          refine ⟨_, rfl, ?_⟩
                                          have n0_ := Aside0.mk (Kd.V_below (by (with_reducible repeat (first | apply Kd.V_alloc | apply Kd.V_drewN | apply Kd.V_drew)); exact HO_206001.out) hb)
                                          have n1_ := Aside0.mk (Kd.V_below (by (with_reducible repeat (first | apply Kd.V_alloc | apply Kd.V_drewN | apply Kd.V_drew)); exact HO242.out) hb)
                                          have n2_ := Aside0.mk (blk_below (g := gb205) (o := .cells #[.int .i64 t239, .slice Ao78 t240.length co78, .int .i64 t243, .int .i64 t244] 30 (0, 0)) (by (with_reducible repeat (first | refine blk_drewN ?_ _ | refine blk_drew ?_ | refine blk_alloc ?_ _)); exact BK205.out) hb)
                                          have n3_ := Aside0.mk (IsS71.below (by repeat (first | (with_reducible first | exact HI197.out | apply IsS71.alloc | apply IsS71.drewN | apply IsS71.drew | apply IsS71.set_0 | apply IsS71.set_1 | apply IsS71.set_2 | apply IsS71.set_3 | refine IsS71.far ?_ NB197_205.out _ | refine IsS71.far ?_ NB197_246.out _) | exact HI197.out)) hb)
                                          have n4_ := Aside0.mk (blk_below (g := gb246) (o := .cells #[.int .i64 t239, .slice Ao78 t240.length co78, .int .i64 t243, .int .i64 t244] 30 (0, 0)) (by (with_reducible repeat (first | refine blk_drewN ?_ _ | refine blk_drew ?_ | refine blk_alloc ?_ _)); exact BK246.out) hb)
                                          have n5_ := Aside0.mk (below_step (by repeat (first | (with_reducible first | exact HB.out | apply below_alloc | apply pw_below_drewN | apply below_drew1 | refine below_set ?_ (IsS71.ge HI197.out) | refine below_set ?_ GE205.out | refine below_set ?_ GE246.out) | exact HB.out)) hb)
                                          clear HO_206001
                                          clear HO242
                                          clear BK205
                                          clear HI197
                                          clear BK246
                                          clear HB
                                          have HO_206001 := n0_
                                          have HO242 := n1_
                                          have BK205 := n2_
                                          have HI197 := n3_
                                          have BK246 := n4_
                                          have HB := n5_
                                          clear n0_ n1_ n2_ n3_ n4_ n5_
                                          (try clear hb)
                                          (try clear hb2)
                                          (try clear hk)
                                          (try clear hi)
                                          refine hK.out _ _ ⟨((HB.out.cell (World.block_lt_of_cell? w _ hw247_0)).trans hw247_0), ((HB.out.cell (World.block_lt_of_cell? w _ hw247_1)).trans hw247_1), ((HB.out.cell (World.block_lt_of_cell? w _ hw247_2)).trans hw247_2), ((HB.out.cell (World.block_lt_of_cell? w _ hw247_3)).trans hw247_3), ((HB.out.cell (World.block_lt_of_cell? w _ hw247_4)).trans hw247_4), ((HB.out.cell (World.block_lt_of_cell? w _ hw257_0)).trans hw257_0), ((HB.out.cell (World.block_lt_of_cell? w _ hw257_1)).trans hw257_1), ((HB.out.cell (World.block_lt_of_cell? w _ hw257_2)).trans hw257_2), ((HB.out.cell (World.block_lt_of_cell? w _ hw257_3)).trans hw257_3), ((HB.out.cell (World.block_lt_of_cell? w _ hw257_4)).trans hw257_4), ((HB.out.cell (World.block_lt_of_cell? w _ hw263_0)).trans hw263_0), ((HB.out.cell (World.block_lt_of_cell? w _ hw263_1)).trans hw263_1), ((HB.out.cell (World.block_lt_of_cell? w _ hw263_2)).trans hw263_2), ((HB.out.cell (World.block_lt_of_cell? w _ hw263_3)).trans hw263_3), ((HB.out.cell (World.block_lt_of_cell? w _ hw263_4)).trans hw263_4)⟩ (fun hHeld => ?_)
                                          clear hK K
                                          refine norm_ (a' := ?_) ?_ ?_
                                          rotate_left
                                          · show Act.put _ (some 130) _ = _
                                            simp only [Act.put, List.setIfInBounds_toArray, List.set_cons_zero, List.set_cons_succ, i64_w, i32_w]
                                            rfl
                                          refine pure_ (i := 24) (N := some 131) (v := ?_) (a' := ?_) #[true, true, true, true, true, true, true, true, true, true, true, true, true, true, true, true, true, true, true, true, true, true, true, true, true, false] rfl rfl (any_of HT_.out (by kernel_rfl)) (fun _ _ _ h => h) (Or.inl ⟨by rfl, ?_⟩) ?_ ?_
                                          rotate_left
                                          · intro w'
                                            go_simp
                                            with_reducible rfl
                                          rotate_left
                                          · simp only [Act.put, List.setIfInBounds_toArray, List.set_cons_zero, List.set_cons_succ, i64_w, i32_w]
                                            rfl
                                          refine pure_ (i := 25) (N := some 132) (v := ?_) (a' := ?_) #[true, true, true, true, true, true, true, true, true, true, true, true, true, true, true, true, true, true, true, true, true, true, true, true, true, true] rfl rfl (any_of HT_.out (by kernel_rfl)) (fun _ _ _ h => h) (Or.inl ⟨by rfl, ?_⟩) ?_ ?_
                                          rotate_left
                                          · intro w'
                                            go_simp
                                            with_reducible rfl
                                          rotate_left
                                          · simp only [Act.put, List.setIfInBounds_toArray, List.set_cons_zero, List.set_cons_succ, i64_w, i32_w]
                                            rfl
                                          refine done_ (done_of HT_.out (by kernel_rfl)) ?_
                                          try go_wp2
                                          go_meet
                                          case rel => exact ⟨_, (t253), (t254), (t255), (t256), (t239), (t240), (t243), (t244), (.slice Ao78 t240.length co78), H', ⟨by have := HJ9.out; have := HK2.out; have := HJ18.out; have := HJ21.out; first | omega | exact Nat.le_refl _⟩, ⟨by (with_reducible repeat (first | apply Kd.V_alloc | apply Kd.V_drewN | apply Kd.V_drew)); exact Kd.V_mono HO242.out (fun _ hk => ⟨hk.2.1, hk.1⟩)⟩, ⟨by (with_reducible repeat (first | refine blk_drewN ?_ _ | refine blk_drew ?_ | refine blk_alloc ?_ _)); exact BK205.out⟩, ⟨by repeat (first | (with_reducible first | exact HI197.out | apply IsS71.alloc | apply IsS71.drewN | apply IsS71.drew | apply IsS71.set_0 | apply IsS71.set_1 | apply IsS71.set_2 | apply IsS71.set_3 | refine IsS71.far ?_ NB197_205.out _ | refine IsS71.far ?_ NB197_246.out _) | exact HI197.out)⟩, ⟨by repeat (first | (with_reducible first | exact HB.out | apply below_alloc | apply pw_below_drewN | apply below_drew1 | refine below_set ?_ (IsS71.ge HI197.out) | refine below_set ?_ GE205.out | refine below_set ?_ GE246.out) | exact HB.out)⟩⟩
                                        · rw [if_neg c71] at H
                                          exact absurd H (by simp)
                                  case rest =>
                                    clear HC31
                                    try clear c1
                                    try clear p2
                                    try clear q2
                                    try clear hx2
                                    try clear q3
                                    try clear c7
                                    try clear c8
                                    try clear c13
                                    try clear c15
                                    try clear c16
                                    try clear c17
                                    try clear p24
                                    try clear q24
                                    try clear hx24
                                    try clear p25
                                    try clear q25
                                    try clear hx25
                                    try clear p26
                                    try clear q26
                                    try clear hx26
                                    try clear q32
                                    try clear c71
                                    try clear c82
                                    try clear c83
                                    try clear c85
                                    try clear hcz84_0
                                    try clear hcz84_1
                                    try clear hcz84_2
                                    try clear hcz84_3
                                    try clear hcz86_0
                                    try clear hcz86_1
                                    try clear hcz86_2
                                    try clear hcz86_3
                                    try clear hfz84_0
                                    try clear hfz84_1
                                    try clear hfz84_2
                                    try clear hfz84_3
                                    try clear hfz86_0
                                    try clear hfz86_1
                                    try clear hfz86_2
                                    try clear hfz86_3
                                    try clear hx247_0
                                    try clear hx247_1
                                    try clear hx247_2
                                    try clear hx247_3
                                    try clear hx247_4
                                    try clear hx257_0
                                    try clear hx257_1
                                    try clear hx257_2
                                    try clear hx257_3
                                    try clear hx257_4
                                    try clear hx263_0
                                    try clear hx263_1
                                    try clear hx263_2
                                    try clear hx263_3
                                    try clear hx263_4
                                    try clear p247
                                    try clear p257
                                    try clear p263
                                    try clear q247
                                    try clear q257
                                    try clear q263
                                    obtain ⟨kq, x198000_30, x198001_30, x198002_30, x198003_30, x206000_30, x206001_30, x206002_30, x206003_30, u206001, HA, HJ30, HO_206001, BK205, HI197, HB⟩ := hcut
                                    cases kq with
                                    | zero => exact absurd HA.out (by simp [deedboxlaw39_FeedDoes.j4])
                                    | succ kj30 =>
                                      have H := HA.out
                                      clear HA
                                      simp only [deedboxlaw39_FeedDoes.j4] at H
                                      replace H := Option.bind_eq_some_iff.mp H
                                      obtain ⟨⟨t265, t266, t267, t268, t269⟩, A940, H⟩ := H
                                      replace H : (if t265 = (x206001_30.length : Int) then ((feed_Feed_Told.f t266 t267 t268 t269).bind fun bt270 => (if bt270.1 = x206002_30 then ((feed_Feed_Lost.f bt270.2.1 bt270.2.2.1 bt270.2.2.2.1 bt270.2.2.2.2).bind fun bt275 => (if bt275.1 = x206003_30 then (deedboxlaw39_FeedDoes.l0 kj30 l1 t204 (wrap64 (x9_2 + 1)) bt275.2.1 bt275.2.2.1 bt275.2.2.2.1 bt275.2.2.2.2 x206000_30 x206001_30 x206002_30 x206003_30) else (none))) else (none))) else (none)) = some r := H
                                      have A94 := Aside0.mk A940
                                      clear A940
                                      by_cases c95 : t265 = (x206001_30.length : Int)
                                      · rw [if_pos c95] at H
                                        have c95b0 : (t265 == (x206001_30.length : Int)) = true := beq_iff_eq.mpr c95
                                        have c95b1 : (t265 != (x206001_30.length : Int)) = false := bne_eq_false_iff_eq.mpr c95
                                        clear c95
                                        replace H := Option.bind_eq_some_iff.mp H
                                        obtain ⟨⟨t270, t271, t272, t273, t274⟩, A960, H⟩ := H
                                        replace H : (if t270 = x206002_30 then ((feed_Feed_Lost.f t271 t272 t273 t274).bind fun bt275 => (if bt275.1 = x206003_30 then (deedboxlaw39_FeedDoes.l0 kj30 l1 t204 (wrap64 (x9_2 + 1)) bt275.2.1 bt275.2.2.1 bt275.2.2.2.1 bt275.2.2.2.2 x206000_30 x206001_30 x206002_30 x206003_30) else (none))) else (none)) = some r := H
                                        have A96 := Aside0.mk A960
                                        clear A960
                                        by_cases c97 : t270 = x206002_30
                                        · rw [if_pos c97] at H
                                          have c97b0 : (t270 == x206002_30) = true := beq_iff_eq.mpr c97
                                          have c97b1 : (t270 != x206002_30) = false := bne_eq_false_iff_eq.mpr c97
                                          clear c97
                                          replace H := Option.bind_eq_some_iff.mp H
                                          obtain ⟨⟨t275, t276, t277, t278, t279⟩, A980, H⟩ := H
                                          replace H : (if t275 = x206003_30 then (deedboxlaw39_FeedDoes.l0 kj30 l1 t204 (wrap64 (x9_2 + 1)) t276 t277 t278 t279 x206000_30 x206001_30 x206002_30 x206003_30) else (none)) = some r := H
                                          have A98 := Aside0.mk A980
                                          clear A980
                                          by_cases c99 : t275 = x206003_30
                                          · rw [if_pos c99] at H
                                            have c99b0 : (t275 == x206003_30) = true := beq_iff_eq.mpr c99
                                            have c99b1 : (t275 != x206003_30) = false := bne_eq_false_iff_eq.mpr c99
                                            clear c99
                                            have H' := Aside0.mk H
                                            clear H
                                            try go_wp2
                                            have n0_ := Aside0.mk (Kd.V_drew HO_206001.out)
                                            have n1_ := Aside0.mk (blk_drew BK205.out)
                                            have n2_ := Aside0.mk (IsS71.drew HI197.out)
                                            have n3_ := Aside0.mk (below_drew1 HB.out)
                                            clear HO_206001
                                            clear BK205
                                            clear HI197
                                            clear HB
                                            have HO_206001 := n0_
                                            have BK205 := n1_
                                            have HI197 := n2_
                                            have HB := n3_
                                            clear n0_ n1_ n2_ n3_
                                            obtain ⟨Ao101, co101, eo101⟩ := Kd.V_slice HO_206001.out
                                            (first | subst eo101 | (injection eo101 with f1_ f2_ f3_; have f4_ := f1_.symm; have f5_ := f3_.symm; clear f1_ f2_ f3_; subst f4_; subst f5_))
                                            refine start_ (n := 20) (S := fun w' => w'.cell? ⟨gb205, 0, none⟩ = some (.int .i64 x206000_30) ∧ w'.cell? ⟨gb205, 1, none⟩ = some (.slice Ao101 x206001_30.length co101) ∧ w'.cell? ⟨gb205, 2, none⟩ = some (.int .i64 x206002_30) ∧ w'.cell? ⟨gb205, 3, none⟩ = some (.int .i64 x206003_30)) (ds := []) #[false, false, false, false, false, false, false, false, false, false, false, false, false, false, false, false, false, false, false, false] (by kernel_rfl) rfl rfl ⟨(blk_cell BK205.out 0).trans rfl, (blk_cell BK205.out 1).trans rfl, (blk_cell BK205.out 2).trans rfl, (blk_cell BK205.out 3).trans rfl⟩ (fun hHeld => ?_); refine with_tabW deedboxlaw39_FeedDoes.tab22 deedboxlaw39_FeedDoes.bits22 (fun HT_ HW_ => ?_)
                                            generalize wc.drew = w100 at HO_206001 BK205 HI197 HB hHeld ⊢
                                            refine pure_ (i := 0) (N := some 133) (v := ?_) (a' := ?_) #[true, false, false, false, false, false, false, false, false, false, false, false, false, false, false, false, false, false, false, false] rfl rfl (any_of HT_.out (by kernel_rfl)) (fun _ _ _ h => h) (Or.inl ⟨by rfl, ?_⟩) ?_ ?_
                                            rotate_left
                                            · intro w'
                                              go_simp
                                              with_reducible rfl
                                            rotate_left
                                            · simp only [Act.put, List.setIfInBounds_toArray, List.set_cons_zero, List.set_cons_succ, i64_w, i32_w]
                                              rfl
                                            refine pure_ (i := 2) (N := some 135) (v := ?_) (a' := ?_) #[true, false, true, false, false, false, false, false, false, false, false, false, false, false, false, false, false, false, false, false] rfl rfl (any_of HT_.out (by kernel_rfl)) (fun _ _ _ h => h) (Or.inl ⟨by rfl, ?_⟩) ?_ ?_
                                            rotate_left
                                            · intro w'
                                              go_simp
                                              with_reducible rfl
                                            rotate_left
                                            · simp only [Act.put, List.setIfInBounds_toArray, List.set_cons_zero, List.set_cons_succ, i64_w, i32_w]
                                              rfl
                                            refine take_ (i := 3) (N := some 136) (v := ?_) (a' := ?_) #[true, false, true, true, false, false, false, false, false, false, false, false, false, false, false, false, false, false, false, false] rfl rfl (take_ofW HT_.out HW_.out (by kernel_rfl)) (fun _ _ _ h => h) (Or.inl ⟨by rfl, ?_⟩) hHeld ?_ ?_
                                            rotate_left
                                            · rintro w' ⟨s0, s1, s2, s3⟩
                                              go_simp
                                              with_reducible rfl
                                            rotate_left
                                            · simp only [Act.put, List.setIfInBounds_toArray, List.set_cons_zero, List.set_cons_succ, i64_w, i32_w]
                                              rfl
                                            refine pure_ (i := 4) (N := some 137) (v := ?_) (a' := ?_) #[true, false, true, true, true, false, false, false, false, false, false, false, false, false, false, false, false, false, false, false] rfl rfl (any_of HT_.out (by kernel_rfl)) (fun _ _ _ h => h) (Or.inl ⟨by rfl, ?_⟩) ?_ ?_
                                            rotate_left
                                            · intro w'
                                              go_simp
                                              with_reducible rfl
                                            rotate_left
                                            · simp only [Act.put, List.setIfInBounds_toArray, List.set_cons_zero, List.set_cons_succ, i64_w, i32_w]
                                              rfl
                                            refine one_ (i := 1) (N := some 134) #[true, true, true, true, true, false, false, false, false, false, false, false, false, false, false, false, false, false, false, false] rfl rfl (one_of HT_.out (by kernel_rfl)) (by decide) (fun K hK => ?_)
                                            refine goes_ Try.func18 (by kernel_rfl) rfl #[.pointer (some ⟨g197, 0, none⟩)] (by rfl) rfl rfl (by (try simp only [List.map_toArray, List.map_cons, List.map_nil]); first | done | rfl | (simp only [List.length_drop, List.length_take]; rfl)) ?_
                                            with_reducible refine (feed_Feed_Waits.calls g197 x198000_30 x198001_30 x198002_30 x198003_30 t265 t266 t267 t268 t269 w _ ?side1 ?side2 A94.out).mono ?_
                                            (case side1 => repeat (first | (with_reducible first | exact HI197.out | apply IsS71.alloc | apply IsS71.drewN | apply IsS71.drew | apply IsS71.set_0 | apply IsS71.set_1 | apply IsS71.set_2 | apply IsS71.set_3 | refine IsS71.far ?_ NB197_205.out _) | exact HI197.out))
                                            (case side2 => repeat (first | (with_reducible first | exact HB.out | apply below_alloc | apply pw_below_drewN | apply below_drew1 | refine below_set ?_ (IsS71.ge HI197.out) | refine below_set ?_ GE205.out) | exact HB.out))
                                            rintro e w102 ⟨rfl, hi, hb, hk⟩
                                            refine ⟨_, rfl, ?_⟩
                                            have n0_ := Aside0.mk (Kd.V_mono (KeepF.V (Kd.V_mono (ok := fun k_ => (k_ ≠ gb205 ∧ k_ ≠ g197)) (by (with_reducible repeat (first | apply Kd.V_alloc | apply Kd.V_drewN | apply Kd.V_drew)); exact HO_206001.out) (fun k_ hk_ => (⟨hk_, hk_.2⟩ : _ ∧ k_ ≠ g197))) hk (fun _ h => h.2)) (fun _ h => h.1))
                                            have n1_ := Aside0.mk (KeepF.blk hk (g' := gb205) (o := .cells #[.int .i64 x206000_30, .slice Ao101 x206001_30.length co101, .int .i64 x206002_30, .int .i64 x206003_30] 30 (0, 0)) (by (with_reducible repeat (first | refine blk_drewN ?_ _ | refine blk_drew ?_ | refine blk_alloc ?_ _)); exact BK205.out) NB205_197.out (by simp))
                                            have n2_ := Aside0.mk (hb)
                                            have n3_ := Aside0.mk (hi)
                                            clear HO_206001
                                            clear BK205
                                            clear HB
                                            clear HI197
                                            have HO_206001 := n0_
                                            have BK205 := n1_
                                            have HB := n2_
                                            have HI197 := n3_
                                            clear n0_ n1_ n2_ n3_
                                            (try clear hb)
                                            (try clear hb2)
                                            (try clear hk)
                                            (try clear hi)
                                            refine hK.out _ _ ⟨(blk_cell BK205.out 0).trans rfl, (blk_cell BK205.out 1).trans rfl, (blk_cell BK205.out 2).trans rfl, (blk_cell BK205.out 3).trans rfl⟩ (fun hHeld => ?_)
                                            clear hK K
                                            refine norm_ (a' := ?_) ?_ ?_
                                            rotate_left
                                            · show Act.put _ (some 134) _ = _
                                              simp only [Act.put, List.setIfInBounds_toArray, List.set_cons_zero, List.set_cons_succ, i64_w, i32_w]
                                              rfl
                                            refine pure_ (i := 5) (N := some 138) (v := ?_) (a' := ?_) #[true, true, true, true, true, true, false, false, false, false, false, false, false, false, false, false, false, false, false, false] rfl rfl (any_of HT_.out (by kernel_rfl)) (fun _ _ _ h => h) (Or.inl ⟨by rfl, ?_⟩) ?_ ?_
                                            rotate_left
                                            · intro w'
                                              go_simp
                                              with_reducible rfl
                                            rotate_left
                                            · simp only [Act.put, List.setIfInBounds_toArray, List.set_cons_zero, List.set_cons_succ, i64_w, i32_w]
                                              rfl
                                            refine pure_ (i := 6) (N := some 139) (v := ?_) (a' := ?_) #[true, true, true, true, true, true, true, false, false, false, false, false, false, false, false, false, false, false, false, false] rfl rfl (any_of HT_.out (by kernel_rfl)) (fun _ _ _ h => h) (Or.inl ⟨by rfl, ?_⟩) ?_ ?_
                                            rotate_left
                                            · intro w'
                                              go_simp
                                              with_reducible rfl
                                            rotate_left
                                            · simp only [Act.put, List.setIfInBounds_toArray, List.set_cons_zero, List.set_cons_succ, i64_w, i32_w]
                                              rfl
                                            refine pure_ (i := 7) (N := some 140) (v := ?_) (a' := ?_) #[true, true, true, true, true, true, true, true, false, false, false, false, false, false, false, false, false, false, false, false] rfl rfl (any_of HT_.out (by kernel_rfl)) (fun _ _ _ h => h) (Or.inl ⟨by rfl, ?_⟩) ?_ ?_
                                            rotate_left
                                            · intro w'
                                              go_simp
                                              with_reducible rfl
                                            rotate_left
                                            · simp only [Act.put, List.setIfInBounds_toArray, List.set_cons_zero, List.set_cons_succ, i64_w, i32_w]
                                              rfl
                                            refine pure_ (i := 9) (N := some 142) (v := ?_) (a' := ?_) #[true, true, true, true, true, true, true, true, false, true, false, false, false, false, false, false, false, false, false, false] rfl rfl (any_of HT_.out (by kernel_rfl)) (fun _ _ _ h => h) (Or.inl ⟨by rfl, ?_⟩) ?_ ?_
                                            rotate_left
                                            · intro w'
                                              go_simp
                                              with_reducible rfl
                                            rotate_left
                                            · simp only [Act.put, List.setIfInBounds_toArray, List.set_cons_zero, List.set_cons_succ, i64_w, i32_w]
                                              rfl
                                            refine take_ (i := 10) (N := some 143) (v := ?_) (a' := ?_) #[true, true, true, true, true, true, true, true, false, true, true, false, false, false, false, false, false, false, false, false] rfl rfl (take_ofW HT_.out HW_.out (by kernel_rfl)) (fun _ _ _ h => h) (Or.inl ⟨by rfl, ?_⟩) hHeld ?_ ?_
                                            rotate_left
                                            · rintro w' ⟨s0, s1, s2, s3⟩
                                              go_simp
                                              with_reducible rfl
                                            rotate_left
                                            · simp only [Act.put, List.setIfInBounds_toArray, List.set_cons_zero, List.set_cons_succ, i64_w, i32_w]
                                              rfl
                                            refine one_ (i := 8) (N := some 141) #[true, true, true, true, true, true, true, true, true, true, true, false, false, false, false, false, false, false, false, false] rfl rfl (one_of HT_.out (by kernel_rfl)) (by decide) (fun K hK => ?_)
                                            refine goes_ Try.func19 (by kernel_rfl) rfl #[.pointer (some ⟨g197, 0, none⟩)] (by rfl) rfl rfl (by (try simp only [List.map_toArray, List.map_cons, List.map_nil]); first | done | rfl | (simp only [List.length_drop, List.length_take]; rfl)) ?_
                                            with_reducible refine (feed_Feed_Told.calls g197 t266 t267 t268 t269 t270 t271 t272 t273 t274 w _ ?side1 ?side2 A96.out).mono ?_
                                            (case side1 => repeat (first | (with_reducible first | exact HI197.out | apply IsS71.alloc | apply IsS71.drewN | apply IsS71.drew | apply IsS71.set_0 | apply IsS71.set_1 | apply IsS71.set_2 | apply IsS71.set_3 | refine IsS71.far ?_ NB197_205.out _) | exact HI197.out))
                                            (case side2 => repeat (first | (with_reducible first | exact HB.out | apply below_alloc | apply pw_below_drewN | apply below_drew1 | refine below_set ?_ (IsS71.ge HI197.out) | refine below_set ?_ GE205.out) | exact HB.out))
                                            rintro e w103 ⟨rfl, hi, hb, hk⟩
                                            refine ⟨_, rfl, ?_⟩
                                            have n0_ := Aside0.mk (Kd.V_mono (KeepF.V (Kd.V_mono (ok := fun k_ => (k_ ≠ gb205 ∧ k_ ≠ g197)) (by (with_reducible repeat (first | apply Kd.V_alloc | apply Kd.V_drewN | apply Kd.V_drew)); exact HO_206001.out) (fun k_ hk_ => (⟨hk_, hk_.2⟩ : _ ∧ k_ ≠ g197))) hk (fun _ h => h.2)) (fun _ h => h.1))
                                            have n1_ := Aside0.mk (KeepF.blk hk (g' := gb205) (o := .cells #[.int .i64 x206000_30, .slice Ao101 x206001_30.length co101, .int .i64 x206002_30, .int .i64 x206003_30] 30 (0, 0)) (by (with_reducible repeat (first | refine blk_drewN ?_ _ | refine blk_drew ?_ | refine blk_alloc ?_ _)); exact BK205.out) NB205_197.out (by simp))
                                            have n2_ := Aside0.mk (hb)
                                            have n3_ := Aside0.mk (hi)
                                            clear HO_206001
                                            clear BK205
                                            clear HB
                                            clear HI197
                                            have HO_206001 := n0_
                                            have BK205 := n1_
                                            have HB := n2_
                                            have HI197 := n3_
                                            clear n0_ n1_ n2_ n3_
                                            (try clear hb)
                                            (try clear hb2)
                                            (try clear hk)
                                            (try clear hi)
                                            refine hK.out _ _ ⟨(blk_cell BK205.out 0).trans rfl, (blk_cell BK205.out 1).trans rfl, (blk_cell BK205.out 2).trans rfl, (blk_cell BK205.out 3).trans rfl⟩ (fun hHeld => ?_)
                                            clear hK K
                                            refine norm_ (a' := ?_) ?_ ?_
                                            rotate_left
                                            · show Act.put _ (some 141) _ = _
                                              simp only [Act.put, List.setIfInBounds_toArray, List.set_cons_zero, List.set_cons_succ, i64_w, i32_w]
                                              rfl
                                            refine pure_ (i := 11) (N := some 144) (v := ?_) (a' := ?_) #[true, true, true, true, true, true, true, true, true, true, true, true, false, false, false, false, false, false, false, false] rfl rfl (any_of HT_.out (by kernel_rfl)) (fun _ _ _ h => h) (Or.inl ⟨by rfl, ?_⟩) ?_ ?_
                                            rotate_left
                                            · intro w'
                                              go_simp
                                              with_reducible rfl
                                            rotate_left
                                            · simp only [Act.put, List.setIfInBounds_toArray, List.set_cons_zero, List.set_cons_succ, i64_w, i32_w]
                                              rfl
                                            refine pure_ (i := 12) (N := some 145) (v := ?_) (a' := ?_) #[true, true, true, true, true, true, true, true, true, true, true, true, true, false, false, false, false, false, false, false] rfl rfl (any_of HT_.out (by kernel_rfl)) (fun _ _ _ h => h) (Or.inl ⟨by rfl, ?_⟩) ?_ ?_
                                            rotate_left
                                            · intro w'
                                              go_simp
                                              with_reducible rfl
                                            rotate_left
                                            · simp only [Act.put, List.setIfInBounds_toArray, List.set_cons_zero, List.set_cons_succ, i64_w, i32_w]
                                              rfl
                                            refine pure_ (i := 13) (N := some 146) (v := ?_) (a' := ?_) #[true, true, true, true, true, true, true, true, true, true, true, true, true, true, false, false, false, false, false, false] rfl rfl (any_of HT_.out (by kernel_rfl)) (fun _ _ _ h => h) (Or.inl ⟨by rfl, ?_⟩) ?_ ?_
                                            rotate_left
                                            · intro w'
                                              go_simp
                                              with_reducible rfl
                                            rotate_left
                                            · simp only [Act.put, List.setIfInBounds_toArray, List.set_cons_zero, List.set_cons_succ, i64_w, i32_w]
                                              rfl
                                            refine pure_ (i := 14) (N := some 147) (v := ?_) (a' := ?_) #[true, true, true, true, true, true, true, true, true, true, true, true, true, true, true, false, false, false, false, false] rfl rfl (any_of HT_.out (by kernel_rfl)) (fun _ _ _ h => h) (Or.inl ⟨by rfl, ?_⟩) ?_ ?_
                                            rotate_left
                                            · intro w'
                                              go_simp
                                              with_reducible rfl
                                            rotate_left
                                            · simp only [Act.put, List.setIfInBounds_toArray, List.set_cons_zero, List.set_cons_succ, i64_w, i32_w]
                                              rfl
                                            refine pure_ (i := 16) (N := some 149) (v := ?_) (a' := ?_) #[true, true, true, true, true, true, true, true, true, true, true, true, true, true, true, false, true, false, false, false] rfl rfl (any_of HT_.out (by kernel_rfl)) (fun _ _ _ h => h) (Or.inl ⟨by rfl, ?_⟩) ?_ ?_
                                            rotate_left
                                            · intro w'
                                              go_simp
                                              with_reducible rfl
                                            rotate_left
                                            · simp only [Act.put, List.setIfInBounds_toArray, List.set_cons_zero, List.set_cons_succ, i64_w, i32_w]
                                              rfl
                                            refine take_ (i := 17) (N := some 150) (v := ?_) (a' := ?_) #[true, true, true, true, true, true, true, true, true, true, true, true, true, true, true, false, true, true, false, false] rfl rfl (take_ofW HT_.out HW_.out (by kernel_rfl)) (fun _ _ _ h => h) (Or.inl ⟨by rfl, ?_⟩) hHeld ?_ ?_
                                            rotate_left
                                            · rintro w' ⟨s0, s1, s2, s3⟩
                                              go_simp
                                              with_reducible rfl
                                            rotate_left
                                            · simp only [Act.put, List.setIfInBounds_toArray, List.set_cons_zero, List.set_cons_succ, i64_w, i32_w]
                                              rfl
                                            refine one_ (i := 15) (N := some 148) #[true, true, true, true, true, true, true, true, true, true, true, true, true, true, true, true, true, true, false, false] rfl rfl (one_of HT_.out (by kernel_rfl)) (by decide) (fun K hK => ?_)
                                            refine goes_ Try.func20 (by kernel_rfl) rfl #[.pointer (some ⟨g197, 0, none⟩)] (by rfl) rfl rfl (by (try simp only [List.map_toArray, List.map_cons, List.map_nil]); first | done | rfl | (simp only [List.length_drop, List.length_take]; rfl)) ?_
                                            with_reducible refine (feed_Feed_Lost.calls g197 t271 t272 t273 t274 t275 t276 t277 t278 t279 w _ ?side1 ?side2 A98.out).mono ?_
                                            (case side1 => repeat (first | (with_reducible first | exact HI197.out | apply IsS71.alloc | apply IsS71.drewN | apply IsS71.drew | apply IsS71.set_0 | apply IsS71.set_1 | apply IsS71.set_2 | apply IsS71.set_3 | refine IsS71.far ?_ NB197_205.out _) | exact HI197.out))
                                            (case side2 => repeat (first | (with_reducible first | exact HB.out | apply below_alloc | apply pw_below_drewN | apply below_drew1 | refine below_set ?_ (IsS71.ge HI197.out) | refine below_set ?_ GE205.out) | exact HB.out))
                                            rintro e w104 ⟨rfl, hi, hb, hk⟩
                                            refine ⟨_, rfl, ?_⟩
                                            have n0_ := Aside0.mk (Kd.V_mono (KeepF.V (Kd.V_mono (ok := fun k_ => (k_ ≠ gb205 ∧ k_ ≠ g197)) (by (with_reducible repeat (first | apply Kd.V_alloc | apply Kd.V_drewN | apply Kd.V_drew)); exact HO_206001.out) (fun k_ hk_ => (⟨hk_, hk_.2⟩ : _ ∧ k_ ≠ g197))) hk (fun _ h => h.2)) (fun _ h => h.1))
                                            have n1_ := Aside0.mk (KeepF.blk hk (g' := gb205) (o := .cells #[.int .i64 x206000_30, .slice Ao101 x206001_30.length co101, .int .i64 x206002_30, .int .i64 x206003_30] 30 (0, 0)) (by (with_reducible repeat (first | refine blk_drewN ?_ _ | refine blk_drew ?_ | refine blk_alloc ?_ _)); exact BK205.out) NB205_197.out (by simp))
                                            have n2_ := Aside0.mk (hb)
                                            have n3_ := Aside0.mk (hi)
                                            clear HO_206001
                                            clear BK205
                                            clear HB
                                            clear HI197
                                            have HO_206001 := n0_
                                            have BK205 := n1_
                                            have HB := n2_
                                            have HI197 := n3_
                                            clear n0_ n1_ n2_ n3_
                                            (try clear hb)
                                            (try clear hb2)
                                            (try clear hk)
                                            (try clear hi)
                                            refine hK.out _ _ ⟨(blk_cell BK205.out 0).trans rfl, (blk_cell BK205.out 1).trans rfl, (blk_cell BK205.out 2).trans rfl, (blk_cell BK205.out 3).trans rfl⟩ (fun hHeld => ?_)
                                            clear hK K
                                            refine norm_ (a' := ?_) ?_ ?_
                                            rotate_left
                                            · show Act.put _ (some 148) _ = _
                                              simp only [Act.put, List.setIfInBounds_toArray, List.set_cons_zero, List.set_cons_succ, i64_w, i32_w]
                                              rfl
                                            refine pure_ (i := 18) (N := some 151) (v := ?_) (a' := ?_) #[true, true, true, true, true, true, true, true, true, true, true, true, true, true, true, true, true, true, true, false] rfl rfl (any_of HT_.out (by kernel_rfl)) (fun _ _ _ h => h) (Or.inl ⟨by rfl, ?_⟩) ?_ ?_
                                            rotate_left
                                            · intro w'
                                              go_simp
                                              with_reducible rfl
                                            rotate_left
                                            · simp only [Act.put, List.setIfInBounds_toArray, List.set_cons_zero, List.set_cons_succ, i64_w, i32_w]
                                              rfl
                                            refine pure_ (i := 19) (N := some 152) (v := ?_) (a' := ?_) #[true, true, true, true, true, true, true, true, true, true, true, true, true, true, true, true, true, true, true, true] rfl rfl (any_of HT_.out (by kernel_rfl)) (fun _ _ _ h => h) (Or.inl ⟨by rfl, ?_⟩) ?_ ?_
                                            rotate_left
                                            · intro w'
                                              go_simp
                                              with_reducible rfl
                                            rotate_left
                                            · simp only [Act.put, List.setIfInBounds_toArray, List.set_cons_zero, List.set_cons_succ, i64_w, i32_w]
                                              rfl
                                            refine done_ (done_of HT_.out (by kernel_rfl)) ?_
                                            try go_wp2
                                            go_roundg kj30
                                            case measure => have := HJ9.out; have := HK2.out; have := HJ18.out; have := HJ21.out; have := HJ30.out; omega
                                            case rel => exact ⟨(wrap64 (x9_2 + 1)), (t276), (t277), (t278), (t279), (x206000_30), (x206001_30), (x206002_30), (x206003_30), (.slice Ao101 x206001_30.length co101), (by first | rfl | (simp; done) | (simp [*]; done)), H', ⟨by have := HJ9.out; have := HK2.out; have := HJ18.out; have := HJ21.out; have := HJ30.out; omega⟩, ⟨by (with_reducible repeat (first | apply Kd.V_alloc | apply Kd.V_drewN | apply Kd.V_drew)); exact HO_206001.out⟩, ⟨by (with_reducible repeat (first | refine blk_drewN ?_ _ | refine blk_drew ?_ | refine blk_alloc ?_ _)); exact BK205.out⟩, ⟨by repeat (first | (with_reducible first | exact HI197.out | apply IsS71.alloc | apply IsS71.drewN | apply IsS71.drew | apply IsS71.set_0 | apply IsS71.set_1 | apply IsS71.set_2 | apply IsS71.set_3 | refine IsS71.far ?_ NB197_205.out _) | exact HI197.out)⟩, ⟨by repeat (first | (with_reducible first | exact HB.out | apply below_alloc | apply pw_below_drewN | apply below_drew1 | refine below_set ?_ (IsS71.ge HI197.out) | refine below_set ?_ GE205.out) | exact HB.out)⟩⟩
                                          · rw [if_neg c99] at H
                                            exact absurd H (by simp)
                                        · rw [if_neg c97] at H
                                          exact absurd H (by simp)
                                      · rw [if_neg c95] at H
                                        exact absurd H (by simp)
                                · rw [if_neg c30] at H
                                  exact absurd H (by simp)
                              · rw [if_neg c29] at H
                                exact absurd H (by simp)
                      · replace c21 := Bool.eq_false_iff.mpr c21
                        subst c21
                        have H1 : ((deedboxlaw39_works.f kj18).bind fun t206 => (some t206)) = some r := by rw [if_neg (show ¬ (false = true) by decide)] at H; exact H
                        clear H
                        have H := H1
                        clear H1
                        replace H := Option.bind_eq_some_iff.mp H
                        obtain ⟨t206, A1050, H⟩ := H
                        replace H : (some t206) = some r := H
                        have A105 := Aside0.mk A1050
                        clear A1050
                        obtain rfl := Option.some.inj H
                        go_wp2_with (first | ((with_reducible refine gate_callee (f := 8) rfl ?_); refine goesL_ (some 153) rfl rfl Try.func8 (by kernel_rfl) rfl #[] rfl (by (try simp only [List.map_toArray, List.map_cons, List.map_nil]); first | done | rfl | (simp only [List.length_drop, List.length_take]; rfl)) ?_; (with_reducible refine (deedboxlaw39_works.calls kj18  t206 _ A105.out).mono ?_); rintro e w106 ⟨rfl, hb⟩; refine ⟨_, rfl, ?_⟩; have n0_ := Aside0.mk (Kd.V_below (by (with_reducible repeat (first | apply Kd.V_alloc | apply Kd.V_drewN | apply Kd.V_drew)); exact HO_206001.out) hb); have n1_ := Aside0.mk (blk_below (g := gb205) (o := .cells #[.int .i64 x206000_2, u206001, .int .i64 x206002_2, .int .i64 x206003_2] 30 (0, 0)) (by (with_reducible repeat (first | refine blk_drewN ?_ _ | refine blk_drew ?_ | refine blk_alloc ?_ _)); exact BK205.out) hb); have n2_ := Aside0.mk (IsS71.below (by repeat (first | (with_reducible first | exact HI197.out | apply IsS71.alloc | apply IsS71.drewN | apply IsS71.drew | apply IsS71.set_0 | apply IsS71.set_1 | apply IsS71.set_2 | apply IsS71.set_3 | refine IsS71.far ?_ NB197_205.out _) | exact HI197.out)) hb); have n3_ := Aside0.mk (below_step (by repeat (first | (with_reducible first | exact HB.out | apply below_alloc | apply pw_below_drewN | apply below_drew1 | refine below_set ?_ (IsS71.ge HI197.out) | refine below_set ?_ GE205.out) | exact HB.out)) hb); clear HO_206001; clear BK205; clear HI197; clear HB; have HO_206001 := n0_; have BK205 := n1_; have HI197 := n2_; have HB := n3_; clear n0_ n1_ n2_ n3_; (try clear hb); (try clear hb2); (try clear hk); (try clear hi)))
                        go_ret
                        exact ⟨by first | rfl | (simp [errW_none, errW_some] <;> rfl) | (simp [*, errW_none, errW_some] <;> rfl), by repeat (first | (with_reducible first | exact HB.out | apply below_alloc | apply pw_below_drewN | apply below_drew1 | refine below_set ?_ (IsS71.ge HI197.out) | refine below_set ?_ GE205.out) | exact HB.out)⟩
      · rw [if_neg c7] at H
        exact absurd H (by simp)
    · rw [if_neg c6] at H
      exact absurd H (by simp)

end Go.Proofs.Ytllhmnohmdgblaa.QFeedDoes
