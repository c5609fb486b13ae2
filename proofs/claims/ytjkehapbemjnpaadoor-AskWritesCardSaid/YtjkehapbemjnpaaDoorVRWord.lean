/- The reference's words, walked by hand; each condition stands in its theorem. -/
import Derived.Test.YtjkehapbemjnpaaDoorVRKn
import Derived.Great.BuildSlice
set_option maxRecDepth 100000
set_option maxHeartbeats 4000000
namespace Go.Proofs.YtjkehapbemjnpaaDoor
open Go.RowKit Go.Proofs.YtjkehapbemjnpaaDoorW.PrintWords Go.Proofs.YtjkehapbemjnpaaDoorW.PrintLast Go.Proofs.YtjkehapbemjnpaaDoorW.PrintMore Lf Kit Cut Pl Num Chain
set_option linter.unusedVariables false
set_option linter.unusedSimpArgs false
def wOP : Array (Nat × Operand) := ((wL.drop 1).zipIdx.map fun p => (p.2, Operand.const (.string (strOfNums p.1)))).toArray
def wPT : Array (Nat × Value) := ((wL.drop 1).zipIdx.map fun p => (p.2, Value.string (strOfNums p.1))).toArray
def wCS : Array Value := ((wL.drop 1).map fun x => Value.string (strOfNums x)).toArray
theorem wmap (l : List (List Int × Nat)) (a : Act) : ((l.map fun p => (p.2, Operand.const (.string (strOfNums p.1)))).toArray.map fun (i, x) => (i, a.eval x)) = (l.map fun p => (p.2, Value.string (strOfNums p.1))).toArray := by
 rw [List.map_toArray, List.map_map]
 rfl
theorem wop_map (a : Act) : (wOP.map fun (i, x) => (i, a.eval x)) = wPT := wmap ((wL.drop 1).zipIdx) a
theorem wop_run (a : Act) (W : World) (o : Oper) (ho : o.op = .buildSlice 40 20 wOP) : (execOp a.eval o).run Tryd.prog W = .ok (.value (.slice (some ⟨W.heap.size, 0, none⟩) 20 20)) (W.alloc (.cells wCS 9)) := by
 have q := run_buildSlice (P := Tryd.prog) W 40 9 20 wPT wCS _ _ Tryd.underlying40 rfl rfl (by decide) (by decide) (by kernel_rfl)
 unfold execOp
 simp only [ho, wop_map, Sem.run_bind, q, Result.andThen_ok]
 rfl
theorem dec_3 (m : Nat) (a : Act) (x : Operand) (W : World) (o : Oper) (hm : m + 1 ≤ 9223372036854775807) (hx : a.eval x = .int .i64 ((m : Int) + 1)) (ho : o.op = .binOp .sub 3 x (.const (.int .i64 1)) 3) : (execOp a.eval o).run Tryd.prog W = .ok (.value (.int .i64 (m : Int))) W := by
 have h1 : (m : Int) + 1 ≤ 9223372036854775807 := by omega
 unfold execOp
 simp only [ho, hx]
 go_simp
 rw [IntKind.wrap_i64]
 omega
theorem wcs_at (j : Nat) (hj : j < 20) : wCS[j]? = some (.string (strOfNums (wordS ((j : Int) + 1)))) := by
 have h1 : wL[j + 1]? = some (wordS ((j : Int) + 1)) := by
  unfold wordS
  rw [if_neg (by omega), show ((j : Int) + 1).toNat = j + 1 from by omega, List.getD_eq_getElem?_getD]
  have : j + 1 < wL.length := by have : wL.length = 21 := rfl; omega
  rw [List.getElem?_eq_getElem this]
  rfl
 unfold wCS
 rw [List.getElem?_toArray, List.getElem?_map, List.getElem?_drop, show 1 + j = j + 1 from by omega, h1]
 rfl
theorem wdbody (op : Int) (w W : World) (BE : Below w.heap.size w W) (x0 : Act) (h0 : KN 16 x0 [(0, .int .i64 op)]) : Code.wp Tryd.prog (sndC (Tryd.f11.body.getD .skip)) (QR (fun _ _ => False) fun a' W' => KN 16 a' [(2, .string (strOfNums (wordS op)))] ∧ Below w.heap.size w W') x0 W := by
 have hcode : sndC (Tryd.f11.body.getD .skip) = .seq (.region 1 (opsR 1 Tryd.f11.body) false) (.seq (.seq (.region 2 (opsR 2 Tryd.f11.body) false) (.cond (.tmp 10) (.seq (.region 3 (opsR 3 Tryd.f11.body) false) (.ret)) (.skip))) (.seq (.region 4 (opsR 4 Tryd.f11.body) false) (.ret))) := by kernel_rfl
 rw [hcode]
 clear hcode
 have t1 := h0.l
 refine wp_seq (wr ?_)
 refine ln (w1 := W.alloc (.cells wCS 9)) t1 (show OpAt (opsR 1 Tryd.f11.body) 0 (some 4) (.buildSlice 40 20 wOP) none by unfold OpAt; kernel_rfl) (fun o ho => wop_run _ _ _ ho) fun u2 t2 => ?_
 refine lv t2 (oa rfl) (fun _ => run_assign' t2.a) fun u3 t3 => ?_
 refine le_ ?_
 have BE := below_step BE (below_alloc (Below.refl W.heap.size W) (.cells wCS 9))
 have KW := blk_new W (.cells wCS 9)
 generalize W.alloc (.cells wCS 9) = W1 at *
 generalize W.heap.size = g at *
 refine wp_seq (wp_seq (wr ?_))
 refine lv t3 (oa rfl) (fun _ => run_mv t3.a) fun u4 t4 => ?_
 by_cases h1 : op < 1
 ·clear KW
  refine lv (v := (.bool true)) t4 (oa rfl) (fun o ho => (lss_3 op 1 _ _ _ _ _ t4.a rfl ho).trans (by rw [decide_eq_true h1])) fun u5 t5 => ?_
  refine lv t5 (oa rfl) (fun _ => run_mv t5.a) fun u6 t6 => ?_
  refine lof t6 (oa rfl) fun u7 t7 => ?_
  refine lof t7 (oa rfl) fun u8 t8 => ?_
  refine lv (v := (.bool true)) t8 (oa rfl) (fun _ => run_pick (b := true) t8.a rfl rfl) fun u9 t9 => ?_
  refine le_ ?_
  refine wp_cond (t := true) t9.a ?_
  rw [if_pos rfl]
  have hw : wordS op = [] := by
   unfold wordS
   by_cases h0 : op < 0
   ·rw [if_pos (.inl h0)]
   ·rw [show op = 0 by omega]; rfl
  rw [hw]
  refine wp_seq (wr ?_)
  refine lv (v := (.string ⟨#[]⟩)) t9 (oa rfl) (fun _ => run_assign' rfl) fun u10 t10 => ?_
  refine le_ ?_
  refine wp_ret ?_
  exact ⟨t10.m, BE⟩
 ·by_cases h2 : 20 < op
  ·clear KW
   refine lv (v := (.bool false)) t4 (oa rfl) (fun o ho => (lss_3 op 1 _ _ _ _ _ t4.a rfl ho).trans (by rw [decide_eq_false h1])) fun u5 t5 => ?_
   refine lv t5 (oa rfl) (fun _ => run_mv t5.a) fun u6 t6 => ?_
   refine lv t6 (oa rfl) (fun _ => run_mv t6.a) fun u7 t7 => ?_
   refine lv (v := (.bool true)) t7 (oa rfl) (fun o ho => (gtr_3k op 20 _ _ _ _ t7.a ho).trans (by rw [decide_eq_true h2])) fun u8 t8 => ?_
   refine lv (v := (.bool true)) t8 (oa rfl) (fun _ => run_pick (b := false) t8.a rfl t8.a) fun u9 t9 => ?_
   refine le_ ?_
   refine wp_cond (t := true) t9.a ?_
   rw [if_pos rfl]
   rw [show wordS op = [] from by unfold wordS; rw [if_pos (.inr (by omega))]]
   refine wp_seq (wr ?_)
   refine lv (v := (.string ⟨#[]⟩)) t9 (oa rfl) (fun _ => run_assign' rfl) fun u10 t10 => ?_
   refine le_ ?_
   refine wp_ret ?_
   exact ⟨t10.m, BE⟩
  ·skip
   refine lv (v := (.bool false)) t4 (oa rfl) (fun o ho => (lss_3 op 1 _ _ _ _ _ t4.a rfl ho).trans (by rw [decide_eq_false h1])) fun u5 t5 => ?_
   refine lv t5 (oa rfl) (fun _ => run_mv t5.a) fun u6 t6 => ?_
   refine lv t6 (oa rfl) (fun _ => run_mv t6.a) fun u7 t7 => ?_
   refine lv (v := (.bool false)) t7 (oa rfl) (fun o ho => (gtr_3k op 20 _ _ _ _ t7.a ho).trans (by rw [decide_eq_false h2])) fun u8 t8 => ?_
   refine lv (v := (.bool false)) t8 (oa rfl) (fun _ => run_pick (b := false) t8.a rfl t8.a) fun u9 t9 => ?_
   refine le_ ?_
   refine wp_cond (t := false) t9.a ?_
   rw [if_neg (by simp)]
   refine wp_skip ?_
   obtain ⟨j, rfl⟩ : ∃ j : Nat, op = (j : Int) + 1 := ⟨(op - 1).toNat, by omega⟩
   have hj : j < 20 := by omega
   have cj := (blk_cell KW j).trans (wcs_at j hj)
   refine wp_seq (wr ?_)
   refine lv t9 (oa rfl) (fun _ => run_mv t9.a) fun u10 t10 => ?_
   refine lv t10 (oa rfl) (fun _ => run_mv t10.a) fun u11 t11 => ?_
   refine lv (v := (.int .i64 (j : Int))) t11 (oa rfl) (fun _ => dec_3 j _ _ _ _ (by omega) t11.a) fun u12 t12 => ?_
   refine lv t12 (oa rfl) (fun _ => idx_40 g 20 20 j _ _ _ _ _ t12.a t12.a hj) fun u13 t13 => ?_
   refine lv t13 (oa rfl) (fun _ => lod_9 _ _ _ _ _ _ t13.a cj) fun u14 t14 => ?_
   refine lv t14 (oa rfl) (fun _ => run_assign' t14.a) fun u15 t15 => ?_
   refine le_ ?_
   refine wp_ret ?_
   exact ⟨t15.m, BE⟩
theorem rword_calls2 (op : Int) (w : World) : Calls Tryd.prog 11 #[.int .i64 op] w fun e w' => e = .returned (.string (strOfNums (wordS op))) ∧ Below w.heap.size w w' := by
 go_enter Tryd.func11, Tryd.ntmps11
 refine wp_seq_k fun K hK => ?_
 replace hK := Lib.hid hK
 go_wp2_with fail
 refine hK.out _ _ (Code.wp_mono ?_ (wdbody op w _ (Below.refl _ _) _ ⟨by rfl, rfl, List.forall_mem_cons.2 ⟨⟨(by decide : (0 : Nat) < 16), rfl⟩, fun _ h => nomatch h⟩⟩))
 intro e a' W' hq
 cases e with
 | ret =>
  obtain ⟨k, hb⟩ := hq
  refine bodyPost_ret (results_tmp rfl _ _ _) k.2.1 ?_
  rw [show a'.tmps.getD 2 undef = .string (strOfNums (wordS op)) from k.at (n := 2) (by simp)]
  exact ⟨rfl, hb⟩
 | _ => exact (hq : False).elim
end Go.Proofs.YtjkehapbemjnpaaDoor
