/- The reference's Check, walked by hand, whatever the frame holds elsewhere; each condition stands in its theorem. -/
import Derived.Test.YtjkehapbemjnpaaDoorVRLines
import Derived.Test.YtjkehapbemjnpaaDoorVRWord
set_option maxRecDepth 100000
set_option maxHeartbeats 4000000
namespace Go.Proofs.YtjkehapbemjnpaaDoor
open Go.RowKit Go.Proofs.YtjkehapbemjnpaaDoorW.PrintWords Go.Proofs.YtjkehapbemjnpaaDoorW.PrintLast Go.Proofs.YtjkehapbemjnpaaDoorW.PrintMore Lf Kit Cut Pl Num Chain
set_option linter.unusedVariables false
set_option linter.unusedSimpArgs false
set_option linter.unusedSectionVars false
namespace Chk
theorem eql_e (xs : List Int) (a : Act) (x : Operand) (W : World) (o : Oper) (hx : a.eval x = .string (strOfNums xs)) (ho : o.op = .binOp .eql 9 x (.const (.string ⟨#[]⟩)) 9) :
  (execOp a.eval o).run Tryd.prog W = .ok (.value (.bool (decide (xs = [])))) W := by
 have h : (execOp a.eval o).run Tryd.prog W = .ok (.value (.bool ((strOfNums xs).toList == (⟨#[]⟩ : ByteArray).toList))) W := by
  generalize strOfNums xs = m at *
  generalize hn : (⟨#[]⟩ : ByteArray) = n at *
  have hy : a.eval (.const (.string n)) = .string n := rfl
  unfold execOp
  simp only [ho, hx, hy]
  go_simp
  try simp
 have e : (⟨#[]⟩ : ByteArray).toList = [] := by have := toList_str []; exact this
 rw [h, e]
 congr 3
 by_cases hq : xs = []
 ·subst hq
  have e2 : (strOfNums []).toList = [] := e
  rw [e2]
  rfl
 ·rw [decide_eq_false hq]
  have : (strOfNums xs).toList ≠ [] := fun e => hq (toList_nil e)
  simpa using this
theorem gtr_k (m k : Int) (a : Act) (x : Operand) (W : World) (o : Oper) (hx : a.eval x = .int .i64 m) (ho : o.op = .binOp .gtr 3 x (.const (.int .i64 k)) 3) : (execOp a.eval o).run Tryd.prog W = .ok (.value (.bool (decide (k < m)))) W := by
 have hy : a.eval (.const (.int .i64 k)) = .int .i64 k := rfl
 unfold execOp
 simp only [ho, hx, hy]
 go_simp
theorem eql_k (m k : Int) (a : Act) (x : Operand) (W : World) (o : Oper) (hx : a.eval x = .int .i64 m) (ho : o.op = .binOp .eql 3 x (.const (.int .i64 k)) 3) : (execOp a.eval o).run Tryd.prog W = .ok (.value (.bool (decide (m = k)))) W := by
 have hy : a.eval (.const (.int .i64 k)) = .int .i64 k := rfl
 unfold execOp
 simp only [ho, hx, hy]
 go_simp
 try (by_cases h : m = k <;> simp [h])
section
variable {cs : Array Value} {a : AskP} {A5 A9 A10 A19 A22 : Option Addr} {c5 c9 c10 c19 c22 : Nat} (hC : Cells cs a A5 A9 A10 A19 A22 c5 c9 c10 c19 c22) {g : Nat} {w W : World} (TW : OneAt w g cs a W) (sa : AskS a)
include hC TW sa
theorem creg1  (e0 : cs[0]? = some (.int .i64 a.x0)) (a0 : Act) (h0 : KN 60 a0 [(1, (ptr g))]) (K : Act → World → Prop)
  (hk : ∀ a' W', OneAt w g cs a W' → KN 60 a' [(9, (.bool (decide (wordS a.x0 = [])))), (1, (ptr g))] → K a' W') : Code.wp Tryd.prog (.region 1 (opsR 1 Tryd.f38.body) false) (QN K) a0 W := by
 refine wr ?_
 have t0 := h0.l
 refine lv t0 (oa rfl) (fun _ => (fld 0 (by decide)) _ _ g _ _ t0.a) fun u1 t1 => ?_
 refine lv (v := (.int .i64 a.x0)) t1 (oa rfl) (fun _ => lod_3 _ _ _ _ _ _ t1.a ((blk_cell TW.1.1 0).trans e0)) fun u2 t2 => ?_
 refine lc t2 Tryd.func11 (oa rfl) (rword_calls2 a.x0 W) ?_
 rintro e W2 ⟨rfl, B2⟩
 replace TW := TW.below B2
 refine ⟨_, rfl, fun u3 t3 => ?_⟩
 refine lv (v := (.bool (decide (wordS a.x0 = [])))) t3 (oa rfl) (fun _ => eql_e (wordS a.x0) _ _ _ _ t3.a) fun u4 t4 => ?_
 refine le_ ?_
 exact hk _ _ TW t4.m
theorem creg2   (a0 : Act) (h0 : KN 60 a0 [(1, (ptr g))]) (K : Act → World → Prop)
  (hk : ∀ a', KN 60 a' [(2, (.int .i64 19))] → K a' W) : Code.wp Tryd.prog (.region 2 (opsR 2 Tryd.f38.body) false) (QN K) a0 W := by
 refine wr ?_
 have t0 := h0.l
 refine lv (v := (.int .i64 19)) t0 (oa rfl) (fun _ => run_assign' rfl) fun u1 t1 => ?_
 refine le_ ?_
 exact hk _ t1.m
theorem creg3a  (h : a.x23 < 0) (a0 : Act) (h0 : KN 60 a0 [(1, (ptr g))]) (K : Act → World → Prop)
  (hk : ∀ a', KN 60 a' [(17, (.bool true)), (1, (ptr g))] → K a' W) : Code.wp Tryd.prog (.region 3 (opsR 3 Tryd.f38.body) false) (QN K) a0 W := by
 refine wr ?_
 have t0 := h0.l
 refine lv t0 (oa rfl) (fun _ => (fld 23 (by decide)) _ _ g _ _ t0.a) fun u1 t1 => ?_
 refine lv (v := (.int .i64 a.x23)) t1 (oa rfl) (fun _ => lod_3 _ _ _ _ _ _ t1.a ((blk_cell TW.1.1 23).trans hC.e23)) fun u2 t2 => ?_
 refine lv (v := (.bool true)) t2 (oa rfl) (fun o ho => (lss_3 a.x23 0 _ _ _ _ _ t2.a rfl ho).trans (by rw [decide_eq_true h])) fun u3 t3 => ?_
 refine lv t3 (oa rfl) (fun _ => run_mv t3.a) fun u4 t4 => ?_
 refine lof t4 (oa rfl) fun u5 t5 => ?_
 refine lof t5 (oa rfl) fun u6 t6 => ?_
 refine lof t6 (oa rfl) fun u7 t7 => ?_
 refine lv (v := (.bool true)) t7 (oa rfl) (fun _ => run_pick (b := true) t7.a rfl rfl) fun u8 t8 => ?_
 refine le_ ?_
 exact hk _ t8.m
theorem creg3b  (h : ¬ a.x23 < 0) (h2 : 2 < a.x23) (a0 : Act) (h0 : KN 60 a0 [(1, (ptr g))]) (K : Act → World → Prop)
  (hk : ∀ a', KN 60 a' [(17, (.bool true)), (1, (ptr g))] → K a' W) : Code.wp Tryd.prog (.region 3 (opsR 3 Tryd.f38.body) false) (QN K) a0 W := by
 refine wr ?_
 have t0 := h0.l
 refine lv t0 (oa rfl) (fun _ => (fld 23 (by decide)) _ _ g _ _ t0.a) fun u1 t1 => ?_
 refine lv (v := (.int .i64 a.x23)) t1 (oa rfl) (fun _ => lod_3 _ _ _ _ _ _ t1.a ((blk_cell TW.1.1 23).trans hC.e23)) fun u2 t2 => ?_
 refine lv (v := (.bool false)) t2 (oa rfl) (fun o ho => (lss_3 a.x23 0 _ _ _ _ _ t2.a rfl ho).trans (by rw [decide_eq_false h])) fun u3 t3 => ?_
 refine lv t3 (oa rfl) (fun _ => run_mv t3.a) fun u4 t4 => ?_
 refine lv t4 (oa rfl) (fun _ => (fld 23 (by decide)) _ _ g _ _ t4.a) fun u5 t5 => ?_
 refine lv (v := (.int .i64 a.x23)) t5 (oa rfl) (fun _ => lod_3 _ _ _ _ _ _ t5.a ((blk_cell TW.1.1 23).trans hC.e23)) fun u6 t6 => ?_
 refine lv (v := (.bool true)) t6 (oa rfl) (fun o ho => (gtr_k a.x23 2 _ _ _ _ t6.a ho).trans (by rw [decide_eq_true h2])) fun u7 t7 => ?_
 refine lv (v := (.bool true)) t7 (oa rfl) (fun _ => run_pick (b := false) t7.a rfl t7.a) fun u8 t8 => ?_
 refine le_ ?_
 exact hk _ t8.m
theorem creg3c  (h : ¬ a.x23 < 0) (h2 : ¬ 2 < a.x23) (a0 : Act) (h0 : KN 60 a0 [(1, (ptr g))]) (K : Act → World → Prop)
  (hk : ∀ a', KN 60 a' [(17, (.bool false)), (1, (ptr g))] → K a' W) : Code.wp Tryd.prog (.region 3 (opsR 3 Tryd.f38.body) false) (QN K) a0 W := by
 refine wr ?_
 have t0 := h0.l
 refine lv t0 (oa rfl) (fun _ => (fld 23 (by decide)) _ _ g _ _ t0.a) fun u1 t1 => ?_
 refine lv (v := (.int .i64 a.x23)) t1 (oa rfl) (fun _ => lod_3 _ _ _ _ _ _ t1.a ((blk_cell TW.1.1 23).trans hC.e23)) fun u2 t2 => ?_
 refine lv (v := (.bool false)) t2 (oa rfl) (fun o ho => (lss_3 a.x23 0 _ _ _ _ _ t2.a rfl ho).trans (by rw [decide_eq_false h])) fun u3 t3 => ?_
 refine lv t3 (oa rfl) (fun _ => run_mv t3.a) fun u4 t4 => ?_
 refine lv t4 (oa rfl) (fun _ => (fld 23 (by decide)) _ _ g _ _ t4.a) fun u5 t5 => ?_
 refine lv (v := (.int .i64 a.x23)) t5 (oa rfl) (fun _ => lod_3 _ _ _ _ _ _ t5.a ((blk_cell TW.1.1 23).trans hC.e23)) fun u6 t6 => ?_
 refine lv (v := (.bool false)) t6 (oa rfl) (fun o ho => (gtr_k a.x23 2 _ _ _ _ t6.a ho).trans (by rw [decide_eq_false h2])) fun u7 t7 => ?_
 refine lv (v := (.bool false)) t7 (oa rfl) (fun _ => run_pick (b := false) t7.a rfl t7.a) fun u8 t8 => ?_
 refine le_ ?_
 exact hk _ t8.m
theorem creg4   (a0 : Act) (h0 : KN 60 a0 [(1, (ptr g))]) (K : Act → World → Prop)
  (hk : ∀ a', KN 60 a' [(2, (.int .i64 4))] → K a' W) : Code.wp Tryd.prog (.region 4 (opsR 4 Tryd.f38.body) false) (QN K) a0 W := by
 refine wr ?_
 have t0 := h0.l
 refine lv (v := (.int .i64 4)) t0 (oa rfl) (fun _ => run_assign' rfl) fun u1 t1 => ?_
 refine le_ ?_
 exact hk _ t1.m
end
theorem six_R (W : World) (xs : List Int) (h6 : xs.length = 6) : Kd.R (Kd.int .i64) 3 (W.alloc (.cells (xs.map (Value.int .i64)).toArray 3)) W.heap.size (fun _ => True) (.slice (some ⟨W.heap.size, 0, none⟩) 6 6) xs := by
 refine Kd.R_of_own (enc := Value.int .i64) (h1 := fun _ => rfl) ?_ (fun _ _ => trivial)
 refine ⟨by simp [encs], .inr ⟨W.heap.size, 6, _, by rw [h6], Nat.le_refl _, blk_new W _, by omega, by decide, by simp [h6], ?_⟩⟩
 rw [List.take_of_length_le (by simp)]
 simp [encs]
section
variable {cs : Array Value} {a : AskP} {A5 A9 A10 A19 A22 : Option Addr} {c5 c9 c10 c19 c22 : Nat} (hC : Cells cs a A5 A9 A10 A19 A22 c5 c9 c10 c19 c22) {g : Nat} {w W : World} (TW : OneAt w g cs a W) (sa : AskS a)
include hC TW sa
theorem creg56  (a0 : Act) (h0 : KN 60 a0 [(1, ptr g)]) (K : Act → World → Prop)
  (hk : ∀ a' W' A2 c2, OneAt w g cs a W' → Kd.C (Kd.int .i64) W' A2 (6 + a.x22.length) ([a.x3, a.x11, a.x15, a.x18, a.x20, a.x21] ++ a.x22) → KN 60 a' [(3, .slice A2 (6 + a.x22.length) c2), (1, ptr g)] → K a' W') (c : Code) (Q : Exit → Act → World → Prop) (hQ : ∀ a' W', K a' W' → c.wp Tryd.prog Q a' W') :
  Code.wp Tryd.prog (.seq (.region 5 (opsR 5 Tryd.f38.body) false) (.seq (.region 6 (opsR 6 Tryd.f38.body) false) c)) Q a0 W := by
 refine wp_seq (wr ?_)
 have t0 := h0.l
 refine lv t0 (oa rfl) (fun _ => (fld 3 (by decide)) _ _ g _ _ t0.a) fun u1 t1 => ?_
 refine lv t1 (oa rfl) (fun _ => lod_3 _ _ _ _ _ _ t1.a ((blk_cell TW.1.1 3).trans hC.e3)) fun u2 t2 => ?_
 refine lv t2 (oa rfl) (fun _ => (fld 11 (by decide)) _ _ g _ _ t2.a) fun u3 t3 => ?_
 refine lv t3 (oa rfl) (fun _ => lod_3 _ _ _ _ _ _ t3.a ((blk_cell TW.1.1 11).trans hC.e11)) fun u4 t4 => ?_
 refine lv t4 (oa rfl) (fun _ => (fld 15 (by decide)) _ _ g _ _ t4.a) fun u5 t5 => ?_
 refine lv t5 (oa rfl) (fun _ => lod_3 _ _ _ _ _ _ t5.a ((blk_cell TW.1.1 15).trans hC.e15)) fun u6 t6 => ?_
 refine lv t6 (oa rfl) (fun _ => (fld 18 (by decide)) _ _ g _ _ t6.a) fun u7 t7 => ?_
 refine lv t7 (oa rfl) (fun _ => lod_3 _ _ _ _ _ _ t7.a ((blk_cell TW.1.1 18).trans hC.e18)) fun u8 t8 => ?_
 refine lv t8 (oa rfl) (fun _ => (fld 20 (by decide)) _ _ g _ _ t8.a) fun u9 t9 => ?_
 refine lv t9 (oa rfl) (fun _ => lod_3 _ _ _ _ _ _ t9.a ((blk_cell TW.1.1 20).trans hC.e20)) fun u10 t10 => ?_
 refine lv t10 (oa rfl) (fun _ => (fld 21 (by decide)) _ _ g _ _ t10.a) fun u11 t11 => ?_
 refine lv t11 (oa rfl) (fun _ => lod_3 _ _ _ _ _ _ t11.a ((blk_cell TW.1.1 21).trans hC.e21)) fun u12 t12 => ?_
 refine ln (w1 := W.alloc (.cells (([a.x3, a.x11, a.x15, a.x18, a.x20, a.x21].map (Value.int .i64)).toArray) 3)) (v := .slice (some ⟨W.heap.size, 0, none⟩) 6 6) t12 (show OpAt (opsR 5 Tryd.f38.body) 12 (some 30) (.buildSlice 24 6 #[(0, .tmp 19), (1, .tmp 21), (2, .tmp 23), (3, .tmp 25), (4, .tmp 27), (5, .tmp 29)]) none from oa rfl) (fun o ho => ?_) fun u13 t13 => ?_
 ·have q := run_buildSlice (P := Tryd.prog) W 24 3 6 #[(0, .int .i64 a.x3), (1, .int .i64 a.x11), (2, .int .i64 a.x15), (3, .int .i64 a.x18), (4, .int .i64 a.x20), (5, .int .i64 a.x21)] (([a.x3, a.x11, a.x15, a.x18, a.x20, a.x21].map (Value.int .i64)).toArray) _ _ Tryd.underlying24 rfl rfl (by decide) (by decide) (by first | kernel_rfl | (simp [Instr.fill, Instr.overwrite]; done))
  unfold execOp
  simp only [ho, List.map_toArray, List.map_cons, List.map_nil, t12.a (n := 19) (v := .int .i64 a.x3), t12.a (n := 21) (v := .int .i64 a.x11), t12.a (n := 23) (v := .int .i64 a.x15), t12.a (n := 25) (v := .int .i64 a.x18), t12.a (n := 27) (v := .int .i64 a.x20), t12.a (n := 29) (v := .int .i64 a.x21), Sem.run_bind, q, Result.andThen_ok]
  rfl
 have F1 := below_alloc (Below.refl W.heap.size W) (.cells (([a.x3, a.x11, a.x15, a.x18, a.x20, a.x21].map (Value.int .i64)).toArray) 3)
 have HO := six_R W [a.x3, a.x11, a.x15, a.x18, a.x20, a.x21] rfl
 have T1 := TW.below F1
 have hlt := blk_lt TW.1.1
 have sz : W.heap.size ≤ (W.alloc (.cells (([a.x3, a.x11, a.x15, a.x18, a.x20, a.x21].map (Value.int .i64)).toArray) 3)).heap.size := by rw [size_alloc]; omega
 clear t0 t1 t2 t3 t4 t5 t6 t7 t8 t9 t10 t11 t12
 generalize W.alloc (.cells (([a.x3, a.x11, a.x15, a.x18, a.x20, a.x21].map (Value.int .i64)).toArray) 3) = W1 at *
 refine lv t13 (oa rfl) (fun _ => run_assign' t13.a) fun u14 t14 => ?_
 refine le_ ?_
 refine wp_seq (wr ?_)
 refine lv t14 (oa rfl) (fun _ => run_mv t14.a) fun u15 t15 => ?_
 refine lv t15 (oa rfl) (fun _ => (fld 22 (by decide)) _ _ g _ _ t15.a) fun u16 t16 => ?_
 refine lv t16 (oa rfl) (fun _ => lod_24 _ _ _ _ _ _ t16.a ((blk_cell T1.1.1 22).trans hC.e22)) fun u17 t17 => ?_
 have CK := (V_C (e := 3) (b := 0) (T1.1.2.cell 22 _ hC.e22).1).2.2
 show wpList _ _ _ ((opsR 6 Tryd.f38.body).toList.drop 3) _ _
 obtain ⟨o, he, hd, hp, hgd⟩ := (show OpAt (opsR 6 Tryd.f38.body) 3 (some 34) (.call { callee := .builtin .append, args := #[.tmp 31, .tmp 33], argTypes := #[24, 24] }) none from oa rfl).cons
 rw [he]
 refine Kd.R_append_row (Value.int .i64) (0 : Int) (h1 := fun _ => rfl) (w0 := W1) W.heap.size hgd (.tmp 31) (.tmp 33) 24 3 (.int .i64 0) 8 hp Tryd.underlying24 info3 rfl (by decide) (.slice (some ⟨W.heap.size, 0, none⟩) 6 6) [a.x3, a.x11, a.x15, a.x18, a.x20, a.x21] a.x22 A22 a.x22.length c22 (fun _ => True) t17.a t17.a (fun _ _ => trivial) HO CK (Below.refl _ _) sz (by have := sa.l22; simp only [List.length_cons, List.length_nil]; omega) ?_
 intro v1 w1 ho hb hg1 hat
 obtain ⟨A2, c2, rfl⟩ := Kd.R_slice ho
 have C2 := (Kd.R_reads' ho).2.2
 have el : ([a.x3, a.x11, a.x15, a.x18, a.x20, a.x21] ++ a.x22).length = 6 + a.x22.length := by simp only [List.length_append, List.length_cons, List.length_nil]
 rw [el] at C2
 rw [el, hd]
 have B1 : Below W.heap.size W1 w1 := hb
 have T2 : OneAt w g cs a w1 := ⟨⟨(B1.block g hlt).trans T1.1.1, (TW.1.2.bound.step fun k hk2 _ => (B1.block k hk2.2).trans (F1.block k hk2.2)).mono fun _ _ => trivial⟩, T1.2.trans (B1.mono (TW.2.size))⟩
 have t18 := t17.put 34 (.slice A2 (6 + a.x22.length) c2) (by decide)
 generalize Act.put _ _ _ = u18 at t18 ⊢
 refine lv t18 (oa rfl) (fun _ => run_assign' t18.a) fun u19 t19 => ?_
 refine le_ ?_
 exact hQ _ _ (hk _ _ A2 c2 T2 C2 t19.m)
end
section
variable {cs : Array Value} {a : AskP} {A5 A9 A10 A19 A22 : Option Addr} {c5 c9 c10 c19 c22 : Nat} (hC : Cells cs a A5 A9 A10 A19 A22 c5 c9 c10 c19 c22) {g : Nat} {w W : World} (TW : OneAt w g cs a W) (sa : AskS a)
include hC TW sa
theorem creg7  (A2 : Option Addr) (n c2 : Nat) (a0 : Act) (h0 : KN 60 a0 [(1, (ptr g)), (3, (.slice A2 n c2))]) (K : Act → World → Prop)
  (hk : ∀ a', KN 60 a' [(4, (.int .i64 0)), (3, (.slice A2 n c2)), (1, (ptr g))] → K a' W) : Code.wp Tryd.prog (.region 7 (opsR 7 Tryd.f38.body) false) (QN K) a0 W := by
 refine wr ?_
 have t0 := h0.l
 refine lv (v := (.int .i64 0)) t0 (oa rfl) (fun _ => run_assign' rfl) fun u1 t1 => ?_
 refine le_ ?_
 exact hk _ t1.m
theorem creg8  (A2 : Option Addr) (n c2 j : Nat) (hj : j ≤ 1000) (a0 : Act) (h0 : KN 60 a0 [(1, (ptr g)), (3, (.slice A2 n c2)), (4, (.int .i64 (j : Int)))]) (K : Act → World → Prop)
  (hk : ∀ a', KN 60 a' [(38, (.bool (decide ((j : Int) < (n : Int))))), (4, (.int .i64 (j : Int))), (3, (.slice A2 n c2)), (1, (ptr g))] → K a' W) : Code.wp Tryd.prog (.region 8 (opsR 8 Tryd.f38.body) false) (QN K) a0 W := by
 refine wr ?_
 have t0 := h0.l
 refine lv t0 (oa rfl) (fun _ => run_mv t0.a) fun u1 t1 => ?_
 refine lv t1 (oa rfl) (fun _ => run_mv t1.a) fun u2 t2 => ?_
 refine lv t2 (oa rfl) (fun _ => len_24 A2 _ c2 _ _ _ _ t2.a) fun u3 t3 => ?_
 refine lv (v := (.bool (decide ((j : Int) < (n : Int))))) t3 (oa rfl) (fun _ => lss_3 _ _ _ _ _ _ _ t3.a t3.a) fun u4 t4 => ?_
 refine le_ ?_
 exact hk _ t4.m
theorem creg10  (A2 : Option Addr) (n c2 j : Nat) (hj : j ≤ 1000) (a0 : Act) (h0 : KN 60 a0 [(1, (ptr g)), (3, (.slice A2 n c2)), (4, (.int .i64 (j : Int)))]) (K : Act → World → Prop)
  (hk : ∀ a', KN 60 a' [(5, (.int .i64 0)), (4, (.int .i64 (j : Int))), (3, (.slice A2 n c2)), (1, (ptr g))] → K a' W) : Code.wp Tryd.prog (.region 10 (opsR 10 Tryd.f38.body) false) (QN K) a0 W := by
 refine wr ?_
 have t0 := h0.l
 refine lv (v := (.int .i64 0)) t0 (oa rfl) (fun _ => run_assign' rfl) fun u1 t1 => ?_
 refine le_ ?_
 exact hk _ t1.m
theorem creg11a  (A2 : Option Addr) (n c2 j : Nat) (hj : j ≤ 1000) (h : (j : Int) = 0) (a0 : Act) (h0 : KN 60 a0 [(1, (ptr g)), (3, (.slice A2 n c2)), (4, (.int .i64 (j : Int))), (5, (.int .i64 0))]) (K : Act → World → Prop)
  (hk : ∀ a', KN 60 a' [(46, (.bool true)), (5, (.int .i64 0)), (4, (.int .i64 (j : Int))), (3, (.slice A2 n c2)), (1, (ptr g))] → K a' W) : Code.wp Tryd.prog (.region 11 (opsR 11 Tryd.f38.body) false) (QN K) a0 W := by
 refine wr ?_
 have t0 := h0.l
 refine lv t0 (oa rfl) (fun _ => run_mv t0.a) fun u1 t1 => ?_
 refine lv (v := (.bool true)) t1 (oa rfl) (fun o ho => (eql_k (j : Int) 0 _ _ _ _ t1.a ho).trans (by rw [decide_eq_true h])) fun u2 t2 => ?_
 refine lv t2 (oa rfl) (fun _ => run_mv t2.a) fun u3 t3 => ?_
 refine lof t3 (oa rfl) fun u4 t4 => ?_
 refine lof t4 (oa rfl) fun u5 t5 => ?_
 refine lv (v := (.bool true)) t5 (oa rfl) (fun _ => run_pick (b := true) t5.a rfl rfl) fun u6 t6 => ?_
 refine le_ ?_
 exact hk _ t6.m
theorem creg11b  (A2 : Option Addr) (n c2 j : Nat) (hj : j ≤ 1000) (h : ¬ (j : Int) = 0) (h2 : (j : Int) = 3) (a0 : Act) (h0 : KN 60 a0 [(1, (ptr g)), (3, (.slice A2 n c2)), (4, (.int .i64 (j : Int))), (5, (.int .i64 0))]) (K : Act → World → Prop)
  (hk : ∀ a', KN 60 a' [(46, (.bool true)), (5, (.int .i64 0)), (4, (.int .i64 (j : Int))), (3, (.slice A2 n c2)), (1, (ptr g))] → K a' W) : Code.wp Tryd.prog (.region 11 (opsR 11 Tryd.f38.body) false) (QN K) a0 W := by
 refine wr ?_
 have t0 := h0.l
 refine lv t0 (oa rfl) (fun _ => run_mv t0.a) fun u1 t1 => ?_
 refine lv (v := (.bool false)) t1 (oa rfl) (fun o ho => (eql_k (j : Int) 0 _ _ _ _ t1.a ho).trans (by rw [decide_eq_false h])) fun u2 t2 => ?_
 refine lv t2 (oa rfl) (fun _ => run_mv t2.a) fun u3 t3 => ?_
 refine lv t3 (oa rfl) (fun _ => run_mv t3.a) fun u4 t4 => ?_
 refine lv (v := (.bool true)) t4 (oa rfl) (fun o ho => (eql_k (j : Int) 3 _ _ _ _ t4.a ho).trans (by rw [decide_eq_true h2])) fun u5 t5 => ?_
 refine lv (v := (.bool true)) t5 (oa rfl) (fun _ => run_pick (b := false) t5.a rfl t5.a) fun u6 t6 => ?_
 refine le_ ?_
 exact hk _ t6.m
theorem creg11c  (A2 : Option Addr) (n c2 j : Nat) (hj : j ≤ 1000) (h : ¬ (j : Int) = 0) (h2 : ¬ (j : Int) = 3) (a0 : Act) (h0 : KN 60 a0 [(1, (ptr g)), (3, (.slice A2 n c2)), (4, (.int .i64 (j : Int))), (5, (.int .i64 0))]) (K : Act → World → Prop)
  (hk : ∀ a', KN 60 a' [(46, (.bool false)), (5, (.int .i64 0)), (4, (.int .i64 (j : Int))), (3, (.slice A2 n c2)), (1, (ptr g))] → K a' W) : Code.wp Tryd.prog (.region 11 (opsR 11 Tryd.f38.body) false) (QN K) a0 W := by
 refine wr ?_
 have t0 := h0.l
 refine lv t0 (oa rfl) (fun _ => run_mv t0.a) fun u1 t1 => ?_
 refine lv (v := (.bool false)) t1 (oa rfl) (fun o ho => (eql_k (j : Int) 0 _ _ _ _ t1.a ho).trans (by rw [decide_eq_false h])) fun u2 t2 => ?_
 refine lv t2 (oa rfl) (fun _ => run_mv t2.a) fun u3 t3 => ?_
 refine lv t3 (oa rfl) (fun _ => run_mv t3.a) fun u4 t4 => ?_
 refine lv (v := (.bool false)) t4 (oa rfl) (fun o ho => (eql_k (j : Int) 3 _ _ _ _ t4.a ho).trans (by rw [decide_eq_false h2])) fun u5 t5 => ?_
 refine lv (v := (.bool false)) t5 (oa rfl) (fun _ => run_pick (b := false) t5.a rfl t5.a) fun u6 t6 => ?_
 refine le_ ?_
 exact hk _ t6.m
theorem creg12  (A2 : Option Addr) (n c2 j : Nat) (hj : j ≤ 1000) (a0 : Act) (h0 : KN 60 a0 [(1, (ptr g)), (3, (.slice A2 n c2)), (4, (.int .i64 (j : Int))), (5, (.int .i64 0))]) (K : Act → World → Prop)
  (hk : ∀ a', KN 60 a' [(5, (.int .i64 (-1))), (4, (.int .i64 (j : Int))), (3, (.slice A2 n c2)), (1, (ptr g))] → K a' W) : Code.wp Tryd.prog (.region 12 (opsR 12 Tryd.f38.body) false) (QN K) a0 W := by
 refine wr ?_
 have t0 := h0.l
 refine lv (v := (.int .i64 (-1))) t0 (oa rfl) (fun _ => run_assign' rfl) fun u1 t1 => ?_
 refine le_ ?_
 exact hk _ t1.m
theorem creg13a  (A2 : Option Addr) (n c2 j : Nat) (hj : j ≤ 1000) (ad : Addr) (hA2 : A2 = some ad) (hjn : j < n) (m lo : Int) (hc : W.cell? (ad.add j) = some (.int .i64 m)) (h : m < lo) (a0 : Act) (h0 : KN 60 a0 [(1, (ptr g)), (3, (.slice A2 n c2)), (4, (.int .i64 (j : Int))), (5, (.int .i64 lo))]) (K : Act → World → Prop)
  (hk : ∀ a', KN 60 a' [(59, (.bool true)), (4, (.int .i64 (j : Int))), (3, (.slice A2 n c2)), (1, (ptr g))] → K a' W) : Code.wp Tryd.prog (.region 13 (opsR 13 Tryd.f38.body) false) (QN K) a0 W := by
 refine wr ?_
 have t0 := h0.l
 refine lv t0 (oa rfl) (fun _ => run_mv t0.a) fun u1 t1 => ?_
 refine lv t1 (oa rfl) (fun _ => run_mv t1.a) fun u2 t2 => ?_
 refine lv t2 (oa rfl) (fun _ => idx_24 ad n c2 j _ _ _ _ _ (by rw [← hA2]; exact t2.a) t2.a hjn) fun u3 t3 => ?_
 refine lv t3 (oa rfl) (fun _ => lod_3 _ _ _ _ _ _ t3.a hc) fun u4 t4 => ?_
 refine lv t4 (oa rfl) (fun _ => run_mv t4.a) fun u5 t5 => ?_
 refine lv (v := (.bool true)) t5 (oa rfl) (fun o ho => (lss_3 m lo _ _ _ _ _ t5.a t5.a ho).trans (by rw [decide_eq_true h])) fun u6 t6 => ?_
 refine lv t6 (oa rfl) (fun _ => run_mv t6.a) fun u7 t7 => ?_
 refine lof t7 (oa rfl) fun u8 t8 => ?_
 refine lof t8 (oa rfl) fun u9 t9 => ?_
 refine lof t9 (oa rfl) fun u10 t10 => ?_
 refine lof t10 (oa rfl) fun u11 t11 => ?_
 refine lof t11 (oa rfl) fun u12 t12 => ?_
 refine lv (v := (.bool true)) t12 (oa rfl) (fun _ => run_pick (b := true) t12.a rfl rfl) fun u13 t13 => ?_
 refine le_ ?_
 exact hk _ t13.m
theorem creg13b  (A2 : Option Addr) (n c2 j : Nat) (hj : j ≤ 1000) (ad : Addr) (hA2 : A2 = some ad) (hjn : j < n) (m lo : Int) (hc : W.cell? (ad.add j) = some (.int .i64 m)) (h : ¬ m < lo) (h2 : 1099511627776 < m) (a0 : Act) (h0 : KN 60 a0 [(1, (ptr g)), (3, (.slice A2 n c2)), (4, (.int .i64 (j : Int))), (5, (.int .i64 lo))]) (K : Act → World → Prop)
  (hk : ∀ a', KN 60 a' [(59, (.bool true)), (4, (.int .i64 (j : Int))), (3, (.slice A2 n c2)), (1, (ptr g))] → K a' W) : Code.wp Tryd.prog (.region 13 (opsR 13 Tryd.f38.body) false) (QN K) a0 W := by
 refine wr ?_
 have t0 := h0.l
 refine lv t0 (oa rfl) (fun _ => run_mv t0.a) fun u1 t1 => ?_
 refine lv t1 (oa rfl) (fun _ => run_mv t1.a) fun u2 t2 => ?_
 refine lv t2 (oa rfl) (fun _ => idx_24 ad n c2 j _ _ _ _ _ (by rw [← hA2]; exact t2.a) t2.a hjn) fun u3 t3 => ?_
 refine lv t3 (oa rfl) (fun _ => lod_3 _ _ _ _ _ _ t3.a hc) fun u4 t4 => ?_
 refine lv t4 (oa rfl) (fun _ => run_mv t4.a) fun u5 t5 => ?_
 refine lv (v := (.bool false)) t5 (oa rfl) (fun o ho => (lss_3 m lo _ _ _ _ _ t5.a t5.a ho).trans (by rw [decide_eq_false h])) fun u6 t6 => ?_
 refine lv t6 (oa rfl) (fun _ => run_mv t6.a) fun u7 t7 => ?_
 refine lv t7 (oa rfl) (fun _ => run_mv t7.a) fun u8 t8 => ?_
 refine lv t8 (oa rfl) (fun _ => run_mv t8.a) fun u9 t9 => ?_
 refine lv t9 (oa rfl) (fun _ => idx_24 ad n c2 j _ _ _ _ _ (by rw [← hA2]; exact t9.a) t9.a hjn) fun u10 t10 => ?_
 refine lv t10 (oa rfl) (fun _ => lod_3 _ _ _ _ _ _ t10.a hc) fun u11 t11 => ?_
 refine lv (v := (.bool true)) t11 (oa rfl) (fun o ho => (gtr_k m 1099511627776 _ _ _ _ t11.a ho).trans (by rw [decide_eq_true h2])) fun u12 t12 => ?_
 refine lv (v := (.bool true)) t12 (oa rfl) (fun _ => run_pick (b := false) t12.a rfl t12.a) fun u13 t13 => ?_
 refine le_ ?_
 exact hk _ t13.m
theorem creg13c  (A2 : Option Addr) (n c2 j : Nat) (hj : j ≤ 1000) (ad : Addr) (hA2 : A2 = some ad) (hjn : j < n) (m lo : Int) (hc : W.cell? (ad.add j) = some (.int .i64 m)) (h : ¬ m < lo) (h2 : ¬ 1099511627776 < m) (a0 : Act) (h0 : KN 60 a0 [(1, (ptr g)), (3, (.slice A2 n c2)), (4, (.int .i64 (j : Int))), (5, (.int .i64 lo))]) (K : Act → World → Prop)
  (hk : ∀ a', KN 60 a' [(59, (.bool false)), (4, (.int .i64 (j : Int))), (3, (.slice A2 n c2)), (1, (ptr g))] → K a' W) : Code.wp Tryd.prog (.region 13 (opsR 13 Tryd.f38.body) false) (QN K) a0 W := by
 refine wr ?_
 have t0 := h0.l
 refine lv t0 (oa rfl) (fun _ => run_mv t0.a) fun u1 t1 => ?_
 refine lv t1 (oa rfl) (fun _ => run_mv t1.a) fun u2 t2 => ?_
 refine lv t2 (oa rfl) (fun _ => idx_24 ad n c2 j _ _ _ _ _ (by rw [← hA2]; exact t2.a) t2.a hjn) fun u3 t3 => ?_
 refine lv t3 (oa rfl) (fun _ => lod_3 _ _ _ _ _ _ t3.a hc) fun u4 t4 => ?_
 refine lv t4 (oa rfl) (fun _ => run_mv t4.a) fun u5 t5 => ?_
 refine lv (v := (.bool false)) t5 (oa rfl) (fun o ho => (lss_3 m lo _ _ _ _ _ t5.a t5.a ho).trans (by rw [decide_eq_false h])) fun u6 t6 => ?_
 refine lv t6 (oa rfl) (fun _ => run_mv t6.a) fun u7 t7 => ?_
 refine lv t7 (oa rfl) (fun _ => run_mv t7.a) fun u8 t8 => ?_
 refine lv t8 (oa rfl) (fun _ => run_mv t8.a) fun u9 t9 => ?_
 refine lv t9 (oa rfl) (fun _ => idx_24 ad n c2 j _ _ _ _ _ (by rw [← hA2]; exact t9.a) t9.a hjn) fun u10 t10 => ?_
 refine lv t10 (oa rfl) (fun _ => lod_3 _ _ _ _ _ _ t10.a hc) fun u11 t11 => ?_
 refine lv (v := (.bool false)) t11 (oa rfl) (fun o ho => (gtr_k m 1099511627776 _ _ _ _ t11.a ho).trans (by rw [decide_eq_false h2])) fun u12 t12 => ?_
 refine lv (v := (.bool false)) t12 (oa rfl) (fun _ => run_pick (b := false) t12.a rfl t12.a) fun u13 t13 => ?_
 refine le_ ?_
 exact hk _ t13.m
theorem creg14   (a0 : Act) (h0 : KN 60 a0 [(1, (ptr g))]) (K : Act → World → Prop)
  (hk : ∀ a', KN 60 a' [(2, (.int .i64 2))] → K a' W) : Code.wp Tryd.prog (.region 14 (opsR 14 Tryd.f38.body) false) (QN K) a0 W := by
 refine wr ?_
 have t0 := h0.l
 refine lv (v := (.int .i64 2)) t0 (oa rfl) (fun _ => run_assign' rfl) fun u1 t1 => ?_
 refine le_ ?_
 exact hk _ t1.m
theorem creg9  (A2 : Option Addr) (n c2 j : Nat) (hj : j ≤ 1000) (a0 : Act) (h0 : KN 60 a0 [(1, (ptr g)), (3, (.slice A2 n c2)), (4, (.int .i64 (j : Int)))]) (K : Act → World → Prop)
  (hk : ∀ a', KN 60 a' [(4, (.int .i64 ((j + 1 : Nat) : Int))), (3, (.slice A2 n c2)), (1, (ptr g))] → K a' W) : Code.wp Tryd.prog (.region 9 (opsR 9 Tryd.f38.body) false) (QN K) a0 W := by
 refine wr ?_
 have t0 := h0.l
 refine lv t0 (oa rfl) (fun _ => run_mv t0.a) fun u1 t1 => ?_
 refine lv (v := (.int .i64 ((j + 1 : Nat) : Int))) t1 (oa rfl) (fun _ => inc_3 j _ _ _ _ (by omega) t1.a) fun u2 t2 => ?_
 refine lv t2 (oa rfl) (fun _ => run_assign' t2.a) fun u3 t3 => ?_
 refine le_ ?_
 exact hk _ t3.m
theorem creg15   (a0 : Act) (h0 : KN 60 a0 [(1, (ptr g))]) (K : Act → World → Prop)
  (hk : ∀ a', KN 60 a' [(2, (.int .i64 0))] → K a' W) : Code.wp Tryd.prog (.region 15 (opsR 15 Tryd.f38.body) false) (QN K) a0 W := by
 refine wr ?_
 have t0 := h0.l
 refine lv (v := (.int .i64 0)) t0 (oa rfl) (fun _ => run_assign' rfl) fun u1 t1 => ?_
 refine le_ ?_
 exact hk _ t1.m
end
def loI (j : Nat) : Int := if j = 0 ∨ j = 3 then -1 else 0
theorem check_bad {a : AskP} (hw : wordS a.x0 ≠ []) (hs : ¬ (a.x23 < 0 ∨ 2 < a.x23)) {j : Nat} {m : Int} (hm : ([a.x3, a.x11, a.x15, a.x18, a.x20, a.x21] ++ a.x22)[j]? = some m) (h : m < loI j ∨ 1099511627776 < m) : checkS a = 2 := by
 unfold checkS
 rw [if_neg hw, if_neg hs, if_neg]
 rintro ⟨h0, h1, h2, h3, h4, h5, h6⟩
 simp only [most] at h0 h1 h2 h3 h4 h5 h6
 match j, hm, h with
 | 0, hm, h => obtain rfl := Option.some.inj hm; simp [loI] at h; omega
 | 1, hm, h => obtain rfl := Option.some.inj hm; simp [loI] at h; omega
 | 2, hm, h => obtain rfl := Option.some.inj hm; simp [loI] at h; omega
 | 3, hm, h => obtain rfl := Option.some.inj hm; simp [loI] at h; omega
 | 4, hm, h => obtain rfl := Option.some.inj hm; simp [loI] at h; omega
 | 5, hm, h => obtain rfl := Option.some.inj hm; simp [loI] at h; omega
 | j + 6, hm, h =>
  have hm2 : a.x22[j]? = some m := hm
  have := h6 m (List.mem_of_getElem? hm2)
  have e : loI (j + 6) = 0 := by unfold loI; rw [if_neg (by omega)]
  rw [e] at h
  omega
theorem check_good {a : AskP} (hw : wordS a.x0 ≠ []) (hs : ¬ (a.x23 < 0 ∨ 2 < a.x23)) (h : ∀ (i : Nat) m, ([a.x3, a.x11, a.x15, a.x18, a.x20, a.x21] ++ a.x22)[i]? = some m → loI i ≤ m ∧ m ≤ 1099511627776) : checkS a = 0 := by
 unfold checkS
 rw [if_neg hw, if_neg hs, if_pos]
 simp only [most]
 have q0 := h 0 a.x3 rfl
 have q1 := h 1 a.x11 rfl
 have q2 := h 2 a.x15 rfl
 have q3 := h 3 a.x18 rfl
 have q4 := h 4 a.x20 rfl
 have q5 := h 5 a.x21 rfl
 simp [loI] at q0 q1 q2 q3 q4 q5
 refine ⟨q0, q1, q2, q3, q4, q5, fun n hn => ?_⟩
 obtain ⟨i, hi, rfl⟩ := List.getElem_of_mem hn
 have := h (i + 6) a.x22[i] (by show a.x22[i]? = _; exact List.getElem?_eq_getElem hi)
 have e : loI (i + 6) = 0 := by unfold loI; rw [if_neg (by omega)]
 rw [e] at this
 exact this
section
variable {cs : Array Value} {a : AskP} {A5 A9 A10 A19 A22 : Option Addr} {c5 c9 c10 c19 c22 : Nat} (hC : Cells cs a A5 A9 A10 A19 A22 c5 c9 c10 c19 c22) {g : Nat} {w W : World} (TW : OneAt w g cs a W) (sa : AskS a)
include hC TW sa
theorem cbody  (e0 : cs[0]? = some (.int .i64 a.x0)) (a0 : Act) (h0 : KN 60 a0 [(1, ptr g)]) :
  Code.wp Tryd.prog (sndC (Tryd.f38.body.getD .skip)) (QR (fun _ _ => False) fun a' W' => KN 60 a' [(2, .int .i64 (checkS a))] ∧ Below w.heap.size w W') a0 W := by
 have hcode : sndC (Tryd.f38.body.getD .skip) = .seq (.seq (.region 1 (opsR 1 Tryd.f38.body) false) (.cond (.tmp 9) (.seq (.region 2 (opsR 2 Tryd.f38.body) false) (.ret)) (.skip))) (.seq (.seq (.region 3 (opsR 3 Tryd.f38.body) false) (.cond (.tmp 17) (.seq (.region 4 (opsR 4 Tryd.f38.body) false) (.ret)) (.skip))) (.seq (.region 5 (opsR 5 Tryd.f38.body) false) (.seq (.region 6 (opsR 6 Tryd.f38.body) false) (.seq (.seq (.region 7 (opsR 7 Tryd.f38.body) false) (.block 0 (.loop (.seq (.seq (.region 8 (opsR 8 Tryd.f38.body) false) (.cond (.tmp 38) (.skip) (.exit 0))) (.seq (.block 1 (.seq (.region 10 (opsR 10 Tryd.f38.body) false) (.seq (.seq (.region 11 (opsR 11 Tryd.f38.body) false) (.cond (.tmp 46) (.region 12 (opsR 12 Tryd.f38.body) false) (.skip))) (.seq (.region 13 (opsR 13 Tryd.f38.body) false) (.cond (.tmp 59) (.seq (.region 14 (opsR 14 Tryd.f38.body) false) (.ret)) (.skip)))))) (.region 9 (opsR 9 Tryd.f38.body) false)))))) (.seq (.region 15 (opsR 15 Tryd.f38.body) false) (.ret)))))) := by kernel_rfl
 rw [hcode]
 clear hcode
 refine wp_seq (wp_seq (qm (creg1 hC TW sa e0 a0 h0 _ fun a1 W1 T1 h1 => ?_)))
 refine wp_cond (t := decide (wordS a.x0 = [])) (h1.at (by simp)) ?_
 by_cases hw : wordS a.x0 = []
 ·rw [decide_eq_true hw, if_pos rfl]
  refine wp_seq (qm (creg2 hC T1 sa a1 (h1.mono (by simp)) _ fun a2 h2 => ?_))
  refine wp_ret ?_
  rw [show checkS a = 19 from by unfold checkS; rw [if_pos hw]]
  exact ⟨h2, T1.2⟩
 ·rw [decide_eq_false hw, if_neg (by simp)]
  refine wp_skip ?_
  have k1 := h1.mono (l' := [(1, ptr g)]) (by simp)
  have bad4 : ∀ a2, KN 60 a2 [(17, .bool true), (1, ptr g)] → (a.x23 < 0 ∨ 2 < a.x23) → Code.wp Tryd.prog (.seq (.region 4 (opsR 4 Tryd.f38.body) false) .ret) (QR (fun _ _ => False) fun a' W' => KN 60 a' [(2, .int .i64 (checkS a))] ∧ Below w.heap.size w W') a2 W1 := by
   intro a2 h2 hs
   refine wp_seq (qm (creg4 hC T1 sa a2 (h2.mono (by simp)) _ fun a3 h3 => ?_))
   refine wp_ret ?_
   rw [show checkS a = 4 from by unfold checkS; rw [if_neg hw, if_pos hs]]
   exact ⟨h3, T1.2⟩
  by_cases hs1 : a.x23 < 0
  ·refine wp_seq (wp_seq (qm (creg3a hC T1 sa hs1 a1 k1 _ fun a2 h2 => ?_)))
   refine wp_cond (t := true) (h2.at (by simp)) ?_
   rw [if_pos rfl]
   exact Code.wp_mono (fun e a' w' hq => by cases e <;> first | exact hq | exact (hq : False).elim) (bad4 a2 h2 (.inl hs1))
  ·by_cases hs2 : 2 < a.x23
   ·refine wp_seq (wp_seq (qm (creg3b hC T1 sa hs1 hs2 a1 k1 _ fun a2 h2 => ?_)))
    refine wp_cond (t := true) (h2.at (by simp)) ?_
    rw [if_pos rfl]
    exact Code.wp_mono (fun e a' w' hq => by cases e <;> first | exact hq | exact (hq : False).elim) (bad4 a2 h2 (.inr hs2))
   ·refine wp_seq (wp_seq (qm (creg3c hC T1 sa hs1 hs2 a1 k1 _ fun a2 h2 => ?_)))
    refine wp_cond (t := false) (h2.at (by simp)) ?_
    rw [if_neg (by simp)]
    refine wp_skip ?_
    have hs : ¬ (a.x23 < 0 ∨ 2 < a.x23) := by omega
    refine creg56 hC T1 sa a2 (h2.mono (by simp)) _ (fun a3 W3 A2 c2 T3 C3 h3 => ?_) _ _ (fun _ _ h => h)
    generalize hn : 6 + a.x22.length = n at C3 h3
    have hnl : ([a.x3, a.x11, a.x15, a.x18, a.x20, a.x21] ++ a.x22).length = n := by rw [← hn]; simp only [List.length_append, List.length_cons, List.length_nil]
    have hn66 : n ≤ 66 := by have := sa.l22; omega
    have lv : ∀ (i : Nat) m, ([a.x3, a.x11, a.x15, a.x18, a.x20, a.x21] ++ a.x22)[i]? = some m → ((m < loI i ∨ 1099511627776 < m) → checkS a = 2) := fun i m hm h => check_bad hw hs hm h
    have lg := check_good (a := a) hw hs
    generalize [a.x3, a.x11, a.x15, a.x18, a.x20, a.x21] ++ a.x22 = L at C3 hnl lv lg
    refine wp_seq (wp_seq (qm (creg7 hC T3 sa A2 n c2 a3 (h3.mono (by simp)) _ fun a4 h4 => ?_)))
    refine wp_block (wp_loop (fun x X => ∃ j : Nat, j ≤ n ∧ KN 60 x [(1, ptr g), (3, .slice A2 n c2), (4, .int .i64 (j : Int))] ∧ X = W3 ∧ ∀ (i : Nat) m, i < j → L[i]? = some m → loI i ≤ m ∧ m ≤ 1099511627776) (fun x _ => n - (intOf (x.eval (.tmp 4))).toNat) ⟨0, Nat.zero_le _, h4.mono (by simp), rfl, fun i m h => by omega⟩ ?_)
    clear h4 h3 h2 h1 h0 k1
    rintro x X ⟨j, hj, s0, rfl, hok⟩
    have hmu : (intOf (x.eval (.tmp 4))).toNat = j := by rw [s0.at (n := 4) (v := .int .i64 j) (by simp)]; simp [intOf]
    simp only [hmu]
    refine wp_seq (wp_seq (qm (creg8 hC T3 sa A2 n c2 j (by omega) x s0 _ fun a5 h5 => ?_)))
    refine wp_cond (t := decide ((j : Int) < (n : Int))) (h5.at (by simp)) ?_
    by_cases hjn : j < n
    ·rw [decide_eq_true (show (j : Int) < (n : Int) by omega), if_pos rfl]
     refine wp_skip ?_
     obtain ⟨m, hm⟩ : ∃ m, L[j]? = some m := ⟨_, List.getElem?_eq_getElem (by omega)⟩
     obtain ⟨ad, hA2, hc⟩ := Kd.at_int C3 (j : Int) (by omega) (by omega)
     rw [Int.toNat_natCast, show rd L (j : Int) = m from by unfold rd; rw [Int.toNat_natCast, List.getD_eq_getElem?_getD, hm]; rfl] at hc
     refine wp_seq (wp_block (wp_seq (qm (creg10 hC T3 sa A2 n c2 j (by omega) a5 (h5.mono (by simp)) _ fun a6 h6 => ?_))))
     have tail : ∀ a7, KN 60 a7 [(1, ptr g), (3, .slice A2 n c2), (4, .int .i64 (j : Int)), (5, .int .i64 (loI j))] → Code.wp Tryd.prog (.seq (.region 13 (opsR 13 Tryd.f38.body) false) (.cond (.tmp 59) (.seq (.region 14 (opsR 14 Tryd.f38.body) false) (.ret)) (.skip))) (Exit.inBlock 1 (Exit.then (Code.wp Tryd.prog (.region 9 (opsR 9 Tryd.f38.body) false) (Exit.then (fun a' w' => (∃ j, j ≤ n ∧ KN 60 a' [(1, ptr g), (3, .slice A2 n c2), (4, .int .i64 (j : Int))] ∧ w' = X ∧ ∀ (i : Nat) m, i < j → L[i]? = some m → loI i ≤ m ∧ m ≤ 1099511627776) ∧ n - (intOf (a'.eval (.tmp 4))).toNat < n - j) (Exit.inBlock 0 (Exit.then (Code.wp Tryd.prog (.seq (.region 15 (opsR 15 Tryd.f38.body) false) .ret) (QR (fun _ _ => False) fun a' W' => KN 60 a' [(2, .int .i64 (checkS a))] ∧ Below w.heap.size w W')) (QR (fun _ _ => False) fun a' W' => KN 60 a' [(2, .int .i64 (checkS a))] ∧ Below w.heap.size w W'))))) (Exit.then (fun a' w' => (∃ j, j ≤ n ∧ KN 60 a' [(1, ptr g), (3, .slice A2 n c2), (4, .int .i64 (j : Int))] ∧ w' = X ∧ ∀ (i : Nat) m, i < j → L[i]? = some m → loI i ≤ m ∧ m ≤ 1099511627776) ∧ n - (intOf (a'.eval (.tmp 4))).toNat < n - j) (Exit.inBlock 0 (Exit.then (Code.wp Tryd.prog (.seq (.region 15 (opsR 15 Tryd.f38.body) false) .ret) (QR (fun _ _ => False) fun a' W' => KN 60 a' [(2, .int .i64 (checkS a))] ∧ Below w.heap.size w W')) (QR (fun _ _ => False) fun a' W' => KN 60 a' [(2, .int .i64 (checkS a))] ∧ Below w.heap.size w W')))))) a7 X := by
      intro a7 h7
      by_cases g1 : m < loI j
      ·refine wp_seq (qm (creg13a hC T3 sa A2 n c2 j (by omega) ad hA2 hjn m (loI j) hc g1 a7 h7 _ fun a8 h8 => ?_))
       refine wp_cond (t := true) (h8.at (by simp)) ?_
       rw [if_pos rfl]
       refine wp_seq (qm (creg14 hC T3 sa a8 (h8.mono (by simp)) _ fun a9 h9 => ?_))
       refine wp_ret ?_
       rw [lv j m hm (.inl g1)]
       exact ⟨h9, T3.2⟩
      ·by_cases g2 : 1099511627776 < m
       ·refine wp_seq (qm (creg13b hC T3 sa A2 n c2 j (by omega) ad hA2 hjn m (loI j) hc g1 g2 a7 h7 _ fun a8 h8 => ?_))
        refine wp_cond (t := true) (h8.at (by simp)) ?_
        rw [if_pos rfl]
        refine wp_seq (qm (creg14 hC T3 sa a8 (h8.mono (by simp)) _ fun a9 h9 => ?_))
        refine wp_ret ?_
        rw [lv j m hm (.inr g2)]
        exact ⟨h9, T3.2⟩
       ·refine wp_seq (qm (creg13c hC T3 sa A2 n c2 j (by omega) ad hA2 hjn m (loI j) hc g1 g2 a7 h7 _ fun a8 h8 => ?_))
        refine wp_cond (t := false) (h8.at (by simp)) ?_
        rw [if_neg (by simp)]
        refine wp_skip ?_
        refine qm (creg9 hC T3 sa A2 n c2 j (by omega) a8 (h8.mono (by simp)) _ fun a9 h9 => ?_)
        have hm2 : (intOf (a9.eval (.tmp 4))).toNat = j + 1 := by rw [h9.at (n := 4) (v := .int .i64 ((j + 1 : Nat) : Int)) (by simp)]; simp only [intOf]; omega
        refine ⟨⟨j + 1, by omega, h9.mono (by simp), rfl, fun i q hi hq => ?_⟩, by simp only [hm2]; omega⟩
        by_cases hij : i = j
        ·subst hij
         rw [hm] at hq
         obtain rfl := Option.some.inj hq
         omega
        ·exact hok i q (by omega) hq
     by_cases j0 : (j : Int) = 0
     ·refine wp_seq (wp_seq (qm (creg11a hC T3 sa A2 n c2 j (by omega) j0 a6 (h6.mono (by simp)) _ fun a7 h7 => ?_)))
      refine wp_cond (t := true) (h7.at (by simp)) ?_
      rw [if_pos rfl]
      refine qm (creg12 hC T3 sa A2 n c2 j (by omega) a7 (h7.mono (by simp)) _ fun a8 h8 => ?_)
      refine tail a8 ?_
      rw [show loI j = -1 from by unfold loI; rw [if_pos (by omega)]]
      exact h8.mono (by simp)
     ·by_cases j3 : (j : Int) = 3
      ·refine wp_seq (wp_seq (qm (creg11b hC T3 sa A2 n c2 j (by omega) j0 j3 a6 (h6.mono (by simp)) _ fun a7 h7 => ?_)))
       refine wp_cond (t := true) (h7.at (by simp)) ?_
       rw [if_pos rfl]
       refine qm (creg12 hC T3 sa A2 n c2 j (by omega) a7 (h7.mono (by simp)) _ fun a8 h8 => ?_)
       refine tail a8 ?_
       rw [show loI j = -1 from by unfold loI; rw [if_pos (by omega)]]
       exact h8.mono (by simp)
      ·refine wp_seq (wp_seq (qm (creg11c hC T3 sa A2 n c2 j (by omega) j0 j3 a6 (h6.mono (by simp)) _ fun a7 h7 => ?_)))
       refine wp_cond (t := false) (h7.at (by simp)) ?_
       rw [if_neg (by simp)]
       refine wp_skip ?_
       refine tail a7 ?_
       rw [show loI j = 0 from by unfold loI; rw [if_neg (by omega)]]
       exact h7.mono (by simp)
    ·rw [decide_eq_false (show ¬ (j : Int) < (n : Int) by omega), if_neg (by simp)]
     refine wp_exit ?_
     refine wp_seq (qm (creg15 hC T3 sa a5 (h5.mono (by simp)) _ fun a6 h6 => ?_))
     refine wp_ret ?_
     rw [lg (fun i m hm => hok i m (by have := (List.getElem?_eq_some_iff.1 hm).1; omega) hm)]
     exact ⟨h6, T3.2⟩
end
theorem rcheck_calls (cs : Array Value) (ok : Nat → Prop) (nl : Prop) (a : AskP) (w : World) (hA : AskC w ok nl cs a) (sa : AskS a) :
  Calls Tryd.prog 38 #[.agg cs] w fun e w' => e = .returned (.int .i64 (checkS a)) ∧ Below w.heap.size w w' := by
 obtain ⟨A5, A9, A10, A19, A22, c5, c9, c10, c19, c22, hC⟩ := Cells.of hA
 obtain ⟨v0, e0, hv0⟩ := hA.get 0 (by decide)
 obtain rfl : v0 = .int .i64 a.x0 := hv0
 have TW := Lib.hid (OneAt.start hA)
 clear hA
 go_enter Tryd.func38, Tryd.ntmps38
 refine wp_seq_k fun K hK => ?_
 replace hK := Lib.hid hK
 go_wp2_with fail
 refine hK.out _ _ (Code.wp_mono ?_ (cbody hC TW.out sa e0 _ ⟨by rfl, rfl, List.forall_mem_cons.2 ⟨⟨(by decide : (1 : Nat) < 60), rfl⟩, fun _ h => nomatch h⟩⟩))
 intro e a' W' hq
 cases e with
 | ret =>
  obtain ⟨k, hb⟩ := hq
  refine bodyPost_ret (results_tmp rfl _ _ _) k.2.1 ?_
  rw [show a'.tmps.getD 2 undef = .int .i64 (checkS a) from k.at (n := 2) (by simp)]
  exact ⟨rfl, hb⟩
 | _ => exact (hq : False).elim
end Chk
end Go.Proofs.YtjkehapbemjnpaaDoor
