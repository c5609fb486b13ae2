/- The reference's lines, walked by hand: a region at a time, whatever the frame holds elsewhere; each condition stands in its theorem. -/
import Derived.Test.YtjkehapbemjnpaaDoorVTell33
import Derived.Test.YtjkehapbemjnpaaDoorVRSame
import Derived.Test.YtjkehapbemjnpaaDoorVRKn
import Derived.Great.BuildSlice
set_option maxRecDepth 100000
set_option maxHeartbeats 4000000
namespace Go.Proofs.YtjkehapbemjnpaaDoor
open Go.RowKit Go.Proofs.YtjkehapbemjnpaaDoorW.PrintWords Go.Proofs.YtjkehapbemjnpaaDoorW.PrintLast Go.Proofs.YtjkehapbemjnpaaDoorW.PrintMore Lf Kit Cut Pl Num Chain
set_option linter.unusedVariables false
set_option linter.unusedSimpArgs false
set_option linter.unusedSectionVars false
theorem qm {P : Program} {c : Code} {Q : Exit → Act → World → Prop} {a : Act} {w : World} (h : Code.wp P c (QN fun a w => Q .normal a w) a w) : Code.wp P c Q a w := Code.wp_mono (QN.imp fun _ _ h => h) h
theorem add_s (xs ys : List Int) (hl : xs.length + ys.length ≤ 2000000) (a : Act) (x y : Operand) (W : World) (o : Oper) (hx : a.eval x = .string (strOfNums xs)) (hy : a.eval y = .string (strOfNums ys)) (ho : o.op = .binOp .add 9 x y 9) :
  (execOp a.eval o).run Tryd.prog W = .ok (.value (.string (strOfNums (xs ++ ys)))) W := by
 have hz : ¬ 9223372036854775807 < (strOfNums xs).size + (strOfNums ys).size := by rw [strOfNums_size, strOfNums_size]; omega
 rw [← str_app]
 generalize strOfNums xs = u at *
 generalize strOfNums ys = v at *
 unfold execOp
 simp only [ho, hx, hy]
 go_simp
theorem add_l {xs ys : List Int} {a : Act} {x y : Operand} {W : World} {o : Oper} (ho : o.op = .binOp .add 9 x y 9) (hx : a.eval x = .string (strOfNums xs)) (hy : a.eval y = .string (strOfNums ys)) (hl : xs.length + ys.length ≤ 2000000 := by (try simp only [List.length_append, List.length_cons, List.length_nil]); omega) :
  (execOp a.eval o).run Tryd.prog W = .ok (.value (.string (strOfNums (xs ++ ys)))) W := add_s xs ys hl a x y W o hx hy ho
theorem V_C {k : IntKind} {e b : Nat} {W : World} {ok : Nat → Prop} {A : Option Addr} {n c : Nat} {xs : List Int} (h : Kd.V (Kd.int k) e W b ok (.slice A n c) xs) : n = xs.length ∧ n ≤ c ∧ Kd.C (Kd.int k) W A xs.length xs := by
 obtain ⟨A', c', he, hl, hf⟩ := h
 injection he with h1 h2 h3
 subst h1
 exact ⟨h2, by omega, Kd.F_now hf⟩
structure Cells (cs : Array Value) (a : AskP) (A5 A9 A10 A19 A22 : Option Addr) (c5 c9 c10 c19 c22 : Nat) : Prop where
 e3 : cs[3]? = some (.int .i64 a.x3)
 e5 : cs[5]? = some (.slice A5 a.x5.length c5)
 e6 : cs[6]? = some (.string (strOfNums a.x6))
 e7 : cs[7]? = some (.string (strOfNums a.x7))
 e8 : cs[8]? = some (.string (strOfNums a.x8))
 e9 : cs[9]? = some (.slice A9 a.x9.length c9)
 e10 : cs[10]? = some (.slice A10 a.x10.length c10)
 e11 : cs[11]? = some (.int .i64 a.x11)
 e12 : cs[12]? = some (.string (strOfNums a.x12))
 e13 : cs[13]? = some (.string (strOfNums a.x13))
 e14 : cs[14]? = some (.string (strOfNums a.x14))
 e15 : cs[15]? = some (.int .i64 a.x15)
 e16 : cs[16]? = some (.string (strOfNums a.x16))
 e17 : cs[17]? = some (.string (strOfNums a.x17))
 e18 : cs[18]? = some (.int .i64 a.x18)
 e19 : cs[19]? = some (.slice A19 a.x19.length c19)
 e20 : cs[20]? = some (.int .i64 a.x20)
 e21 : cs[21]? = some (.int .i64 a.x21)
 e22 : cs[22]? = some (.slice A22 a.x22.length c22)
 e23 : cs[23]? = some (.int .i64 a.x23)
theorem Cells.of {w : World} {ok : Nat → Prop} {nl : Prop} {cs : Array Value} {a : AskP} (h : AskC w ok nl cs a) : ∃ A5 A9 A10 A19 A22 c5 c9 c10 c19 c22, Cells cs a A5 A9 A10 A19 A22 c5 c9 c10 c19 c22 := by
 obtain ⟨v5, h5, A5, c5, rfl, _, _⟩ := h.get 5 (by decide)
 obtain ⟨v9, h9, A9, c9, rfl, _, _⟩ := h.get 9 (by decide)
 obtain ⟨v10, h10, A10, c10, rfl, _, _⟩ := h.get 10 (by decide)
 obtain ⟨v19, h19, A19, c19, rfl, _, _⟩ := h.get 19 (by decide)
 obtain ⟨v22, h22, ⟨A22, c22, rfl, _, _⟩, _⟩ := h.get 22 (by decide)
 obtain ⟨v3, h3, rfl⟩ := h.get 3 (by decide)
 obtain ⟨v6, h6, rfl⟩ := h.get 6 (by decide)
 obtain ⟨v7, h7, rfl⟩ := h.get 7 (by decide)
 obtain ⟨v8, h8, rfl⟩ := h.get 8 (by decide)
 obtain ⟨v11, h11, rfl⟩ := h.get 11 (by decide)
 obtain ⟨v12, h12, rfl⟩ := h.get 12 (by decide)
 obtain ⟨v13, h13, rfl⟩ := h.get 13 (by decide)
 obtain ⟨v14, h14, rfl⟩ := h.get 14 (by decide)
 obtain ⟨v15, h15, rfl⟩ := h.get 15 (by decide)
 obtain ⟨v16, h16, rfl⟩ := h.get 16 (by decide)
 obtain ⟨v17, h17, rfl⟩ := h.get 17 (by decide)
 obtain ⟨v18, h18, rfl⟩ := h.get 18 (by decide)
 obtain ⟨v20, h20, rfl⟩ := h.get 20 (by decide)
 obtain ⟨v21, h21, rfl⟩ := h.get 21 (by decide)
 obtain ⟨v23, h23, rfl⟩ := h.get 23 (by decide)
 exact ⟨A5, A9, A10, A19, A22, c5, c9, c10, c19, c22, h3, h5, h6, h7, h8, h9, h10, h11, h12, h13, h14, h15, h16, h17, h18, h19, h20, h21, h22, h23⟩
theorem oct_5 {W : World} {g : Nat} {cs : Array Value} {a : AskP} (h : AskIn W g cs a) {A : Option Addr} {n c : Nat} (hc : cs[5]? = some (.slice A n c)) : n = a.x5.length ∧ n ≤ c ∧ Kd.C (Kd.int .u8) W A a.x5.length a.x5 := V_C (e := 5) (b := 0) (h.2.cell 5 _ hc)
theorem oct_9 {W : World} {g : Nat} {cs : Array Value} {a : AskP} (h : AskIn W g cs a) {A : Option Addr} {n c : Nat} (hc : cs[9]? = some (.slice A n c)) : n = a.x9.length ∧ n ≤ c ∧ Kd.C (Kd.int .u8) W A a.x9.length a.x9 := V_C (e := 5) (b := 0) (h.2.cell 9 _ hc)
theorem oct_10 {W : World} {g : Nat} {cs : Array Value} {a : AskP} (h : AskIn W g cs a) {A : Option Addr} {n c : Nat} (hc : cs[10]? = some (.slice A n c)) : n = a.x10.length ∧ n ≤ c ∧ Kd.C (Kd.int .u8) W A a.x10.length a.x10 := V_C (e := 5) (b := 0) (h.2.cell 10 _ hc)
theorem oct_19 {W : World} {g : Nat} {cs : Array Value} {a : AskP} (h : AskIn W g cs a) {A : Option Addr} {n c : Nat} (hc : cs[19]? = some (.slice A n c)) : n = a.x19.length ∧ n ≤ c ∧ Kd.C (Kd.int .u8) W A a.x19.length a.x19 := V_C (e := 5) (b := 0) (h.2.cell 19 _ hc)
section
variable {cs : Array Value} {a : AskP} {A5 A9 A10 A19 A22 : Option Addr} {c5 c9 c10 c19 c22 : Nat} (hC : Cells cs a A5 A9 A10 A19 A22 c5 c9 c10 c19 c22) {g : Nat} {w W : World} (TW : OneAt w g cs a W) (sa : AskS a)
include hC TW sa
theorem lreg1   (a0 : Act) (h0 : KN 130 a0 [(1, (ptr g))]) (K : Act → World → Prop)
  (hk : ∀ a' W', OneAt w g cs a W' → KN 130 a' [(3, (.string (strOfNums (rowL [114, 97, 110, 103, 101] (a.x6) ++ rowL [109, 97, 116, 99, 104] (a.x7) ++ rowL [110, 111, 110, 101] (a.x8) ++ rowL [112, 114, 101, 102, 105, 120] (a.x12) ++ rowL [115, 105, 103, 110] (a.x13) ++ rowL [97, 102, 116, 101, 114] (a.x14))))), (1, (ptr g))] → K a' W') : Code.wp Tryd.prog (.region 1 (opsR 1 Tryd.f39.body) true) (QN K) a0 W := by
 have q6 := sa.l6
 have q7 := sa.l7
 have q8 := sa.l8
 have q12 := sa.l12
 have q13 := sa.l13
 have q14 := sa.l14
 refine sq (S := fun W => W.heap[g]? = some (.cells cs 26 (0, 0))) 24 TW.drew.1.1 fun S0 => ?_
 replace TW := TW.drew
 generalize W.drew = W0 at *
 have t0 := h0.l
 refine pq t0 0 (oa rfl) (fun _ _ => (fld 6 (by decide)) _ _ g _ _ t0.a) fun u1 t1 => ?_
 refine pq t1 3 (oa rfl) (fun _ _ => (fld 7 (by decide)) _ _ g _ _ t1.a) fun u2 t2 => ?_
 refine pq t2 7 (oa rfl) (fun _ _ => (fld 8 (by decide)) _ _ g _ _ t2.a) fun u3 t3 => ?_
 refine pq t3 11 (oa rfl) (fun _ _ => (fld 12 (by decide)) _ _ g _ _ t3.a) fun u4 t4 => ?_
 refine pq t4 15 (oa rfl) (fun _ _ => (fld 13 (by decide)) _ _ g _ _ t4.a) fun u5 t5 => ?_
 refine pq t5 19 (oa rfl) (fun _ _ => (fld 14 (by decide)) _ _ g _ _ t5.a) fun u6 t6 => ?_
 refine tq t6 1 (oa rfl) S0 (fun _ _ h => lod_9 _ _ _ _ _ _ t6.a ((blk_cell h 6).trans hC.e6)) fun u7 t7 => ?_
 refine tq t7 4 (oa rfl) S0 (fun _ _ h => lod_9 _ _ _ _ _ _ t7.a ((blk_cell h 7).trans hC.e7)) fun u8 t8 => ?_
 refine tq t8 8 (oa rfl) S0 (fun _ _ h => lod_9 _ _ _ _ _ _ t8.a ((blk_cell h 8).trans hC.e8)) fun u9 t9 => ?_
 refine tq t9 12 (oa rfl) S0 (fun _ _ h => lod_9 _ _ _ _ _ _ t9.a ((blk_cell h 12).trans hC.e12)) fun u10 t10 => ?_
 refine tq t10 16 (oa rfl) S0 (fun _ _ h => lod_9 _ _ _ _ _ _ t10.a ((blk_cell h 13).trans hC.e13)) fun u11 t11 => ?_
 refine tq t11 20 (oa rfl) S0 (fun _ _ h => lod_9 _ _ _ _ _ _ t11.a ((blk_cell h 14).trans hC.e14)) fun u12 t12 => ?_
 refine cq t12 2 Tryd.func53 (oa rfl) (rrow_calls [114, 97, 110, 103, 101] (a.x6) ⟨#[114, 97, 110, 103, 101]⟩ rfl (by decide) (by omega) W0) ?_
 rintro e X2 ⟨rfl, nd2, rfl⟩
 replace TW := TW.drewN nd2
 generalize (W0.drewN nd2) = X2 at *
 have b2 := rowL_len [114, 97, 110, 103, 101] (a.x6) (by decide)
 refine ⟨_, rfl, TW.1.1, fun u13 t13 S0 => ?_⟩
 refine cq t13 5 Tryd.func53 (oa rfl) (rrow_calls [109, 97, 116, 99, 104] (a.x7) ⟨#[109, 97, 116, 99, 104]⟩ rfl (by decide) (by omega) X2) ?_
 rintro e X5 ⟨rfl, nd5, rfl⟩
 replace TW := TW.drewN nd5
 generalize (X2.drewN nd5) = X5 at *
 have b5 := rowL_len [109, 97, 116, 99, 104] (a.x7) (by decide)
 refine ⟨_, rfl, TW.1.1, fun u14 t14 S0 => ?_⟩
 refine pq t14 6 (oa rfl) (fun _ _ ho => add_l ho t14.a t14.a) fun u15 t15 => ?_
 refine cq t15 9 Tryd.func53 (oa rfl) (rrow_calls [110, 111, 110, 101] (a.x8) ⟨#[110, 111, 110, 101]⟩ rfl (by decide) (by omega) X5) ?_
 rintro e X9 ⟨rfl, nd9, rfl⟩
 replace TW := TW.drewN nd9
 generalize (X5.drewN nd9) = X9 at *
 have b9 := rowL_len [110, 111, 110, 101] (a.x8) (by decide)
 refine ⟨_, rfl, TW.1.1, fun u16 t16 S0 => ?_⟩
 refine pq t16 10 (oa rfl) (fun _ _ ho => add_l ho t16.a t16.a) fun u17 t17 => ?_
 refine cq t17 13 Tryd.func53 (oa rfl) (rrow_calls [112, 114, 101, 102, 105, 120] (a.x12) ⟨#[112, 114, 101, 102, 105, 120]⟩ rfl (by decide) (by omega) X9) ?_
 rintro e X13 ⟨rfl, nd13, rfl⟩
 replace TW := TW.drewN nd13
 generalize (X9.drewN nd13) = X13 at *
 have b13 := rowL_len [112, 114, 101, 102, 105, 120] (a.x12) (by decide)
 refine ⟨_, rfl, TW.1.1, fun u18 t18 S0 => ?_⟩
 refine pq t18 14 (oa rfl) (fun _ _ ho => add_l ho t18.a t18.a) fun u19 t19 => ?_
 refine cq t19 17 Tryd.func53 (oa rfl) (rrow_calls [115, 105, 103, 110] (a.x13) ⟨#[115, 105, 103, 110]⟩ rfl (by decide) (by omega) X13) ?_
 rintro e X17 ⟨rfl, nd17, rfl⟩
 replace TW := TW.drewN nd17
 generalize (X13.drewN nd17) = X17 at *
 have b17 := rowL_len [115, 105, 103, 110] (a.x13) (by decide)
 refine ⟨_, rfl, TW.1.1, fun u20 t20 S0 => ?_⟩
 refine pq t20 18 (oa rfl) (fun _ _ ho => add_l ho t20.a t20.a) fun u21 t21 => ?_
 refine cq t21 21 Tryd.func53 (oa rfl) (rrow_calls [97, 102, 116, 101, 114] (a.x14) ⟨#[97, 102, 116, 101, 114]⟩ rfl (by decide) (by omega) X17) ?_
 rintro e X21 ⟨rfl, nd21, rfl⟩
 replace TW := TW.drewN nd21
 generalize (X17.drewN nd21) = X21 at *
 have b21 := rowL_len [97, 102, 116, 101, 114] (a.x14) (by decide)
 refine ⟨_, rfl, TW.1.1, fun u22 t22 S0 => ?_⟩
 refine pq t22 22 (oa rfl) (fun _ _ ho => add_l ho t22.a t22.a) fun u23 t23 => ?_
 refine pq t23 23 (oa rfl) (fun _ _ => run_assign' t23.a) fun u24 t24 => ?_
 exact dq (hk _ _ TW t24.m)
theorem lreg2  (S : List Int) (hS : S.length ≤ 100000) (a0 : Act) (h0 : KN 130 a0 [(1, (ptr g)), (3, (.string (strOfNums (S))))]) (K : Act → World → Prop)
  (hk : ∀ a' W', OneAt w g cs a W' → KN 130 a' [(3, (.string (strOfNums (S ++ rowL [111, 119, 110] (Six.enc a.x5) ++ rowL [109, 101, 116, 97] (Six.enc a.x9) ++ rowL [116, 97, 103, 115] (Six.enc a.x10) ++ rowL [107, 101, 121] (Six.enc a.x19))))), (1, (ptr g))] → K a' W') : Code.wp Tryd.prog (.region 2 (opsR 2 Tryd.f39.body) true) (QN K) a0 W := by
 have q5 := sa.l5
 have q9 := sa.l9
 have q10 := sa.l10
 have q19 := sa.l19
 refine sq (S := fun W => W.heap[g]? = some (.cells cs 26 (0, 0))) 22 TW.drew.1.1 fun S0 => ?_
 replace TW := TW.drew
 generalize W.drew = W0 at *
 have t0 := h0.l
 refine pq t0 0 (oa rfl) (fun _ _ => run_mv t0.a) fun u1 t1 => ?_
 refine pq t1 1 (oa rfl) (fun _ _ => (fld 5 (by decide)) _ _ g _ _ t1.a) fun u2 t2 => ?_
 refine pq t2 6 (oa rfl) (fun _ _ => (fld 9 (by decide)) _ _ g _ _ t2.a) fun u3 t3 => ?_
 refine pq t3 11 (oa rfl) (fun _ _ => (fld 10 (by decide)) _ _ g _ _ t3.a) fun u4 t4 => ?_
 refine pq t4 16 (oa rfl) (fun _ _ => (fld 19 (by decide)) _ _ g _ _ t4.a) fun u5 t5 => ?_
 refine tq t5 2 (oa rfl) S0 (fun _ _ h => lod_22 _ _ _ _ _ _ t5.a ((blk_cell h 5).trans hC.e5)) fun u6 t6 => ?_
 refine tq t6 7 (oa rfl) S0 (fun _ _ h => lod_22 _ _ _ _ _ _ t6.a ((blk_cell h 9).trans hC.e9)) fun u7 t7 => ?_
 refine tq t7 12 (oa rfl) S0 (fun _ _ h => lod_22 _ _ _ _ _ _ t7.a ((blk_cell h 10).trans hC.e10)) fun u8 t8 => ?_
 refine tq t8 17 (oa rfl) S0 (fun _ _ h => lod_22 _ _ _ _ _ _ t8.a ((blk_cell h 19).trans hC.e19)) fun u9 t9 => ?_
 refine cq t9 3 Tryd.func54 (oa rfl) (rput_calls A5 c5 a.x5 W0 (oct_5 TW.1 hC.e5).2.2 (oct_5 TW.1 hC.e5).2.1 sa.b.b5.1 (by have := sa.l5; omega)) ?_
 rintro e X3 ⟨rfl, B3⟩
 replace TW := TW.below B3
 have b3 := (Six.enc_len a.x5).2
 refine ⟨_, rfl, TW.1.1, fun u10 t10 S0 => ?_⟩
 refine cq t10 4 Tryd.func53 (oa rfl) (rrow_calls [111, 119, 110] (Six.enc a.x5) ⟨#[111, 119, 110]⟩ rfl (by decide) (by omega) X3) ?_
 rintro e X4 ⟨rfl, nd4, rfl⟩
 replace TW := TW.drewN nd4
 generalize (X3.drewN nd4) = X4 at *
 have b4 := rowL_len [111, 119, 110] (Six.enc a.x5) (by decide)
 refine ⟨_, rfl, TW.1.1, fun u11 t11 S0 => ?_⟩
 refine pq t11 5 (oa rfl) (fun _ _ ho => add_l ho t11.a t11.a) fun u12 t12 => ?_
 refine cq t12 8 Tryd.func54 (oa rfl) (rput_calls A9 c9 a.x9 X4 (oct_9 TW.1 hC.e9).2.2 (oct_9 TW.1 hC.e9).2.1 sa.b.b9.1 (by have := sa.l9; omega)) ?_
 rintro e X8 ⟨rfl, B8⟩
 replace TW := TW.below B8
 have b8 := (Six.enc_len a.x9).2
 refine ⟨_, rfl, TW.1.1, fun u13 t13 S0 => ?_⟩
 refine cq t13 9 Tryd.func53 (oa rfl) (rrow_calls [109, 101, 116, 97] (Six.enc a.x9) ⟨#[109, 101, 116, 97]⟩ rfl (by decide) (by omega) X8) ?_
 rintro e X9 ⟨rfl, nd9, rfl⟩
 replace TW := TW.drewN nd9
 generalize (X8.drewN nd9) = X9 at *
 have b9 := rowL_len [109, 101, 116, 97] (Six.enc a.x9) (by decide)
 refine ⟨_, rfl, TW.1.1, fun u14 t14 S0 => ?_⟩
 refine pq t14 10 (oa rfl) (fun _ _ ho => add_l ho t14.a t14.a) fun u15 t15 => ?_
 refine cq t15 13 Tryd.func54 (oa rfl) (rput_calls A10 c10 a.x10 X9 (oct_10 TW.1 hC.e10).2.2 (oct_10 TW.1 hC.e10).2.1 sa.b.b10.1 (by have := sa.l10; omega)) ?_
 rintro e X13 ⟨rfl, B13⟩
 replace TW := TW.below B13
 have b13 := (Six.enc_len a.x10).2
 refine ⟨_, rfl, TW.1.1, fun u16 t16 S0 => ?_⟩
 refine cq t16 14 Tryd.func53 (oa rfl) (rrow_calls [116, 97, 103, 115] (Six.enc a.x10) ⟨#[116, 97, 103, 115]⟩ rfl (by decide) (by omega) X13) ?_
 rintro e X14 ⟨rfl, nd14, rfl⟩
 replace TW := TW.drewN nd14
 generalize (X13.drewN nd14) = X14 at *
 have b14 := rowL_len [116, 97, 103, 115] (Six.enc a.x10) (by decide)
 refine ⟨_, rfl, TW.1.1, fun u17 t17 S0 => ?_⟩
 refine pq t17 15 (oa rfl) (fun _ _ ho => add_l ho t17.a t17.a) fun u18 t18 => ?_
 refine cq t18 18 Tryd.func54 (oa rfl) (rput_calls A19 c19 a.x19 X14 (oct_19 TW.1 hC.e19).2.2 (oct_19 TW.1 hC.e19).2.1 sa.b.b19.1 (by have := sa.l19; omega)) ?_
 rintro e X18 ⟨rfl, B18⟩
 replace TW := TW.below B18
 have b18 := (Six.enc_len a.x19).2
 refine ⟨_, rfl, TW.1.1, fun u19 t19 S0 => ?_⟩
 refine cq t19 19 Tryd.func53 (oa rfl) (rrow_calls [107, 101, 121] (Six.enc a.x19) ⟨#[107, 101, 121]⟩ rfl (by decide) (by omega) X18) ?_
 rintro e X19 ⟨rfl, nd19, rfl⟩
 replace TW := TW.drewN nd19
 generalize (X18.drewN nd19) = X19 at *
 have b19 := rowL_len [107, 101, 121] (Six.enc a.x19) (by decide)
 refine ⟨_, rfl, TW.1.1, fun u20 t20 S0 => ?_⟩
 refine pq t20 20 (oa rfl) (fun _ _ ho => add_l ho t20.a t20.a) fun u21 t21 => ?_
 refine pq t21 21 (oa rfl) (fun _ _ => run_assign' t21.a) fun u22 t22 => ?_
 exact dq (hk _ _ TW t22.m)
theorem lreg3  (S : List Int) (hS : S.length ≤ 200000) (h3 : (a.x3 = (-1) ∨ 0 ≤ a.x3) ∧ a.x3 ≤ 9223372036854775807) (l3 : (told a.x3 (-1)).length ≤ 30) (h11 : (a.x11 = 0 ∨ 0 ≤ a.x11) ∧ a.x11 ≤ 9223372036854775807) (l11 : (told a.x11 0).length ≤ 30) (h15 : (a.x15 = 0 ∨ 0 ≤ a.x15) ∧ a.x15 ≤ 9223372036854775807) (l15 : (told a.x15 0).length ≤ 30) (h18 : (a.x18 = (-1) ∨ 0 ≤ a.x18) ∧ a.x18 ≤ 9223372036854775807) (l18 : (told a.x18 (-1)).length ≤ 30) (h20 : (a.x20 = 0 ∨ 0 ≤ a.x20) ∧ a.x20 ≤ 9223372036854775807) (l20 : (told a.x20 0).length ≤ 30) (h21 : (a.x21 = 0 ∨ 0 ≤ a.x21) ∧ a.x21 ≤ 9223372036854775807) (l21 : (told a.x21 0).length ≤ 30) (a0 : Act) (h0 : KN 130 a0 [(1, (ptr g)), (3, (.string (strOfNums (S))))]) (K : Act → World → Prop)
  (hk : ∀ a' W', OneAt w g cs a W' → KN 130 a' [(3, (.string (strOfNums (S ++ rowL [105, 100] (told a.x3 (-1)) ++ rowL [117, 110, 116, 105, 108] (told a.x11 0) ++ rowL [109, 111, 115, 116] (told a.x15 0) ++ rowL [102, 114, 111, 109, 45, 105, 100] (told a.x18 (-1)) ++ rowL [117, 112, 108, 111, 97, 100] (told a.x20 0) ++ rowL [110, 111] (told a.x21 0))))), (1, (ptr g))] → K a' W') : Code.wp Tryd.prog (.region 3 (opsR 3 Tryd.f39.body) true) (QN K) a0 W := by
 refine sq (S := fun W => W.heap[g]? = some (.cells cs 26 (0, 0))) 32 TW.drew.1.1 fun S0 => ?_
 replace TW := TW.drew
 generalize W.drew = W0 at *
 have t0 := h0.l
 refine pq t0 0 (oa rfl) (fun _ _ => run_mv t0.a) fun u1 t1 => ?_
 refine pq t1 1 (oa rfl) (fun _ _ => (fld 3 (by decide)) _ _ g _ _ t1.a) fun u2 t2 => ?_
 refine pq t2 6 (oa rfl) (fun _ _ => (fld 11 (by decide)) _ _ g _ _ t2.a) fun u3 t3 => ?_
 refine pq t3 11 (oa rfl) (fun _ _ => (fld 15 (by decide)) _ _ g _ _ t3.a) fun u4 t4 => ?_
 refine pq t4 16 (oa rfl) (fun _ _ => (fld 18 (by decide)) _ _ g _ _ t4.a) fun u5 t5 => ?_
 refine pq t5 21 (oa rfl) (fun _ _ => (fld 20 (by decide)) _ _ g _ _ t5.a) fun u6 t6 => ?_
 refine pq t6 26 (oa rfl) (fun _ _ => (fld 21 (by decide)) _ _ g _ _ t6.a) fun u7 t7 => ?_
 refine tq t7 2 (oa rfl) S0 (fun _ _ h => lod_3 _ _ _ _ _ _ t7.a ((blk_cell h 3).trans hC.e3)) fun u8 t8 => ?_
 refine tq t8 7 (oa rfl) S0 (fun _ _ h => lod_3 _ _ _ _ _ _ t8.a ((blk_cell h 11).trans hC.e11)) fun u9 t9 => ?_
 refine tq t9 12 (oa rfl) S0 (fun _ _ h => lod_3 _ _ _ _ _ _ t9.a ((blk_cell h 15).trans hC.e15)) fun u10 t10 => ?_
 refine tq t10 17 (oa rfl) S0 (fun _ _ h => lod_3 _ _ _ _ _ _ t10.a ((blk_cell h 18).trans hC.e18)) fun u11 t11 => ?_
 refine tq t11 22 (oa rfl) S0 (fun _ _ h => lod_3 _ _ _ _ _ _ t11.a ((blk_cell h 20).trans hC.e20)) fun u12 t12 => ?_
 refine tq t12 27 (oa rfl) S0 (fun _ _ h => lod_3 _ _ _ _ _ _ t12.a ((blk_cell h 21).trans hC.e21)) fun u13 t13 => ?_
 refine cq t13 3 Tryd.func55 (oa rfl) (rtold_calls a.x3 (-1) h3.1 h3.2 W0) ?_
 rintro e X3 ⟨rfl, B3⟩
 replace TW := TW.below B3
 have b3 := l3
 refine ⟨_, rfl, TW.1.1, fun u14 t14 S0 => ?_⟩
 refine cq t14 4 Tryd.func53 (oa rfl) (rrow_calls [105, 100] (told a.x3 (-1)) ⟨#[105, 100]⟩ rfl (by decide) (by omega) X3) ?_
 rintro e X4 ⟨rfl, nd4, rfl⟩
 replace TW := TW.drewN nd4
 generalize (X3.drewN nd4) = X4 at *
 have b4 := rowL_len [105, 100] (told a.x3 (-1)) (by decide)
 refine ⟨_, rfl, TW.1.1, fun u15 t15 S0 => ?_⟩
 refine pq t15 5 (oa rfl) (fun _ _ ho => add_l ho t15.a t15.a) fun u16 t16 => ?_
 refine cq t16 8 Tryd.func55 (oa rfl) (rtold_calls a.x11 0 h11.1 h11.2 X4) ?_
 rintro e X8 ⟨rfl, B8⟩
 replace TW := TW.below B8
 have b8 := l11
 refine ⟨_, rfl, TW.1.1, fun u17 t17 S0 => ?_⟩
 refine cq t17 9 Tryd.func53 (oa rfl) (rrow_calls [117, 110, 116, 105, 108] (told a.x11 0) ⟨#[117, 110, 116, 105, 108]⟩ rfl (by decide) (by omega) X8) ?_
 rintro e X9 ⟨rfl, nd9, rfl⟩
 replace TW := TW.drewN nd9
 generalize (X8.drewN nd9) = X9 at *
 have b9 := rowL_len [117, 110, 116, 105, 108] (told a.x11 0) (by decide)
 refine ⟨_, rfl, TW.1.1, fun u18 t18 S0 => ?_⟩
 refine pq t18 10 (oa rfl) (fun _ _ ho => add_l ho t18.a t18.a) fun u19 t19 => ?_
 refine cq t19 13 Tryd.func55 (oa rfl) (rtold_calls a.x15 0 h15.1 h15.2 X9) ?_
 rintro e X13 ⟨rfl, B13⟩
 replace TW := TW.below B13
 have b13 := l15
 refine ⟨_, rfl, TW.1.1, fun u20 t20 S0 => ?_⟩
 refine cq t20 14 Tryd.func53 (oa rfl) (rrow_calls [109, 111, 115, 116] (told a.x15 0) ⟨#[109, 111, 115, 116]⟩ rfl (by decide) (by omega) X13) ?_
 rintro e X14 ⟨rfl, nd14, rfl⟩
 replace TW := TW.drewN nd14
 generalize (X13.drewN nd14) = X14 at *
 have b14 := rowL_len [109, 111, 115, 116] (told a.x15 0) (by decide)
 refine ⟨_, rfl, TW.1.1, fun u21 t21 S0 => ?_⟩
 refine pq t21 15 (oa rfl) (fun _ _ ho => add_l ho t21.a t21.a) fun u22 t22 => ?_
 refine cq t22 18 Tryd.func55 (oa rfl) (rtold_calls a.x18 (-1) h18.1 h18.2 X14) ?_
 rintro e X18 ⟨rfl, B18⟩
 replace TW := TW.below B18
 have b18 := l18
 refine ⟨_, rfl, TW.1.1, fun u23 t23 S0 => ?_⟩
 refine cq t23 19 Tryd.func53 (oa rfl) (rrow_calls [102, 114, 111, 109, 45, 105, 100] (told a.x18 (-1)) ⟨#[102, 114, 111, 109, 45, 105, 100]⟩ rfl (by decide) (by omega) X18) ?_
 rintro e X19 ⟨rfl, nd19, rfl⟩
 replace TW := TW.drewN nd19
 generalize (X18.drewN nd19) = X19 at *
 have b19 := rowL_len [102, 114, 111, 109, 45, 105, 100] (told a.x18 (-1)) (by decide)
 refine ⟨_, rfl, TW.1.1, fun u24 t24 S0 => ?_⟩
 refine pq t24 20 (oa rfl) (fun _ _ ho => add_l ho t24.a t24.a) fun u25 t25 => ?_
 refine cq t25 23 Tryd.func55 (oa rfl) (rtold_calls a.x20 0 h20.1 h20.2 X19) ?_
 rintro e X23 ⟨rfl, B23⟩
 replace TW := TW.below B23
 have b23 := l20
 refine ⟨_, rfl, TW.1.1, fun u26 t26 S0 => ?_⟩
 refine cq t26 24 Tryd.func53 (oa rfl) (rrow_calls [117, 112, 108, 111, 97, 100] (told a.x20 0) ⟨#[117, 112, 108, 111, 97, 100]⟩ rfl (by decide) (by omega) X23) ?_
 rintro e X24 ⟨rfl, nd24, rfl⟩
 replace TW := TW.drewN nd24
 generalize (X23.drewN nd24) = X24 at *
 have b24 := rowL_len [117, 112, 108, 111, 97, 100] (told a.x20 0) (by decide)
 refine ⟨_, rfl, TW.1.1, fun u27 t27 S0 => ?_⟩
 refine pq t27 25 (oa rfl) (fun _ _ ho => add_l ho t27.a t27.a) fun u28 t28 => ?_
 refine cq t28 28 Tryd.func55 (oa rfl) (rtold_calls a.x21 0 h21.1 h21.2 X24) ?_
 rintro e X28 ⟨rfl, B28⟩
 replace TW := TW.below B28
 have b28 := l21
 refine ⟨_, rfl, TW.1.1, fun u29 t29 S0 => ?_⟩
 refine cq t29 29 Tryd.func53 (oa rfl) (rrow_calls [110, 111] (told a.x21 0) ⟨#[110, 111]⟩ rfl (by decide) (by omega) X28) ?_
 rintro e X29 ⟨rfl, nd29, rfl⟩
 replace TW := TW.drewN nd29
 generalize (X28.drewN nd29) = X29 at *
 have b29 := rowL_len [110, 111] (told a.x21 0) (by decide)
 refine ⟨_, rfl, TW.1.1, fun u30 t30 S0 => ?_⟩
 refine pq t30 30 (oa rfl) (fun _ _ ho => add_l ho t30.a t30.a) fun u31 t31 => ?_
 refine pq t31 31 (oa rfl) (fun _ _ => run_assign' t31.a) fun u32 t32 => ?_
 exact dq (hk _ _ TW t32.m)
theorem lreg14  (S l : List Int) (hS : S.length ≤ 300000) (hl : l.length ≤ 2000) (gs j : Nat) (hj : j < 3) (hx : a.x23 = (j : Int)) (stB : Array Value) (hst : stB[j]? = some (.string (strOfNums (stateV a)))) (hsl : (stateV a).length ≤ 20) (KS : W.heap[gs]? = some (.cells stB 9 (0, 0))) (a0 : Act) (h0 : KN 130 a0 [(1, (ptr g)), (3, (.string (strOfNums (S)))), (4, (.string (strOfNums (l)))), (6, (.slice (some ⟨gs, 0, none⟩) 3 3))]) (K : Act → World → Prop)
  (hk : ∀ a' W', OneAt w g cs a W' → KN 130 a' [(2, (.string (strOfNums (S ++ rowL [108, 105, 115, 116] (l) ++ rowL [115, 116, 97, 116, 101] (stateV a)))))] → K a' W') : Code.wp Tryd.prog (.region 14 (opsR 14 Tryd.f39.body) true) (QN K) a0 W := by
 refine sq (S := fun W => W.heap[g]? = some (.cells cs 26 (0, 0)) ∧ W.heap[gs]? = some (.cells stB 9 (0, 0))) 12 ⟨TW.drew.1.1, blk_drew KS⟩ fun S0 => ?_
 replace TW := TW.drew
 generalize W.drew = W0 at *
 have t0 := h0.l
 refine pq t0 0 (oa rfl) (fun _ _ => run_mv t0.a) fun u1 t1 => ?_
 refine pq t1 1 (oa rfl) (fun _ _ => run_mv t1.a) fun u2 t2 => ?_
 refine pq t2 4 (oa rfl) (fun _ _ => run_mv t2.a) fun u3 t3 => ?_
 refine pq t3 5 (oa rfl) (fun _ _ => (fld 23 (by decide)) _ _ g _ _ t3.a) fun u4 t4 => ?_
 refine tq t4 6 (oa rfl) S0 (fun _ _ h => lod_3 _ _ _ _ _ _ t4.a ((blk_cell h.1 23).trans hC.e23)) fun u5 t5 => ?_
 refine pq t5 7 (oa rfl) (fun _ _ => idx_40 gs 3 3 j _ _ _ _ _ t5.a (by rw [← hx]; exact t5.a) hj) fun u6 t6 => ?_
 refine tq t6 8 (oa rfl) S0 (fun _ _ h => lod_9 _ _ _ _ _ _ t6.a ((blk_cell h.2 j).trans hst)) fun u7 t7 => ?_
 refine cq t7 2 Tryd.func53 (oa rfl) (rrow_calls [108, 105, 115, 116] (l) ⟨#[108, 105, 115, 116]⟩ rfl (by decide) (by omega) W0) ?_
 rintro e X2 ⟨rfl, nd2, rfl⟩
 have SS2 := blk_drewN S0.2 nd2
 replace TW := TW.drewN nd2
 generalize (W0.drewN nd2) = X2 at *
 have b2 := rowL_len [108, 105, 115, 116] (l) (by decide)
 refine ⟨_, rfl, ⟨TW.1.1, SS2⟩, fun u8 t8 S0 => ?_⟩
 refine pq t8 3 (oa rfl) (fun _ _ ho => add_l ho t8.a t8.a) fun u9 t9 => ?_
 refine cq t9 9 Tryd.func53 (oa rfl) (rrow_calls [115, 116, 97, 116, 101] (stateV a) ⟨#[115, 116, 97, 116, 101]⟩ rfl (by decide) (by omega) X2) ?_
 rintro e X9 ⟨rfl, nd9, rfl⟩
 have SS9 := blk_drewN S0.2 nd9
 replace TW := TW.drewN nd9
 generalize (X2.drewN nd9) = X9 at *
 have b9 := rowL_len [115, 116, 97, 116, 101] (stateV a) (by decide)
 refine ⟨_, rfl, ⟨TW.1.1, SS9⟩, fun u10 t10 S0 => ?_⟩
 refine pq t10 10 (oa rfl) (fun _ _ ho => add_l ho t10.a t10.a) fun u11 t11 => ?_
 refine pq t11 11 (oa rfl) (fun _ _ => run_assign' t11.a) fun u12 t12 => ?_
 exact dq (hk _ _ TW t12.m)
end
theorem neq_e (xs : List Int) (a : Act) (x : Operand) (W : World) (o : Oper) (hx : a.eval x = .string (strOfNums xs)) (ho : o.op = .binOp .neq 9 x (.const (.string ⟨#[]⟩)) 9) :
  (execOp a.eval o).run Tryd.prog W = .ok (.value (.bool (decide (xs ≠ [])))) W := by
 have h := neq_9 (strOfNums xs) ⟨#[]⟩ a x (.const (.string ⟨#[]⟩)) W o hx rfl ho
 have e : (⟨#[]⟩ : ByteArray).toList = [] := by have := toList_str []; exact this
 rw [h, e]
 congr 3
 by_cases hq : xs = []
 ·subst hq
  have e2 : (strOfNums []).toList = [] := e
  rw [e2]
  rfl
 ·rw [decide_eq_true hq]
  have : (strOfNums xs).toList ≠ [] := fun e => hq (toList_nil e)
  simpa using this
theorem gtr_0 (m : Int) (a : Act) (x : Operand) (W : World) (o : Oper) (hx : a.eval x = .int .i64 m) (ho : o.op = .binOp .gtr 3 x (.const (.int .i64 0)) 3) : (execOp a.eval o).run Tryd.prog W = .ok (.value (.bool (decide (0 < m)))) W := by
 unfold execOp
 simp only [ho, hx]
 go_simp
section
variable {cs : Array Value} {a : AskP} {A5 A9 A10 A19 A22 : Option Addr} {c5 c9 c10 c19 c22 : Nat} (hC : Cells cs a A5 A9 A10 A19 A22 c5 c9 c10 c19 c22) {g : Nat} {w W : World} (TW : OneAt w g cs a W) (sa : AskS a)
include hC TW sa
theorem lreg4a  (S : List Int) (hS : S.length ≤ 300000) (h16 : a.x16 ≠ []) (a0 : Act) (h0 : KN 130 a0 [(1, (ptr g)), (3, (.string (strOfNums (S))))]) (K : Act → World → Prop)
  (hk : ∀ a', KN 130 a' [(89, (.bool true)), (3, (.string (strOfNums (S)))), (1, (ptr g))] → K a' W) : Code.wp Tryd.prog (.region 4 (opsR 4 Tryd.f39.body) false) (QN K) a0 W := by
 refine wr ?_
 have t0 := h0.l
 refine lv t0 (oa rfl) (fun _ => (fld 16 (by decide)) _ _ g _ _ t0.a) fun u1 t1 => ?_
 refine lv (v := (.string (strOfNums (a.x16)))) t1 (oa rfl) (fun _ => lod_9 _ _ _ _ _ _ t1.a ((blk_cell TW.1.1 16).trans hC.e16)) fun u2 t2 => ?_
 refine lv (v := (.bool true)) t2 (oa rfl) (fun o ho => (neq_e a.x16 _ _ _ _ t2.a ho).trans (by rw [decide_eq_true h16])) fun u3 t3 => ?_
 refine lv t3 (oa rfl) (fun _ => run_mv t3.a) fun u4 t4 => ?_
 refine lof t4 (oa rfl) fun u5 t5 => ?_
 refine lof t5 (oa rfl) fun u6 t6 => ?_
 refine lof t6 (oa rfl) fun u7 t7 => ?_
 refine lv (v := (.bool true)) t7 (oa rfl) (fun _ => run_pick (b := true) t7.a rfl rfl) fun u8 t8 => ?_
 refine le_ ?_
 exact hk _ t8.m
theorem lreg4b  (S : List Int) (hS : S.length ≤ 300000) (h16 : a.x16 = []) (h17 : a.x17 ≠ []) (a0 : Act) (h0 : KN 130 a0 [(1, (ptr g)), (3, (.string (strOfNums (S))))]) (K : Act → World → Prop)
  (hk : ∀ a', KN 130 a' [(89, (.bool true)), (3, (.string (strOfNums (S)))), (1, (ptr g))] → K a' W) : Code.wp Tryd.prog (.region 4 (opsR 4 Tryd.f39.body) false) (QN K) a0 W := by
 refine wr ?_
 have t0 := h0.l
 refine lv t0 (oa rfl) (fun _ => (fld 16 (by decide)) _ _ g _ _ t0.a) fun u1 t1 => ?_
 refine lv (v := (.string (strOfNums (a.x16)))) t1 (oa rfl) (fun _ => lod_9 _ _ _ _ _ _ t1.a ((blk_cell TW.1.1 16).trans hC.e16)) fun u2 t2 => ?_
 refine lv (v := (.bool false)) t2 (oa rfl) (fun o ho => (neq_e a.x16 _ _ _ _ t2.a ho).trans (by rw [decide_eq_false (not_not_intro h16)])) fun u3 t3 => ?_
 refine lv t3 (oa rfl) (fun _ => run_mv t3.a) fun u4 t4 => ?_
 refine lv t4 (oa rfl) (fun _ => (fld 17 (by decide)) _ _ g _ _ t4.a) fun u5 t5 => ?_
 refine lv (v := (.string (strOfNums (a.x17)))) t5 (oa rfl) (fun _ => lod_9 _ _ _ _ _ _ t5.a ((blk_cell TW.1.1 17).trans hC.e17)) fun u6 t6 => ?_
 refine lv (v := (.bool true)) t6 (oa rfl) (fun o ho => (neq_e a.x17 _ _ _ _ t6.a ho).trans (by rw [decide_eq_true h17])) fun u7 t7 => ?_
 refine lv (v := (.bool true)) t7 (oa rfl) (fun _ => run_pick (b := false) t7.a rfl t7.a) fun u8 t8 => ?_
 refine le_ ?_
 exact hk _ t8.m
theorem lreg4c  (S : List Int) (hS : S.length ≤ 300000) (h16 : a.x16 = []) (h17 : a.x17 = []) (a0 : Act) (h0 : KN 130 a0 [(1, (ptr g)), (3, (.string (strOfNums (S))))]) (K : Act → World → Prop)
  (hk : ∀ a', KN 130 a' [(89, (.bool false)), (3, (.string (strOfNums (S)))), (1, (ptr g))] → K a' W) : Code.wp Tryd.prog (.region 4 (opsR 4 Tryd.f39.body) false) (QN K) a0 W := by
 refine wr ?_
 have t0 := h0.l
 refine lv t0 (oa rfl) (fun _ => (fld 16 (by decide)) _ _ g _ _ t0.a) fun u1 t1 => ?_
 refine lv (v := (.string (strOfNums (a.x16)))) t1 (oa rfl) (fun _ => lod_9 _ _ _ _ _ _ t1.a ((blk_cell TW.1.1 16).trans hC.e16)) fun u2 t2 => ?_
 refine lv (v := (.bool false)) t2 (oa rfl) (fun o ho => (neq_e a.x16 _ _ _ _ t2.a ho).trans (by rw [decide_eq_false (not_not_intro h16)])) fun u3 t3 => ?_
 refine lv t3 (oa rfl) (fun _ => run_mv t3.a) fun u4 t4 => ?_
 refine lv t4 (oa rfl) (fun _ => (fld 17 (by decide)) _ _ g _ _ t4.a) fun u5 t5 => ?_
 refine lv (v := (.string (strOfNums (a.x17)))) t5 (oa rfl) (fun _ => lod_9 _ _ _ _ _ _ t5.a ((blk_cell TW.1.1 17).trans hC.e17)) fun u6 t6 => ?_
 refine lv (v := (.bool false)) t6 (oa rfl) (fun o ho => (neq_e a.x17 _ _ _ _ t6.a ho).trans (by rw [decide_eq_false (not_not_intro h17)])) fun u7 t7 => ?_
 refine lv (v := (.bool false)) t7 (oa rfl) (fun _ => run_pick (b := false) t7.a rfl t7.a) fun u8 t8 => ?_
 refine le_ ?_
 exact hk _ t8.m
theorem lreg5  (S : List Int) (hS : S.length ≤ 300000) (q16 : a.x16.length ≤ 3000) (q17 : a.x17.length ≤ 3000) (a0 : Act) (h0 : KN 130 a0 [(1, (ptr g)), (3, (.string (strOfNums (S))))]) (K : Act → World → Prop)
  (hk : ∀ a' W', OneAt w g cs a W' → KN 130 a' [(3, (.string (strOfNums (S ++ (rowL [102, 114, 111, 109] (a.x16 ++ [47] ++ a.x17)))))), (1, (ptr g))] → K a' W') : Code.wp Tryd.prog (.region 5 (opsR 5 Tryd.f39.body) false) (QN K) a0 W := by
 refine wr ?_
 have t0 := h0.l
 refine lv t0 (oa rfl) (fun _ => run_mv t0.a) fun u1 t1 => ?_
 refine lv t1 (oa rfl) (fun _ => (fld 16 (by decide)) _ _ g _ _ t1.a) fun u2 t2 => ?_
 refine lv (v := (.string (strOfNums (a.x16)))) t2 (oa rfl) (fun _ => lod_9 _ _ _ _ _ _ t2.a ((blk_cell TW.1.1 16).trans hC.e16)) fun u3 t3 => ?_
 refine lv t3 (oa rfl) (fun _ => add_s (a.x16) [47] (by (try simp only [List.length_append, List.length_cons, List.length_nil]); omega) _ _ _ _ _ t3.a rfl) fun u4 t4 => ?_
 refine lv t4 (oa rfl) (fun _ => (fld 17 (by decide)) _ _ g _ _ t4.a) fun u5 t5 => ?_
 refine lv (v := (.string (strOfNums (a.x17)))) t5 (oa rfl) (fun _ => lod_9 _ _ _ _ _ _ t5.a ((blk_cell TW.1.1 17).trans hC.e17)) fun u6 t6 => ?_
 refine lv t6 (oa rfl) (fun o ho => add_l ho t6.a t6.a) fun u7 t7 => ?_
 refine lc t7 Tryd.func53 (oa rfl) (rrow_calls [102, 114, 111, 109] (a.x16 ++ [47] ++ a.x17) ⟨#[102, 114, 111, 109]⟩ rfl (by decide) (by have := sa.l16; have := sa.l17; (try simp only [List.length_append, List.length_cons, List.length_nil]); omega) W) ?_
 rintro e W2 ⟨rfl, nd, rfl⟩
 replace TW := TW.drewN nd
 have b7 := rowL_len [102, 114, 111, 109] (a.x16 ++ [47] ++ a.x17) (by decide); simp only [List.length_append, List.length_cons, List.length_nil] at b7
 refine ⟨_, rfl, fun u8 t8 => ?_⟩
 refine lv t8 (oa rfl) (fun o ho => add_l ho t8.a t8.a) fun u9 t9 => ?_
 refine lv t9 (oa rfl) (fun _ => run_assign' t9.a) fun u10 t10 => ?_
 refine le_ ?_
 exact hk _ _ TW t10.m
theorem lreg6  (S : List Int) (hS : S.length ≤ 300000) (a0 : Act) (h0 : KN 130 a0 [(1, (ptr g)), (3, (.string (strOfNums (S))))]) (K : Act → World → Prop)
  (hk : ∀ a', KN 130 a' [(4, (.string (strOfNums ([])))), (3, (.string (strOfNums (S)))), (1, (ptr g))] → K a' W) : Code.wp Tryd.prog (.region 6 (opsR 6 Tryd.f39.body) false) (QN K) a0 W := by
 refine wr ?_
 have t0 := h0.l
 refine lv (v := (.string (strOfNums ([])))) t0 (oa rfl) (fun _ => run_assign' rfl) fun u1 t1 => ?_
 refine le_ ?_
 exact hk _ t1.m
theorem lreg7  (S : List Int) (hS : S.length ≤ 300000) (l : List Int) (hl : l.length ≤ 2000) (a0 : Act) (h0 : KN 130 a0 [(1, (ptr g)), (3, (.string (strOfNums (S)))), (4, (.string (strOfNums (l))))]) (K : Act → World → Prop)
  (hk : ∀ a', KN 130 a' [(5, (.int .i64 0)), (4, (.string (strOfNums (l)))), (3, (.string (strOfNums (S)))), (1, (ptr g))] → K a' W) : Code.wp Tryd.prog (.region 7 (opsR 7 Tryd.f39.body) false) (QN K) a0 W := by
 refine wr ?_
 have t0 := h0.l
 refine lv (v := (.int .i64 0)) t0 (oa rfl) (fun _ => run_assign' rfl) fun u1 t1 => ?_
 refine le_ ?_
 exact hk _ t1.m
theorem lreg8  (S : List Int) (hS : S.length ≤ 300000) (l : List Int) (hl : l.length ≤ 2000) (j : Nat) (hj : j ≤ 1000) (a0 : Act) (h0 : KN 130 a0 [(1, (ptr g)), (3, (.string (strOfNums (S)))), (4, (.string (strOfNums (l)))), (5, (.int .i64 (j : Int)))]) (K : Act → World → Prop)
  (hk : ∀ a', KN 130 a' [(103, (.bool (decide ((j : Int) < (a.x22.length : Int))))), (5, (.int .i64 (j : Int))), (4, (.string (strOfNums (l)))), (3, (.string (strOfNums (S)))), (1, (ptr g))] → K a' W) : Code.wp Tryd.prog (.region 8 (opsR 8 Tryd.f39.body) false) (QN K) a0 W := by
 refine wr ?_
 have t0 := h0.l
 refine lv t0 (oa rfl) (fun _ => run_mv t0.a) fun u1 t1 => ?_
 refine lv t1 (oa rfl) (fun _ => (fld 22 (by decide)) _ _ g _ _ t1.a) fun u2 t2 => ?_
 refine lv (v := (.slice A22 a.x22.length c22)) t2 (oa rfl) (fun _ => lod_24 _ _ _ _ _ _ t2.a ((blk_cell TW.1.1 22).trans hC.e22)) fun u3 t3 => ?_
 refine lv t3 (oa rfl) (fun _ => len_24 A22 _ c22 _ _ _ _ t3.a) fun u4 t4 => ?_
 refine lv (v := (.bool (decide ((j : Int) < (a.x22.length : Int))))) t4 (oa rfl) (fun _ => lss_3 _ _ _ _ _ _ _ t4.a t4.a) fun u5 t5 => ?_
 refine le_ ?_
 exact hk _ t5.m
theorem lreg10  (S : List Int) (hS : S.length ≤ 300000) (l : List Int) (hl : l.length ≤ 2000) (j : Nat) (hj : j ≤ 1000) (a0 : Act) (h0 : KN 130 a0 [(1, (ptr g)), (3, (.string (strOfNums (S)))), (4, (.string (strOfNums (l)))), (5, (.int .i64 (j : Int)))]) (K : Act → World → Prop)
  (hk : ∀ a', KN 130 a' [(107, (.bool (decide (0 < (j : Int))))), (5, (.int .i64 (j : Int))), (4, (.string (strOfNums (l)))), (3, (.string (strOfNums (S)))), (1, (ptr g))] → K a' W) : Code.wp Tryd.prog (.region 10 (opsR 10 Tryd.f39.body) false) (QN K) a0 W := by
 refine wr ?_
 have t0 := h0.l
 refine lv t0 (oa rfl) (fun _ => run_mv t0.a) fun u1 t1 => ?_
 refine lv (v := (.bool (decide (0 < (j : Int))))) t1 (oa rfl) (fun _ => gtr_0 _ _ _ _ _ t1.a) fun u2 t2 => ?_
 refine le_ ?_
 exact hk _ t2.m
theorem lreg11  (S : List Int) (hS : S.length ≤ 300000) (l : List Int) (hl : l.length ≤ 2000) (j : Nat) (hj : j ≤ 1000) (a0 : Act) (h0 : KN 130 a0 [(1, (ptr g)), (3, (.string (strOfNums (S)))), (4, (.string (strOfNums (l)))), (5, (.int .i64 (j : Int)))]) (K : Act → World → Prop)
  (hk : ∀ a', KN 130 a' [(5, (.int .i64 (j : Int))), (4, (.string (strOfNums (l ++ [44])))), (3, (.string (strOfNums (S)))), (1, (ptr g))] → K a' W) : Code.wp Tryd.prog (.region 11 (opsR 11 Tryd.f39.body) false) (QN K) a0 W := by
 refine wr ?_
 have t0 := h0.l
 refine lv t0 (oa rfl) (fun _ => run_mv t0.a) fun u1 t1 => ?_
 refine lv t1 (oa rfl) (fun _ => add_s (l) [44] (by (try simp only [List.length_append, List.length_cons, List.length_nil]); omega) _ _ _ _ _ t1.a rfl) fun u2 t2 => ?_
 refine lv t2 (oa rfl) (fun _ => run_assign' t2.a) fun u3 t3 => ?_
 refine le_ ?_
 exact hk _ t3.m
theorem lreg12  (S : List Int) (hS : S.length ≤ 300000) (l : List Int) (hl : l.length ≤ 2000) (j : Nat) (hj : j ≤ 1000) (ad : Addr) (hA22 : A22 = some ad) (hjn : j < a.x22.length) (n : Int) (hn0 : 0 ≤ n) (hn1 : n ≤ most) (hc : W.cell? (ad.add j) = some (.int .i64 n)) (a0 : Act) (h0 : KN 130 a0 [(1, (ptr g)), (3, (.string (strOfNums (S)))), (4, (.string (strOfNums (l)))), (5, (.int .i64 (j : Int)))]) (K : Act → World → Prop)
  (hk : ∀ a' W', OneAt w g cs a W' → KN 130 a' [(5, (.int .i64 (j : Int))), (4, (.string (strOfNums (l ++ digits n.toNat)))), (3, (.string (strOfNums (S)))), (1, (ptr g))] → K a' W') : Code.wp Tryd.prog (.region 12 (opsR 12 Tryd.f39.body) false) (QN K) a0 W := by
 refine wr ?_
 have t0 := h0.l
 refine lv t0 (oa rfl) (fun _ => run_mv t0.a) fun u1 t1 => ?_
 refine lv t1 (oa rfl) (fun _ => (fld 22 (by decide)) _ _ g _ _ t1.a) fun u2 t2 => ?_
 refine lv (v := (.slice A22 a.x22.length c22)) t2 (oa rfl) (fun _ => lod_24 _ _ _ _ _ _ t2.a ((blk_cell TW.1.1 22).trans hC.e22)) fun u3 t3 => ?_
 refine lv t3 (oa rfl) (fun _ => run_mv t3.a) fun u4 t4 => ?_
 refine lv t4 (oa rfl) (fun _ => idx_24 ad _ c22 j _ _ _ _ _ (by rw [← hA22]; exact t4.a) t4.a hjn) fun u5 t5 => ?_
 refine lv t5 (oa rfl) (fun _ => lod_3 _ _ _ _ _ _ t5.a hc) fun u6 t6 => ?_
 refine lc t6 Tryd.func56 (oa rfl) (rdigits_calls n hn0 (by unfold most at hn1; omega) W) ?_
 rintro e W2 ⟨rfl, B2⟩
 replace TW := TW.below B2
 have b6 := digits_short n hn0 hn1
 refine ⟨_, rfl, fun u7 t7 => ?_⟩
 refine lv t7 (oa rfl) (fun o ho => add_l ho t7.a t7.a) fun u8 t8 => ?_
 refine lv t8 (oa rfl) (fun _ => run_assign' t8.a) fun u9 t9 => ?_
 refine le_ ?_
 exact hk _ _ TW t9.m
theorem lreg9  (S : List Int) (hS : S.length ≤ 300000) (l : List Int) (hl : l.length ≤ 2000) (j : Nat) (hj : j ≤ 1000) (a0 : Act) (h0 : KN 130 a0 [(1, (ptr g)), (3, (.string (strOfNums (S)))), (4, (.string (strOfNums (l)))), (5, (.int .i64 (j : Int)))]) (K : Act → World → Prop)
  (hk : ∀ a', KN 130 a' [(5, (.int .i64 ((j + 1 : Nat) : Int))), (4, (.string (strOfNums (l)))), (3, (.string (strOfNums (S)))), (1, (ptr g))] → K a' W) : Code.wp Tryd.prog (.region 9 (opsR 9 Tryd.f39.body) false) (QN K) a0 W := by
 refine wr ?_
 have t0 := h0.l
 refine lv t0 (oa rfl) (fun _ => run_mv t0.a) fun u1 t1 => ?_
 refine lv (v := (.int .i64 ((j + 1 : Nat) : Int))) t1 (oa rfl) (fun _ => inc_3 j _ _ _ _ (by omega) t1.a) fun u2 t2 => ?_
 refine lv t2 (oa rfl) (fun _ => run_assign' t2.a) fun u3 t3 => ?_
 refine le_ ?_
 exact hk _ t3.m
end
def stB : Array Value := #[.string ⟨#[]⟩, .string ⟨#[111, 110]⟩, .string ⟨#[115, 117, 115, 112, 101, 110, 100, 101, 100]⟩]
theorem stB_at {a : AskP} {j : Nat} (hj : j < 3) (hx : a.x23 = (j : Int)) : stB[j]? = some (.string (strOfNums (stateV a))) ∧ (stateV a).length ≤ 20 := by
 unfold stateV
 rw [hx]
 match j, hj with
 | 0, _ => exact ⟨rfl, by decide⟩
 | 1, _ => exact ⟨rfl, by decide⟩
 | 2, _ => exact ⟨rfl, by decide⟩
theorem lreg13 (cs : Array Value) (a : AskP) (g : Nat) (w W : World) (TW : OneAt w g cs a W) (S l : List Int) (a0 : Act) (h0 : KN 130 a0 [(1, ptr g), (3, .string (strOfNums S)), (4, .string (strOfNums l))]) (K : Act → World → Prop)
  (hk : ∀ a', KN 130 a' [(6, .slice (some ⟨W.heap.size, 0, none⟩) 3 3), (1, ptr g), (3, .string (strOfNums S)), (4, .string (strOfNums l))] → K a' (W.alloc (.cells stB 9))) : Code.wp Tryd.prog (.region 13 (opsR 13 Tryd.f39.body) false) (QN K) a0 W := by
 have p0 : OpAt (opsR 13 Tryd.f39.body) 0 (some 118) (.buildSlice 40 3 #[(0, .const (.string ⟨#[]⟩)), (1, .const (.string ⟨#[111, 110]⟩)), (2, .const (.string ⟨#[115, 117, 115, 112, 101, 110, 100, 101, 100]⟩))]) none := by unfold OpAt; kernel_rfl
 have p1 : OpAt (opsR 13 Tryd.f39.body) 1 (some 6) (.assign (.tmp 118)) none := by unfold OpAt; kernel_rfl
 have z : (opsR 13 Tryd.f39.body).toList.drop 2 = [] := by rw [List.drop_eq_nil_of_le (by rw [Array.length_toList, show (opsR 13 Tryd.f39.body).size = 2 from by kernel_rfl]; exact Nat.le_refl _)]
 refine wp_region_list ?_
 show wpList _ _ _ ((opsR 13 Tryd.f39.body).toList.drop 0) _ _
 refine ls_new (w1 := W.alloc (.cells stB 9)) (.slice (some ⟨W.heap.size, 0, none⟩) 3 3) p0 (fun o ho => ?_) ?_
 ·have q := run_buildSlice (P := Tryd.prog) W 40 9 3 #[(0, .string ⟨#[]⟩), (1, .string ⟨#[111, 110]⟩), (2, .string ⟨#[115, 117, 115, 112, 101, 110, 100, 101, 100]⟩)] stB _ _ Tryd.underlying40 rfl rfl (by decide) (by decide) (by first | kernel_rfl | (simp [Instr.fill, Instr.overwrite]; done))
  unfold execOp
  simp only [ho, List.map_toArray, List.map_cons, List.map_nil, Sem.run_bind]
  simp only [Act.eval, Sem.run_bind, q, Result.andThen_ok]
  rfl
 have t1 := h0.to 118 (.slice (some ⟨W.heap.size, 0, none⟩) 3 3) [(1, ptr g), (3, .string (strOfNums S)), (4, .string (strOfNums l))] (by decide) (by simp)
 generalize Act.put _ _ _ = u1 at t1 ⊢
 refine ls_val (.slice (some ⟨W.heap.size, 0, none⟩) 3 3) p1 want_none (fun o ho => run_assign' (t1.at (by simp)) ho) ?_
 have t2 := t1.to 6 (.slice (some ⟨W.heap.size, 0, none⟩) 3 3) [(1, ptr g), (3, .string (strOfNums S)), (4, .string (strOfNums l))] (by decide) (by simp)
 generalize Act.put _ _ _ = u2 at t2 ⊢
 show wpList _ _ _ ((opsR 13 Tryd.f39.body).toList.drop 2) _ _
 rw [z]
 exact hk _ (t2.mono (by simp))
def digs (a : AskP) (j : Nat) : List (List Int) := (a.x22.take j).map fun n => digits n.toNat
theorem digs_next {a : AskP} {j : Nat} {n : Int} (h : a.x22[j]? = some n) : joinL (digs a (j + 1)) = (if j = 0 then digits n.toNat else joinL (digs a j) ++ [44] ++ digits n.toNat) := by
 have hlt := (List.getElem?_eq_some_iff.1 h).1
 have e : digs a (j + 1) = digs a j ++ [digits n.toNat] := by
  unfold digs
  rw [List.take_succ_eq_append_getElem hlt, List.map_append, (List.getElem?_eq_some_iff.1 h).2]
  rfl
 by_cases h0 : j = 0
 ·subst h0
  rw [e, if_pos rfl]
  show joinL ([] ++ [digits n.toNat]) = _
  simp [joinL, List.intercalate]
 ·rw [e, if_neg h0, joinL_app _ (fun he => h0 (by
   have := congrArg List.length he
   simp [digs] at this
   rcases this with h | h
   ·exact h
   ·rw [h] at hlt; simp at hlt))]
  simp
theorem digs_len {a : AskP} (sa : AskS a) (hall : ∀ n ∈ a.x22, 0 ≤ n ∧ n ≤ most) (j : Nat) : (joinL (digs a j)).length ≤ 900 := by
 have h := joinL_len (digs a j) 13 (fun x hx => by
  obtain ⟨n, hn, rfl⟩ := List.mem_map.1 hx
  have := hall n (List.mem_of_mem_take hn)
  exact digits_short n this.1 this.2)
 have h2 : (digs a j).length ≤ 60 := by
  have := sa.l22
  simp [digs]
  omega
 have : (digs a j).length * (13 + 1) ≤ 60 * (13 + 1) := Nat.mul_le_mul_right _ h2
 omega
section
variable {cs : Array Value} {a : AskP} {A5 A9 A10 A19 A22 : Option Addr} {c5 c9 c10 c19 c22 : Nat} (hC : Cells cs a A5 A9 A10 A19 A22 c5 c9 c10 c19 c22) {g : Nat} {w W : World} (TW : OneAt w g cs a W) (sa : AskS a)
include hC TW sa
theorem lloop  (hall : ∀ n ∈ a.x22, 0 ≤ n ∧ n ≤ most) (S : List Int) (hS : S.length ≤ 300000) (a0 : Act) (h0 : KN 130 a0 [(4, .string (strOfNums [])), (3, .string (strOfNums S)), (1, ptr g)]) (K : Act → World → Prop)
  (hk : ∀ a' W', OneAt w g cs a W' → KN 130 a' [(1, ptr g), (3, .string (strOfNums S)), (4, .string (strOfNums (listV a)))] → K a' W') : Code.wp Tryd.prog (.seq (.region 7 (opsR 7 Tryd.f39.body) false) (.block 0 (.loop (.seq (.seq (.region 8 (opsR 8 Tryd.f39.body) false) (.cond (.tmp 103) (.skip) (.exit 0))) (.seq (.block 1 (.seq (.seq (.region 10 (opsR 10 Tryd.f39.body) false) (.cond (.tmp 107) (.region 11 (opsR 11 Tryd.f39.body) false) (.skip))) (.region 12 (opsR 12 Tryd.f39.body) false))) (.region 9 (opsR 9 Tryd.f39.body) false)))))) (QN K) a0 W := by
 have hmax : a.x22.length ≤ 60 := sa.l22
 refine wp_seq (qm (lreg7 hC TW sa S hS [] (by decide) a0 (h0.mono (by simp)) _ fun a1 h1 => ?_))
 refine wp_block (wp_loop (fun x X => ∃ j : Nat, j ≤ a.x22.length ∧ KN 130 x [(1, ptr g), (3, .string (strOfNums S)), (4, .string (strOfNums (joinL (digs a j)))), (5, .int .i64 (j : Int))] ∧ OneAt w g cs a X) (fun x _ => a.x22.length - (intOf (x.eval (.tmp 5))).toNat) ⟨0, Nat.zero_le _, by
  have e : joinL (digs a 0) = [] := rfl
  rw [e]
  exact h1.mono (by simp), TW⟩ ?_)
 clear h1 h0 TW
 rintro x X ⟨j, hj, s0, TX⟩
 have hmu : (intOf (x.eval (.tmp 5))).toNat = j := by rw [s0.at (n := 5) (v := .int .i64 j) (by simp)]; simp [intOf]
 simp only [hmu]
 have hjl := digs_len sa hall j
 refine wp_seq (wp_seq (qm (lreg8 hC TX sa S hS _ (by omega) j (by omega) x s0 _ fun a2 h2 => ?_)))
 refine wp_cond (t := decide ((j : Int) < (a.x22.length : Int))) (h2.at (by simp)) ?_
 by_cases hjn : j < a.x22.length
 ·rw [decide_eq_true (show (j : Int) < (a.x22.length : Int) by omega), if_pos rfl]
  refine wp_skip ?_
  obtain ⟨n, hn⟩ : ∃ n, a.x22[j]? = some n := ⟨_, List.getElem?_eq_getElem hjn⟩
  obtain ⟨hn0, hn1⟩ := hall n (List.mem_of_getElem? hn)
  have CK := (V_C (e := 3) (b := 0) (TX.1.2.cell 22 _ hC.e22).1).2.2
  obtain ⟨ad, hA22, hc⟩ := Kd.at_int CK (j : Int) (by omega) (by omega)
  rw [Int.toNat_natCast, show rd a.x22 (j : Int) = n from by unfold rd; rw [Int.toNat_natCast, List.getD_eq_getElem?_getD, hn]; rfl] at hc
  have hnx := digs_next hn
  refine wp_seq (wp_block (wp_seq (wp_seq (qm (lreg10 hC TX sa S hS _ (show (joinL (digs a j)).length ≤ 2000 by omega) j (by omega) a2 (h2.mono (by simp)) _ fun a3 h3 => ?_)))))
  refine wp_cond (t := decide (0 < (j : Int))) (h3.at (by simp)) ?_
  have tail : ∀ a4 (l : List Int), l.length ≤ 1000 → joinL (digs a (j + 1)) = l ++ digits n.toNat → KN 130 a4 [(1, ptr g), (3, .string (strOfNums S)), (4, .string (strOfNums l)), (5, .int .i64 (j : Int))] →
    Code.wp Tryd.prog (.region 12 (opsR 12 Tryd.f39.body) false) (Exit.inBlock 1 (Exit.then (Code.wp Tryd.prog (.region 9 (opsR 9 Tryd.f39.body) false) (Exit.then (fun a' w' => (∃ j, j ≤ a.x22.length ∧ KN 130 a' [(1, ptr g), (3, .string (strOfNums S)), (4, .string (strOfNums (joinL (digs a j)))), (5, .int .i64 (j : Int))] ∧ OneAt w g cs a w') ∧ a.x22.length - (intOf (a'.eval (.tmp 5))).toNat < a.x22.length - j) (Exit.inBlock 0 (QN K)))) (Exit.then (fun a' w' => (∃ j, j ≤ a.x22.length ∧ KN 130 a' [(1, ptr g), (3, .string (strOfNums S)), (4, .string (strOfNums (joinL (digs a j)))), (5, .int .i64 (j : Int))] ∧ OneAt w g cs a w') ∧ a.x22.length - (intOf (a'.eval (.tmp 5))).toNat < a.x22.length - j) (Exit.inBlock 0 (QN K))))) a4 X := by
   intro a4 l hl he h4
   refine qm (lreg12 hC TX sa S hS l (by omega) j (by omega) ad hA22 hjn n hn0 hn1 hc a4 h4 _ fun a5 X5 T5 h5 => ?_)
   refine qm (lreg9 hC T5 sa S hS (l ++ digits n.toNat) (by have := digits_short n hn0 hn1; rw [List.length_append]; omega) j (by omega) a5 (h5.mono (by simp)) _ fun a6 h6 => ?_)
   have hm2 : (intOf (a6.eval (.tmp 5))).toNat = j + 1 := by rw [h6.at (n := 5) (v := .int .i64 ((j + 1 : Nat) : Int)) (by simp)]; simp only [intOf]; omega
   refine ⟨⟨j + 1, by omega, ?_, T5⟩, by simp only [hm2]; omega⟩
   rw [he]
   exact h6.mono (by simp)
  by_cases h0 : j = 0
  ·rw [decide_eq_false (show ¬ 0 < (j : Int) by omega), if_neg (by simp)]
   refine wp_skip ?_
   rw [if_pos h0] at hnx
   refine tail a3 [] (by decide) hnx ?_
   have e : joinL (digs a j) = [] := by rw [h0]; rfl
   rw [e] at h3
   exact h3.mono (by simp)
  ·rw [decide_eq_true (show 0 < (j : Int) by omega), if_pos rfl]
   rw [if_neg h0] at hnx
   refine qm (lreg11 hC TX sa S hS _ (show (joinL (digs a j)).length ≤ 2000 by omega) j (by omega) a3 (h3.mono (by simp)) _ fun a4 h4 => ?_)
   exact tail a4 (joinL (digs a j) ++ [44]) (by rw [List.length_append]; simp; omega) hnx (h4.mono (by simp))
 ·rw [decide_eq_false (show ¬ (j : Int) < (a.x22.length : Int) by omega), if_neg (by simp)]
  refine wp_exit ?_
  refine hk _ _ TX ?_
  have e : joinL (digs a j) = listV a := by unfold digs listV; rw [List.take_of_length_le (by omega)]
  rw [e] at h2
  exact h2.mono (by simp)
end
theorem tl_len {n least : Int} (h0 : n = least ∨ 0 ≤ n) (h1 : n ≤ most) : (told n least).length ≤ 30 := by
 unfold told
 split
 ·simp
 ·rename_i h
  have := digits_short n (by omega) h1
  omega
section
variable {cs : Array Value} {a : AskP} {A5 A9 A10 A19 A22 : Option Addr} {c5 c9 c10 c19 c22 : Nat} (hC : Cells cs a A5 A9 A10 A19 A22 c5 c9 c10 c19 c22) {g : Nat} {w W : World} (TW : OneAt w g cs a W) (sa : AskS a)
include hC TW sa
theorem lbody  (hn : ∀ k, k < 6 → leastN k ≤ a.n k ∧ a.n k ≤ most) (hall : ∀ n ∈ a.x22, 0 ≤ n ∧ n ≤ most) (hst : 0 ≤ a.x23 ∧ a.x23 ≤ 2) (a0 : Act) (h0 : KN 130 a0 [(1, ptr g)]) :
  Code.wp Tryd.prog (sndC (Tryd.f39.body.getD .skip)) (QR (fun _ _ => False) fun a' W' => KN 130 a' [(2, .string (strOfNums (linesS a)))] ∧ Below w.heap.size w W') a0 W := by
 have l3 := hn 0 (by decide)
 have l11 := hn 1 (by decide)
 have l15 := hn 2 (by decide)
 have l18 := hn 3 (by decide)
 have l20 := hn 4 (by decide)
 have l21 := hn 5 (by decide)
 simp only [leastN, AskP.n, most] at l3 l11 l15 l18 l20 l21
 simp at l3 l11 l15 l18 l20 l21
 have T3 := tl_len (n := a.x3) (least := -1) (by omega) (by unfold most; omega)
 have T11 := tl_len (n := a.x11) (least := 0) (by omega) (by unfold most; omega)
 have T15 := tl_len (n := a.x15) (least := 0) (by omega) (by unfold most; omega)
 have T18 := tl_len (n := a.x18) (least := -1) (by omega) (by unfold most; omega)
 have T20 := tl_len (n := a.x20) (least := 0) (by omega) (by unfold most; omega)
 have T21 := tl_len (n := a.x21) (least := 0) (by omega) (by unfold most; omega)
 have hcode : sndC (Tryd.f39.body.getD .skip) = .seq (.region 1 (opsR 1 Tryd.f39.body) true) (.seq (.region 2 (opsR 2 Tryd.f39.body) true) (.seq (.region 3 (opsR 3 Tryd.f39.body) true) (.seq (.seq (.region 4 (opsR 4 Tryd.f39.body) false) (.cond (.tmp 89) (.region 5 (opsR 5 Tryd.f39.body) false) (.skip))) (.seq (.region 6 (opsR 6 Tryd.f39.body) false) (.seq (.seq (.region 7 (opsR 7 Tryd.f39.body) false) (.block 0 (.loop (.seq (.seq (.region 8 (opsR 8 Tryd.f39.body) false) (.cond (.tmp 103) (.skip) (.exit 0))) (.seq (.block 1 (.seq (.seq (.region 10 (opsR 10 Tryd.f39.body) false) (.cond (.tmp 107) (.region 11 (opsR 11 Tryd.f39.body) false) (.skip))) (.region 12 (opsR 12 Tryd.f39.body) false))) (.region 9 (opsR 9 Tryd.f39.body) false)))))) (.seq (.region 13 (opsR 13 Tryd.f39.body) false) (.seq (.region 14 (opsR 14 Tryd.f39.body) true) (.ret)))))))) := by kernel_rfl
 rw [hcode]
 clear hcode
 refine wp_seq (qm (lreg1 hC TW sa a0 h0 _ fun a1 W1 T1 h1 => ?_))
 have hS1 : (rowL [114, 97, 110, 103, 101] (a.x6) ++ rowL [109, 97, 116, 99, 104] (a.x7) ++ rowL [110, 111, 110, 101] (a.x8) ++ rowL [112, 114, 101, 102, 105, 120] (a.x12) ++ rowL [115, 105, 103, 110] (a.x13) ++ rowL [97, 102, 116, 101, 114] (a.x14)).length ≤ 20000 := by
  have := rowL_len [114, 97, 110, 103, 101] (a.x6) (by decide)
  have := rowL_len [109, 97, 116, 99, 104] (a.x7) (by decide)
  have := rowL_len [110, 111, 110, 101] (a.x8) (by decide)
  have := rowL_len [112, 114, 101, 102, 105, 120] (a.x12) (by decide)
  have := rowL_len [115, 105, 103, 110] (a.x13) (by decide)
  have := rowL_len [97, 102, 116, 101, 114] (a.x14) (by decide)
  simp only [List.length_append]
  have := sa.l6; have := sa.l7; have := sa.l8; have := sa.l12; have := sa.l13; have := sa.l14
  omega
 generalize hs1 : rowL [114, 97, 110, 103, 101] (a.x6) ++ rowL [109, 97, 116, 99, 104] (a.x7) ++ rowL [110, 111, 110, 101] (a.x8) ++ rowL [112, 114, 101, 102, 105, 120] (a.x12) ++ rowL [115, 105, 103, 110] (a.x13) ++ rowL [97, 102, 116, 101, 114] (a.x14) = S1 at h1 hS1
 refine wp_seq (qm (lreg2 hC T1 sa S1 (by omega) a1 (h1.mono (by simp)) _ fun a2 W2 T2 h2 => ?_))
 have hS2 : (S1 ++ rowL [111, 119, 110] (Six.enc a.x5) ++ rowL [109, 101, 116, 97] (Six.enc a.x9) ++ rowL [116, 97, 103, 115] (Six.enc a.x10) ++ rowL [107, 101, 121] (Six.enc a.x19)).length ≤ 60000 := by
  have := rowL_len [111, 119, 110] (Six.enc a.x5) (by decide)
  have := rowL_len [109, 101, 116, 97] (Six.enc a.x9) (by decide)
  have := rowL_len [116, 97, 103, 115] (Six.enc a.x10) (by decide)
  have := rowL_len [107, 101, 121] (Six.enc a.x19) (by decide)
  have := (Six.enc_len a.x5).2; have := (Six.enc_len a.x9).2; have := (Six.enc_len a.x10).2; have := (Six.enc_len a.x19).2
  simp only [List.length_append]
  have := sa.l5; have := sa.l9; have := sa.l10; have := sa.l19
  omega
 generalize hs2 : S1 ++ rowL [111, 119, 110] (Six.enc a.x5) ++ rowL [109, 101, 116, 97] (Six.enc a.x9) ++ rowL [116, 97, 103, 115] (Six.enc a.x10) ++ rowL [107, 101, 121] (Six.enc a.x19) = S2 at h2 hS2
 refine wp_seq (qm (lreg3 hC T2 sa S2 (by omega) ⟨by omega, by omega⟩ T3 ⟨by omega, by omega⟩ T11 ⟨by omega, by omega⟩ T15 ⟨by omega, by omega⟩ T18 ⟨by omega, by omega⟩ T20 ⟨by omega, by omega⟩ T21 a2 (h2.mono (by simp)) _ fun a3 W3 T3' h3 => ?_))
 have hS3 : (S2 ++ rowL [105, 100] (told a.x3 (-1)) ++ rowL [117, 110, 116, 105, 108] (told a.x11 0) ++ rowL [109, 111, 115, 116] (told a.x15 0) ++ rowL [102, 114, 111, 109, 45, 105, 100] (told a.x18 (-1)) ++ rowL [117, 112, 108, 111, 97, 100] (told a.x20 0) ++ rowL [110, 111] (told a.x21 0)).length ≤ 70000 := by
  have := rowL_len [105, 100] (told a.x3 (-1)) (by decide)
  have := rowL_len [117, 110, 116, 105, 108] (told a.x11 0) (by decide)
  have := rowL_len [109, 111, 115, 116] (told a.x15 0) (by decide)
  have := rowL_len [102, 114, 111, 109, 45, 105, 100] (told a.x18 (-1)) (by decide)
  have := rowL_len [117, 112, 108, 111, 97, 100] (told a.x20 0) (by decide)
  have := rowL_len [110, 111] (told a.x21 0) (by decide)
  simp only [List.length_append]
  omega
 generalize hs3 : S2 ++ rowL [105, 100] (told a.x3 (-1)) ++ rowL [117, 110, 116, 105, 108] (told a.x11 0) ++ rowL [109, 111, 115, 116] (told a.x15 0) ++ rowL [102, 114, 111, 109, 45, 105, 100] (told a.x18 (-1)) ++ rowL [117, 112, 108, 111, 97, 100] (told a.x20 0) ++ rowL [110, 111] (told a.x21 0) = S3 at h3 hS3
 have hT3 := h3.mono (l' := [(1, ptr g), (3, .string (strOfNums S3))]) (by simp)
 have tail : ∀ a4 W4 (S : List Int), S = S3 ++ rowL [102, 114, 111, 109] (fromV a) → OneAt w g cs a W4 → KN 130 a4 [(1, ptr g), (3, .string (strOfNums S))] →
   Code.wp Tryd.prog (.seq (.region 6 (opsR 6 Tryd.f39.body) false) (.seq (.seq (.region 7 (opsR 7 Tryd.f39.body) false) (.block 0 (.loop (.seq (.seq (.region 8 (opsR 8 Tryd.f39.body) false) (.cond (.tmp 103) (.skip) (.exit 0))) (.seq (.block 1 (.seq (.seq (.region 10 (opsR 10 Tryd.f39.body) false) (.cond (.tmp 107) (.region 11 (opsR 11 Tryd.f39.body) false) (.skip))) (.region 12 (opsR 12 Tryd.f39.body) false))) (.region 9 (opsR 9 Tryd.f39.body) false)))))) (.seq (.region 13 (opsR 13 Tryd.f39.body) false) (.seq (.region 14 (opsR 14 Tryd.f39.body) true) (.ret))))) (QR (fun _ _ => False) fun a' W' => KN 130 a' [(2, .string (strOfNums (linesS a)))] ∧ Below w.heap.size w W') a4 W4 := by
  intro a4 W4 S hS T4 h4
  have hSl : S.length ≤ 80000 := by
   rw [hS, List.length_append]
   have h5 := rowL_len [102, 114, 111, 109] (fromV a) (by decide)
   have h6 : (fromV a).length ≤ 6001 := by
    unfold fromV
    split
    ·simp
    ·simp only [List.length_append, List.length_cons]; have := sa.l16; have := sa.l17; omega
   omega
  refine wp_seq (qm (lreg6 hC T4 sa S (by omega) a4 h4 _ fun a5 h5 => ?_))
  refine wp_seq (qm (lloop hC T4 sa hall S (by omega) a5 h5 _ fun a6 W6 T6 h6 => ?_))
  have hll : (listV a).length ≤ 2000 := by
   have := digs_len sa hall a.x22.length
   unfold digs at this
   rw [List.take_length] at this
   unfold listV
   omega
  refine wp_seq (qm (lreg13 cs a g w W6 T6 S (listV a) a6 h6 _ fun a7 h7 => ?_))
  obtain ⟨j, hx⟩ : ∃ j : Nat, a.x23 = (j : Int) := ⟨a.x23.toNat, by omega⟩
  have hj : j < 3 := by omega
  have T7 := T6.below (below_alloc (Below.refl W6.heap.size W6) (.cells stB 9))
  refine wp_seq (qm (lreg14 hC T7 sa S (listV a) (by omega) hll W6.heap.size j hj hx stB (stB_at hj hx).1 (stB_at hj hx).2 (blk_new W6 _) a7 (h7.mono (by simp)) _ fun a8 W8 T8 h8 => ?_))
  refine wp_ret ?_
  have e : linesS a = S ++ rowL [108, 105, 115, 116] (listV a) ++ rowL [115, 116, 97, 116, 101] (stateV a) := by
   rw [lines_eq, hS, ← hs3, ← hs2, ← hs1]
   simp only [extraS, accR, tL, oL, nL, leastN, AskP.t, AskP.o, AskP.n, List.getD_cons_zero, List.getD_cons_succ, List.nil_append, List.append_assoc]
   simp
  rw [e]
  exact ⟨h8, T8.2⟩
 refine wp_seq (wp_seq ?_)
 by_cases h16 : a.x16 = []
 ·by_cases h17 : a.x17 = []
  ·refine qm (lreg4c hC T3' sa S3 (by omega) h16 h17 a3 hT3 _ fun a4 h4 => ?_)
   refine wp_cond (t := false) (h4.at (by simp)) ?_
   rw [if_neg (by simp)]
   refine wp_skip ?_
   exact tail a4 W3 S3 (by rw [show fromV a = [] from by unfold fromV; rw [if_pos ⟨h16, h17⟩], rowL_nil, List.append_nil]) T3' (h4.mono (by simp))
  ·refine qm (lreg4b hC T3' sa S3 (by omega) h16 h17 a3 hT3 _ fun a4 h4 => ?_)
   refine wp_cond (t := true) (h4.at (by simp)) ?_
   rw [if_pos rfl]
   refine qm (lreg5 hC T3' sa S3 (by omega) sa.l16 sa.l17 a4 (h4.mono (by simp)) _ fun a5 W5 T5 h5 => ?_)
   exact tail a5 W5 _ (by rw [show fromV a = a.x16 ++ [47] ++ a.x17 from by unfold fromV; rw [if_neg (fun h => h17 h.2)]; simp]) T5 (h5.mono (by simp))
 ·refine qm (lreg4a hC T3' sa S3 (by omega) h16 a3 hT3 _ fun a4 h4 => ?_)
  refine wp_cond (t := true) (h4.at (by simp)) ?_
  rw [if_pos rfl]
  refine qm (lreg5 hC T3' sa S3 (by omega) sa.l16 sa.l17 a4 (h4.mono (by simp)) _ fun a5 W5 T5 h5 => ?_)
  exact tail a5 W5 _ (by rw [show fromV a = a.x16 ++ [47] ++ a.x17 from by unfold fromV; rw [if_neg (fun h => h16 h.1)]; simp]) T5 (h5.mono (by simp))
end
theorem rlines_calls (cs : Array Value) (ok : Nat → Prop) (nl : Prop) (a : AskP) (w : World) (hA : AskC w ok nl cs a) (sa : AskS a) (hn : ∀ k, k < 6 → leastN k ≤ a.n k ∧ a.n k ≤ most) (hall : ∀ n ∈ a.x22, 0 ≤ n ∧ n ≤ most) (hst : 0 ≤ a.x23 ∧ a.x23 ≤ 2) :
  Calls Tryd.prog 39 #[.agg cs] w fun e w' => e = .returned (.string (strOfNums (linesS a))) ∧ Below w.heap.size w w' := by
 obtain ⟨A5, A9, A10, A19, A22, c5, c9, c10, c19, c22, hC⟩ := Cells.of hA
 have TW := Lib.hid (OneAt.start hA)
 clear hA
 go_enter Tryd.func39, Tryd.ntmps39
 refine wp_seq_k fun K hK => ?_
 replace hK := Lib.hid hK
 go_wp2_with fail
 refine hK.out _ _ (Code.wp_mono ?_ (lbody hC TW.out sa hn hall hst _ ⟨by rfl, rfl, List.forall_mem_cons.2 ⟨⟨(by decide : (1 : Nat) < 130), rfl⟩, fun _ h => nomatch h⟩⟩))
 intro e a' W' hq
 cases e with
 | ret =>
  obtain ⟨k, hb⟩ := hq
  refine bodyPost_ret (results_tmp rfl _ _ _) k.2.1 ?_
  rw [show a'.tmps.getD 2 undef = .string (strOfNums (linesS a)) from k.at (n := 2) (by simp)]
  exact ⟨rfl, hb⟩
 | _ => exact (hq : False).elim
end Go.Proofs.YtjkehapbemjnpaaDoor
