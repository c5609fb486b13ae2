/- The reference's Put, walked by hand, whatever the frame holds elsewhere; each condition stands in its theorem. -/
import Derived.Test.YtjkehapbemjnpaaDoorVRGet
import Derived.Test.YtjkehapbemjnpaaDoorVRCheck
import Derived.Test.YtjkehapbemjnpaaDoorVRKn
import Derived.Test.YtjkehapbemjnpaaDoorVApp
import Derived.Test.YtjkehapbemjnpaaDoorVBack
set_option maxRecDepth 100000
set_option maxHeartbeats 8000000
namespace Go.Proofs.YtjkehapbemjnpaaDoor
open Go.RowKit Go.Proofs.YtjkehapbemjnpaaDoorW.PrintWords Go.Proofs.YtjkehapbemjnpaaDoorW.PrintLast Go.Proofs.YtjkehapbemjnpaaDoorW.PrintMore Lf Kit Cut Pl Num Chain
set_option linter.unusedVariables false
set_option linter.unusedSimpArgs false
theorem check_all {a : AskP} (h : checkS a = 0) : (∀ k, k < 6 → leastN k ≤ a.n k ∧ a.n k ≤ most) ∧ (∀ n ∈ a.x22, 0 ≤ n ∧ n ≤ most) ∧ 0 ≤ a.x23 ∧ a.x23 ≤ 2 := by
 unfold checkS at h
 by_cases h1 : wordS a.x0 = []
 ·rw [if_pos h1] at h; cases h
 ·by_cases h2 : a.x23 < 0 ∨ 2 < a.x23
  ·rw [if_neg h1, if_pos h2] at h; cases h
  ·rw [if_neg h1, if_neg h2] at h
   have h3 : (-1 ≤ a.x3 ∧ a.x3 ≤ most) ∧ (0 ≤ a.x11 ∧ a.x11 ≤ most) ∧ (0 ≤ a.x15 ∧ a.x15 ≤ most) ∧ (-1 ≤ a.x18 ∧ a.x18 ≤ most) ∧ (0 ≤ a.x20 ∧ a.x20 ≤ most) ∧ (0 ≤ a.x21 ∧ a.x21 ≤ most) ∧ (∀ n ∈ a.x22, 0 ≤ n ∧ n ≤ most) :=
    Decidable.byContradiction fun h3 => by rw [if_neg h3] at h; cases h
   obtain ⟨k0, k1, k2, k3, k4, k5, hl⟩ := h3
   refine ⟨fun k hk => ?_, hl, by omega, by omega⟩
   match k, hk with
   | 0, _ => exact k0
   | 1, _ => exact k1
   | 2, _ => exact k2
   | 3, _ => exact k3
   | 4, _ => exact k4
   | 5, _ => exact k5
theorem not_4 (b : Bool) (a : Act) (x : Operand) (W : World) (o : Oper) (hx : a.eval x = .bool b) (ho : o.op = .unOp .not 4 x) : (execOp a.eval o).run Tryd.prog W = .ok (.value (.bool (!b))) W := by
 unfold execOp
 simp only [ho, hx]
 go_simp
def PFin (w : World) (r : List Int × Int) (a' : Act) (W' : World) : Prop :=
 ∃ A c, KN 60 a' [(2, .slice A r.1.length c), (3, .int .i64 r.2)] ∧ r.1.length ≤ c ∧ (A = none → c = 0) ∧ Kd.C (Kd.int .u8) W' A r.1.length r.1 ∧ Below w.heap.size w W'
theorem pfin_no {w W : World} {a' : Act} {code : Int} (h : KN 60 a' [(2, .slice none 0 0), (3, .int .i64 code)]) (hb : Below w.heap.size w W) : PFin w ([], code) a' W := ⟨none, 0, h, Nat.le_refl _, fun _ => rfl, Kd.C_nil _ _, hb⟩
theorem bytesCells_size (w : World) (s : ByteArray) : (Lib.bytesCells w 5 s).size = grownCap w s.size 0 5 := by
 have := grownCap_ge w s.size 0 5
 have h : s.data.size = s.size := rfl
 simp [Lib.bytesCells, h]
 omega
theorem run_app (A B : Option Addr) (n m c d : Nat) (v : Value) (W W' : World) (a : Act) (x y : Operand) (o : Oper) (hx : a.eval x = .slice A n c) (hy : a.eval y = .slice B m d) (ho : o.op = .call { callee := .builtin .append, args := #[x, y], argTypes := #[22, 22] })
  (h : ∀ ty, (Builtin.append_ #[22, 22] ty #[.slice A n c, .slice B m d]).run Tryd.prog W = .ok v W') : (execOp a.eval o).run Tryd.prog W = .ok (.value v) W' := by
 simp [execOp, ho, resolve, invoke, builtin, hx, hy, h, Result.andThen]
theorem preg9 (cs : Array Value) (a : AskP) (A4 : Option Addr) (c4 : Nat) (e0 : cs[0]? = some (.int .i64 a.x0)) (e1 : cs[1]? = some (.string (strOfNums a.x1))) (e2 : cs[2]? = some (.string (strOfNums a.x2))) (e4 : cs[4]? = some (.slice A4 a.x4.length c4)) (g : Nat) (w W : World) (TW : OneAt w g cs a W) (sa : AskS a) (hck : checkS a = 0) (a0 : Act) (h0 : KN 60 a0 [(1, ptr g), (5, .string (strOfNums (headS a)))]) (K : Act → World → Prop)
  (hk : ∀ a' W' A c, OneAt w g cs a W' → (bytesS a).length ≤ c → A ≠ none → Kd.C (Kd.int .u8) W' A (bytesS a).length (bytesS a) → KN 60 a' [(6, .slice A (bytesS a).length c), (1, ptr g)] → K a' W') : Code.wp Tryd.prog (.region 9 (opsR 9 Tryd.f14.body) true) (QN K) a0 W := by
 obtain ⟨hn, hall, hst⟩ := check_all hck
 have hbl := bytesS_len sa hn hall
 have eB : bytesS a = (headS a ++ linesS a ++ [10, 10]) ++ a.x4 := rfl
 have hLs : Byt (headS a ++ linesS a ++ [10, 10]) := ((headS_byt sa.b).app (lines_byt sa.b)).app (by unfold Byt; decide)
 have hLb : (bytesS a).length = (headS a ++ linesS a ++ [10, 10]).length + a.x4.length := by rw [eB, List.length_append]
 have hL2 : (headS a ++ linesS a ++ [10, 10]).length = (headS a).length + (linesS a).length + 2 := by simp only [List.length_append, List.length_cons, List.length_nil]
 refine sq (S := fun W => W.heap[g]? = some (.cells cs 26 (0, 0))) 10 TW.drew.1.1 fun S0 => ?_
 replace TW := TW.drew
 generalize W.drew = W0 at *
 have t0 := h0.l
 refine pq t0 0 (oa rfl) (fun _ _ => run_mv t0.a) fun u1 t1 => ?_
 refine pq t1 6 (oa rfl) (fun _ _ => (fld 4 (by decide)) _ _ g _ _ t1.a) fun u2 t2 => ?_
 refine tq t2 1 (oa rfl) S0 (fun _ _ h => lod_26 g cs (show _ = ptr g from t2.a (n := 1)) h TW.1.2.size) fun u3 t3 => ?_
 refine tq t3 7 (oa rfl) S0 (fun _ _ h => lod_22 _ _ _ _ _ _ t3.a ((blk_cell h 4).trans e4)) fun u4 t4 => ?_
 refine cq t4 2 Tryd.func39 (oa rfl) (rlines_calls cs _ _ a W0 TW.1.2 sa hn hall hst) ?_
 rintro e X ⟨rfl, B2⟩
 replace TW := TW.below B2
 refine ⟨_, rfl, TW.1.1, fun u5 t5 S1 => ?_⟩
 refine pq t5 3 (oa rfl) (fun _ _ ho => add_l ho t5.a t5.a) fun u6 t6 => ?_
 refine pq t6 4 (oa rfl) (fun _ _ ho => add_l (ys := [10, 10]) ho t6.a rfl) fun u7 t7 => ?_
 have C4 := (V_C (e := 5) (b := 0) (TW.1.2.cell 4 _ e4)).2.2
 have hLz := strOfNums_size (headS a ++ linesS a ++ [10, 10])
 have hLy := bytesOf_str hLs
 rw [eB, List.length_append] at hk
 generalize headS a ++ linesS a ++ [10, 10] = LL at *
 have BB := bytes_below (Below.refl X.heap.size X) (Nat.le_refl _) 5 (strOfNums LL)
 have CB := bytes_C X (strOfNums LL) (by rw [hLz]; omega)
 have KB := Lib.bytesWorld_at_new X 5 (strOfNums LL)
 have hgc := grownCap_ge X (strOfNums LL).size 0 5
 have hgm := grownCap_le_maxLen X (strOfNums LL).size 0 5 (by rw [hLz]; simp only [maxLen]; omega)
 have hcz := bytesCells_size X (strOfNums LL)
 rw [hcz] at KB
 rw [hLy, hLz] at CB
 have lx := blk_lt TW.1.1
 have C4' := Kd.C_below C4 BB
 have TW2 := TW.below BB
 refine nq t7 5 (oa rfl) (fun o ho => conv_22 (strOfNums LL) t7.a ho) TW2.1.1 fun u8 t8 S1 => ?_
 rw [hLz] at KB hgc hgm hcz
 rw [hLz] at t8
 generalize grownCap X LL.length 0 5 = cap at *
 generalize hWB : Lib.bytesWorld X 5 (strOfNums LL) = WB at *
 have hwz : WB.heap.size = X.heap.size + 1 := by rw [← hWB]; exact Lib.bytesWorld_size X 5 _
 generalize Lib.bytesCells X 5 (strOfNums LL) = cur at *
 have hap := fun ty => app_bytes X.heap.size LL.length cap LL A4 a.x4.length c4 a.x4 cur KB hcz hgc hgm (by omega) CB C4' (by omega) X.heap.size (Nat.le_refl _) ty
 obtain ⟨A', c', W', hr0, hc', hA', CA, BA⟩ := hap 0
 have hrun : ∀ ty, (Builtin.append_ #[22, 22] ty #[.slice (some ⟨X.heap.size, 0, none⟩) LL.length cap, .slice A4 a.x4.length c4]).run Tryd.prog WB = .ok (.slice A' (LL.length + a.x4.length) c') W' := fun ty => hr0
 have TW3 : OneAt w g cs a W' := TW.below (BB.trans BA)
 refine nq t8 8 (oa rfl) (fun o ho => run_app _ _ _ _ _ _ _ _ _ _ _ _ _ t8.a t8.a ho hrun) TW3.1.1 fun u9 t9 S2 => ?_
 refine pq t9 9 (oa rfl) (fun _ _ => run_assign' t9.a) fun u10 t10 => ?_
 exact dq (hk _ _ A' c' TW3 hc' hA' CA t10.m)
theorem ptail (cs : Array Value) (a : AskP) (A4 : Option Addr) (c4 : Nat) (e0 : cs[0]? = some (.int .i64 a.x0)) (e1 : cs[1]? = some (.string (strOfNums a.x1))) (e2 : cs[2]? = some (.string (strOfNums a.x2))) (e4 : cs[4]? = some (.slice A4 a.x4.length c4)) (g : Nat) (w W : World) (TW : OneAt w g cs a W) (sa : AskS a) (hck : checkS a = 0) (a0 : Act) (h0 : KN 60 a0 [(1, ptr g), (5, .string (strOfNums (headS a)))]) : Code.wp Tryd.prog (.seq (.region 9 (opsR 9 Tryd.f14.body) true) (.seq (.region 10 (opsR 10 Tryd.f14.body) false) (.seq (.seq (.region 11 (opsR 11 Tryd.f14.body) false) (.cond (.tmp 53) (.seq (.region 12 (opsR 12 Tryd.f14.body) false) (.ret)) (.skip))) (.seq (.seq (.region 13 (opsR 13 Tryd.f14.body) false) (.cond (.tmp 58) (.seq (.region 14 (opsR 14 Tryd.f14.body) false) (.ret)) (.skip))) (.seq (.region 15 (opsR 15 Tryd.f14.body) false) (.ret)))))) (QR (fun _ _ => False) (PFin w (backS a (bytesS a)))) a0 W := by
 obtain ⟨hn, hall, hst⟩ := check_all hck
 have hbl := bytesS_len sa hn hall
 have hbb := bytesS_byt sa.b
 refine wp_seq (Code.wp_mono (QN.imp fun _ _ h => h) (preg9 cs a A4 c4 e0 e1 e2 e4 g w W TW sa hck a0 h0 _ fun x1 W A c TW hc hA C6 k1 => ?_))
 generalize hR : backS a (bytesS a) = r
 unfold backS at hR
 have hgn := (getS_n (N := 800000) (bytesS a) ⟨hbb, by omega⟩).toB (by decide)
 have HG := rget_calls (fun _ => True) A c (bytesS a) W C6 hc hbb (by omega) (fun _ _ => trivial)
 generalize bytesS a = b at *
 generalize getS b = gb at HG hgn hR
 obtain ⟨y, code⟩ := gb
 simp only at hgn hR
 have t1 := k1.l
 refine wp_seq (wr ?_)
 refine lv t1 (oa rfl) (fun _ => run_mv t1.a) fun u2 t2 => ?_
 refine lc t2 Tryd.func8 (oa rfl) HG ?_
 rintro e W5 ⟨c8, rfl, A8, B5⟩
 clear HG
 refine ⟨_, rfl, fun u3 t3 => ?_⟩
 refine lv t3 (oa rfl) (fun _ => run_mv t3.a) fun u4 t4 => ?_
 refine lv t4 (oa rfl) (fun _ => ext_a 0 t4.a) fun u5 t5 => ?_
 refine lv t5 (oa rfl) (fun _ => ext_a 1 t5.a) fun u6 t6 => ?_
 refine la t6 (oa rfl) fun u7 t7 => ?_
 refine ls_row W5.heap.size c8 zA (oa rfl) t7.a t7.a (blk_new W5 _) A8.size A8.one zA_size ?_
 rw [World.setRow_alloc_new]
 refine lv t7 (oa rfl) (fun _ => run_assign' t7.a) fun u8 t8 => ?_
 refine le_ ?_
 have F5 := below_step B5 (below_alloc (Below.refl W5.heap.size W5) (.cells c8 26))
 have K8 := blk_new W5 (.cells c8 26)
 replace A8 := A8.below (below_alloc (Below.refl W5.heap.size W5) (.cells c8 26))
 replace TW := TW.below F5
 have C6' := Kd.C_below C6 F5
 clear B5 C6 F5
 generalize W5.heap.size = b8 at *
 generalize W5.alloc (.cells c8 26) = W6 at *
 refine wp_seq (wp_seq (wr ?_))
 refine lv t8 (oa rfl) (fun _ => run_mv t8.a) fun u9 t9 => ?_
 refine lv t9 (oa rfl) (fun _ => neq_27 code 0 t9.a) fun u10 t10 => ?_
 refine le_ ?_
 refine wp_cond (t := code != 0) t10.a ?_
 by_cases hcd : code = 0
 ·subst hcd
  rw [show ((0 : Int) != 0) = false from rfl, if_neg (by simp)]
  refine wp_skip ?_
  replace hR : (if a = y then (b, 0) else ([], 4)) = r := by simpa using hR
  refine wp_seq (wp_seq (wr ?_))
  refine lv t10 (oa rfl) (fun _ => lod_26 g cs (show _ = ptr g from t10.a (n := 1)) TW.1.1 TW.1.2.size) fun u11 t11 => ?_
  refine lv t11 (oa rfl) (fun _ => lod_26 b8 c8 t11.a K8 A8.size) fun u12 t12 => ?_
  refine lc t12 Tryd.func9 (oa rfl) (rsame_calls cs c8 _ _ _ _ a y W6 TW.1.2 A8 sa.b hgn) ?_
  rintro e W7 ⟨rfl, B7⟩
  replace TW := TW.below B7
  have C6 := Kd.C_below C6' B7
  refine ⟨_, rfl, fun u13 t13 => ?_⟩
  refine lv t13 (oa rfl) (fun _ => not_4 _ _ _ _ _ t13.a) fun u14 t14 => ?_
  refine le_ ?_
  refine wp_cond (t := !decide (a = y)) t14.a ?_
  by_cases he : a = y
  ·obtain rfl : r = (b, 0) := by rw [← hR, if_pos he]
   rw [decide_eq_true he, if_neg (by simp)]
   refine wp_skip ?_
   refine wp_seq (wr ?_)
   refine lv t14 (oa rfl) (fun _ => run_mv t14.a) fun u15 t15 => ?_
   refine lv t15 (oa rfl) (fun _ => run_assign' t15.a) fun u16 t16 => ?_
   refine lv (v := (.int .i64 0)) t16 (oa rfl) (fun _ => run_assign' rfl) fun u17 t17 => ?_
   refine le_ ?_
   refine wp_ret ?_
   exact ⟨A, c, t17.m, hc, fun h => (hA h).elim, C6, TW.2⟩
  ·obtain rfl : r = ([], 4) := by rw [← hR, if_neg he]
   rw [decide_eq_false he, if_pos (by rfl)]
   refine wp_seq (wr ?_)
   refine lv (v := (.slice none 0 0)) t14 (oa rfl) (fun _ => run_assign' rfl) fun u15 t15 => ?_
   refine lv (v := (.int .i64 4)) t15 (oa rfl) (fun _ => run_assign' rfl) fun u16 t16 => ?_
   refine le_ ?_
   refine wp_ret ?_
   exact pfin_no t16.m TW.2
 ·rw [show (code != 0) = true from by simpa using hcd, if_pos rfl]
  obtain rfl : r = ([], code) := by rw [← hR, if_pos hcd]
  refine wp_seq (wr ?_)
  refine lv t10 (oa rfl) (fun _ => run_mv t10.a) fun u11 t11 => ?_
  refine lv (v := (.slice none 0 0)) t11 (oa rfl) (fun _ => run_assign' rfl) fun u12 t12 => ?_
  refine lv t12 (oa rfl) (fun _ => run_assign' t12.a) fun u13 t13 => ?_
  refine le_ ?_
  refine wp_ret ?_
  exact pfin_no t13.m TW.2
theorem pbody (cs : Array Value) (a : AskP) (A4 : Option Addr) (c4 : Nat) (e0 : cs[0]? = some (.int .i64 a.x0)) (e1 : cs[1]? = some (.string (strOfNums a.x1))) (e2 : cs[2]? = some (.string (strOfNums a.x2))) (e4 : cs[4]? = some (.slice A4 a.x4.length c4)) (g : Nat) (w W : World) (TW : OneAt w g cs a W) (sa : AskS a) (a0 : Act) (h0 : KN 60 a0 [(1, ptr g)]) : Code.wp Tryd.prog (sndC (Tryd.f14.body.getD .skip)) (QR (fun _ _ => False) (PFin w (putS a))) a0 W := by
 have hcode : sndC (Tryd.f14.body.getD .skip) = .seq (.seq (.region 1 (opsR 1 Tryd.f14.body) false) (.seq (.region 2 (opsR 2 Tryd.f14.body) false) (.cond (.tmp 12) (.seq (.region 3 (opsR 3 Tryd.f14.body) false) (.ret)) (.skip)))) (.seq (.region 4 (opsR 4 Tryd.f14.body) false) (.seq (.seq (.region 5 (opsR 5 Tryd.f14.body) false) (.cond (.tmp 24) (.region 6 (opsR 6 Tryd.f14.body) false) (.skip))) (.seq (.seq (.region 7 (opsR 7 Tryd.f14.body) false) (.cond (.tmp 32) (.region 8 (opsR 8 Tryd.f14.body) false) (.skip))) (.seq (.region 9 (opsR 9 Tryd.f14.body) true) (.seq (.region 10 (opsR 10 Tryd.f14.body) false) (.seq (.seq (.region 11 (opsR 11 Tryd.f14.body) false) (.cond (.tmp 53) (.seq (.region 12 (opsR 12 Tryd.f14.body) false) (.ret)) (.skip))) (.seq (.seq (.region 13 (opsR 13 Tryd.f14.body) false) (.cond (.tmp 58) (.seq (.region 14 (opsR 14 Tryd.f14.body) false) (.ret)) (.skip))) (.seq (.region 15 (opsR 15 Tryd.f14.body) false) (.ret))))))))) := by kernel_rfl
 rw [hcode]
 clear hcode
 have t1 := h0.l
 generalize hR : putS a = r
 refine wp_seq (wp_seq (wr ?_))
 refine lv t1 (oa rfl) (fun _ => lod_26 g cs (show _ = ptr g from t1.a (n := 1)) TW.1.1 TW.1.2.size) fun u2 t2 => ?_
 refine lc t2 Tryd.func38 (oa rfl) (Chk.rcheck_calls cs _ _ a W TW.1.2 sa) ?_
 rintro e W1 ⟨rfl, B1⟩
 replace TW := TW.below B1
 refine ⟨_, rfl, fun u3 t3 => ?_⟩
 refine lv t3 (oa rfl) (fun _ => run_assign' t3.a) fun u4 t4 => ?_
 refine le_ ?_
 refine wp_seq (wr ?_)
 refine lv t4 (oa rfl) (fun _ => run_mv t4.a) fun u5 t5 => ?_
 refine lv t5 (oa rfl) (fun _ => neq_27 (checkS a) 0 t5.a) fun u6 t6 => ?_
 refine le_ ?_
 refine wp_cond (t := checkS a != 0) t6.a ?_
 by_cases hck : checkS a = 0
 ·rw [hck, show ((0 : Int) != 0) = false from rfl, if_neg (by simp)]
  refine wp_skip ?_
  obtain rfl : r = backS a (bytesS a) := by rw [← hR]; unfold putS; rw [if_neg (fun h => h hck)]
  have hl0 := wordS_len a.x0
  have hl1 := sa.l1
  have hl2 := sa.l2
  have c1 : ∀ W, OneAt w g cs a W → W.cell? ⟨g, 1, none⟩ = some (.string (strOfNums a.x1)) := fun W h => (blk_cell h.1.1 1).trans e1
  have c2 : ∀ W, OneAt w g cs a W → W.cell? ⟨g, 2, none⟩ = some (.string (strOfNums a.x2)) := fun W h => (blk_cell h.1.1 2).trans e2
  refine wp_seq (wr ?_)
  refine lv t6 (oa rfl) (fun _ => (fld 0 (by decide)) _ _ g _ _ t6.a) fun u7 t7 => ?_
  refine lv (v := (.int .i64 a.x0)) t7 (oa rfl) (fun _ => lod_3 _ _ _ _ _ _ t7.a ((blk_cell TW.1.1 0).trans e0)) fun u8 t8 => ?_
  refine lc t8 Tryd.func11 (oa rfl) (rword_calls2 a.x0 W1) ?_
  rintro e W2 ⟨rfl, B2⟩
  replace TW := TW.below B2
  refine ⟨_, rfl, fun u9 t9 => ?_⟩
  refine lv t9 (oa rfl) (fun _ => run_assign' t9.a) fun u10 t10 => ?_
  refine le_ ?_
  have t11 := t10
  have tail : ∀ y, KN 60 y [(1, ptr g), (5, (.string (strOfNums (wordS a.x0 ++ (if a.x1 = [] ∧ a.x2 = [] then [] else 32 :: a.x1)))))] → Code.wp Tryd.prog (.seq (.seq (.region 7 (opsR 7 Tryd.f14.body) false) (.cond (.tmp 32) (.region 8 (opsR 8 Tryd.f14.body) false) (.skip))) (.seq (.region 9 (opsR 9 Tryd.f14.body) true) (.seq (.region 10 (opsR 10 Tryd.f14.body) false) (.seq (.seq (.region 11 (opsR 11 Tryd.f14.body) false) (.cond (.tmp 53) (.seq (.region 12 (opsR 12 Tryd.f14.body) false) (.ret)) (.skip))) (.seq (.seq (.region 13 (opsR 13 Tryd.f14.body) false) (.cond (.tmp 58) (.seq (.region 14 (opsR 14 Tryd.f14.body) false) (.ret)) (.skip))) (.seq (.region 15 (opsR 15 Tryd.f14.body) false) (.ret))))))) (QR (fun _ _ => False) (PFin w (backS a (bytesS a)))) y W2 := by
   intro y ky
   have hm : (wordS a.x0 ++ (if a.x1 = [] ∧ a.x2 = [] then [] else 32 :: a.x1)).length ≤ 4000 := by rw [List.length_append]; split <;> simp <;> omega
   generalize hM : wordS a.x0 ++ (if a.x1 = [] ∧ a.x2 = [] then [] else 32 :: a.x1) = M at ky hm
   have t12 := ky.l
   refine wp_seq (wp_seq (wr ?_))
   refine lv t12 (oa rfl) (fun _ => (fld 2 (by decide)) _ _ g _ _ t12.a) fun u13 t13 => ?_
   refine lv t13 (oa rfl) (fun _ => lod_9 _ _ _ _ _ _ t13.a (c2 _ TW)) fun u14 t14 => ?_
   by_cases h2 : a.x2 = []
   ·have hh : headS a = M := by rw [← hM]; unfold headS; rw [if_pos h2, List.append_nil]
    refine lv (v := (.bool false)) t14 (oa rfl) (fun o ho => (neq_e a.x2 _ _ _ _ t14.a ho).trans (by rw [decide_eq_false (not_not_intro h2)])) fun u15 t15 => ?_
    refine le_ ?_
    refine wp_cond (t := false) t15.a ?_
    rw [if_neg (by simp)]
    refine wp_skip ?_
    exact ptail cs a A4 c4 e0 e1 e2 e4 g w W2 TW sa hck _ (by rw [hh]; exact t15.m)
   ·have hh : headS a = M ++ [47] ++ a.x2 := by rw [← hM]; unfold headS; rw [if_neg h2, List.append_assoc _ [47]]; rfl
    refine lv (v := (.bool true)) t14 (oa rfl) (fun o ho => (neq_e a.x2 _ _ _ _ t14.a ho).trans (by rw [decide_eq_true h2])) fun u15 t15 => ?_
    refine le_ ?_
    refine wp_cond (t := true) t15.a ?_
    rw [if_pos rfl]
    refine wr ?_
    refine lv t15 (oa rfl) (fun _ => run_mv t15.a) fun u16 t16 => ?_
    refine lv t16 (oa rfl) (fun _ => add_s M [47] (by (try simp only [List.length_append, List.length_cons, List.length_nil]); omega) _ _ _ _ _ t16.a rfl) fun u17 t17 => ?_
    refine lv t17 (oa rfl) (fun _ => (fld 2 (by decide)) _ _ g _ _ t17.a) fun u18 t18 => ?_
    refine lv t18 (oa rfl) (fun _ => lod_9 _ _ _ _ _ _ t18.a (c2 _ TW)) fun u19 t19 => ?_
    refine lv t19 (oa rfl) (fun _ => add_s (M ++ [47]) a.x2 (by (try simp only [List.length_append, List.length_cons, List.length_nil]); omega) _ _ _ _ _ t19.a t19.a) fun u20 t20 => ?_
    refine lv t20 (oa rfl) (fun _ => run_assign' t20.a) fun u21 t21 => ?_
    refine le_ ?_
    exact ptail cs a A4 c4 e0 e1 e2 e4 g w W2 TW sa hck _ (by rw [hh]; exact t21.m)
  have t22 := t10
  refine wp_seq (wp_seq (wr ?_))
  refine lv t22 (oa rfl) (fun _ => (fld 1 (by decide)) _ _ g _ _ t22.a) fun u23 t23 => ?_
  refine lv t23 (oa rfl) (fun _ => lod_9 _ _ _ _ _ _ t23.a (c1 _ TW)) fun u24 t24 => ?_
  by_cases h1 : a.x1 = []
  ·by_cases h2 : a.x2 = []
   ·rw [if_pos ⟨h1, h2⟩, List.append_nil] at tail
    refine lv (v := (.bool false)) t24 (oa rfl) (fun o ho => (neq_e a.x1 _ _ _ _ t24.a ho).trans (by rw [decide_eq_false (not_not_intro h1)])) fun u25 t25 => ?_
    refine lv t25 (oa rfl) (fun _ => run_mv t25.a) fun u26 t26 => ?_
    refine lv t26 (oa rfl) (fun _ => (fld 2 (by decide)) _ _ g _ _ t26.a) fun u27 t27 => ?_
    refine lv t27 (oa rfl) (fun _ => lod_9 _ _ _ _ _ _ t27.a (c2 _ TW)) fun u28 t28 => ?_
    refine lv (v := (.bool false)) t28 (oa rfl) (fun o ho => (neq_e a.x2 _ _ _ _ t28.a ho).trans (by rw [decide_eq_false (not_not_intro h2)])) fun u29 t29 => ?_
    refine lv (v := (.bool false)) t29 (oa rfl) (fun _ => run_pick (b := false) t29.a rfl t29.a) fun u30 t30 => ?_
    refine le_ ?_
    refine wp_cond (t := false) t30.a ?_
    rw [if_neg (by simp)]
    refine wp_skip ?_
    exact tail _ t30.m
   ·rw [if_neg (fun h => h2 h.2), show wordS a.x0 ++ 32 :: a.x1 = wordS a.x0 ++ [32] ++ a.x1 from by rw [List.append_assoc]; rfl] at tail
    refine lv (v := (.bool false)) t24 (oa rfl) (fun o ho => (neq_e a.x1 _ _ _ _ t24.a ho).trans (by rw [decide_eq_false (not_not_intro h1)])) fun u25 t25 => ?_
    refine lv t25 (oa rfl) (fun _ => run_mv t25.a) fun u26 t26 => ?_
    refine lv t26 (oa rfl) (fun _ => (fld 2 (by decide)) _ _ g _ _ t26.a) fun u27 t27 => ?_
    refine lv t27 (oa rfl) (fun _ => lod_9 _ _ _ _ _ _ t27.a (c2 _ TW)) fun u28 t28 => ?_
    refine lv (v := (.bool true)) t28 (oa rfl) (fun o ho => (neq_e a.x2 _ _ _ _ t28.a ho).trans (by rw [decide_eq_true h2])) fun u29 t29 => ?_
    refine lv (v := (.bool true)) t29 (oa rfl) (fun _ => run_pick (b := false) t29.a rfl t29.a) fun u30 t30 => ?_
    refine le_ ?_
    refine wp_cond (t := true) t30.a ?_
    rw [if_pos rfl]
    refine wr ?_
    refine lv t30 (oa rfl) (fun _ => run_mv t30.a) fun u31 t31 => ?_
    refine lv t31 (oa rfl) (fun _ => add_s (wordS a.x0) [32] (by (try simp only [List.length_append, List.length_cons, List.length_nil]); omega) _ _ _ _ _ t31.a rfl) fun u32 t32 => ?_
    refine lv t32 (oa rfl) (fun _ => (fld 1 (by decide)) _ _ g _ _ t32.a) fun u33 t33 => ?_
    refine lv t33 (oa rfl) (fun _ => lod_9 _ _ _ _ _ _ t33.a (c1 _ TW)) fun u34 t34 => ?_
    refine lv t34 (oa rfl) (fun _ => add_s (wordS a.x0 ++ [32]) a.x1 (by (try simp only [List.length_append, List.length_cons, List.length_nil]); omega) _ _ _ _ _ t34.a t34.a) fun u35 t35 => ?_
    refine lv t35 (oa rfl) (fun _ => run_assign' t35.a) fun u36 t36 => ?_
    refine le_ ?_
    exact tail _ t36.m
  ·rw [if_neg (fun h => h1 h.1), show wordS a.x0 ++ 32 :: a.x1 = wordS a.x0 ++ [32] ++ a.x1 from by rw [List.append_assoc]; rfl] at tail
   refine lv (v := (.bool true)) t24 (oa rfl) (fun o ho => (neq_e a.x1 _ _ _ _ t24.a ho).trans (by rw [decide_eq_true h1])) fun u25 t25 => ?_
   refine lv t25 (oa rfl) (fun _ => run_mv t25.a) fun u26 t26 => ?_
   refine lof t26 (oa rfl) fun u27 t27 => ?_
   refine lof t27 (oa rfl) fun u28 t28 => ?_
   refine lof t28 (oa rfl) fun u29 t29 => ?_
   refine lv (v := (.bool true)) t29 (oa rfl) (fun _ => run_pick (b := true) t29.a rfl rfl) fun u30 t30 => ?_
   refine le_ ?_
   refine wp_cond (t := true) t30.a ?_
   rw [if_pos rfl]
   refine wr ?_
   refine lv t30 (oa rfl) (fun _ => run_mv t30.a) fun u31 t31 => ?_
   refine lv t31 (oa rfl) (fun _ => add_s (wordS a.x0) [32] (by (try simp only [List.length_append, List.length_cons, List.length_nil]); omega) _ _ _ _ _ t31.a rfl) fun u32 t32 => ?_
   refine lv t32 (oa rfl) (fun _ => (fld 1 (by decide)) _ _ g _ _ t32.a) fun u33 t33 => ?_
   refine lv t33 (oa rfl) (fun _ => lod_9 _ _ _ _ _ _ t33.a (c1 _ TW)) fun u34 t34 => ?_
   refine lv t34 (oa rfl) (fun _ => add_s (wordS a.x0 ++ [32]) a.x1 (by (try simp only [List.length_append, List.length_cons, List.length_nil]); omega) _ _ _ _ _ t34.a t34.a) fun u35 t35 => ?_
   refine lv t35 (oa rfl) (fun _ => run_assign' t35.a) fun u36 t36 => ?_
   refine le_ ?_
   exact tail _ t36.m
 ·rw [show (checkS a != 0) = true from by simpa using hck, if_pos rfl]
  obtain rfl : r = ([], checkS a) := by rw [← hR]; exact put_no rfl hck
  refine wp_seq (wr ?_)
  refine lv t6 (oa rfl) (fun _ => run_mv t6.a) fun u7 t7 => ?_
  refine lv (v := (.slice none 0 0)) t7 (oa rfl) (fun _ => run_assign' rfl) fun u8 t8 => ?_
  refine lv t8 (oa rfl) (fun _ => run_assign' t8.a) fun u9 t9 => ?_
  refine le_ ?_
  refine wp_ret ?_
  exact pfin_no t9.m TW.2
theorem rput_calls14 (cs : Array Value) (ok : Nat → Prop) (nl : Prop) (a : AskP) (w : World) (hA : AskC w ok nl cs a) (sa : AskS a) :
  Calls Tryd.prog 14 #[.agg cs] w (BytesR w (putS a)) := by
 obtain ⟨v0, e0, hv0⟩ := hA.get 0 (by decide)
 obtain rfl : v0 = .int .i64 a.x0 := hv0
 obtain ⟨v1, e1, hv1⟩ := hA.get 1 (by decide)
 obtain rfl : v1 = .string (strOfNums a.x1) := hv1
 obtain ⟨v2, e2, hv2⟩ := hA.get 2 (by decide)
 obtain rfl : v2 = .string (strOfNums a.x2) := hv2
 obtain ⟨v4, e4, A4, c4, rfl, _, _⟩ := hA.get 4 (by decide)
 have TW := Lib.hid (OneAt.start hA)
 clear hA
 go_enter Tryd.func14, Tryd.ntmps14
 refine wp_seq_k fun K hK => ?_
 replace hK := Lib.hid hK
 go_wp2_with fail
 refine hK.out _ _ (Code.wp_mono ?_ (pbody cs a A4 c4 e0 e1 e2 e4 w.heap.size w _ TW.out sa _ ⟨by rfl, rfl, List.forall_mem_cons.2 ⟨⟨(by decide : (1 : Nat) < 60), rfl⟩, fun _ h => nomatch h⟩⟩))
 intro e a' W' hq
 cases e with
 | ret =>
  obtain ⟨A, c, k, hc, hA, hC, hb⟩ := hq
  have hE : BytesR w (putS a) (.returned (.tuple #[.slice A (putS a).1.length c, .int .i64 (putS a).2])) W' := ⟨A, c, rfl, hc, hA, hC, hb⟩
  refine bodyPost_ret (results_tmp2 rfl _ _ _) k.2.1 ?_
  rw [show a'.tmps.getD 2 undef = .slice A (putS a).1.length c from k.at (n := 2) (by simp), show a'.tmps.getD 3 undef = .int .i64 (putS a).2 from k.at (n := 3) (by simp)]
  exact hE
 | _ => exact (hq : False).elim
end Go.Proofs.YtjkehapbemjnpaaDoor
