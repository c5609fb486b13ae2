/- The law AskWrites, walked by hand: it tells true; each condition stands in its theorem. -/
import Derived.Test.YtjkehapbemjnpaaDoorVRPut
import Derived.Test.YtjkehapbemjnpaaDoorVPut
import Derived.Test.YtjkehapbemjnpaaDoorVWorks
import Derived.Test.YtjkehapbemjnpaaDoorVLight
set_option maxRecDepth 100000
set_option maxHeartbeats 8000000
namespace Go.Proofs.YtjkehapbemjnpaaDoor
open Go.RowKit Go.Proofs.YtjkehapbemjnpaaDoorW.PrintWords Go.Proofs.YtjkehapbemjnpaaDoorW.PrintLast Go.Proofs.YtjkehapbemjnpaaDoorW.PrintMore Lf Kit Cut Pl Num Chain
set_option linter.unusedVariables false
set_option linter.unusedSimpArgs false
theorem put_bytn {a : AskP} (sa : AskS a) : BytN (putS a).1 := by
 have hz : BytN [] := ⟨fun _ h => (nomatch h), by decide⟩
 unfold putS
 by_cases h : checkS a = 0
 ·rw [if_neg (fun h2 => h2 h)]
  unfold backS
  obtain ⟨hn, hall, _⟩ := check_all h
  have := bytesS_len sa hn hall
  split
  ·exact hz
  ·split
   ·exact ⟨bytesS_byt sa.b, by show (bytesS a).length < 1000000; omega⟩
   ·exact hz
 ·rw [if_pos h]
  exact hz
theorem eql_27k (m : Int) (a : Act) (x y : Operand) (W : World) (o : Oper) (hx : a.eval x = .int .i64 m) (hy : a.eval y = .int .i64 m) (ho : o.op = .binOp .eql 27 x y 27) : (execOp a.eval o).run Tryd.prog W = .ok (.value (.bool true)) W := by
 have hu := Tryd.underlying27
 unfold execOp
 simp only [ho, hx, hy]
 go_simp
 try simp
theorem eql_4k (m : Bool) (a : Act) (x y : Operand) (W : World) (o : Oper) (hx : a.eval x = .bool m) (hy : a.eval y = .bool m) (ho : o.op = .binOp .eql 4 x y 4) : (execOp a.eval o).run Tryd.prog W = .ok (.value (.bool true)) W := by
 unfold execOp
 simp only [ho, hx, hy]
 go_simp
 try simp
def BytesQ (w : World) (xs : List Int) (code : Int) (e : Ending) (w' : World) : Prop :=
 ∃ A c, e = .returned (.tuple #[.slice A xs.length c, .int .i64 code]) ∧ xs.length ≤ c ∧ (A = none → c = 0) ∧ Kd.C (Kd.int .u8) w' A xs.length xs ∧ Below w.heap.size w w'
theorem wreg5 (ca cb : Array Value) (a b : AskP) (ga gb : Nat) (w W : World) (TW : TwoAt w ga gb ca cb a b W) (ba : AskB a) (bb : AskB b) (hG : GF w) (xs : List Int) (A5 A7 : Option Addr) (c5 c7 : Nat) (code : Int) (C5 : Kd.C (Kd.int .u8) W A5 xs.length xs) (m5 : xs.length ≤ c5) (C7 : Kd.C (Kd.int .u8) W A7 xs.length xs) (m7 : xs.length ≤ c7) (hx : BytN xs)
  (a0 : Act) (h0 : KN 48 a0 [(2, (ptr ga)), (3, (ptr gb)), (5, (.slice A5 xs.length c5)), (6, (.int .i64 code)), (7, (.slice A7 xs.length c7)), (8, (.int .i64 code))]) (K : Act → World → Prop) (hk : ∀ a' W', Below w.heap.size w W' → KN 48 a' [(4, .bool true)] → K a' W') : Code.wp Tryd.prog (.region 5 (opsR 5 Tryd.f4.body) true) (QN K) a0 W := by
 obtain ⟨o0, i0, d0, v0, g0⟩ := op_at2 (show OpAt (opsR 5 Tryd.f4.body) 0 (some 28) (Op.move (Operand.tmp 5)) none by unfold OpAt; kernel_rfl)
 obtain ⟨o1, i1, d1, v1, g1⟩ := op_at2 (show OpAt (opsR 5 Tryd.f4.body) 1 (some 29) (Op.move (Operand.tmp 7)) none by unfold OpAt; kernel_rfl)
 obtain ⟨o2, i2, d2, v2, g2⟩ := op_at2 (show OpAt (opsR 5 Tryd.f4.body) 2 (some 30) (Op.call { callee := Callee.value (Operand.func 15), args := #[Operand.tmp 28, Operand.tmp 29], argTypes := #[22, 22] }) none by unfold OpAt; kernel_rfl)
 obtain ⟨o3, i3, d3, v3, g3⟩ := op_at2 (show OpAt (opsR 5 Tryd.f4.body) 3 (some 31) (Op.move (Operand.tmp 30)) none by unfold OpAt; kernel_rfl)
 obtain ⟨o4, i4, d4, v4, g4⟩ := op_at2 (show OpAt (opsR 5 Tryd.f4.body) 4 (some 32) (Op.move (Operand.tmp 6)) (some (3, true)) by unfold OpAt; kernel_rfl)
 obtain ⟨o5, i5, d5, v5, g5⟩ := op_at2 (show OpAt (opsR 5 Tryd.f4.body) 5 (some 33) (Op.move (Operand.tmp 8)) (some (3, true)) by unfold OpAt; kernel_rfl)
 obtain ⟨o6, i6, d6, v6, g6⟩ := op_at2 (show OpAt (opsR 5 Tryd.f4.body) 6 (some 34) (Op.binOp BinOp.eql 27 (Operand.tmp 32) (Operand.tmp 33) 27) (some (3, true)) by unfold OpAt; kernel_rfl)
 obtain ⟨o7, i7, d7, v7, g7⟩ := op_at2 (show OpAt (opsR 5 Tryd.f4.body) 7 (some 35) (Op.pick (Operand.tmp 31) (Operand.tmp 34) (Operand.const (Value.bool false))) none by unfold OpAt; kernel_rfl)
 obtain ⟨o8, i8, d8, v8, g8⟩ := op_at2 (show OpAt (opsR 5 Tryd.f4.body) 8 (some 36) (Op.move (Operand.tmp 35)) none by unfold OpAt; kernel_rfl)
 obtain ⟨o9, i9, d9, v9, g9⟩ := op_at2 (show OpAt (opsR 5 Tryd.f4.body) 9 (some 37) (Op.load 26 (Operand.tmp 2)) (some (8, true)) by unfold OpAt; kernel_rfl)
 obtain ⟨o10, i10, d10, v10, g10⟩ := op_at2 (show OpAt (opsR 5 Tryd.f4.body) 10 (some 38) (Op.load 26 (Operand.tmp 3)) (some (8, true)) by unfold OpAt; kernel_rfl)
 obtain ⟨o11, i11, d11, v11, g11⟩ := op_at2 (show OpAt (opsR 5 Tryd.f4.body) 11 (some 39) (Op.call { callee := Callee.value (Operand.func 16), args := #[Operand.tmp 37, Operand.tmp 38], argTypes := #[26, 26] }) (some (8, true)) by unfold OpAt; kernel_rfl)
 obtain ⟨o12, i12, d12, v12, g12⟩ := op_at2 (show OpAt (opsR 5 Tryd.f4.body) 12 (some 40) (Op.load 26 (Operand.tmp 2)) (some (8, true)) by unfold OpAt; kernel_rfl)
 obtain ⟨o13, i13, d13, v13, g13⟩ := op_at2 (show OpAt (opsR 5 Tryd.f4.body) 13 (some 41) (Op.load 26 (Operand.tmp 3)) (some (8, true)) by unfold OpAt; kernel_rfl)
 obtain ⟨o14, i14, d14, v14, g14⟩ := op_at2 (show OpAt (opsR 5 Tryd.f4.body) 14 (some 42) (Op.call { callee := Callee.value (Operand.func 9), args := #[Operand.tmp 40, Operand.tmp 41], argTypes := #[26, 26] }) (some (8, true)) by unfold OpAt; kernel_rfl)
 obtain ⟨o15, i15, d15, v15, g15⟩ := op_at2 (show OpAt (opsR 5 Tryd.f4.body) 15 (some 43) (Op.binOp BinOp.eql 4 (Operand.tmp 39) (Operand.tmp 42) 4) (some (8, true)) by unfold OpAt; kernel_rfl)
 obtain ⟨o16, i16, d16, v16, g16⟩ := op_at2 (show OpAt (opsR 5 Tryd.f4.body) 16 (some 44) (Op.pick (Operand.tmp 36) (Operand.tmp 43) (Operand.const (Value.bool false))) none by unfold OpAt; kernel_rfl)
 obtain ⟨o17, i17, d17, v17, g17⟩ := op_at2 (show OpAt (opsR 5 Tryd.f4.body) 17 (some 45) (Op.move (Operand.tmp 44)) none by unfold OpAt; kernel_rfl)
 obtain ⟨o18, i18, d18, v18, g18⟩ := op_at2 (show OpAt (opsR 5 Tryd.f4.body) 18 (some 46) (Op.call { callee := Callee.value (Operand.func 6), args := #[], argTypes := #[] }) (some (17, true)) by unfold OpAt; kernel_rfl)
 obtain ⟨o19, i19, d19, v19, g19⟩ := op_at2 (show OpAt (opsR 5 Tryd.f4.body) 19 (some 47) (Op.pick (Operand.tmp 45) (Operand.tmp 46) (Operand.const (Value.bool false))) none by unfold OpAt; kernel_rfl)
 obtain ⟨o20, i20, d20, v20, g20⟩ := op_at2 (show OpAt (opsR 5 Tryd.f4.body) 20 (some 4) (Op.assign (Operand.tmp 47)) none by unfold OpAt; kernel_rfl)
 refine start_ (n := 21) (S := fun W => W.heap[ga]? = some (.cells ca 26 (0, 0)) ∧ W.heap[gb]? = some (.cells cb 26 (0, 0))) (ds := []) (bm 21 0) (by rfl) (by kernel_rfl) (by kernel_rfl) ⟨TW.drew.1.1, TW.drew.2.1.1⟩ fun S0 => ?_
 replace TW := TW.drew
 replace C5 := Kd.C_below C5 (below_drew (Below.refl W.heap.size W))
 replace C7 := Kd.C_below C7 (below_drew (Below.refl W.heap.size W))
 generalize W.drew = W0 at *
 have t0 := h0
 generalize a0 = u0 at t0 ⊢
 refine pk t0 (v := (.slice A5 xs.length c5)) (bm 21 1) i0 d0 (by kernel_rfl) (fun _ _ _ h => h) (yfr (v := (.slice A5 xs.length c5)) g0 fun W => run_mv (t0.at (by simp)) v0) [(2, (ptr ga)), (3, (ptr gb)), (6, (.int .i64 code)), (7, (.slice A7 xs.length c7)), (8, (.int .i64 code))] fun u1 t1 => ?_
 refine pk t1 (v := (.slice A7 xs.length c7)) (bm 21 3) i1 d1 (by kernel_rfl) (fun _ _ _ h => h) (yfr (v := (.slice A7 xs.length c7)) g1 fun W => run_mv (t1.at (by simp)) v1) [(2, (ptr ga)), (3, (ptr gb)), (6, (.int .i64 code)), (8, (.int .i64 code)), (28, (.slice A5 xs.length c5))] fun u2 t2 => ?_
 have H2 := refsame_calls A5 c5 xs A7 c7 xs W0 C5 m5 C7 m7 hx
 rw [decide_eq_true rfl] at H2
 refine one_ (bm 21 7) i2 d2 (by kernel_rfl) (by simp) fun KK hKK => goes_ Tryd.func15 (by kernel_rfl) rfl (#[.slice A5 xs.length c5, .slice A7 xs.length c7]) (by simp [Region.wanted, g2]) d2 v2 (by simp only [List.map_toArray, List.map_cons, List.map_nil, t2.at (n := 28) (v := (.slice A5 xs.length c5)) (by simp), t2.at (n := 29) (v := (.slice A7 xs.length c7)) (by simp)]; try rfl) ?_
 refine H2.mono ?_
 rintro e X2 ⟨rfl, nd, rfl⟩
 replace TW := TW.drewN nd
 generalize W0.drewN nd = X2 at *
 refine ⟨_, rfl, hKK.out _ _ ⟨TW.1.1, TW.2.1.1⟩ fun S0 => ?_⟩
 have t3 := t2.go 30 (.bool true) [(2, (ptr ga)), (3, (ptr gb)), (6, (.int .i64 code)), (8, (.int .i64 code))]
 generalize Act.put _ _ _ = u3 at t3 ⊢
 refine pk t3 (v := (.bool true)) (bm 21 15) i3 d3 (by kernel_rfl) (fun _ _ _ h => h) (yfr (v := (.bool true)) g3 fun W => run_mv (t3.at (by simp)) v3) [(2, (ptr ga)), (3, (ptr gb)), (6, (.int .i64 code)), (8, (.int .i64 code))] fun u4 t4 => ?_
 refine pk t4 (v := (.int .i64 code)) (bm 21 31) i4 d4 (by kernel_rfl) (fun _ _ _ h => h) (.inl ⟨(want_some t4 3 31 true true (by simp [i3, d3]) (by simp) o4 g4), fun W => run_mv (t4.at (by simp)) v4⟩) [(2, (ptr ga)), (3, (ptr gb)), (8, (.int .i64 code)), (31, (.bool true))] fun u5 t5 => ?_
 refine pk t5 (v := (.int .i64 code)) (bm 21 63) i5 d5 (by kernel_rfl) (fun _ _ _ h => h) (.inl ⟨(want_some t5 3 31 true true (by simp [i3, d3]) (by simp) o5 g5), fun W => run_mv (t5.at (by simp)) v5⟩) [(2, (ptr ga)), (3, (ptr gb)), (31, (.bool true)), (32, (.int .i64 code))] fun u6 t6 => ?_
 refine pk t6 (v := (.bool true)) (bm 21 127) i6 d6 (by kernel_rfl) (fun _ _ _ h => h) (.inl ⟨(want_some t6 3 31 true true (by simp [i3, d3]) (by simp) o6 g6), fun W => eql_27k code _ _ _ _ _ (t6.at (by simp)) (t6.at (by simp)) v6⟩) [(2, (ptr ga)), (3, (ptr gb)), (31, (.bool true))] fun u7 t7 => ?_
 refine pk t7 (v := (.bool true)) (bm 21 255) i7 d7 (by kernel_rfl) (fun _ _ _ h => h) (yfr (v := (.bool true)) g7 fun W => run_pick (b := true) (t7.at (by simp)) (t7.at (by simp)) rfl v7) [(2, (ptr ga)), (3, (ptr gb))] fun u8 t8 => ?_
 refine pk t8 (v := (.bool true)) (bm 21 511) i8 d8 (by kernel_rfl) (fun _ _ _ h => h) (yfr (v := (.bool true)) g8 fun W => run_mv (t8.at (by simp)) v8) [(2, (ptr ga)), (3, (ptr gb))] fun u9 t9 => ?_
 refine tk t9 (v := (.agg ca)) (bm 21 1023) i9 d9 (by kernel_rfl) (fun _ _ _ h => h) (.inl ⟨(want_some t9 8 36 true true (by simp [i8, d8]) (by simp) o9 g9), fun W h => lod_26 ga ca (show _ = ptr ga from t9.at (n := 2) (v := ptr ga) (by simp)) h.1 TW.1.2.size v9⟩) S0 [(2, (ptr ga)), (3, (ptr gb)), (36, (.bool true))] fun u10 t10 => ?_
 refine tk t10 (v := (.agg cb)) (bm 21 2047) i10 d10 (by kernel_rfl) (fun _ _ _ h => h) (.inl ⟨(want_some t10 8 36 true true (by simp [i8, d8]) (by simp) o10 g10), fun W h => lod_26 gb cb (show _ = ptr gb from t10.at (n := 3) (v := ptr gb) (by simp)) h.2 TW.2.1.2.size v10⟩) S0 [(2, (ptr ga)), (3, (ptr gb)), (36, (.bool true)), (37, (.agg ca))] fun u11 t11 => ?_
 refine tk t11 (v := (.agg ca)) (bm 21 6143) i12 d12 (by kernel_rfl) (fun _ _ _ h => h) (.inl ⟨(want_some t11 8 36 true true (by simp [i8, d8]) (by simp) o12 g12), fun W h => lod_26 ga ca (show _ = ptr ga from t11.at (n := 2) (v := ptr ga) (by simp)) h.1 TW.1.2.size v12⟩) S0 [(3, (ptr gb)), (36, (.bool true)), (37, (.agg ca)), (38, (.agg cb))] fun u12 t12 => ?_
 refine tk t12 (v := (.agg cb)) (bm 21 14335) i13 d13 (by kernel_rfl) (fun _ _ _ h => h) (.inl ⟨(want_some t12 8 36 true true (by simp [i8, d8]) (by simp) o13 g13), fun W h => lod_26 gb cb (show _ = ptr gb from t12.at (n := 3) (v := ptr gb) (by simp)) h.2 TW.2.1.2.size v13⟩) S0 [(36, (.bool true)), (37, (.agg ca)), (38, (.agg cb)), (40, (.agg ca))] fun u13 t13 => ?_
 refine one_ (bm 21 16383) i11 d11 (by kernel_rfl) (by simp) fun KK hKK => goes_ Tryd.func16 (by kernel_rfl) rfl (#[.agg ca, .agg cb]) (want_some t13 8 36 true true (by simp [i8, d8]) (by simp) o11 g11) d11 v11 (by simp only [List.map_toArray, List.map_cons, List.map_nil, t13.at (n := 37) (v := (.agg ca)) (by simp), t13.at (n := 38) (v := (.agg cb)) (by simp)]; try rfl) ?_
 refine (same_calls ca cb _ _ _ _ a b X2 TW.1.2 TW.2.1.2 ba bb).mono ?_
 rintro e X11 ⟨rfl, B11⟩
 replace TW := TW.below B11
 refine ⟨_, rfl, hKK.out _ _ ⟨TW.1.1, TW.2.1.1⟩ fun S0 => ?_⟩
 have t14 := t13.go 39 (.bool (decide (a = b))) [(36, (.bool true)), (40, (.agg ca)), (41, (.agg cb))]
 generalize Act.put _ _ _ = u14 at t14 ⊢
 refine one_ (bm 21 32767) i14 d14 (by kernel_rfl) (by simp) fun KK hKK => goes_ Tryd.func9 (by kernel_rfl) rfl (#[.agg ca, .agg cb]) (want_some t14 8 36 true true (by simp [i8, d8]) (by simp) o14 g14) d14 v14 (by simp only [List.map_toArray, List.map_cons, List.map_nil, t14.at (n := 40) (v := (.agg ca)) (by simp), t14.at (n := 41) (v := (.agg cb)) (by simp)]; try rfl) ?_
 refine (rsame_calls ca cb _ _ _ _ a b X11 TW.1.2 TW.2.1.2 ba bb).mono ?_
 rintro e X14 ⟨rfl, B14⟩
 replace TW := TW.below B14
 refine ⟨_, rfl, hKK.out _ _ ⟨TW.1.1, TW.2.1.1⟩ fun S0 => ?_⟩
 have t15 := t14.go 42 (.bool (decide (a = b))) [(36, (.bool true)), (39, (.bool (decide (a = b))))]
 generalize Act.put _ _ _ = u15 at t15 ⊢
 refine pk t15 (v := (.bool true)) (bm 21 65535) i15 d15 (by kernel_rfl) (fun _ _ _ h => h) (.inl ⟨(want_some t15 8 36 true true (by simp [i8, d8]) (by simp) o15 g15), fun W => eql_4k (decide (a = b)) _ _ _ _ _ (t15.at (by simp)) (t15.at (by simp)) v15⟩) [(36, (.bool true))] fun u16 t16 => ?_
 refine pk t16 (v := (.bool true)) (bm 21 131071) i16 d16 (by kernel_rfl) (fun _ _ _ h => h) (yfr (v := (.bool true)) g16 fun W => run_pick (b := true) (t16.at (by simp)) (t16.at (by simp)) rfl v16) [] fun u17 t17 => ?_
 refine pk t17 (v := (.bool true)) (bm 21 262143) i17 d17 (by kernel_rfl) (fun _ _ _ h => h) (yfr (v := (.bool true)) g17 fun W => run_mv (t17.at (by simp)) v17) [] fun u18 t18 => ?_
 refine one_ (bm 21 524287) i18 d18 (by kernel_rfl) (by simp) fun KK hKK => goes_ Tryd.func6 (by kernel_rfl) rfl (#[]) (want_some t18 17 45 true true (by simp [i17, d17]) (by simp) o18 g18) d18 v18 (by simp only [List.map_toArray, List.map_cons, List.map_nil]; try rfl) ?_
 refine (works_calls X14 (hG.of TW.2.2)).mono ?_
 rintro e X18 ⟨rfl, B18⟩
 replace TW := TW.below B18
 refine ⟨_, rfl, hKK.out _ _ ⟨TW.1.1, TW.2.1.1⟩ fun S0 => ?_⟩
 have t19 := t18.go 46 (.bool true) [(45, (.bool true))]
 generalize Act.put _ _ _ = u19 at t19 ⊢
 refine pk t19 (v := (.bool true)) (bm 21 1048575) i19 d19 (by kernel_rfl) (fun _ _ _ h => h) (yfr (v := (.bool true)) g19 fun W => run_pick (b := true) (t19.at (by simp)) (t19.at (by simp)) rfl v19) [] fun u20 t20 => ?_
 refine pk t20 (v := (.bool true)) (bm 21 2097151) i20 d20 (by kernel_rfl) (fun _ _ _ h => h) (yfr (v := (.bool true)) g20 fun W => run_assign' (t20.at (by simp)) v20) [] fun u21 t21 => ?_
 refine done_ (by kernel_rfl) ?_
 exact hk _ _ TW.2.2 (t21.mono (by simp))
theorem wbody (ca cb : Array Value) (a b : AskP) (ga gb : Nat) (w W : World) (TW : TwoAt w ga gb ca cb a b W) {N M : Nat} (na : AskN N a) (nb : AskN M b) (hG : GF w) (a0 : Act) (h0 : KN 48 a0 [(2, ptr ga), (3, ptr gb)]) : Code.wp Tryd.prog (sndC (Tryd.f4.body.getD .skip)) (QR (fun _ _ => False) fun a' W' => KN 48 a' [(4, .bool true)] ∧ Below w.heap.size w W') a0 W := by
 have hcode : sndC (Tryd.f4.body.getD .skip) = .seq (.seq (.region 1 (opsR 1 Tryd.f4.body) false) (.cond (.tmp 16) (.seq (.region 2 (opsR 2 Tryd.f4.body) false) (.ret)) (.skip))) (.seq (.region 3 (opsR 3 Tryd.f4.body) false) (.seq (.region 4 (opsR 4 Tryd.f4.body) false) (.seq (.region 5 (opsR 5 Tryd.f4.body) true) (.ret)))) := by kernel_rfl
 rw [hcode]
 clear hcode
 have t1 := h0.l
 have la : lightS a = 0 ∨ lightS a = 1 := by unfold lightS; split <;> simp
 have lb : lightS b = 0 ∨ lightS b = 1 := by unfold lightS; split <;> simp
 refine wp_seq (wp_seq (wr ?_))
 refine lv t1 (oa rfl) (fun _ => lod_26 ga ca (show _ = ptr ga from t1.a (n := 2)) TW.1.1 TW.1.2.size) fun u2 t2 => ?_
 refine lc t2 Tryd.func12 (oa rfl) (light_calls ca _ _ a W TW.1.2) ?_
 rintro e W1 ⟨rfl, B1⟩
 replace TW := TW.below B1
 refine ⟨_, rfl, fun u3 t3 => ?_⟩
 rcases la with ha | ha
 ·rw [ha] at t3
  refine lv t3 (oa rfl) (fun _ => gtr_3k 0 0 _ _ _ _ t3.a) fun u4 t4 => ?_
  refine lv t4 (oa rfl) (fun _ => run_mv t4.a) fun u5 t5 => ?_
  refine lv t5 (oa rfl) (fun _ => lod_26 gb cb (show _ = ptr gb from t5.a (n := 3)) TW.2.1.1 TW.2.1.2.size) fun u6 t6 => ?_
  refine lc t6 Tryd.func12 (oa rfl) (light_calls cb _ _ b W1 TW.2.1.2) ?_
  rintro e W2 ⟨rfl, B2⟩
  replace TW := TW.below B2
  refine ⟨_, rfl, fun u7 t7 => ?_⟩
  rcases lb with hb | hb
  ·rw [hb] at t7
   refine lv t7 (oa rfl) (fun _ => gtr_3k 0 0 _ _ _ _ t7.a) fun u8 t8 => ?_
   refine lv (v := (.bool false)) t8 (oa rfl) (fun _ => run_pick (b := false) t8.a rfl t8.a) fun u9 t9 => ?_
   refine le_ ?_
   refine wp_cond (t := false) t9.a ?_
   rw [if_neg (by simp)]
   refine wp_skip ?_
   have sa := light_S ha na
   have sb := light_S hb nb
   have HP0 := put_calls ca _ _ a W2 TW.1.2 sa (hG.of TW.2.2)
   have HR0 := fun W (h : AskIn W ga ca a) => rput_calls14 ca _ _ a W h.2 sa
   have hx := put_bytn sa
   generalize putS a = pr at HP0 HR0 hx
   obtain ⟨xs, code⟩ := pr
   simp only at hx
   have HP : Calls Tryd.prog 13 #[.agg ca] W2 (BytesQ W2 xs code) := HP0
   have HR : ∀ W, AskIn W ga ca a → Calls Tryd.prog 14 #[.agg ca] W (BytesQ W xs code) := HR0
   clear HP0 HR0
   refine wp_seq (wr ?_)
   refine lv t9 (oa rfl) (fun _ => lod_26 ga ca (show _ = ptr ga from t9.a (n := 2)) TW.1.1 TW.1.2.size) fun u10 t10 => ?_
   refine lc t10 Tryd.func13 (oa rfl) HP ?_
   rintro e W3 ⟨A5, c5, rfl, m5, n5, C5, B5⟩
   replace TW := TW.below B5
   refine ⟨_, rfl, fun u11 t11 => ?_⟩
   refine lv t11 (oa rfl) (fun _ => run_mv t11.a) fun u12 t12 => ?_
   refine lv t12 (oa rfl) (fun _ => ext_a 0 t12.a) fun u13 t13 => ?_
   refine lv t13 (oa rfl) (fun _ => ext_a 1 t13.a) fun u14 t14 => ?_
   refine lv t14 (oa rfl) (fun _ => run_assign' t14.a) fun u15 t15 => ?_
   refine lv t15 (oa rfl) (fun _ => run_assign' t15.a) fun u16 t16 => ?_
   refine le_ ?_
   refine wp_seq (wr ?_)
   refine lv t16 (oa rfl) (fun _ => lod_26 ga ca (show _ = ptr ga from t16.a (n := 2)) TW.1.1 TW.1.2.size) fun u17 t17 => ?_
   refine lc t17 Tryd.func14 (oa rfl) (HR _ TW.1) ?_
   rintro e W4 ⟨A7, c7, rfl, m7, n7, C7, B7⟩
   replace TW := TW.below B7
   refine ⟨_, rfl, fun u18 t18 => ?_⟩
   refine lv t18 (oa rfl) (fun _ => run_mv t18.a) fun u19 t19 => ?_
   refine lv t19 (oa rfl) (fun _ => ext_a 0 t19.a) fun u20 t20 => ?_
   refine lv t20 (oa rfl) (fun _ => ext_a 1 t20.a) fun u21 t21 => ?_
   refine lv t21 (oa rfl) (fun _ => run_assign' t21.a) fun u22 t22 => ?_
   refine lv t22 (oa rfl) (fun _ => run_assign' t22.a) fun u23 t23 => ?_
   refine le_ ?_
   refine wp_seq (Code.wp_mono (QN.imp fun _ _ h => h) (wreg5 ca cb a b ga gb w W4 TW sa.b sb.b hG xs A5 A7 c5 c7 code (Kd.C_below C5 B7) m5 C7 m7 hx _ t23.m _ fun x1 W5 B5 k1 => ?_))
   refine wp_ret ?_
   exact ⟨k1, B5⟩
  ·rw [hb] at t7
   refine lv t7 (oa rfl) (fun _ => gtr_3k 1 0 _ _ _ _ t7.a) fun u8 t8 => ?_
   refine lv (v := (.bool true)) t8 (oa rfl) (fun _ => run_pick (b := false) t8.a rfl t8.a) fun u9 t9 => ?_
   refine le_ ?_
   refine wp_cond (t := true) t9.a ?_
   rw [if_pos rfl]
   refine wp_seq (wr ?_)
   refine lc t9 Tryd.func6 (oa rfl) (works_calls W2 (hG.of TW.2.2)) ?_
   rintro e W9 ⟨rfl, B9⟩
   replace TW := TW.below B9
   refine ⟨_, rfl, fun u10 t10 => ?_⟩
   refine lv t10 (oa rfl) (fun _ => run_assign' t10.a) fun u11 t11 => ?_
   refine le_ ?_
   refine wp_ret ?_
   exact ⟨t11.m, TW.2.2⟩
 ·rw [ha] at t3
  refine lv t3 (oa rfl) (fun _ => gtr_3k 1 0 _ _ _ _ t3.a) fun u4 t4 => ?_
  refine lv t4 (oa rfl) (fun _ => run_mv t4.a) fun u5 t5 => ?_
  refine lof t5 (oa rfl) fun u6 t6 => ?_
  refine lof t6 (oa rfl) fun u7 t7 => ?_
  refine lof t7 (oa rfl) fun u8 t8 => ?_
  refine lv (v := (.bool true)) t8 (oa rfl) (fun _ => run_pick (b := true) t8.a rfl rfl) fun u9 t9 => ?_
  refine le_ ?_
  refine wp_cond (t := true) t9.a ?_
  rw [if_pos rfl]
  refine wp_seq (wr ?_)
  refine lc t9 Tryd.func6 (oa rfl) (works_calls W1 (hG.of TW.2.2)) ?_
  rintro e W9 ⟨rfl, B9⟩
  replace TW := TW.below B9
  refine ⟨_, rfl, fun u10 t10 => ?_⟩
  refine lv t10 (oa rfl) (fun _ => run_assign' t10.a) fun u11 t11 => ?_
  refine le_ ?_
  refine wp_ret ?_
  exact ⟨t11.m, TW.2.2⟩
theorem AskWrites_calls (ca cb : Array Value) (oka okb : Nat → Prop) (nla nlb : Prop) (a b : AskP) (w : World) (hA : AskC w oka nla ca a) (hB : AskC w okb nlb cb b) {N M : Nat} (na : AskN N a) (nb : AskN M b) (hG : GF w) :
  Calls Tryd.prog 4 #[.agg ca, .agg cb] w (TruthP w) := by
 have Bw := below_alloc (below_alloc (Below.refl w.heap.size w) (.cells ca 26)) (.cells cb 26)
 have TW : TwoAt w w.heap.size (w.heap.size + 1) ca cb a b ((w.alloc (.cells ca 26)).alloc (.cells cb 26)) :=
  ⟨⟨heap_alloc2_old _ _ _, ((hA.step (fun k _ hlt => Bw.block k hlt)).mono (fun _ _ => trivial)).weak (fun h => h.elim)⟩, ⟨heap_alloc2_new _ _ _, ((hB.step (fun k _ hlt => Bw.block k hlt)).mono (fun _ _ => trivial)).weak (fun h => h.elim)⟩, Bw⟩
 clear hA hB Bw
 have TW := Lib.hid TW
 go_enter Tryd.func4, Tryd.ntmps4
 refine wp_seq_k fun K hK => ?_
 replace hK := Lib.hid hK
 go_wp2_with fail
 refine hK.out _ _ (Code.wp_mono ?_ (wbody ca cb a b w.heap.size (w.heap.size + 1) w _ TW.out na nb hG _ ⟨by rfl, rfl, List.forall_mem_cons.2 ⟨⟨(by decide : (2 : Nat) < 48), rfl⟩, List.forall_mem_cons.2 ⟨⟨(by decide : (3 : Nat) < 48), by go_simp; rfl⟩, fun _ h => nomatch h⟩⟩⟩))
 intro e a' W' hq
 cases e with
 | ret =>
  obtain ⟨k, hb⟩ := hq
  refine bodyPost_ret (results_tmp rfl _ _ _) k.2.1 ?_
  rw [show a'.tmps.getD 4 undef = .bool true from k.at (n := 4) (by simp)]
  exact ⟨rfl, hb⟩
 | _ => exact (hq : False).elim
end Go.Proofs.YtjkehapbemjnpaaDoor
