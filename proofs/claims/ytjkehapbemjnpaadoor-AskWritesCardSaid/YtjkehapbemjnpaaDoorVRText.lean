/- The reference's ways to set a text, bytes, a number by a word, walked by hand; each condition stands in its theorem. -/
import Derived.Test.YtjkehapbemjnpaaDoorVRBase
import Derived.Test.YtjkehapbemjnpaaDoorVRKn
set_option maxRecDepth 100000
set_option maxHeartbeats 4000000
namespace Go.Proofs.YtjkehapbemjnpaaDoor
open Go.RowKit Go.Proofs.YtjkehapbemjnpaaDoorW.PrintWords Go.Proofs.YtjkehapbemjnpaaDoorW.PrintLast Go.Proofs.YtjkehapbemjnpaaDoorW.PrintMore Lf Kit Cut Pl Num Chain
set_option linter.unusedVariables false
set_option linter.unusedSimpArgs false
theorem eql_w {xs : List Int} (hx : Byt xs) (ys : List Int) (hy : Byt ys) {a : Act} {x : Operand} {W : World} {o : Oper} (s : ByteArray) (hs : strOfNums ys = s) (he : a.eval x = .string (strOfNums xs)) (ho : o.op = .binOp .eql 9 x (.const (.string s)) 9) :
  (execOp a.eval o).run Tryd.prog W = .ok (.value (.bool (decide (xs = ys)))) W := by
 have h : (execOp a.eval o).run Tryd.prog W = .ok (.value (.bool ((strOfNums xs).toList == s.toList))) W := by
  generalize strOfNums xs = m at *
  have hy : a.eval (.const (.string s)) = .string s := rfl
  unfold execOp
  simp only [ho, he, hy]
  go_simp
  try simp
 have e : ((strOfNums xs).toList == ys.map (fun n => UInt8.ofNat n.toNat)) = decide (xs = ys) := word_beq hx hy
 rw [h, ← hs, toList_str ys, e]
theorem st_9 (q p : Nat) (s : ByteArray) (old : Value) {a : Act} {W : World} {o : Oper} {x y : Operand} (hx : a.eval x = .pointer (some ⟨q, p, none⟩)) (hy : a.eval y = .string s) (hc : W.cell? ⟨q, p, none⟩ = some old) (hz : W.frozen? ⟨q, p, none⟩ = false) (ho : o.op = .store 9 x y) :
  (execOp a.eval o).run Tryd.prog W = .ok .skip (W.setCell ⟨q, p, none⟩ (.string s)) := by
 unfold execOp
 simp only [ho, hx, hy]
 go_simp
theorem st_3 (q p : Nat) (n : Int) (old : Value) {a : Act} {W : World} {o : Oper} {x y : Operand} (hx : a.eval x = .pointer (some ⟨q, p, none⟩)) (hy : a.eval y = .int .i64 n) (hc : W.cell? ⟨q, p, none⟩ = some old) (hz : W.frozen? ⟨q, p, none⟩ = false) (ho : o.op = .store 3 x y) :
  (execOp a.eval o).run Tryd.prog W = .ok .skip (W.setCell ⟨q, p, none⟩ (.int .i64 n)) := by
 unfold execOp
 simp only [ho, hx, hy]
 go_simp
def TFin (ok : Nat → Prop) (w : World) (N : Nat) (r : AskP × Bool) (a' : Act) (W' : World) : Prop :=
 ∃ cF, KN N a' [(6, .pointer (some ⟨w.heap.size + 1, 0, none⟩)), (7, .bool r.2)] ∧ W'.heap[w.heap.size + 1]? = some (.cells cF 26 (0, 0)) ∧ AskC W' ok False cF r.1 ∧ Below w.heap.size w W'
theorem ROut.tfin {ok : Nat → Prop} {w W : World} {cs co : Array Value} {a b : AskP} {g N : Nat} {a' : Act} {t : Bool} (h : ROut ok w cs a g co b W) (k : KN N a' [(6, .pointer (some ⟨w.heap.size + 1, 0, none⟩)), (7, .bool t)]) : TFin ok w N (b, t) a' (W.setRow (w.heap.size + 1) co) := by
 obtain ⟨cs', he, h1, h2⟩ := h.fin (c := 0)
 obtain rfl : co = cs' := by simpa using he
 exact ⟨co, k, blk_row h.b1 co, h1, h2⟩
theorem RAt.tfin {ok : Nat → Prop} {w W : World} {cs : Array Value} {a : AskP} {N : Nat} {a' : Act} {t : Bool} (h : RAt ok w cs a W) (k : KN N a' [(6, .pointer (some ⟨w.heap.size + 1, 0, none⟩)), (7, .bool t)]) : TFin ok w N (a, t) a' (W.setRow (w.heap.size + 1) cs) := by
 obtain ⟨cs', he, h1, h2⟩ := h.fin (c := 0) h.ac
 obtain rfl : cs = cs' := by simpa using he
 exact ⟨cs, k, blk_row h.b1 cs, h1, h2⟩
def rtext_is (a : AskP) (ws : List Int) (value : List Int) : AskP × Bool := if ws = [114, 97, 110, 103, 101] then ({ a with x6 := value }, true) else if ws = [109, 97, 116, 99, 104] then ({ a with x7 := value }, true) else if ws = [110, 111, 110, 101] then ({ a with x8 := value }, true) else if ws = [112, 114, 101, 102, 105, 120] then ({ a with x12 := value }, true) else if ws = [115, 105, 103, 110] then ({ a with x13 := value }, true) else if ws = [97, 102, 116, 101, 114] then ({ a with x14 := value }, true) else (a, false)
theorem rtext_body (cs : Array Value) (a : AskP) (ws : List Int) (ok : Nat → Prop) (w W : World) (R : RAt ok w cs a W) (value : List Int) (hw : Byt ws) (r : AskP × Bool) (hr : rtext_is a ws value = r) (x0 : Act) (h0 : KN 37 x0 [(1, .string (strOfNums ws)), (2, (.string (strOfNums value))), (3, ptr w.heap.size), (6, (.pointer (some ⟨w.heap.size + 1, 0, none⟩)))]) :
  Code.wp Tryd.prog (sndC (Tryd.f67.body.getD .skip)) (QR (fun _ _ => False) (TFin ok w 37 r)) x0 W := by
 have hcode : sndC (Tryd.f67.body.getD .skip) = .seq (.region 1 (opsR 1 Tryd.f67.body) false) (.seq (.seq (.region 2 (opsR 2 Tryd.f67.body) false) (.block 0 (.seq (.region 4 (opsR 4 Tryd.f67.body) false) (.cond (.tmp 12) (.region 5 (opsR 5 Tryd.f67.body) false) (.seq (.region 6 (opsR 6 Tryd.f67.body) false) (.cond (.tmp 16) (.region 7 (opsR 7 Tryd.f67.body) false) (.seq (.region 8 (opsR 8 Tryd.f67.body) false) (.cond (.tmp 20) (.region 9 (opsR 9 Tryd.f67.body) false) (.seq (.region 10 (opsR 10 Tryd.f67.body) false) (.cond (.tmp 24) (.region 11 (opsR 11 Tryd.f67.body) false) (.seq (.region 12 (opsR 12 Tryd.f67.body) false) (.cond (.tmp 28) (.region 13 (opsR 13 Tryd.f67.body) false) (.seq (.region 14 (opsR 14 Tryd.f67.body) false) (.cond (.tmp 32) (.region 15 (opsR 15 Tryd.f67.body) false) (.seq (.region 3 (opsR 3 Tryd.f67.body) false) (.ret)))))))))))))))) (.seq (.region 16 (opsR 16 Tryd.f67.body) false) (.ret))) := by kernel_rfl
 rw [hcode]
 clear hcode
 have t1 := h0.l
 unfold rtext_is at hr
 refine wp_seq (wr ?_)
 refine lv t1 (oa rfl) (fun _ => lod_26 w.heap.size cs (show _ = ptr w.heap.size from t1.a (n := 3)) R.b0 R.ac.size) fun u2 t2 => ?_
 refine la t2 (oa rfl) fun u3 t3 => ?_
 refine ls_row W.heap.size cs zA (oa rfl) t3.a t3.a (blk_new W _) R.ac.size R.ac.one zA_size ?_
 rw [World.setRow_alloc_new]
 refine le_ ?_
 have G := ROut.start R R.ac
 generalize W.alloc (.cells cs 26) = W2 at *
 generalize W.heap.size = g at *
 refine wp_seq (wp_seq (wr ?_))
 refine lv t3 (oa rfl) (fun _ => run_mv t3.a) fun u4 t4 => ?_
 refine le_ ?_
 have tail : ∀ y co b X, r = (b, true) → ROut ok w cs a g co b X → KN 37 y [(6, (.pointer (some ⟨w.heap.size + 1, 0, none⟩))), (8, .pointer (some ⟨g, 0, none⟩))] → Code.wp Tryd.prog (.seq (.region 16 (opsR 16 Tryd.f67.body) false) (.ret)) (QR (fun _ _ => False) (TFin ok w 37 r)) y X := by
  intro y co b X hrb O ky
  subst hrb
  have t5 := ky.l
  refine wp_seq (wr ?_)
  refine lv t5 (oa rfl) (fun _ => lod_26 g co t5.a O.bg O.ao.size) fun u6 t6 => ?_
  refine ls_row (w.heap.size + 1) co zA (oa rfl) t6.a t6.a O.b1 O.ao.size O.ao.one zA_size ?_
  refine lv (v := (.bool true)) t6 (oa rfl) (fun _ => run_assign' rfl) fun u7 t7 => ?_
  refine le_ ?_
  refine wp_ret ?_
  exact O.tfin t7.m
 have t8 := t4
 refine wp_block ?_
 refine wp_seq (wr ?_)
 refine lv (v := (.bool (decide (ws = [114, 97, 110, 103, 101])))) t8 (oa rfl) (fun _ => eql_w hw [114, 97, 110, 103, 101] (by unfold Byt; decide) _ rfl t8.a) fun u9 t9 => ?_
 refine lv t9 (oa rfl) (fun _ => run_assign' t9.a) fun u10 t10 => ?_
 refine le_ ?_
 refine wp_cond (t := decide (ws = [114, 97, 110, 103, 101])) t10.a ?_
 by_cases e0 : ws = [114, 97, 110, 103, 101]
 ·rw [decide_eq_true e0, if_pos rfl]
  rw [if_pos e0] at hr
  obtain ⟨old, hold, _⟩ := G.ao.get 6 (by decide)
  have AB := G.ao.put6 value
  refine wr ?_
  refine lv t10 (oa rfl) (fun _ => run_mv t10.a) fun u11 t11 => ?_
  refine lv t11 (oa rfl) (fun _ => (fld 6 (by decide)) _ _ g _ _ (show _ = ptr g from t11.a (n := 8))) fun u12 t12 => ?_
  refine ls_st (oa rfl) (fun o ho => st_9 g 6 (strOfNums value) old t12.a t12.a ((blk_cell G.bg 6).trans hold) (blk_frozen G.bg 6) ho) ?_
  refine le_ ?_
  exact tail _ _ _ _ hr.symm (G.setc 6 (.string (strOfNums value)) AB) t12.m
 ·rw [decide_eq_false e0, if_neg (by simp)]
  refine wp_seq (wr ?_)
  refine lv (v := (.bool (decide (ws = [109, 97, 116, 99, 104])))) t10 (oa rfl) (fun _ => eql_w hw [109, 97, 116, 99, 104] (by unfold Byt; decide) _ rfl t10.a) fun u11 t11 => ?_
  refine lv t11 (oa rfl) (fun _ => run_assign' t11.a) fun u12 t12 => ?_
  refine le_ ?_
  refine wp_cond (t := decide (ws = [109, 97, 116, 99, 104])) t12.a ?_
  by_cases e1 : ws = [109, 97, 116, 99, 104]
  ·rw [decide_eq_true e1, if_pos rfl]
   rw [if_neg e0, if_pos e1] at hr
   obtain ⟨old, hold, _⟩ := G.ao.get 7 (by decide)
   have AB := G.ao.put7 value
   refine wr ?_
   refine lv t12 (oa rfl) (fun _ => run_mv t12.a) fun u13 t13 => ?_
   refine lv t13 (oa rfl) (fun _ => (fld 7 (by decide)) _ _ g _ _ (show _ = ptr g from t13.a (n := 8))) fun u14 t14 => ?_
   refine ls_st (oa rfl) (fun o ho => st_9 g 7 (strOfNums value) old t14.a t14.a ((blk_cell G.bg 7).trans hold) (blk_frozen G.bg 7) ho) ?_
   refine le_ ?_
   exact tail _ _ _ _ hr.symm (G.setc 7 (.string (strOfNums value)) AB) t14.m
  ·rw [decide_eq_false e1, if_neg (by simp)]
   refine wp_seq (wr ?_)
   refine lv (v := (.bool (decide (ws = [110, 111, 110, 101])))) t12 (oa rfl) (fun _ => eql_w hw [110, 111, 110, 101] (by unfold Byt; decide) _ rfl t12.a) fun u13 t13 => ?_
   refine lv t13 (oa rfl) (fun _ => run_assign' t13.a) fun u14 t14 => ?_
   refine le_ ?_
   refine wp_cond (t := decide (ws = [110, 111, 110, 101])) t14.a ?_
   by_cases e2 : ws = [110, 111, 110, 101]
   ·rw [decide_eq_true e2, if_pos rfl]
    rw [if_neg e0, if_neg e1, if_pos e2] at hr
    obtain ⟨old, hold, _⟩ := G.ao.get 8 (by decide)
    have AB := G.ao.put8 value
    refine wr ?_
    refine lv t14 (oa rfl) (fun _ => run_mv t14.a) fun u15 t15 => ?_
    refine lv t15 (oa rfl) (fun _ => (fld 8 (by decide)) _ _ g _ _ (show _ = ptr g from t15.a (n := 8))) fun u16 t16 => ?_
    refine ls_st (oa rfl) (fun o ho => st_9 g 8 (strOfNums value) old t16.a t16.a ((blk_cell G.bg 8).trans hold) (blk_frozen G.bg 8) ho) ?_
    refine le_ ?_
    exact tail _ _ _ _ hr.symm (G.setc 8 (.string (strOfNums value)) AB) t16.m
   ·rw [decide_eq_false e2, if_neg (by simp)]
    refine wp_seq (wr ?_)
    refine lv (v := (.bool (decide (ws = [112, 114, 101, 102, 105, 120])))) t14 (oa rfl) (fun _ => eql_w hw [112, 114, 101, 102, 105, 120] (by unfold Byt; decide) _ rfl t14.a) fun u15 t15 => ?_
    refine lv t15 (oa rfl) (fun _ => run_assign' t15.a) fun u16 t16 => ?_
    refine le_ ?_
    refine wp_cond (t := decide (ws = [112, 114, 101, 102, 105, 120])) t16.a ?_
    by_cases e3 : ws = [112, 114, 101, 102, 105, 120]
    ·rw [decide_eq_true e3, if_pos rfl]
     rw [if_neg e0, if_neg e1, if_neg e2, if_pos e3] at hr
     obtain ⟨old, hold, _⟩ := G.ao.get 12 (by decide)
     have AB := G.ao.put12 value
     refine wr ?_
     refine lv t16 (oa rfl) (fun _ => run_mv t16.a) fun u17 t17 => ?_
     refine lv t17 (oa rfl) (fun _ => (fld 12 (by decide)) _ _ g _ _ (show _ = ptr g from t17.a (n := 8))) fun u18 t18 => ?_
     refine ls_st (oa rfl) (fun o ho => st_9 g 12 (strOfNums value) old t18.a t18.a ((blk_cell G.bg 12).trans hold) (blk_frozen G.bg 12) ho) ?_
     refine le_ ?_
     exact tail _ _ _ _ hr.symm (G.setc 12 (.string (strOfNums value)) AB) t18.m
    ·rw [decide_eq_false e3, if_neg (by simp)]
     refine wp_seq (wr ?_)
     refine lv (v := (.bool (decide (ws = [115, 105, 103, 110])))) t16 (oa rfl) (fun _ => eql_w hw [115, 105, 103, 110] (by unfold Byt; decide) _ rfl t16.a) fun u17 t17 => ?_
     refine lv t17 (oa rfl) (fun _ => run_assign' t17.a) fun u18 t18 => ?_
     refine le_ ?_
     refine wp_cond (t := decide (ws = [115, 105, 103, 110])) t18.a ?_
     by_cases e4 : ws = [115, 105, 103, 110]
     ·rw [decide_eq_true e4, if_pos rfl]
      rw [if_neg e0, if_neg e1, if_neg e2, if_neg e3, if_pos e4] at hr
      obtain ⟨old, hold, _⟩ := G.ao.get 13 (by decide)
      have AB := G.ao.put13 value
      refine wr ?_
      refine lv t18 (oa rfl) (fun _ => run_mv t18.a) fun u19 t19 => ?_
      refine lv t19 (oa rfl) (fun _ => (fld 13 (by decide)) _ _ g _ _ (show _ = ptr g from t19.a (n := 8))) fun u20 t20 => ?_
      refine ls_st (oa rfl) (fun o ho => st_9 g 13 (strOfNums value) old t20.a t20.a ((blk_cell G.bg 13).trans hold) (blk_frozen G.bg 13) ho) ?_
      refine le_ ?_
      exact tail _ _ _ _ hr.symm (G.setc 13 (.string (strOfNums value)) AB) t20.m
     ·rw [decide_eq_false e4, if_neg (by simp)]
      refine wp_seq (wr ?_)
      refine lv (v := (.bool (decide (ws = [97, 102, 116, 101, 114])))) t18 (oa rfl) (fun _ => eql_w hw [97, 102, 116, 101, 114] (by unfold Byt; decide) _ rfl t18.a) fun u19 t19 => ?_
      refine lv t19 (oa rfl) (fun _ => run_assign' t19.a) fun u20 t20 => ?_
      refine le_ ?_
      refine wp_cond (t := decide (ws = [97, 102, 116, 101, 114])) t20.a ?_
      by_cases e5 : ws = [97, 102, 116, 101, 114]
      ·rw [decide_eq_true e5, if_pos rfl]
       rw [if_neg e0, if_neg e1, if_neg e2, if_neg e3, if_neg e4, if_pos e5] at hr
       obtain ⟨old, hold, _⟩ := G.ao.get 14 (by decide)
       have AB := G.ao.put14 value
       refine wr ?_
       refine lv t20 (oa rfl) (fun _ => run_mv t20.a) fun u21 t21 => ?_
       refine lv t21 (oa rfl) (fun _ => (fld 14 (by decide)) _ _ g _ _ (show _ = ptr g from t21.a (n := 8))) fun u22 t22 => ?_
       refine ls_st (oa rfl) (fun o ho => st_9 g 14 (strOfNums value) old t22.a t22.a ((blk_cell G.bg 14).trans hold) (blk_frozen G.bg 14) ho) ?_
       refine le_ ?_
       exact tail _ _ _ _ hr.symm (G.setc 14 (.string (strOfNums value)) AB) t22.m
      ·rw [decide_eq_false e5, if_neg (by simp)]
       rw [if_neg e0, if_neg e1, if_neg e2, if_neg e3, if_neg e4, if_neg e5] at hr
       obtain rfl := hr
       have R2 := G.toR
       refine wp_seq (wr ?_)
       refine lv t20 (oa rfl) (fun _ => lod_26 w.heap.size cs (show _ = ptr w.heap.size from t20.a (n := 3)) R2.b0 R2.ac.size) fun u21 t21 => ?_
       refine ls_row (w.heap.size + 1) cs zA (oa rfl) t21.a t21.a R2.b1 R2.ac.size R2.ac.one zA_size ?_
       refine lv (v := (.bool false)) t21 (oa rfl) (fun _ => run_assign' rfl) fun u22 t22 => ?_
       refine le_ ?_
       refine wp_ret ?_
       exact R2.tfin t22.m
theorem rtext_calls (cs : Array Value) (a : AskP) (ws : List Int) (ok : Nat → Prop) (w : World) (hA : AskC w ok False cs a) (value : List Int) (hw : Byt ws) :
  Calls Tryd.prog 67 #[.agg cs, .string (strOfNums ws), (.string (strOfNums value))] w (RP ok w (rtext_is a ws value).1 (rtext_is a ws value).2) := by
 have R := Lib.hid (RAt.start hA)
 have e1 := Lib.hid (size_alloc w (.cells cs 26))
 have hu := Tryd.underlying26
 go_enter Tryd.func67, Tryd.ntmps67
 replace hu := Lib.hid hu
 refine wp_seq_k fun K hK => ?_
 replace hK := Lib.hid hK
 go_wp2_with (refine wpList_allocA rfl (some 6) rfl 26 rfl zA zA_info (w.heap.size + 1) e1.out ?_; simp only [Act.put, List.setIfInBounds_toArray, List.set_cons_zero, List.set_cons_succ])
 refine hK.out _ _ (Code.wp_mono ?_ (rtext_body cs a ws ok w _ R.out value hw _ rfl _ ⟨by rfl, rfl, List.forall_mem_cons.2 ⟨⟨(by decide : (1 : Nat) < 37), rfl⟩, List.forall_mem_cons.2 ⟨⟨(by decide : (2 : Nat) < 37), rfl⟩, List.forall_mem_cons.2 ⟨⟨(by decide : (3 : Nat) < 37), rfl⟩, List.forall_mem_cons.2 ⟨⟨(by decide : (6 : Nat) < 37), rfl⟩, fun _ h => nomatch h⟩⟩⟩⟩⟩))
 intro e a' W' hq
 generalize rtext_is a ws value = r at *
 cases e with
 | ret =>
  obtain ⟨cF, k, hb, hF, be⟩ := hq
  refine bodyPost_ret (results_ct rfl _ _ (w.heap.size + 1) 26 cF (0, 0) _ (k.at (n := 6) (by simp)) hb hu.out rfl (sizeA hF)) k.2.1 ?_
  rw [show a'.tmps.getD 7 undef = .bool r.2 from k.at (n := 7) (by simp)]
  exact ⟨cF, rfl, hF, be⟩
 | _ => exact (hq : False).elim
theorem rtext_some (k : Nat) (cs : Array Value) (a : AskP) (ws : List Int) (ok : Nat → Prop) (w : World) (hA : AskC w ok False cs a) (value : List Int) (hw : Byt ws) (hf : findW tL ws = some k) :
  Calls Tryd.prog 67 #[.agg cs, .string (strOfNums ws), (.string (strOfNums value))] w (RP ok w (a.tSet k value) true) := by
 have q := rtext_calls cs a ws ok w hA value hw
 have e : rtext_is a ws value = (a.tSet k value, true) := by
  obtain ⟨h4, h5, _⟩ := findW_some hf
  match k, h4, h5 with
  | 0, _, h5 => subst h5; rfl
  | 1, _, h5 => subst h5; rfl
  | 2, _, h5 => subst h5; rfl
  | 3, _, h5 => subst h5; rfl
  | 4, _, h5 => subst h5; rfl
  | 5, _, h5 => subst h5; rfl
  | k + 6, h4, _ => exact absurd h4 (by show ¬ k + 6 < 6; omega)
 rw [e] at q
 exact q
theorem rtext_no (cs : Array Value) (a : AskP) (ws : List Int) (ok : Nat → Prop) (w : World) (hA : AskC w ok False cs a) (value : List Int) (hw : Byt ws) (hf : findW tL ws = none) :
  Calls Tryd.prog 67 #[.agg cs, .string (strOfNums ws), (.string (strOfNums value))] w (RP ok w a false) := by
 have q := rtext_calls cs a ws ok w hA value hw
 have e : rtext_is a ws value = (a, false) := by
  unfold rtext_is
  rw [if_neg (fun h => findW_none hf 0 (by decide) h.symm), if_neg (fun h => findW_none hf 1 (by decide) h.symm), if_neg (fun h => findW_none hf 2 (by decide) h.symm), if_neg (fun h => findW_none hf 3 (by decide) h.symm), if_neg (fun h => findW_none hf 4 (by decide) h.symm), if_neg (fun h => findW_none hf 5 (by decide) h.symm)]
 rw [e] at q
 exact q
def rbytes_is (a : AskP) (ws : List Int) (value : List Int) : AskP × Bool := if ws = [111, 119, 110] then ({ a with x5 := value }, true) else if ws = [109, 101, 116, 97] then ({ a with x9 := value }, true) else if ws = [116, 97, 103, 115] then ({ a with x10 := value }, true) else if ws = [107, 101, 121] then ({ a with x19 := value }, true) else (a, false)
theorem rbytes_body (cs : Array Value) (a : AskP) (ws : List Int) (ok : Nat → Prop) (w W : World) (R : RAt ok w cs a W) (hA : AskC w ok False cs a) (A : Option Addr) (c : Nat) (value : List Int) (hv : Kd.V (Kd.int .u8) 5 w 0 ok (.slice A value.length c) value) (hw : Byt ws) (r : AskP × Bool) (hr : rbytes_is a ws value = r) (x0 : Act) (h0 : KN 29 x0 [(1, .string (strOfNums ws)), (2, (.slice A value.length c)), (3, ptr w.heap.size), (6, (.pointer (some ⟨w.heap.size + 1, 0, none⟩)))]) :
  Code.wp Tryd.prog (sndC (Tryd.f69.body.getD .skip)) (QR (fun _ _ => False) (TFin ok w 29 r)) x0 W := by
 have hcode : sndC (Tryd.f69.body.getD .skip) = .seq (.region 1 (opsR 1 Tryd.f69.body) false) (.seq (.seq (.region 2 (opsR 2 Tryd.f69.body) false) (.block 0 (.seq (.region 4 (opsR 4 Tryd.f69.body) false) (.cond (.tmp 12) (.region 5 (opsR 5 Tryd.f69.body) false) (.seq (.region 6 (opsR 6 Tryd.f69.body) false) (.cond (.tmp 16) (.region 7 (opsR 7 Tryd.f69.body) false) (.seq (.region 8 (opsR 8 Tryd.f69.body) false) (.cond (.tmp 20) (.region 9 (opsR 9 Tryd.f69.body) false) (.seq (.region 10 (opsR 10 Tryd.f69.body) false) (.cond (.tmp 24) (.region 11 (opsR 11 Tryd.f69.body) false) (.seq (.region 3 (opsR 3 Tryd.f69.body) false) (.ret)))))))))))) (.seq (.region 12 (opsR 12 Tryd.f69.body) false) (.ret))) := by kernel_rfl
 rw [hcode]
 clear hcode
 have t1 := h0.l
 unfold rbytes_is at hr
 refine wp_seq (wr ?_)
 refine lv t1 (oa rfl) (fun _ => lod_26 w.heap.size cs (show _ = ptr w.heap.size from t1.a (n := 3)) R.b0 R.ac.size) fun u2 t2 => ?_
 refine la t2 (oa rfl) fun u3 t3 => ?_
 refine ls_row W.heap.size cs zA (oa rfl) t3.a t3.a (blk_new W _) R.ac.size R.ac.one zA_size ?_
 rw [World.setRow_alloc_new]
 refine le_ ?_
 have G := ROut.start R R.ac
 generalize W.alloc (.cells cs 26) = W2 at *
 generalize W.heap.size = g at *
 refine wp_seq (wp_seq (wr ?_))
 refine lv t3 (oa rfl) (fun _ => run_mv t3.a) fun u4 t4 => ?_
 refine le_ ?_
 have tail : ∀ y co b X, r = (b, true) → ROut ok w cs a g co b X → KN 29 y [(6, (.pointer (some ⟨w.heap.size + 1, 0, none⟩))), (8, .pointer (some ⟨g, 0, none⟩))] → Code.wp Tryd.prog (.seq (.region 12 (opsR 12 Tryd.f69.body) false) (.ret)) (QR (fun _ _ => False) (TFin ok w 29 r)) y X := by
  intro y co b X hrb O ky
  subst hrb
  have t5 := ky.l
  refine wp_seq (wr ?_)
  refine lv t5 (oa rfl) (fun _ => lod_26 g co t5.a O.bg O.ao.size) fun u6 t6 => ?_
  refine ls_row (w.heap.size + 1) co zA (oa rfl) t6.a t6.a O.b1 O.ao.size O.ao.one zA_size ?_
  refine lv (v := (.bool true)) t6 (oa rfl) (fun _ => run_assign' rfl) fun u7 t7 => ?_
  refine le_ ?_
  refine wp_ret ?_
  exact O.tfin t7.m
 have t8 := t4
 refine wp_block ?_
 refine wp_seq (wr ?_)
 refine lv (v := (.bool (decide (ws = [111, 119, 110])))) t8 (oa rfl) (fun _ => eql_w hw [111, 119, 110] (by unfold Byt; decide) _ rfl t8.a) fun u9 t9 => ?_
 refine lv t9 (oa rfl) (fun _ => run_assign' t9.a) fun u10 t10 => ?_
 refine le_ ?_
 refine wp_cond (t := decide (ws = [111, 119, 110])) t10.a ?_
 by_cases e0 : ws = [111, 119, 110]
 ·rw [decide_eq_true e0, if_pos rfl]
  rw [if_pos e0] at hr
  obtain ⟨old, hold, _⟩ := G.ao.get 5 (by decide)
  have AB := ((hA.put5 _ value hv).bound.below G.be).mono (ok' := (fun k => (ok k ∧ k ≠ w.heap.size ∧ k ≠ w.heap.size + 1) ∧ k ≠ g)) fun k hk => ⟨⟨hk.1, by have := hk.2; omega, by have := hk.2; omega⟩, by have := hk.2; have := G.hg; omega⟩
  refine wr ?_
  refine lv t10 (oa rfl) (fun _ => run_mv t10.a) fun u11 t11 => ?_
  refine lv t11 (oa rfl) (fun _ => (fld 5 (by decide)) _ _ g _ _ (show _ = ptr g from t11.a (n := 8))) fun u12 t12 => ?_
  refine ls_st (oa rfl) (fun o ho => st_22 g 5 A value.length c old t12.a t12.a ((blk_cell G.bg 5).trans hold) (blk_frozen G.bg 5) ho) ?_
  refine le_ ?_
  exact tail _ _ _ _ hr.symm (G.setc 5 (.slice A value.length c) AB) t12.m
 ·rw [decide_eq_false e0, if_neg (by simp)]
  refine wp_seq (wr ?_)
  refine lv (v := (.bool (decide (ws = [109, 101, 116, 97])))) t10 (oa rfl) (fun _ => eql_w hw [109, 101, 116, 97] (by unfold Byt; decide) _ rfl t10.a) fun u11 t11 => ?_
  refine lv t11 (oa rfl) (fun _ => run_assign' t11.a) fun u12 t12 => ?_
  refine le_ ?_
  refine wp_cond (t := decide (ws = [109, 101, 116, 97])) t12.a ?_
  by_cases e1 : ws = [109, 101, 116, 97]
  ·rw [decide_eq_true e1, if_pos rfl]
   rw [if_neg e0, if_pos e1] at hr
   obtain ⟨old, hold, _⟩ := G.ao.get 9 (by decide)
   have AB := ((hA.put9 _ value hv).bound.below G.be).mono (ok' := (fun k => (ok k ∧ k ≠ w.heap.size ∧ k ≠ w.heap.size + 1) ∧ k ≠ g)) fun k hk => ⟨⟨hk.1, by have := hk.2; omega, by have := hk.2; omega⟩, by have := hk.2; have := G.hg; omega⟩
   refine wr ?_
   refine lv t12 (oa rfl) (fun _ => run_mv t12.a) fun u13 t13 => ?_
   refine lv t13 (oa rfl) (fun _ => (fld 9 (by decide)) _ _ g _ _ (show _ = ptr g from t13.a (n := 8))) fun u14 t14 => ?_
   refine ls_st (oa rfl) (fun o ho => st_22 g 9 A value.length c old t14.a t14.a ((blk_cell G.bg 9).trans hold) (blk_frozen G.bg 9) ho) ?_
   refine le_ ?_
   exact tail _ _ _ _ hr.symm (G.setc 9 (.slice A value.length c) AB) t14.m
  ·rw [decide_eq_false e1, if_neg (by simp)]
   refine wp_seq (wr ?_)
   refine lv (v := (.bool (decide (ws = [116, 97, 103, 115])))) t12 (oa rfl) (fun _ => eql_w hw [116, 97, 103, 115] (by unfold Byt; decide) _ rfl t12.a) fun u13 t13 => ?_
   refine lv t13 (oa rfl) (fun _ => run_assign' t13.a) fun u14 t14 => ?_
   refine le_ ?_
   refine wp_cond (t := decide (ws = [116, 97, 103, 115])) t14.a ?_
   by_cases e2 : ws = [116, 97, 103, 115]
   ·rw [decide_eq_true e2, if_pos rfl]
    rw [if_neg e0, if_neg e1, if_pos e2] at hr
    obtain ⟨old, hold, _⟩ := G.ao.get 10 (by decide)
    have AB := ((hA.put10 _ value hv).bound.below G.be).mono (ok' := (fun k => (ok k ∧ k ≠ w.heap.size ∧ k ≠ w.heap.size + 1) ∧ k ≠ g)) fun k hk => ⟨⟨hk.1, by have := hk.2; omega, by have := hk.2; omega⟩, by have := hk.2; have := G.hg; omega⟩
    refine wr ?_
    refine lv t14 (oa rfl) (fun _ => run_mv t14.a) fun u15 t15 => ?_
    refine lv t15 (oa rfl) (fun _ => (fld 10 (by decide)) _ _ g _ _ (show _ = ptr g from t15.a (n := 8))) fun u16 t16 => ?_
    refine ls_st (oa rfl) (fun o ho => st_22 g 10 A value.length c old t16.a t16.a ((blk_cell G.bg 10).trans hold) (blk_frozen G.bg 10) ho) ?_
    refine le_ ?_
    exact tail _ _ _ _ hr.symm (G.setc 10 (.slice A value.length c) AB) t16.m
   ·rw [decide_eq_false e2, if_neg (by simp)]
    refine wp_seq (wr ?_)
    refine lv (v := (.bool (decide (ws = [107, 101, 121])))) t14 (oa rfl) (fun _ => eql_w hw [107, 101, 121] (by unfold Byt; decide) _ rfl t14.a) fun u15 t15 => ?_
    refine lv t15 (oa rfl) (fun _ => run_assign' t15.a) fun u16 t16 => ?_
    refine le_ ?_
    refine wp_cond (t := decide (ws = [107, 101, 121])) t16.a ?_
    by_cases e3 : ws = [107, 101, 121]
    ·rw [decide_eq_true e3, if_pos rfl]
     rw [if_neg e0, if_neg e1, if_neg e2, if_pos e3] at hr
     obtain ⟨old, hold, _⟩ := G.ao.get 19 (by decide)
     have AB := ((hA.put19 _ value hv).bound.below G.be).mono (ok' := (fun k => (ok k ∧ k ≠ w.heap.size ∧ k ≠ w.heap.size + 1) ∧ k ≠ g)) fun k hk => ⟨⟨hk.1, by have := hk.2; omega, by have := hk.2; omega⟩, by have := hk.2; have := G.hg; omega⟩
     refine wr ?_
     refine lv t16 (oa rfl) (fun _ => run_mv t16.a) fun u17 t17 => ?_
     refine lv t17 (oa rfl) (fun _ => (fld 19 (by decide)) _ _ g _ _ (show _ = ptr g from t17.a (n := 8))) fun u18 t18 => ?_
     refine ls_st (oa rfl) (fun o ho => st_22 g 19 A value.length c old t18.a t18.a ((blk_cell G.bg 19).trans hold) (blk_frozen G.bg 19) ho) ?_
     refine le_ ?_
     exact tail _ _ _ _ hr.symm (G.setc 19 (.slice A value.length c) AB) t18.m
    ·rw [decide_eq_false e3, if_neg (by simp)]
     rw [if_neg e0, if_neg e1, if_neg e2, if_neg e3] at hr
     obtain rfl := hr
     have R2 := G.toR
     refine wp_seq (wr ?_)
     refine lv t16 (oa rfl) (fun _ => lod_26 w.heap.size cs (show _ = ptr w.heap.size from t16.a (n := 3)) R2.b0 R2.ac.size) fun u17 t17 => ?_
     refine ls_row (w.heap.size + 1) cs zA (oa rfl) t17.a t17.a R2.b1 R2.ac.size R2.ac.one zA_size ?_
     refine lv (v := (.bool false)) t17 (oa rfl) (fun _ => run_assign' rfl) fun u18 t18 => ?_
     refine le_ ?_
     refine wp_ret ?_
     exact R2.tfin t18.m
theorem rbytes_calls (cs : Array Value) (a : AskP) (ws : List Int) (ok : Nat → Prop) (w : World) (hA : AskC w ok False cs a) (v : Value) (value : List Int) (hv : Kd.V (Kd.int .u8) 5 w 0 ok v value) (hw : Byt ws) :
  Calls Tryd.prog 69 #[.agg cs, .string (strOfNums ws), v] w (RP ok w (rbytes_is a ws value).1 (rbytes_is a ws value).2) := by
 obtain ⟨A, c, rfl, hvn, hvF⟩ := hv
 have R := Lib.hid (RAt.start hA)
 have e1 := Lib.hid (size_alloc w (.cells cs 26))
 have hu := Tryd.underlying26
 go_enter Tryd.func69, Tryd.ntmps69
 replace hu := Lib.hid hu
 refine wp_seq_k fun K hK => ?_
 replace hK := Lib.hid hK
 go_wp2_with (refine wpList_allocA rfl (some 6) rfl 26 rfl zA zA_info (w.heap.size + 1) e1.out ?_; simp only [Act.put, List.setIfInBounds_toArray, List.set_cons_zero, List.set_cons_succ])
 refine hK.out _ _ (Code.wp_mono ?_ (rbytes_body cs a ws ok w _ R.out hA A c value ⟨A, c, rfl, hvn, hvF⟩ hw _ rfl _ ⟨by rfl, rfl, List.forall_mem_cons.2 ⟨⟨(by decide : (1 : Nat) < 29), rfl⟩, List.forall_mem_cons.2 ⟨⟨(by decide : (2 : Nat) < 29), rfl⟩, List.forall_mem_cons.2 ⟨⟨(by decide : (3 : Nat) < 29), rfl⟩, List.forall_mem_cons.2 ⟨⟨(by decide : (6 : Nat) < 29), rfl⟩, fun _ h => nomatch h⟩⟩⟩⟩⟩))
 intro e a' W' hq
 generalize rbytes_is a ws value = r at *
 cases e with
 | ret =>
  obtain ⟨cF, k, hb, hF, be⟩ := hq
  refine bodyPost_ret (results_ct rfl _ _ (w.heap.size + 1) 26 cF (0, 0) _ (k.at (n := 6) (by simp)) hb hu.out rfl (sizeA hF)) k.2.1 ?_
  rw [show a'.tmps.getD 7 undef = .bool r.2 from k.at (n := 7) (by simp)]
  exact ⟨cF, rfl, hF, be⟩
 | _ => exact (hq : False).elim
theorem rbytes_some (k : Nat) (cs : Array Value) (a : AskP) (ws : List Int) (ok : Nat → Prop) (w : World) (hA : AskC w ok False cs a) (v : Value) (value : List Int) (hv : Kd.V (Kd.int .u8) 5 w 0 ok v value) (hw : Byt ws) (hf : findW oL ws = some k) :
  Calls Tryd.prog 69 #[.agg cs, .string (strOfNums ws), v] w (RP ok w (a.oSet k value) true) := by
 have q := rbytes_calls cs a ws ok w hA v value hv hw
 have e : rbytes_is a ws value = (a.oSet k value, true) := by
  obtain ⟨h4, h5, _⟩ := findW_some hf
  match k, h4, h5 with
  | 0, _, h5 => subst h5; rfl
  | 1, _, h5 => subst h5; rfl
  | 2, _, h5 => subst h5; rfl
  | 3, _, h5 => subst h5; rfl
  | k + 4, h4, _ => exact absurd h4 (by show ¬ k + 4 < 4; omega)
 rw [e] at q
 exact q
theorem rbytes_no (cs : Array Value) (a : AskP) (ws : List Int) (ok : Nat → Prop) (w : World) (hA : AskC w ok False cs a) (v : Value) (value : List Int) (hv : Kd.V (Kd.int .u8) 5 w 0 ok v value) (hw : Byt ws) (hf : findW oL ws = none) :
  Calls Tryd.prog 69 #[.agg cs, .string (strOfNums ws), v] w (RP ok w a false) := by
 have q := rbytes_calls cs a ws ok w hA v value hv hw
 have e : rbytes_is a ws value = (a, false) := by
  unfold rbytes_is
  rw [if_neg (fun h => findW_none hf 0 (by decide) h.symm), if_neg (fun h => findW_none hf 1 (by decide) h.symm), if_neg (fun h => findW_none hf 2 (by decide) h.symm), if_neg (fun h => findW_none hf 3 (by decide) h.symm)]
 rw [e] at q
 exact q
def rnumber_is (a : AskP) (ws : List Int) (value : Int) : AskP × Bool := if ws = [105, 100] then ({ a with x3 := value }, true) else if ws = [117, 110, 116, 105, 108] then ({ a with x11 := value }, true) else if ws = [109, 111, 115, 116] then ({ a with x15 := value }, true) else if ws = [102, 114, 111, 109, 45, 105, 100] then ({ a with x18 := value }, true) else if ws = [117, 112, 108, 111, 97, 100] then ({ a with x20 := value }, true) else if ws = [110, 111] then ({ a with x21 := value }, true) else (a, false)
theorem rnumber_body (cs : Array Value) (a : AskP) (ws : List Int) (ok : Nat → Prop) (w W : World) (R : RAt ok w cs a W) (value : Int) (hw : Byt ws) (r : AskP × Bool) (hr : rnumber_is a ws value = r) (x0 : Act) (h0 : KN 37 x0 [(1, .string (strOfNums ws)), (2, (.int .i64 value)), (3, ptr w.heap.size), (6, (.pointer (some ⟨w.heap.size + 1, 0, none⟩)))]) :
  Code.wp Tryd.prog (sndC (Tryd.f71.body.getD .skip)) (QR (fun _ _ => False) (TFin ok w 37 r)) x0 W := by
 have hcode : sndC (Tryd.f71.body.getD .skip) = .seq (.region 1 (opsR 1 Tryd.f71.body) false) (.seq (.seq (.region 2 (opsR 2 Tryd.f71.body) false) (.block 0 (.seq (.region 4 (opsR 4 Tryd.f71.body) false) (.cond (.tmp 12) (.region 5 (opsR 5 Tryd.f71.body) false) (.seq (.region 6 (opsR 6 Tryd.f71.body) false) (.cond (.tmp 16) (.region 7 (opsR 7 Tryd.f71.body) false) (.seq (.region 8 (opsR 8 Tryd.f71.body) false) (.cond (.tmp 20) (.region 9 (opsR 9 Tryd.f71.body) false) (.seq (.region 10 (opsR 10 Tryd.f71.body) false) (.cond (.tmp 24) (.region 11 (opsR 11 Tryd.f71.body) false) (.seq (.region 12 (opsR 12 Tryd.f71.body) false) (.cond (.tmp 28) (.region 13 (opsR 13 Tryd.f71.body) false) (.seq (.region 14 (opsR 14 Tryd.f71.body) false) (.cond (.tmp 32) (.region 15 (opsR 15 Tryd.f71.body) false) (.seq (.region 3 (opsR 3 Tryd.f71.body) false) (.ret)))))))))))))))) (.seq (.region 16 (opsR 16 Tryd.f71.body) false) (.ret))) := by kernel_rfl
 rw [hcode]
 clear hcode
 have t1 := h0.l
 unfold rnumber_is at hr
 refine wp_seq (wr ?_)
 refine lv t1 (oa rfl) (fun _ => lod_26 w.heap.size cs (show _ = ptr w.heap.size from t1.a (n := 3)) R.b0 R.ac.size) fun u2 t2 => ?_
 refine la t2 (oa rfl) fun u3 t3 => ?_
 refine ls_row W.heap.size cs zA (oa rfl) t3.a t3.a (blk_new W _) R.ac.size R.ac.one zA_size ?_
 rw [World.setRow_alloc_new]
 refine le_ ?_
 have G := ROut.start R R.ac
 generalize W.alloc (.cells cs 26) = W2 at *
 generalize W.heap.size = g at *
 refine wp_seq (wp_seq (wr ?_))
 refine lv t3 (oa rfl) (fun _ => run_mv t3.a) fun u4 t4 => ?_
 refine le_ ?_
 have tail : ∀ y co b X, r = (b, true) → ROut ok w cs a g co b X → KN 37 y [(6, (.pointer (some ⟨w.heap.size + 1, 0, none⟩))), (8, .pointer (some ⟨g, 0, none⟩))] → Code.wp Tryd.prog (.seq (.region 16 (opsR 16 Tryd.f71.body) false) (.ret)) (QR (fun _ _ => False) (TFin ok w 37 r)) y X := by
  intro y co b X hrb O ky
  subst hrb
  have t5 := ky.l
  refine wp_seq (wr ?_)
  refine lv t5 (oa rfl) (fun _ => lod_26 g co t5.a O.bg O.ao.size) fun u6 t6 => ?_
  refine ls_row (w.heap.size + 1) co zA (oa rfl) t6.a t6.a O.b1 O.ao.size O.ao.one zA_size ?_
  refine lv (v := (.bool true)) t6 (oa rfl) (fun _ => run_assign' rfl) fun u7 t7 => ?_
  refine le_ ?_
  refine wp_ret ?_
  exact O.tfin t7.m
 have t8 := t4
 refine wp_block ?_
 refine wp_seq (wr ?_)
 refine lv (v := (.bool (decide (ws = [105, 100])))) t8 (oa rfl) (fun _ => eql_w hw [105, 100] (by unfold Byt; decide) _ rfl t8.a) fun u9 t9 => ?_
 refine lv t9 (oa rfl) (fun _ => run_assign' t9.a) fun u10 t10 => ?_
 refine le_ ?_
 refine wp_cond (t := decide (ws = [105, 100])) t10.a ?_
 by_cases e0 : ws = [105, 100]
 ·rw [decide_eq_true e0, if_pos rfl]
  rw [if_pos e0] at hr
  obtain ⟨old, hold, _⟩ := G.ao.get 3 (by decide)
  have AB := G.ao.put3 value
  refine wr ?_
  refine lv t10 (oa rfl) (fun _ => run_mv t10.a) fun u11 t11 => ?_
  refine lv t11 (oa rfl) (fun _ => (fld 3 (by decide)) _ _ g _ _ (show _ = ptr g from t11.a (n := 8))) fun u12 t12 => ?_
  refine ls_st (oa rfl) (fun o ho => st_3 g 3 value old t12.a t12.a ((blk_cell G.bg 3).trans hold) (blk_frozen G.bg 3) ho) ?_
  refine le_ ?_
  exact tail _ _ _ _ hr.symm (G.setc 3 (.int .i64 value) AB) t12.m
 ·rw [decide_eq_false e0, if_neg (by simp)]
  refine wp_seq (wr ?_)
  refine lv (v := (.bool (decide (ws = [117, 110, 116, 105, 108])))) t10 (oa rfl) (fun _ => eql_w hw [117, 110, 116, 105, 108] (by unfold Byt; decide) _ rfl t10.a) fun u11 t11 => ?_
  refine lv t11 (oa rfl) (fun _ => run_assign' t11.a) fun u12 t12 => ?_
  refine le_ ?_
  refine wp_cond (t := decide (ws = [117, 110, 116, 105, 108])) t12.a ?_
  by_cases e1 : ws = [117, 110, 116, 105, 108]
  ·rw [decide_eq_true e1, if_pos rfl]
   rw [if_neg e0, if_pos e1] at hr
   obtain ⟨old, hold, _⟩ := G.ao.get 11 (by decide)
   have AB := G.ao.put11 value
   refine wr ?_
   refine lv t12 (oa rfl) (fun _ => run_mv t12.a) fun u13 t13 => ?_
   refine lv t13 (oa rfl) (fun _ => (fld 11 (by decide)) _ _ g _ _ (show _ = ptr g from t13.a (n := 8))) fun u14 t14 => ?_
   refine ls_st (oa rfl) (fun o ho => st_3 g 11 value old t14.a t14.a ((blk_cell G.bg 11).trans hold) (blk_frozen G.bg 11) ho) ?_
   refine le_ ?_
   exact tail _ _ _ _ hr.symm (G.setc 11 (.int .i64 value) AB) t14.m
  ·rw [decide_eq_false e1, if_neg (by simp)]
   refine wp_seq (wr ?_)
   refine lv (v := (.bool (decide (ws = [109, 111, 115, 116])))) t12 (oa rfl) (fun _ => eql_w hw [109, 111, 115, 116] (by unfold Byt; decide) _ rfl t12.a) fun u13 t13 => ?_
   refine lv t13 (oa rfl) (fun _ => run_assign' t13.a) fun u14 t14 => ?_
   refine le_ ?_
   refine wp_cond (t := decide (ws = [109, 111, 115, 116])) t14.a ?_
   by_cases e2 : ws = [109, 111, 115, 116]
   ·rw [decide_eq_true e2, if_pos rfl]
    rw [if_neg e0, if_neg e1, if_pos e2] at hr
    obtain ⟨old, hold, _⟩ := G.ao.get 15 (by decide)
    have AB := G.ao.put15 value
    refine wr ?_
    refine lv t14 (oa rfl) (fun _ => run_mv t14.a) fun u15 t15 => ?_
    refine lv t15 (oa rfl) (fun _ => (fld 15 (by decide)) _ _ g _ _ (show _ = ptr g from t15.a (n := 8))) fun u16 t16 => ?_
    refine ls_st (oa rfl) (fun o ho => st_3 g 15 value old t16.a t16.a ((blk_cell G.bg 15).trans hold) (blk_frozen G.bg 15) ho) ?_
    refine le_ ?_
    exact tail _ _ _ _ hr.symm (G.setc 15 (.int .i64 value) AB) t16.m
   ·rw [decide_eq_false e2, if_neg (by simp)]
    refine wp_seq (wr ?_)
    refine lv (v := (.bool (decide (ws = [102, 114, 111, 109, 45, 105, 100])))) t14 (oa rfl) (fun _ => eql_w hw [102, 114, 111, 109, 45, 105, 100] (by unfold Byt; decide) _ rfl t14.a) fun u15 t15 => ?_
    refine lv t15 (oa rfl) (fun _ => run_assign' t15.a) fun u16 t16 => ?_
    refine le_ ?_
    refine wp_cond (t := decide (ws = [102, 114, 111, 109, 45, 105, 100])) t16.a ?_
    by_cases e3 : ws = [102, 114, 111, 109, 45, 105, 100]
    ·rw [decide_eq_true e3, if_pos rfl]
     rw [if_neg e0, if_neg e1, if_neg e2, if_pos e3] at hr
     obtain ⟨old, hold, _⟩ := G.ao.get 18 (by decide)
     have AB := G.ao.put18 value
     refine wr ?_
     refine lv t16 (oa rfl) (fun _ => run_mv t16.a) fun u17 t17 => ?_
     refine lv t17 (oa rfl) (fun _ => (fld 18 (by decide)) _ _ g _ _ (show _ = ptr g from t17.a (n := 8))) fun u18 t18 => ?_
     refine ls_st (oa rfl) (fun o ho => st_3 g 18 value old t18.a t18.a ((blk_cell G.bg 18).trans hold) (blk_frozen G.bg 18) ho) ?_
     refine le_ ?_
     exact tail _ _ _ _ hr.symm (G.setc 18 (.int .i64 value) AB) t18.m
    ·rw [decide_eq_false e3, if_neg (by simp)]
     refine wp_seq (wr ?_)
     refine lv (v := (.bool (decide (ws = [117, 112, 108, 111, 97, 100])))) t16 (oa rfl) (fun _ => eql_w hw [117, 112, 108, 111, 97, 100] (by unfold Byt; decide) _ rfl t16.a) fun u17 t17 => ?_
     refine lv t17 (oa rfl) (fun _ => run_assign' t17.a) fun u18 t18 => ?_
     refine le_ ?_
     refine wp_cond (t := decide (ws = [117, 112, 108, 111, 97, 100])) t18.a ?_
     by_cases e4 : ws = [117, 112, 108, 111, 97, 100]
     ·rw [decide_eq_true e4, if_pos rfl]
      rw [if_neg e0, if_neg e1, if_neg e2, if_neg e3, if_pos e4] at hr
      obtain ⟨old, hold, _⟩ := G.ao.get 20 (by decide)
      have AB := G.ao.put20 value
      refine wr ?_
      refine lv t18 (oa rfl) (fun _ => run_mv t18.a) fun u19 t19 => ?_
      refine lv t19 (oa rfl) (fun _ => (fld 20 (by decide)) _ _ g _ _ (show _ = ptr g from t19.a (n := 8))) fun u20 t20 => ?_
      refine ls_st (oa rfl) (fun o ho => st_3 g 20 value old t20.a t20.a ((blk_cell G.bg 20).trans hold) (blk_frozen G.bg 20) ho) ?_
      refine le_ ?_
      exact tail _ _ _ _ hr.symm (G.setc 20 (.int .i64 value) AB) t20.m
     ·rw [decide_eq_false e4, if_neg (by simp)]
      refine wp_seq (wr ?_)
      refine lv (v := (.bool (decide (ws = [110, 111])))) t18 (oa rfl) (fun _ => eql_w hw [110, 111] (by unfold Byt; decide) _ rfl t18.a) fun u19 t19 => ?_
      refine lv t19 (oa rfl) (fun _ => run_assign' t19.a) fun u20 t20 => ?_
      refine le_ ?_
      refine wp_cond (t := decide (ws = [110, 111])) t20.a ?_
      by_cases e5 : ws = [110, 111]
      ·rw [decide_eq_true e5, if_pos rfl]
       rw [if_neg e0, if_neg e1, if_neg e2, if_neg e3, if_neg e4, if_pos e5] at hr
       obtain ⟨old, hold, _⟩ := G.ao.get 21 (by decide)
       have AB := G.ao.put21 value
       refine wr ?_
       refine lv t20 (oa rfl) (fun _ => run_mv t20.a) fun u21 t21 => ?_
       refine lv t21 (oa rfl) (fun _ => (fld 21 (by decide)) _ _ g _ _ (show _ = ptr g from t21.a (n := 8))) fun u22 t22 => ?_
       refine ls_st (oa rfl) (fun o ho => st_3 g 21 value old t22.a t22.a ((blk_cell G.bg 21).trans hold) (blk_frozen G.bg 21) ho) ?_
       refine le_ ?_
       exact tail _ _ _ _ hr.symm (G.setc 21 (.int .i64 value) AB) t22.m
      ·rw [decide_eq_false e5, if_neg (by simp)]
       rw [if_neg e0, if_neg e1, if_neg e2, if_neg e3, if_neg e4, if_neg e5] at hr
       obtain rfl := hr
       have R2 := G.toR
       refine wp_seq (wr ?_)
       refine lv t20 (oa rfl) (fun _ => lod_26 w.heap.size cs (show _ = ptr w.heap.size from t20.a (n := 3)) R2.b0 R2.ac.size) fun u21 t21 => ?_
       refine ls_row (w.heap.size + 1) cs zA (oa rfl) t21.a t21.a R2.b1 R2.ac.size R2.ac.one zA_size ?_
       refine lv (v := (.bool false)) t21 (oa rfl) (fun _ => run_assign' rfl) fun u22 t22 => ?_
       refine le_ ?_
       refine wp_ret ?_
       exact R2.tfin t22.m
theorem rnumber_calls (cs : Array Value) (a : AskP) (ws : List Int) (ok : Nat → Prop) (w : World) (hA : AskC w ok False cs a) (value : Int) (hw : Byt ws) :
  Calls Tryd.prog 71 #[.agg cs, .string (strOfNums ws), (.int .i64 value)] w (RP ok w (rnumber_is a ws value).1 (rnumber_is a ws value).2) := by
 have R := Lib.hid (RAt.start hA)
 have e1 := Lib.hid (size_alloc w (.cells cs 26))
 have hu := Tryd.underlying26
 go_enter Tryd.func71, Tryd.ntmps71
 replace hu := Lib.hid hu
 refine wp_seq_k fun K hK => ?_
 replace hK := Lib.hid hK
 go_wp2_with (refine wpList_allocA rfl (some 6) rfl 26 rfl zA zA_info (w.heap.size + 1) e1.out ?_; simp only [Act.put, List.setIfInBounds_toArray, List.set_cons_zero, List.set_cons_succ])
 refine hK.out _ _ (Code.wp_mono ?_ (rnumber_body cs a ws ok w _ R.out value hw _ rfl _ ⟨by rfl, rfl, List.forall_mem_cons.2 ⟨⟨(by decide : (1 : Nat) < 37), rfl⟩, List.forall_mem_cons.2 ⟨⟨(by decide : (2 : Nat) < 37), rfl⟩, List.forall_mem_cons.2 ⟨⟨(by decide : (3 : Nat) < 37), rfl⟩, List.forall_mem_cons.2 ⟨⟨(by decide : (6 : Nat) < 37), rfl⟩, fun _ h => nomatch h⟩⟩⟩⟩⟩))
 intro e a' W' hq
 generalize rnumber_is a ws value = r at *
 cases e with
 | ret =>
  obtain ⟨cF, k, hb, hF, be⟩ := hq
  refine bodyPost_ret (results_ct rfl _ _ (w.heap.size + 1) 26 cF (0, 0) _ (k.at (n := 6) (by simp)) hb hu.out rfl (sizeA hF)) k.2.1 ?_
  rw [show a'.tmps.getD 7 undef = .bool r.2 from k.at (n := 7) (by simp)]
  exact ⟨cF, rfl, hF, be⟩
 | _ => exact (hq : False).elim
theorem rnumber_some (k : Nat) (cs : Array Value) (a : AskP) (ws : List Int) (ok : Nat → Prop) (w : World) (hA : AskC w ok False cs a) (value : Int) (hw : Byt ws) (hf : findW nL ws = some k) :
  Calls Tryd.prog 71 #[.agg cs, .string (strOfNums ws), (.int .i64 value)] w (RP ok w (a.nSet k value) true) := by
 have q := rnumber_calls cs a ws ok w hA value hw
 have e : rnumber_is a ws value = (a.nSet k value, true) := by
  obtain ⟨h4, h5, _⟩ := findW_some hf
  match k, h4, h5 with
  | 0, _, h5 => subst h5; rfl
  | 1, _, h5 => subst h5; rfl
  | 2, _, h5 => subst h5; rfl
  | 3, _, h5 => subst h5; rfl
  | 4, _, h5 => subst h5; rfl
  | 5, _, h5 => subst h5; rfl
  | k + 6, h4, _ => exact absurd h4 (by show ¬ k + 6 < 6; omega)
 rw [e] at q
 exact q
theorem rnumber_no (cs : Array Value) (a : AskP) (ws : List Int) (ok : Nat → Prop) (w : World) (hA : AskC w ok False cs a) (value : Int) (hw : Byt ws) (hf : findW nL ws = none) :
  Calls Tryd.prog 71 #[.agg cs, .string (strOfNums ws), (.int .i64 value)] w (RP ok w a false) := by
 have q := rnumber_calls cs a ws ok w hA value hw
 have e : rnumber_is a ws value = (a, false) := by
  unfold rnumber_is
  rw [if_neg (fun h => findW_none hf 0 (by decide) h.symm), if_neg (fun h => findW_none hf 1 (by decide) h.symm), if_neg (fun h => findW_none hf 2 (by decide) h.symm), if_neg (fun h => findW_none hf 3 (by decide) h.symm), if_neg (fun h => findW_none hf 4 (by decide) h.symm), if_neg (fun h => findW_none hf 5 (by decide) h.symm)]
 rw [e] at q
 exact q
end Go.Proofs.YtjkehapbemjnpaaDoor
