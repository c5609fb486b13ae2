/- The reference's Get, walked by hand, whatever the frame holds elsewhere; each condition stands in its theorem. -/
import Derived.Test.YtjkehapbemjnpaaDoorVRRows
import Derived.Test.YtjkehapbemjnpaaDoorVRFirst
import Derived.Test.YtjkehapbemjnpaaDoorVRKn
set_option maxRecDepth 100000
set_option maxHeartbeats 8000000
namespace Go.Proofs.YtjkehapbemjnpaaDoor
open Go.RowKit Go.Proofs.YtjkehapbemjnpaaDoorW.PrintWords Go.Proofs.YtjkehapbemjnpaaDoorW.PrintLast Go.Proofs.YtjkehapbemjnpaaDoorW.PrintMore Lf Kit Cut Pl Num Chain
set_option linter.unusedVariables false
set_option linter.unusedSimpArgs false
section
variable {ops : Array Oper} {o : Oper} {a : Act}
theorem yields_tail (g n c : Nat) (hn : 1 ≤ n) (hc : n ≤ c) (x : Operand) (ho : o.op = .slice 40 x (some (.const (.int .i64 1))) none none) (hg : o.guard = none) (hx : a.eval x = .slice (some ⟨g, 0, none⟩) n c) :
  Yields Tryd.prog ops o (.slice (if c = 1 then some ⟨g, 0, none⟩ else some ⟨g, 1, none⟩) (n - 1) (c - 1)) a := by
 refine .inl ⟨by simp [Region.wanted, hg], fun W => ?_⟩
 have hu := Tryd.underlying40
 clear hc
 unfold execOp
 simp only [ho, hx]
 go_simp
 intro hlt
 exact absurd hlt (by omega)
theorem run_alloc26 (ho : o.op = .alloc 26) (w : World) : (execOp a.eval o).run Tryd.prog w = .ok (.value (.pointer (some ⟨w.heap.size, 0, none⟩))) (w.alloc (.cells zA 26)) := by
 have hzv : (zeroValue 26).run Tryd.prog w = .ok (.agg zA) w := by
  have hz := zA_info
  cases hq : Tryd.prog.info? 26 with
  | none => simp [hq] at hz
  | some i => simp [hq] at hz; simp [zeroValue, typeInfo, hq, hz]
 unfold execOp
 simp only [ho]
 simp [Instr.alloc, Sem.run_bind, hzv, newVar, newRow, Value.cells]
end
theorem F_at {k : IntKind} {w : World} {g n : Nat} {xs : List Int} (h : Kd.C (Kd.int k) w (some ⟨g, 0, none⟩) n xs) : Kd.F (Kd.int k) w (fun b => b = g) (some ⟨g, 0, none⟩) n xs := fun W' hW => by
 have hr := Kd.reads_of_C (enc := Value.int k) (d := (0 : Int)) (h1 := fun _ => rfl) h
 refine Kd.C_of_reads (d := (0 : Int)) ⟨hr.1, hr.2.1, fun hn => ?_⟩
 obtain ⟨ad, e, hc⟩ := hr.2.2 hn
 refine ⟨ad, e, fun j hj => ?_⟩
 have h1 := hc j hj
 have h2 := World.block_lt_of_cell? w _ h1
 have hb : (ad.add j).block = g := by
  obtain rfl := Option.some.inj e
  unfold Addr.add
  split <;> rfl
 have h3 := hW (ad.add j).block hb h2
 rw [← h1]
 unfold World.cell?
 rw [h3]
theorem One1.setc {w W : World} (h : One1 w W) {q : Nat} (hq : w.heap.size ≤ q) (hne : q ≠ w.heap.size) (p : Nat) (u : Value) : One1 w (W.setCell ⟨q, p, none⟩ u) :=
 ⟨blk_far h.b0 (p := ⟨q, p, none⟩) (fun e => hne e.symm) u, below_set h.be hq⟩
structure RowsGot (ok : Nat → Prop) (w : World) (s10 s11 : Value) (fr : AskP × Int) (q : Nat) (cx : Array Value) (W : World) : Prop where
 e10 : s10 = .pointer (some ⟨q, 0, none⟩)
 e11 : s11 = .int .i64 fr.2
 o1 : One1 w W
 kq : W.heap[q]? = some (.cells cx 26 (0, 0))
 ne : q ≠ w.heap.size
 le : w.heap.size ≤ q
 ac : AskC W (fun k => (ok k ∧ k ≠ w.heap.size) ∧ k ≠ q) False cx fr.1
theorem RowsGot.ofCall {ok : Nat → Prop} {w W W1 : World} {fr : AskP × Int} {cx : Array Value} (h : One1 w W) (hb : Below W.heap.size W W1) (hA : AskC W1 (fun k => ok k ∧ k ≠ w.heap.size) False cx fr.1) :
  RowsGot ok w (.pointer (some ⟨W1.heap.size, 0, none⟩)) (.int .i64 fr.2) fr W1.heap.size cx (W1.alloc (.cells cx 26)) where
 e10 := rfl
 e11 := rfl
 o1 := (h.below hb).below (below_alloc (Below.refl _ _) _)
 kq := blk_new W1 _
 ne := by have := blk_lt h.b0; have := hb.size; omega
 le := by have := blk_lt h.b0; have := hb.size; omega
 ac := (hA.bound.below (below_alloc (Below.refl _ _) _)).mono fun k hk => ⟨hk.1, by have := hk.2; omega⟩
theorem RowsGot.ofStore {ok : Nat → Prop} {w W W1 : World} {fr : AskP × Int} {cx : Array Value} (h : One1 w W) (hb : Below (W.alloc (.cells zA 26)).heap.size (W.alloc (.cells zA 26)) W1)
  (hA : AskC W1 (fun k => (ok k ∧ k ≠ w.heap.size) ∧ k ≠ W.heap.size) False cx fr.1) :
  RowsGot ok w (.pointer (some ⟨W.heap.size, 0, none⟩)) (.int .i64 fr.2) fr W.heap.size cx (W1.setRow W.heap.size cx) where
 e10 := rfl
 e11 := rfl
 o1 := by
  have h2 := (h.below (below_alloc (Below.refl W.heap.size W) (.cells zA 26))).below hb
  have lt := blk_lt h.b0
  exact ⟨(setRow_other W1 _ cx _ (by omega)).trans h2.b0, below_row h2.be (by omega) cx⟩
 kq := blk_row (blk_below (blk_new W _) hb) cx
 ne := by have := blk_lt h.b0; omega
 le := by have := blk_lt h.b0; omega
 ac := hA.step fun k hk _ => setRow_other W1 _ cx k hk.2
section
variable {a : Act} {W : World} {o : Oper}
theorem ext_run (n : Nat) (vs : Array Value) (v : Value) {x : Operand} (hx : a.eval x = .tuple vs) (hv : vs[n]? = some v) (ho : o.op = .extract x n) : (execOp a.eval o).run Tryd.prog W = .ok (.value v) W := by
 unfold execOp
 simp only [ho, hx]
 go_simp
theorem neq_27 (m k : Int) {x : Operand} (hx : a.eval x = .int .i64 m) (ho : o.op = .binOp .neq 27 x (.const (.int .i64 k)) 27) : (execOp a.eval o).run Tryd.prog W = .ok (.value (.bool (m != k))) W := by
 have hy : a.eval (.const (.int .i64 k)) = .int .i64 k := rfl
 have hu := Tryd.underlying27
 unfold execOp
 simp only [ho, hx, hy]
 go_simp
theorem neq_k (m k : Int) {x : Operand} (hx : a.eval x = .int .i64 m) (ho : o.op = .binOp .neq 3 x (.const (.int .i64 k)) 3) : (execOp a.eval o).run Tryd.prog W = .ok (.value (.bool (m != k))) W := by
 have hy : a.eval (.const (.int .i64 k)) = .int .i64 k := rfl
 unfold execOp
 simp only [ho, hx, hy]
 go_simp
theorem len_40 (A : Option Addr) (n c : Nat) (q : Nat) (hx : a.eval (.tmp q) = .slice A n c) (ho : o.op = .call { callee := .builtin .len, args := #[.tmp q], argTypes := #[40] }) : (execOp a.eval o).run Tryd.prog W = .ok (.value (.int .i64 n)) W := by
 have hx2 : a.tmps[q]?.getD undef = .slice A n c := by
  rw [← hx, ← Array.getD_eq_getD_getElem?]
  rfl
 unfold execOp
 simp only [ho]
 go_simp
theorem conv_9 (A : Option Addr) (c : Nat) (xs : List Int) (hC : Kd.C (Kd.int .u8) W A xs.length xs) {x : Operand} (hx : a.eval x = .slice A xs.length c) (ho : o.op = .convert 22 9 x) : (execOp a.eval o).run Tryd.prog W = .ok (.value (.string (strOfNums xs))) W := by
 have q := Kd.C_string (P := Tryd.prog) (src := 22) (dst := 9) (e := 5) (c := c) Tryd.underlying22 Tryd.underlying5 Tryd.underlying9 hC
 unfold execOp
 simp only [ho, hx, Sem.run_bind, q, Result.andThen_ok]
 rfl
theorem conv_22 (s : ByteArray) {x : Operand} (hx : a.eval x = .string s) (ho : o.op = .convert 9 22 x) : (execOp a.eval o).run Tryd.prog W = .ok (.value (.slice (some ⟨W.heap.size, 0, none⟩) s.size (grownCap W s.size 0 5))) (Lib.bytesWorld W 5 s) := by
 have q := print_bytes (P := Tryd.prog) 9 22 5 Tryd.underlying9 Tryd.underlying22 Tryd.underlying5 s W
 unfold execOp
 simp only [ho, hx, Sem.run_bind, q, Result.andThen_ok]
 rfl
theorem ls_build {ops : Array Oper} {Q : Exit → Act → World → Prop} {a : Act} {w : World} {i n : Nat} (ho : OpAt ops i (some n) (.build 26 #[]) none)
  (h : wpList Tryd.prog ops Q (ops.toList.drop (i + 1)) (a.put (some n) (.agg zA)) w) : wpList Tryd.prog ops Q (ops.toList.drop i) a w := by
 obtain ⟨o, he, hd, hp, hg⟩ := ho.cons
 rw [he]
 exact wpList_buildTo hg (some n) hd 26 _ hp zA (by kernel_rfl) h
end
structure RowsFor (ok : Nat → Prop) (w : World) (b8 : Nat) (c8 : Array Value) (a0 : AskP) (g1 c1 : Nat) (l rest : List (List Int)) (W : World) : Prop where
 o1 : One1 w W
 k8 : W.heap[b8]? = some (.cells c8 26 (0, 0))
 a8 : AskC W (fun k => ok k ∧ k ≠ w.heap.size) False c8 a0
 cr : Kd.C Kd.string W (if c1 = 1 then some ⟨g1, 0, none⟩ else some ⟨g1, 1, none⟩) rest.length (rest.map strOfNums)
 rb : ∀ p ∈ rest, Byt p
 rl : ∀ p ∈ rest, p.length ≤ 800000
 rn : l.length - 1 = rest.length
 r1 : 1 ≤ l.length
 rc : l.length ≤ c1
 r32 : l.length ≤ 32
theorem greg10 (ok : Nat → Prop) (w W : World) (b8 : Nat) (c8 : Array Value) (a0 : AskP) (g1 c1 : Nat) (l rest : List (List Int)) (F : RowsFor ok w b8 c8 a0 g1 c1 l rest W) (hk : ∀ k, w.heap.size ≤ k → ok k) (sb : ByteArray) (x0 : Act)
  (h0 : KN 69 x0 [(2, (ptw w)), (5, .string sb), (7, .slice (some ⟨g1, 0, none⟩) l.length c1), (8, .pointer (some ⟨b8, 0, none⟩))]) (K : Act → World → Prop)
  (hK : ∀ x W' q cx, RowsGot ok w (.pointer (some ⟨q, 0, none⟩)) (.int .i64 (rowsR a0 (rowsS [] a0 rest)).2) (rowsR a0 (rowsS [] a0 rest)) q cx W' → KN 69 x [(2, (ptw w)), (5, .string sb), (10, .pointer (some ⟨q, 0, none⟩)), (11, .int .i64 (rowsR a0 (rowsS [] a0 rest)).2)] → K x W') :
  Code.wp Tryd.prog (.region 10 (opsR 10 Tryd.f8.body) true) (QN K) x0 W := by
 generalize hfr : rowsR a0 (rowsS [] a0 rest) = fr at *
 obtain ⟨o2, i2, d2, v2, g2⟩ := op_at2 (show OpAt (opsR 10 Tryd.f8.body) 2 (some 43) _ none from oa rfl)
 obtain ⟨o3, i3, d3, v3, g3⟩ := op_at2 (show OpAt (opsR 10 Tryd.f8.body) 3 (some 44) _ none from oa rfl)
 obtain ⟨o7, i7, d7, v7, g7⟩ := op_at2 (show OpAt (opsR 10 Tryd.f8.body) 7 (some 10) _ none from oa rfl)
 have hs8 := F.a8.size
 refine sq (S := fun W => W.heap[b8]? = some (.cells c8 26 (0, 0))) 10 F.k8 fun S0 => ?_
 have Od := F.o1.below (below_drew (Below.refl W.heap.size W))
 have Ad := F.a8.below (below_drew (Below.refl W.heap.size W))
 have Cd := Kd.C_below F.cr (below_drew (Below.refl W.heap.size W))
 obtain ⟨_, _, _, _, hrb, hrl, hrn, hr1, hrc, hr32⟩ := F
 generalize W.drew = W at *
 have t0 := h0.l
 refine tq t0 0 (oa rfl) S0 (fun _ _ h => lod_26 b8 c8 t0.a h hs8) fun u1 t1 => ?_
 refine pq t1 1 (oa rfl) (fun _ _ => run_mv t1.a) fun u2 t2 => ?_
 refine pure_ (bm 10 7) i2 d2 (by kernel_rfl) (fun _ _ _ h => h) (yields_tail g1 l.length c1 hr1 hrc _ v2 g2 t2.a) rfl ?_
 rw [hrn]
 have t3 := t2.put 43 (.slice (if c1 = 1 then some ⟨g1, 0, none⟩ else some ⟨g1, 1, none⟩) rest.length (c1 - 1)) (by decide)
 generalize Act.put _ _ _ = u3 at t3 ⊢
 generalize hA' : (if c1 = 1 then (some ⟨g1, 0, none⟩ : Option Addr) else some ⟨g1, 1, none⟩) = A' at t3 Cd
 clear t0 t1 t2
 refine two_ (bm 10 15) (bm 10 135) i3 i7 d3 d7 (by kernel_rfl) (by simp) (by simp) (fun KK hKK => ?_) (fun KK hKK => ?_)
 ·refine goes_ Tryd.func28 (by kernel_rfl) rfl (#[.agg c8, .slice A' rest.length (c1 - 1)]) (by simp [Region.wanted, g3]) d3 v3 (by simp only [List.map_toArray, List.map_cons, List.map_nil, t3.a (n := 41) (v := .agg c8), t3.a (n := 43) (v := .slice A' rest.length (c1 - 1))]; try rfl) ?_
  refine (rrows_calls (fun k => ok k ∧ k ≠ w.heap.size) c8 a0 _ _ rest W Ad (fun k h => ⟨hk k (by have := Od.be.size; omega), by have := blk_lt Od.b0; omega⟩) Cd hrb hrl (by omega)).mono ?_
  rintro e wR ⟨cx, rfl, AX, BX⟩
  rw [hfr] at AX ⊢
  refine ⟨_, rfl, hKK.out _ _ ((BX.block _ (blk_lt S0)).trans S0) fun S1 => ?_⟩
  have t4 := t3.put 44 (.tuple #[.agg cx, .int .i64 fr.2]) (by decide)
  generalize Act.put _ _ _ = u4 at t4 ⊢
  refine pq t4 4 (oa rfl) (fun _ _ => run_mv t4.a) fun u5 t5 => ?_
  refine pq t5 5 (oa rfl) (fun _ _ => ext_a 0 t5.a) fun u6 t6 => ?_
  refine pq t6 6 (oa rfl) (fun _ _ => ext_a 1 t6.a) fun u7 t7 => ?_
  have S2 := blk_alloc S1 (.cells zA 26)
  have S3 := blk_alloc S1 (.cells cx 26)
  refine nq t7 7 (oa rfl) (fun o ho => run_alloc26 ho wR) S2 fun u8 t8 _ => ?_
  obtain ⟨o8, i8, d8, v8, g8⟩ := op_at2 (show OpAt (opsR 10 Tryd.f8.body) 8 none _ none from oa rfl)
  refine one_ (bm 10 511) i8 d8 (by kernel_rfl) (by simp) fun KK3 hKK3 => ?_
  rw [if_pos (by simp [Region.wanted, g8])]
  refine wp_store_row 26 (.tmp 10) (.tmp 45) v8 wR.heap.size cx t8.a t8.a 26 zA (blk_new wR _) (sizeA AX) (sizeAz AX) AX.one ?_
  rw [World.setRow_alloc_new, d8]
  refine hKK3.out _ _ S3 fun _ => ?_
  rw [show u8.put none undef = u8 from rfl]
  refine pq t8 9 (oa rfl) (fun _ _ => run_assign' t8.a) fun u9 t9 => ?_
  exact dq (hK _ _ _ _ (RowsGot.ofCall Od BX AX) t9.m)
 ·have S2 := blk_alloc S0 (.cells zA 26)
  have Fa := below_alloc (Below.refl W.heap.size W) (.cells zA 26)
  refine value_ (by simp [Region.wanted, g7]) d7 (run_alloc26 v7 W) (hKK.out _ _ S2 fun _ => ?_)
  have t4 := t3.put 10 (.pointer (some ⟨W.heap.size, 0, none⟩)) (by decide)
  generalize Act.put _ _ _ = u4 at t4 ⊢
  refine cq t4 3 Tryd.func28 (oa rfl) (rrows_calls (fun k => (ok k ∧ k ≠ w.heap.size) ∧ k ≠ W.heap.size) c8 a0 A' (c1 - 1) rest (W.alloc (.cells zA 26)) ((Ad.bound.below Fa).mono fun k h => ⟨h.1, by have := h.2; omega⟩) (fun k h => by rw [size_alloc] at h; exact ⟨⟨hk k (by have := Od.be.size; omega), by have := blk_lt Od.b0; omega⟩, by omega⟩) (Kd.C_below Cd Fa) hrb hrl (by omega)) ?_
  rintro e wR ⟨cx, rfl, AX, BX⟩
  rw [hfr] at AX ⊢
  refine ⟨_, rfl, (BX.block _ (blk_lt S2)).trans S2, fun u5 t5 S3 => ?_⟩
  refine pq t5 4 (oa rfl) (fun _ _ => run_mv t5.a) fun u6 t6 => ?_
  refine pq t6 5 (oa rfl) (fun _ _ => ext_a 0 t6.a) fun u7 t7 => ?_
  refine pq t7 6 (oa rfl) (fun _ _ => ext_a 1 t7.a) fun u8 t8 => ?_
  obtain ⟨o8, i8, d8, v8, g8⟩ := op_at2 (show OpAt (opsR 10 Tryd.f8.body) 8 none _ none from oa rfl)
  refine one_ (bm 10 511) i8 d8 (by kernel_rfl) (by simp) fun KK3 hKK3 => ?_
  rw [if_pos (by simp [Region.wanted, g8])]
  refine wp_store_row 26 (.tmp 10) (.tmp 45) v8 W.heap.size cx t8.a t8.a 26 zA (blk_below (blk_new W _) BX) (sizeA AX) (sizeAz AX) AX.one ?_
  have ne8 : b8 ≠ W.heap.size := by have := blk_lt S0; omega
  rw [d8]
  refine hKK3.out _ _ ((setRow_other wR _ cx _ ne8).trans S3) fun _ => ?_
  rw [show u8.put none undef = u8 from rfl]
  refine pq t8 9 (oa rfl) (fun _ _ => run_assign' t8.a) fun u9 t9 => ?_
  exact dq (hK _ _ _ _ (RowsGot.ofStore Od BX AX) t9.m)
def GFin (ok : Nat → Prop) (w : World) (r : AskP × Int) (a' : Act) (W' : World) : Prop :=
 ∃ cF, KN 69 a' [(2, (ptw w)), (3, .int .i64 r.2)] ∧ W'.heap[w.heap.size]? = some (.cells cF 26 (0, 0)) ∧ AskC W' ok False cF r.1 ∧ Below w.heap.size w W'
theorem One1.gfin {ok : Nat → Prop} {w W : World} {cF : Array Value} {b : AskP} {c : Int} {a' : Act} (h : One1 w W) (hF : AskC W (fun k => ok k ∧ k ≠ w.heap.size) False cF b) (k : KN 69 a' [(2, (ptw w)), (3, .int .i64 c)]) : GFin ok w (b, c) a' (W.setRow w.heap.size cF) :=
 ⟨cF, k, blk_row h.b0 cF, (hF.step fun k hk _ => setRow_other W _ cF k hk.2).mono fun _ hk => hk.1, below_row h.be (Nat.le_refl _) cF⟩
theorem gbody (ok : Nat → Prop) (A : Option Addr) (c : Nat) (b : List Int) (w W : World) (O : One1 w W) (CW : Kd.C (Kd.int .u8) W A b.length b) (hB : Byt b) (hl : b.length ≤ 800000) (hk : ∀ k, w.heap.size ≤ k → ok k) (x0 : Act) (h0 : KN 69 x0 [(0, .slice A b.length c), (2, (ptw w)), (3, .int .i64 0)]) :
  Code.wp Tryd.prog (sndC (Tryd.f8.body.getD .skip)) (QR (fun _ _ => False) (GFin ok w (getS b))) x0 W := by
 have hcode : sndC (Tryd.f8.body.getD .skip) = .seq (.region 1 (opsR 1 Tryd.f8.body) false) (.seq (.seq (.region 2 (opsR 2 Tryd.f8.body) false) (.cond (.tmp 21) (.seq (.region 3 (opsR 3 Tryd.f8.body) false) (.ret)) (.skip))) (.seq (.region 4 (opsR 4 Tryd.f8.body) false) (.seq (.seq (.region 5 (opsR 5 Tryd.f8.body) false) (.cond (.tmp 27) (.seq (.region 6 (opsR 6 Tryd.f8.body) false) (.ret)) (.skip))) (.seq (.region 7 (opsR 7 Tryd.f8.body) false) (.seq (.seq (.region 8 (opsR 8 Tryd.f8.body) false) (.cond (.tmp 37) (.seq (.region 9 (opsR 9 Tryd.f8.body) false) (.ret)) (.skip))) (.seq (.region 10 (opsR 10 Tryd.f8.body) true) (.seq (.seq (.region 11 (opsR 11 Tryd.f8.body) false) (.cond (.tmp 48) (.seq (.region 12 (opsR 12 Tryd.f8.body) false) (.ret)) (.skip))) (.seq (.seq (.region 13 (opsR 13 Tryd.f8.body) false) (.cond (.tmp 63) (.seq (.region 14 (opsR 14 Tryd.f8.body) false) (.ret)) (.skip))) (.seq (.region 15 (opsR 15 Tryd.f8.body) false) (.seq (.region 16 (opsR 16 Tryd.f8.body) false) (.ret))))))))))) := by kernel_rfl
 rw [hcode]
 clear hcode
 have t1 := h0.l
 refine wp_seq (wr ?_)
 refine lv t1 (oa rfl) (fun _ => run_mv t1.a) fun u2 t2 => ?_
 refine lv t2 (oa rfl) (fun _ => conv_9 A c b CW t2.a) fun u3 t3 => ?_
 generalize hR : getS b = r
 unfold getS at hR
 have hbt := cutL_byt (sep := [10, 10]) hB
 have hbl := cutL_len [10, 10] b
 have HC := rcut_calls [10, 10] ⟨#[10, 10]⟩ rfl (by simp) (fun x hx => by simp at hx; omega) (by simp) b hB (by omega) W
 generalize cutL [10, 10] b = ct at HC hbt hbl hR
 obtain ⟨hd, bd, fd⟩ := ct
 simp only at hbt hbl hR HC
 refine lc t3 Tryd.func25 (oa rfl) HC ?_
 rintro e _ ⟨rfl, ⟨nd, rfl⟩⟩
 replace O := O.drewN nd
 generalize W.drewN nd = W2 at *
 refine ⟨_, rfl, fun u4 t4 => ?_⟩
 refine lv t4 (oa rfl) (fun _ => run_mv t4.a) fun u5 t5 => ?_
 refine lv t5 (oa rfl) (fun _ => ext_a 0 t5.a) fun u6 t6 => ?_
 refine lv t6 (oa rfl) (fun _ => ext_a 1 t6.a) fun u7 t7 => ?_
 refine lv t7 (oa rfl) (fun _ => ext_a 2 t7.a) fun u8 t8 => ?_
 refine lv t8 (oa rfl) (fun _ => run_assign' t8.a) fun u9 t9 => ?_
 refine lv t9 (oa rfl) (fun _ => run_assign' t9.a) fun u10 t10 => ?_
 refine lv t10 (oa rfl) (fun _ => run_assign' t10.a) fun u11 t11 => ?_
 refine le_ ?_
 clear CW
 refine wp_seq (wp_seq (wr ?_))
 refine lv t11 (oa rfl) (fun _ => run_mv t11.a) fun u12 t12 => ?_
 refine lv t12 (oa rfl) (fun _ => len_9k (strOfNums hd) _ _ _ _ t12.a) fun u13 t13 => ?_
 refine lv t13 (oa rfl) (fun _ => gtr_3k _ 4096 _ _ _ _ t13.a) fun u14 t14 => ?_
 refine le_ ?_
 have hsz : ((strOfNums hd).size : Int) = (hd.length : Int) := str_size hd
 refine wp_cond (t := decide (4096 < ((strOfNums hd).size : Int))) t14.a ?_
 by_cases h1 : 4096 < hd.length
 ·rw [decide_eq_true (show 4096 < ((strOfNums hd).size : Int) by omega), if_pos rfl]
  obtain rfl : r = (ask0, 17) := by rw [← hR, if_pos h1]
  refine wp_seq (wr ?_)
  refine lb t14 (oa rfl) fun u15 t15 => ?_
  refine ls_row w.heap.size zA zA (oa rfl) t15.a t15.a O.b0 zA_size zA_one zA_size ?_
  refine lv (v := (.int .i64 17)) t15 (oa rfl) (fun _ => run_assign' rfl) fun u16 t16 => ?_
  refine le_ ?_
  refine wp_ret ?_
  exact O.gfin (zA_ask _ _ False) t16.m
 ·rw [decide_eq_false (show ¬ 4096 < ((strOfNums hd).size : Int) by omega), if_neg (by simp)]
  refine wp_skip ?_
  rw [if_neg h1] at hR
  have HP := rsplit_calls 10 (by omega) ⟨#[10]⟩ rfl hd hbt.1 (by omega) W2
  have hsb : ∀ p ∈ splitC 10 hd, Byt p := fun p hp => split_byt hd.length (Nat.le_refl _) hbt.1 p hp
  have hsl : ∀ p ∈ splitC 10 hd, p.length ≤ hd.length := fun p hp => split_part hd.length hd (Nat.le_refl _) p hp
  have hne := split_ne 10 hd
  generalize splitC 10 hd = l at HP hsb hsl hne hR
  refine wp_seq (wr ?_)
  refine lv t14 (oa rfl) (fun _ => run_mv t14.a) fun u15 t15 => ?_
  refine lc t15 Tryd.func26 (oa rfl) HP ?_
  rintro e W3 ⟨v, rfl, RS, B3⟩
  obtain ⟨g1, c1, cur, hv1, _, K1, hlc, hcur⟩ := own_str RS (by intro h; have := congrArg List.length h; simp at this; rw [this] at hne; simp at hne)
  rw [List.length_map] at hv1 hlc
  subst hv1
  have CL := (Kd.R_reads' RS).2.2
  rw [List.length_map] at CL
  replace O := O.below B3
  have hcur2 : ∀ (j : Nat) (x : List Int), l[j]? = some x → cur[j]? = some (Value.string (strOfNums x)) := fun j x hx => hcur j (strOfNums x) (by rw [List.getElem?_map, hx]; rfl)
  clear hcur RS
  refine ⟨_, rfl, fun u16 t16 => ?_⟩
  refine lv t16 (oa rfl) (fun _ => run_assign' t16.a) fun u17 t17 => ?_
  refine le_ ?_
  refine wp_seq (wp_seq (wr ?_))
  refine lv t17 (oa rfl) (fun _ => run_mv t17.a) fun u18 t18 => ?_
  refine lv t18 (oa rfl) (fun _ => len_40 (some ⟨g1, 0, none⟩) l.length c1 _ t18.a) fun u19 t19 => ?_
  refine lv t19 (oa rfl) (fun _ => gtr_3k _ 32 _ _ _ _ t19.a) fun u20 t20 => ?_
  refine le_ ?_
  refine wp_cond (t := decide (32 < (l.length : Int))) t20.a ?_
  by_cases h2 : 32 < l.length
  ·rw [decide_eq_true (show 32 < (l.length : Int) by omega), if_pos rfl]
   obtain rfl : r = (ask0, 17) := by rw [← hR, if_pos h2]
   refine wp_seq (wr ?_)
   refine lb t20 (oa rfl) fun u21 t21 => ?_
   refine ls_row w.heap.size zA zA (oa rfl) t21.a t21.a O.b0 zA_size zA_one zA_size ?_
   refine lv (v := (.int .i64 17)) t21 (oa rfl) (fun _ => run_assign' rfl) fun u22 t22 => ?_
   refine le_ ?_
   refine wp_ret ?_
   exact O.gfin (zA_ask _ _ False) t22.m
  ·rw [decide_eq_false (show ¬ 32 < (l.length : Int) by omega), if_neg (by simp)]
   refine wp_skip ?_
   rw [if_neg h2] at hR
   obtain ⟨f, rest, hlr⟩ : ∃ f rest, l = f :: rest := by
    cases l with
    | nil => simp at hne
    | cons f rest => exact ⟨f, rest, rfl⟩
   have c0 := (blk_cell K1 0).trans (hcur2 0 f (by rw [hlr]; rfl))
   have hl0 : 0 < l.length := by omega
   have hfm : f ∈ l := by rw [hlr]; simp
   have hF1 := hsb f hfm
   have hF2 : f.length < 1000000 := by have := hsl f hfm; omega
   have hrest : rest = l.drop 1 := by rw [hlr]; rfl
   have hrb : ∀ p ∈ rest, Byt p := fun p hp => hsb p (by rw [hlr]; exact List.mem_cons_of_mem _ hp)
   have hrl : ∀ p ∈ rest, p.length ≤ 800000 := fun p hp => by have := hsl p (by rw [hlr]; exact List.mem_cons_of_mem _ hp); omega
   have hrn : l.length - 1 = rest.length := by rw [hlr]; rfl
   have hR2 : (if (firstS f).2 ≠ 0 then (ask0, (firstS f).2) else if (rowsS [] (firstS f).1 rest).2 ≠ 0 then (ask0, (rowsS [] (firstS f).1 rest).2) else endS bd (rowsS [] (firstS f).1 rest).1) = r := by rw [hlr] at hR; exact hR
   clear hR hlr hcur2 hsb hsl
   refine wp_seq (wr ?_)
   refine lv t20 (oa rfl) (fun _ => run_mv t20.a) fun u21 t21 => ?_
   refine lv t21 (oa rfl) (fun _ => idx_40 g1 l.length c1 0 _ _ _ _ _ t21.a rfl hl0) fun u22 t22 => ?_
   refine lv t22 (oa rfl) (fun _ => lod_9 _ _ _ _ _ _ t22.a c0) fun u23 t23 => ?_
   have HF := rfirst_calls (fun k => ok k ∧ k ≠ w.heap.size) f hF1 hF2
   generalize firstS f = ff at HF hR2
   obtain ⟨a0, code⟩ := ff
   simp only at hR2
   refine lc t23 Tryd.func27 (oa rfl) (HF _) ?_
   rintro e W5 ⟨c8, rfl, A8, B5⟩
   clear HF c0
   refine ⟨_, rfl, fun u24 t24 => ?_⟩
   refine lv t24 (oa rfl) (fun _ => run_mv t24.a) fun u25 t25 => ?_
   refine lv t25 (oa rfl) (fun _ => ext_a 0 t25.a) fun u26 t26 => ?_
   refine lv t26 (oa rfl) (fun _ => ext_a 1 t26.a) fun u27 t27 => ?_
   refine la t27 (oa rfl) fun u28 t28 => ?_
   refine ls_row W5.heap.size c8 zA (oa rfl) t28.a t28.a (blk_new W5 _) A8.size A8.one zA_size ?_
   rw [World.setRow_alloc_new]
   refine lv t28 (oa rfl) (fun _ => run_assign' t28.a) fun u29 t29 => ?_
   refine le_ ?_
   have F5 := below_step B5 (below_alloc (Below.refl W5.heap.size W5) (.cells c8 26))
   have K8 := blk_new W5 (.cells c8 26)
   replace A8 := A8.below (below_alloc (Below.refl W5.heap.size W5) (.cells c8 26))
   replace O := O.below F5
   have CL6 := Kd.C_below CL F5
   clear B5 CL K1 F5
   generalize W5.heap.size = b8 at *
   generalize W5.alloc (.cells c8 26) = W6 at *
   refine wp_seq (wp_seq (wr ?_))
   refine lv t29 (oa rfl) (fun _ => run_mv t29.a) fun u30 t30 => ?_
   refine lv t30 (oa rfl) (fun _ => neq_27 code 0 t30.a) fun u31 t31 => ?_
   refine le_ ?_
   refine wp_cond (t := code != 0) t31.a ?_
   by_cases hcd : code = 0
   ·subst hcd
    rw [show ((0 : Int) != 0) = false from rfl, if_neg (by simp)]
    refine wp_skip ?_
    have hR3 : (if (rowsS [] a0 rest).2 ≠ 0 then (ask0, (rowsS [] a0 rest).2) else endS bd (rowsS [] a0 rest).1) = r := by simpa using hR2
    have hR4 : (if (rowsR a0 (rowsS [] a0 rest)).2 ≠ 0 then (ask0, (rowsR a0 (rowsS [] a0 rest)).2) else endS bd (rowsR a0 (rowsS [] a0 rest)).1) = r := by
     rw [← hR3]
     unfold rowsR
     by_cases h : (rowsS [] a0 rest).2 = 0
     ·simp [h]
     ·simp [h]
    clear hR2 hR3
    have CR : Kd.C Kd.string W6 (if c1 = 1 then some ⟨g1, 0, none⟩ else some ⟨g1, 1, none⟩) rest.length (rest.map strOfNums) := by
     have q0 : Kd.C Kd.string W6 (some ⟨g1, 0, none⟩) (l.map strOfNums).length (l.map strOfNums) := by rw [List.length_map]; exact CL6
     have q := Kd.C_drop (m := 1) (c := c1) q0 (by rw [List.length_map]; omega) (by rw [List.length_map]; omega)
     rw [List.length_drop, List.length_map, hrn, ← List.map_drop, ← hrest] at q
     exact q
    refine wp_seq (Code.wp_mono (QN.imp fun _ _ h => h) (greg10 ok w W6 b8 c8 a0 g1 c1 l rest ⟨O, K8, A8, CR, hrb, hrl, hrn, by omega, hlc, by omega⟩ hk (strOfNums bd) _ t31.m _ fun x1 W q cx hG k1 => ?_))
    obtain ⟨_, _, O, KQ, neq, leq, AX⟩ := hG
    generalize rowsR a0 (rowsS [] a0 rest) = fr at *
    obtain ⟨x, xc⟩ := fr
    simp only at AX hR4 k1
    clear CR CL6 K8 A8
    have t32 := k1.l
    refine wp_seq (wp_seq (wr ?_))
    refine lv t32 (oa rfl) (fun _ => run_mv t32.a) fun u33 t33 => ?_
    refine lv t33 (oa rfl) (fun _ => neq_27 xc 0 t33.a) fun u34 t34 => ?_
    refine le_ ?_
    refine wp_cond (t := xc != 0) t34.a ?_
    by_cases hx : xc = 0
    ·subst hx
     rw [show ((0 : Int) != 0) = false from rfl, if_neg (by simp)]
     refine wp_skip ?_
     have hE : endS bd x = r := by simpa using hR4
     clear hR4
     have c10 : W.cell? ⟨q, 0, none⟩ = some (.int .i64 x.x0) := (blk_cell KQ 0).trans (by obtain ⟨v, hv, rfl⟩ := AX.get 0 (by decide); exact hv)
     have hsb0 : ((strOfNums bd).size : Int) = (bd.length : Int) := str_size bd
     unfold endS at hE
     have tail : (¬ (bd ≠ [] ∧ x.x0 ≠ 5 ∧ x.x0 ≠ 16)) → ∀ y, KN 69 y [(2, (ptw w)), (5, (.string (strOfNums bd))), (10, (.pointer (some ⟨q, 0, none⟩)))] → Code.wp Tryd.prog (.seq (.region 15 (opsR 15 Tryd.f8.body) false) (.seq (.region 16 (opsR 16 Tryd.f8.body) false) (.ret))) (QR (fun _ _ => False) (GFin ok w r)) y W := by
      intro hbad y ky
      rw [if_neg hbad] at hE
      obtain rfl := hE
      have t35 := ky.l
      refine wp_seq (wr ?_)
      refine lv t35 (oa rfl) (fun _ => run_mv t35.a) fun u36 t36 => ?_
      have CB := bytes_C W (strOfNums bd) (by rw [strOfNums_size]; omega)
      have BB := bytes_below (Below.refl W.heap.size W) (Nat.le_refl _) 5 (strOfNums bd)
      rw [bytesOf_str hbt.2] at CB
      have hgc := grownCap_ge W (strOfNums bd).size 0 5
      have O3 := O.below BB
      have KQ3 := blk_below KQ BB
      have AX3 := AX.below BB
      have lq := blk_lt KQ
      have ls := blk_lt O.b0
      refine ln (w1 := Lib.bytesWorld W 5 (strOfNums bd)) t36 (oa rfl) (fun _ => conv_22 (strOfNums bd) t36.a) fun u37 t37 => ?_
      have hV : Kd.V (Kd.int .u8) 5 (Lib.bytesWorld W 5 (strOfNums bd)) 0 (fun k => (ok k ∧ k ≠ w.heap.size) ∧ k ≠ q) (.slice (some ⟨W.heap.size, 0, none⟩) (strOfNums bd).size (grownCap W (strOfNums bd).size 0 5)) bd :=
       ⟨_, _, by rw [strOfNums_size], by rw [strOfNums_size] at hgc; exact hgc, Kd.F_mono (F_at (by rw [strOfNums_size] at CB; exact CB)) (fun k e => by subst e; exact ⟨⟨hk _ (by omega), by omega⟩, by omega⟩)⟩
      generalize hcv : grownCap W (strOfNums bd).size 0 5 = gc at *
      generalize Lib.bytesWorld W 5 (strOfNums bd) = WB at *
      have AF := AX3.put4 _ bd hV
      obtain ⟨old, k4, _⟩ := AX3.get 4 (by decide)
      have c4 := (blk_cell KQ3 4).trans k4
      have z4 := blk_frozen KQ3 4
      have KF := blk_put KQ3 4 (.slice (some ⟨W.heap.size, 0, none⟩) (strOfNums bd).size gc) rfl
      have OF := O3.setc leq neq 4 (.slice (some ⟨W.heap.size, 0, none⟩) (strOfNums bd).size gc)
      have AF3 := (AF.step (w1 := WB.setCell ⟨q, 4, none⟩ (.slice (some ⟨W.heap.size, 0, none⟩) (strOfNums bd).size gc)) (fun k hk _ => Below.heap_setCell _ ⟨q, 4, none⟩ _ k hk.2)).mono (ok' := fun k => ok k ∧ k ≠ w.heap.size) fun _ hk => hk.1
      refine lv t37 (oa rfl) (fun _ => (fld 4 (by decide)) _ _ q _ _ (show _ = Chain.ptr q from t37.a (n := 10))) fun u38 t38 => ?_
      refine ls_st (oa rfl) (fun o ho => st_22 q 4 (some ⟨W.heap.size, 0, none⟩) (strOfNums bd).size gc old t38.a t38.a c4 z4 ho) ?_
      refine le_ ?_
      generalize cx.setIfInBounds 4 (.slice (some ⟨W.heap.size, 0, none⟩) (strOfNums bd).size gc) = cF at KF AF3
      generalize WB.setCell ⟨q, 4, none⟩ (.slice (some ⟨W.heap.size, 0, none⟩) (strOfNums bd).size gc) = WF at *
      refine wp_seq (wr ?_)
      refine lv t38 (oa rfl) (fun _ => lod_26 q cF t38.a KF AF3.size) fun u39 t39 => ?_
      refine ls_row w.heap.size cF zA (oa rfl) t39.a t39.a OF.b0 AF3.size AF3.one zA_size ?_
      refine lv (v := (.int .i64 0)) t39 (oa rfl) (fun _ => run_assign' rfl) fun u40 t40 => ?_
      refine le_ ?_
      refine wp_ret ?_
      exact OF.gfin AF3 t40.m
     have t41 := t34
     refine wp_seq (wp_seq (wr ?_))
     refine lv t41 (oa rfl) (fun _ => run_mv t41.a) fun u42 t42 => ?_
     refine lv t42 (oa rfl) (fun _ => len_9k (strOfNums bd) _ _ _ _ t42.a) fun u43 t43 => ?_
     by_cases a1 : bd = []
     ·replace tail := tail (fun h => h.1 a1)
      have hbd0 : bd.length = 0 := by rw [a1]; rfl
      refine lv (v := (.bool false)) t43 (oa rfl) (fun o ho => (gtr_3k ((strOfNums bd).size : Int) 0 _ _ _ _ t43.a ho).trans (by rw [decide_eq_false (show ¬ 0 < ((strOfNums bd).size : Int) by omega)])) fun u44 t44 => ?_
      refine lv t44 (oa rfl) (fun _ => run_mv t44.a) fun u45 t45 => ?_
      refine lof t45 (oa rfl) fun u46 t46 => ?_
      refine lof t46 (oa rfl) fun u47 t47 => ?_
      refine lof t47 (oa rfl) fun u48 t48 => ?_
      refine lv (v := (.bool false)) t48 (oa rfl) (fun _ => run_pick (b := false) t48.a rfl rfl) fun u49 t49 => ?_
      refine lv t49 (oa rfl) (fun _ => run_mv t49.a) fun u50 t50 => ?_
      refine lof t50 (oa rfl) fun u51 t51 => ?_
      refine lof t51 (oa rfl) fun u52 t52 => ?_
      refine lof t52 (oa rfl) fun u53 t53 => ?_
      refine lv (v := (.bool false)) t53 (oa rfl) (fun _ => run_pick (b := false) t53.a rfl rfl) fun u54 t54 => ?_
      refine le_ ?_
      refine wp_cond (t := false) t54.a ?_
      rw [if_neg (by simp)]
      refine wp_skip ?_
      exact tail _ t54.m
     ·have hb0 : 0 < bd.length := List.length_pos_iff.2 a1
      by_cases a2 : x.x0 = 5
      ·replace tail := tail (fun h => h.2.1 a2)
       refine lv (v := (.bool true)) t43 (oa rfl) (fun o ho => (gtr_3k ((strOfNums bd).size : Int) 0 _ _ _ _ t43.a ho).trans (by rw [decide_eq_true (show 0 < ((strOfNums bd).size : Int) by omega)])) fun u44 t44 => ?_
       refine lv t44 (oa rfl) (fun _ => run_mv t44.a) fun u45 t45 => ?_
       refine lv t45 (oa rfl) (fun _ => (fld 0 (by decide)) _ _ q _ _ (show _ = Chain.ptr q from t45.a (n := 10))) fun u46 t46 => ?_
       refine lv t46 (oa rfl) (fun _ => lod_3 _ _ _ _ _ _ t46.a c10) fun u47 t47 => ?_
       refine lv (v := (.bool false)) t47 (oa rfl) (fun o ho => (neq_k x.x0 5 t47.a ho).trans (by rw [show (x.x0 != 5) = false from by simpa using a2])) fun u48 t48 => ?_
       refine lv (v := (.bool false)) t48 (oa rfl) (fun _ => run_pick (b := true) t48.a t48.a rfl) fun u49 t49 => ?_
       refine lv t49 (oa rfl) (fun _ => run_mv t49.a) fun u50 t50 => ?_
       refine lof t50 (oa rfl) fun u51 t51 => ?_
       refine lof t51 (oa rfl) fun u52 t52 => ?_
       refine lof t52 (oa rfl) fun u53 t53 => ?_
       refine lv (v := (.bool false)) t53 (oa rfl) (fun _ => run_pick (b := false) t53.a rfl rfl) fun u54 t54 => ?_
       refine le_ ?_
       refine wp_cond (t := false) t54.a ?_
       rw [if_neg (by simp)]
       refine wp_skip ?_
       exact tail _ t54.m
      ·by_cases a3 : x.x0 = 16
       ·replace tail := tail (fun h => h.2.2 a3)
        refine lv (v := (.bool true)) t43 (oa rfl) (fun o ho => (gtr_3k ((strOfNums bd).size : Int) 0 _ _ _ _ t43.a ho).trans (by rw [decide_eq_true (show 0 < ((strOfNums bd).size : Int) by omega)])) fun u44 t44 => ?_
        refine lv t44 (oa rfl) (fun _ => run_mv t44.a) fun u45 t45 => ?_
        refine lv t45 (oa rfl) (fun _ => (fld 0 (by decide)) _ _ q _ _ (show _ = Chain.ptr q from t45.a (n := 10))) fun u46 t46 => ?_
        refine lv t46 (oa rfl) (fun _ => lod_3 _ _ _ _ _ _ t46.a c10) fun u47 t47 => ?_
        refine lv (v := (.bool true)) t47 (oa rfl) (fun o ho => (neq_k x.x0 5 t47.a ho).trans (by rw [show (x.x0 != 5) = true from by simpa using a2])) fun u48 t48 => ?_
        refine lv (v := (.bool true)) t48 (oa rfl) (fun _ => run_pick (b := true) t48.a t48.a rfl) fun u49 t49 => ?_
        refine lv t49 (oa rfl) (fun _ => run_mv t49.a) fun u50 t50 => ?_
        refine lv t50 (oa rfl) (fun _ => (fld 0 (by decide)) _ _ q _ _ (show _ = Chain.ptr q from t50.a (n := 10))) fun u51 t51 => ?_
        refine lv t51 (oa rfl) (fun _ => lod_3 _ _ _ _ _ _ t51.a c10) fun u52 t52 => ?_
        refine lv (v := (.bool false)) t52 (oa rfl) (fun o ho => (neq_k x.x0 16 t52.a ho).trans (by rw [show (x.x0 != 16) = false from by simpa using a3])) fun u53 t53 => ?_
        refine lv (v := (.bool false)) t53 (oa rfl) (fun _ => run_pick (b := true) t53.a t53.a rfl) fun u54 t54 => ?_
        refine le_ ?_
        refine wp_cond (t := false) t54.a ?_
        rw [if_neg (by simp)]
        refine wp_skip ?_
        exact tail _ t54.m
       ·clear tail
        refine lv (v := (.bool true)) t43 (oa rfl) (fun o ho => (gtr_3k ((strOfNums bd).size : Int) 0 _ _ _ _ t43.a ho).trans (by rw [decide_eq_true (show 0 < ((strOfNums bd).size : Int) by omega)])) fun u44 t44 => ?_
        refine lv t44 (oa rfl) (fun _ => run_mv t44.a) fun u45 t45 => ?_
        refine lv t45 (oa rfl) (fun _ => (fld 0 (by decide)) _ _ q _ _ (show _ = Chain.ptr q from t45.a (n := 10))) fun u46 t46 => ?_
        refine lv t46 (oa rfl) (fun _ => lod_3 _ _ _ _ _ _ t46.a c10) fun u47 t47 => ?_
        refine lv (v := (.bool true)) t47 (oa rfl) (fun o ho => (neq_k x.x0 5 t47.a ho).trans (by rw [show (x.x0 != 5) = true from by simpa using a2])) fun u48 t48 => ?_
        refine lv (v := (.bool true)) t48 (oa rfl) (fun _ => run_pick (b := true) t48.a t48.a rfl) fun u49 t49 => ?_
        refine lv t49 (oa rfl) (fun _ => run_mv t49.a) fun u50 t50 => ?_
        refine lv t50 (oa rfl) (fun _ => (fld 0 (by decide)) _ _ q _ _ (show _ = Chain.ptr q from t50.a (n := 10))) fun u51 t51 => ?_
        refine lv t51 (oa rfl) (fun _ => lod_3 _ _ _ _ _ _ t51.a c10) fun u52 t52 => ?_
        refine lv (v := (.bool true)) t52 (oa rfl) (fun o ho => (neq_k x.x0 16 t52.a ho).trans (by rw [show (x.x0 != 16) = true from by simpa using a3])) fun u53 t53 => ?_
        refine lv (v := (.bool true)) t53 (oa rfl) (fun _ => run_pick (b := true) t53.a t53.a rfl) fun u54 t54 => ?_
        refine le_ ?_
        refine wp_cond (t := true) t54.a ?_
        rw [if_pos rfl]
        obtain rfl : r = (ask0, 4) := by rw [← hE, if_pos ⟨a1, a2, a3⟩]
        refine wp_seq (wr ?_)
        refine lb t54 (oa rfl) fun u55 t55 => ?_
        refine ls_row w.heap.size zA zA (oa rfl) t55.a t55.a O.b0 zA_size zA_one zA_size ?_
        refine lv (v := (.int .i64 4)) t55 (oa rfl) (fun _ => run_assign' rfl) fun u56 t56 => ?_
        refine le_ ?_
        refine wp_ret ?_
        exact O.gfin (zA_ask _ _ False) t56.m
    ·rw [show (xc != 0) = true from by simpa using hx, if_pos rfl]
     obtain rfl : r = (ask0, xc) := by rw [← hR4, if_pos hx]
     refine wp_seq (wr ?_)
     refine lb t34 (oa rfl) fun u35 t35 => ?_
     refine lv t35 (oa rfl) (fun _ => run_mv t35.a) fun u36 t36 => ?_
     refine ls_row w.heap.size zA zA (oa rfl) t36.a t36.a O.b0 zA_size zA_one zA_size ?_
     refine lv t36 (oa rfl) (fun _ => run_assign' t36.a) fun u37 t37 => ?_
     refine le_ ?_
     refine wp_ret ?_
     exact O.gfin (zA_ask _ _ False) t37.m
   ·rw [show (code != 0) = true from by simpa using hcd, if_pos rfl]
    obtain rfl : r = (ask0, code) := by rw [← hR2, if_pos hcd]
    refine wp_seq (wr ?_)
    refine lb t31 (oa rfl) fun u32 t32 => ?_
    refine lv t32 (oa rfl) (fun _ => run_mv t32.a) fun u33 t33 => ?_
    refine ls_row w.heap.size zA zA (oa rfl) t33.a t33.a O.b0 zA_size zA_one zA_size ?_
    refine lv t33 (oa rfl) (fun _ => run_assign' t33.a) fun u34 t34 => ?_
    refine le_ ?_
    refine wp_ret ?_
    exact O.gfin (zA_ask _ _ False) t34.m
theorem rget_calls (ok : Nat → Prop) (A : Option Addr) (c : Nat) (b : List Int) (w : World) (hr : Kd.C (Kd.int .u8) w A b.length b) (hc : b.length ≤ c) (hB : Byt b) (hl : b.length ≤ 800000) (hk : ∀ k, w.heap.size ≤ k → ok k) :
  Calls Tryd.prog 8 #[.slice A b.length c] w (RR ok w (getS b)) := by
 have O := Lib.hid (One1.start w)
 have CW := Lib.hid (Kd.C_below hr (One1.start w).be)
 have hu := Tryd.underlying26
 clear hr
 go_enter Tryd.func8, Tryd.ntmps8
 replace hu := Lib.hid hu
 refine wp_seq_k fun K hK => ?_
 replace hK := Lib.hid hK
 go_wp2_with (refine wpList_allocA rfl (some 2) rfl 26 rfl zA zA_info (w.heap.size) rfl ?_; simp only [Act.put, List.setIfInBounds_toArray, List.set_cons_zero, List.set_cons_succ])
 refine hK.out _ _ (Code.wp_mono ?_ (gbody ok A c b w _ O.out CW.out hB hl hk _ ⟨by rfl, rfl, List.forall_mem_cons.2 ⟨⟨(by decide : (0 : Nat) < 69), rfl⟩, List.forall_mem_cons.2 ⟨⟨(by decide : (2 : Nat) < 69), rfl⟩, List.forall_mem_cons.2 ⟨⟨(by decide : (3 : Nat) < 69), rfl⟩, fun _ h => nomatch h⟩⟩⟩⟩))
 intro e a' W' hq
 cases e with
 | ret =>
  obtain ⟨cF, k, hb, hF, be⟩ := hq
  refine bodyPost_ret (results_ct rfl _ _ w.heap.size 26 cF (0, 0) _ (k.at (n := 2) (by simp)) hb hu.out rfl (sizeA hF)) k.2.1 ?_
  rw [show a'.tmps.getD 3 undef = .int .i64 (getS b).2 from k.at (n := 3) (by simp)]
  exact ⟨cF, rfl, hF, be⟩
 | _ => exact (hq : False).elim
end Go.Proofs.YtjkehapbemjnpaaDoor
