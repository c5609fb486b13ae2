/- The reference's Get, walked by hand, whatever the frame holds elsewhere; each condition stands in its theorem. -/
import Derived.Test.YtjkehapbemjnpaaDoorZRRows
import Derived.Test.YtjkehapbemjnpaaDoorZRFirst
import Derived.Test.YtjkehapbemjnpaaDoorZRKn
namespace Go.Proofs.YtjkehapbemjnpaaDoor
open Go.RowKit Go.Proofs.YtjkehapbemjnpaaDoorW.PrintWords Go.Proofs.YtjkehapbemjnpaaDoorW.PrintLast Go.Proofs.YtjkehapbemjnpaaDoorW.PrintMore Go.Proofs.YtjkehapbemjnpaaDoor.Lf Go.Proofs.YtjkehapbemjnpaaDoor.Kit Go.Proofs.YtjkehapbemjnpaaDoor.Cut Go.Proofs.YtjkehapbemjnpaaDoor.Pl Go.Proofs.YtjkehapbemjnpaaDoor.Num Go.Proofs.YtjkehapbemjnpaaDoor.Chain
set_option linter.unusedVariables false
set_option linter.unusedSimpArgs false
section
variable {ops : Array Oper} {o : Oper} {a : Act}
theorem yields_tail (g n c : Nat) (hn : 1 ≤ n) (hc : n ≤ c) (x : Operand) (ho : o.op = .slice 40 x (some (.const (.int .i64 1))) none none) (hg : o.guard = none) (hx : a.eval x = .slice (some ⟨g, 0, none⟩) n c) :
    Yields Tryd.prog ops o (.slice (if c = 1 then some ⟨g, 0, none⟩ else some ⟨g, 1, none⟩) (n - 1) (c - 1)) a := by
  refine .inl ⟨by simp [Region.wanted, hg], fun W => ?_⟩
  have hu := Tryd.underlying40
  clear hc
  unfold execOp
  simp only [ho, hx]
  go_simp
  intro hlt
  exact absurd hlt (by omega)
theorem run_alloc26 (ho : o.op = .alloc 26) (w : World) : (execOp a.eval o).run Tryd.prog w = .ok (.value (.pointer (some ⟨w.heap.size, 0, none⟩))) (w.alloc (.cells zA 26)) := by
  have hzv : (zeroValue 26).run Tryd.prog w = .ok (.agg zA) w := by
    have hz := zA_info
    cases hq : Tryd.prog.info? 26 with
    | none => simp [hq] at hz
    | some i => simp [hq] at hz; simp [zeroValue, typeInfo, hq, hz]
  unfold execOp
  simp only [ho]
  simp [Instr.alloc, Sem.run_bind, hzv, newVar, newRow, Value.cells]
end
theorem F_at {k : IntKind} {w : World} {g n : Nat} {xs : List Int} (h : Kd.C (Kd.int k) w (some ⟨g, 0, none⟩) n xs) : Kd.F (Kd.int k) w (fun b => b = g) (some ⟨g, 0, none⟩) n xs := fun W' hW => by
  have hr := Kd.reads_of_C (enc := Value.int k) (d := (0 : Int)) (h1 := fun _ => rfl) h
  refine Kd.C_of_reads (d := (0 : Int)) ⟨hr.1, hr.2.1, fun hn => ?_⟩
  obtain ⟨ad, e, hc⟩ := hr.2.2 hn
  refine ⟨ad, e, fun j hj => ?_⟩
  have h1 := hc j hj
  have h2 := World.block_lt_of_cell? w _ h1
  have hb : (ad.add j).block = g := by
    obtain rfl := Option.some.inj e
    unfold Addr.add
    split <;> rfl
  have h3 := hW (ad.add j).block hb h2
  rw [← h1]
  unfold World.cell?
  rw [h3]
theorem One1.setc {w W : World} (h : One1 w W) {q : Nat} (hq : w.heap.size ≤ q) (hne : q ≠ w.heap.size) (p : Nat) (u : Value) : One1 w (W.setCell ⟨q, p, none⟩ u) :=
  ⟨blk_far h.b0 (p := ⟨q, p, none⟩) (fun e => hne e.symm) u, below_set h.be hq⟩
structure RowsGot (ok : Nat → Prop) (w : World) (s10 s11 : Value) (fr : AskP × Int) (q : Nat) (cx : Array Value) (W : World) : Prop where
  e10 : s10 = .pointer (some ⟨q, 0, none⟩)
  e11 : s11 = .int .i64 fr.2
  o1 : One1 w W
  kq : W.heap[q]? = some (.cells cx 26 (0, 0))
  ne : q ≠ w.heap.size
  le : w.heap.size ≤ q
  ac : AskC W (fun k => (ok k ∧ k ≠ w.heap.size) ∧ k ≠ q) False cx fr.1
theorem RowsGot.ofCall {ok : Nat → Prop} {w W W1 : World} {fr : AskP × Int} {cx : Array Value} (h : One1 w W) (hb : Below W.heap.size W W1) (hA : AskC W1 (fun k => ok k ∧ k ≠ w.heap.size) False cx fr.1) :
    RowsGot ok w (.pointer (some ⟨W1.heap.size, 0, none⟩)) (.int .i64 fr.2) fr W1.heap.size cx (W1.alloc (.cells cx 26)) where
  e10 := rfl
  e11 := rfl
  o1 := (h.below hb).below (below_alloc (Below.refl _ _) _)
  kq := blk_new W1 _
  ne := by have := blk_lt h.b0; have := hb.size; omega
  le := by have := blk_lt h.b0; have := hb.size; omega
  ac := (hA.bound.below (below_alloc (Below.refl _ _) _)).mono fun k hk => ⟨hk.1, by have := hk.2; omega⟩
theorem RowsGot.ofStore {ok : Nat → Prop} {w W W1 : World} {fr : AskP × Int} {cx : Array Value} (h : One1 w W) (hb : Below (W.alloc (.cells zA 26)).heap.size (W.alloc (.cells zA 26)) W1)
    (hA : AskC W1 (fun k => (ok k ∧ k ≠ w.heap.size) ∧ k ≠ W.heap.size) False cx fr.1) :
    RowsGot ok w (.pointer (some ⟨W.heap.size, 0, none⟩)) (.int .i64 fr.2) fr W.heap.size cx (W1.setRow W.heap.size cx) where
  e10 := rfl
  e11 := rfl
  o1 := by
    have h2 := (h.below (below_alloc (Below.refl W.heap.size W) (.cells zA 26))).below hb
    have lt := blk_lt h.b0
    exact ⟨(setRow_other W1 _ cx _ (by omega)).trans h2.b0, below_row h2.be (by omega) cx⟩
  kq := blk_row (blk_below (blk_new W _) hb) cx
  ne := by have := blk_lt h.b0; omega
  le := by have := blk_lt h.b0; omega
  ac := hA.step fun k hk _ => setRow_other W1 _ cx k hk.2
section
variable {a : Act} {W : World} {o : Oper}
theorem ext_run (n : Nat) (vs : Array Value) (v : Value) {x : Operand} (hx : a.eval x = .tuple vs) (hv : vs[n]? = some v) (ho : o.op = .extract x n) : (execOp a.eval o).run Tryd.prog W = .ok (.value v) W := by
  unfold execOp
  simp only [ho, hx]
  go_simp
theorem neq_27 (m k : Int) {x : Operand} (hx : a.eval x = .int .i64 m) (ho : o.op = .binOp .neq 27 x (.const (.int .i64 k)) 27) : (execOp a.eval o).run Tryd.prog W = .ok (.value (.bool (m != k))) W := by
  have hy : a.eval (.const (.int .i64 k)) = .int .i64 k := rfl
  have hu := Tryd.underlying27
  unfold execOp
  simp only [ho, hx, hy]
  go_simp
theorem neq_k (m k : Int) {x : Operand} (hx : a.eval x = .int .i64 m) (ho : o.op = .binOp .neq 3 x (.const (.int .i64 k)) 3) : (execOp a.eval o).run Tryd.prog W = .ok (.value (.bool (m != k))) W := by
  have hy : a.eval (.const (.int .i64 k)) = .int .i64 k := rfl
  unfold execOp
  simp only [ho, hx, hy]
  go_simp
theorem len_40 (A : Option Addr) (n c : Nat) (q : Nat) (hx : a.eval (.tmp q) = .slice A n c) (ho : o.op = .call { callee := .builtin .len, args := #[.tmp q], argTypes := #[40] }) : (execOp a.eval o).run Tryd.prog W = .ok (.value (.int .i64 n)) W := by
  have hx2 : a.tmps[q]?.getD undef = .slice A n c := by
    rw [← hx, ← Array.getD_eq_getD_getElem?]
    rfl
  unfold execOp
  simp only [ho]
  go_simp
theorem conv_9 (A : Option Addr) (c : Nat) (xs : List Int) (hC : Kd.C (Kd.int .u8) W A xs.length xs) {x : Operand} (hx : a.eval x = .slice A xs.length c) (ho : o.op = .convert 22 9 x) : (execOp a.eval o).run Tryd.prog W = .ok (.value (.string (strOfNums xs))) W := by
  have q := Kd.C_string (P := Tryd.prog) (src := 22) (dst := 9) (e := 5) (c := c) Tryd.underlying22 Tryd.underlying5 Tryd.underlying9 hC
  unfold execOp
  simp only [ho, hx, Sem.run_bind, q, Result.andThen_ok]
  rfl
theorem conv_22 (s : ByteArray) {x : Operand} (hx : a.eval x = .string s) (ho : o.op = .convert 9 22 x) : (execOp a.eval o).run Tryd.prog W = .ok (.value (.slice (some ⟨W.heap.size, 0, none⟩) s.size (grownCap W s.size 0 5))) (Lib.bytesWorld W 5 s) := by
  have q := print_bytes (P := Tryd.prog) 9 22 5 Tryd.underlying9 Tryd.underlying22 Tryd.underlying5 s W
  unfold execOp
  simp only [ho, hx, Sem.run_bind, q, Result.andThen_ok]
  rfl
theorem lod_26 (g : Nat) (cs : Array Value) {x : Operand} (hx : a.eval x = .pointer (some ⟨g, 0, none⟩)) (hg : W.heap[g]? = some (.cells cs 26 (0, 0))) (hs : cs.size = 24) (ho : o.op = .load 26 x) : (execOp a.eval o).run Tryd.prog W = .ok (.value (.agg cs)) W := by
  unfold execOp
  simp only [ho, hx, Instr.loadAt, Instr.sureAddr, Sem.run_bind, Sem.run_pure, Result.andThen_ok, run_loadVar_row W g 26 26 cs (0, 0) _ hg Tryd.underlying26 rfl (by rw [hs]; exact size26)]
theorem st_22 (q p : Nat) (A : Option Addr) (n c : Nat) (old : Value) {x y : Operand} (hx : a.eval x = .pointer (some ⟨q, p, none⟩)) (hy : a.eval y = .slice A n c) (hc : W.cell? ⟨q, p, none⟩ = some old) (hz : W.frozen? ⟨q, p, none⟩ = false) (ho : o.op = .store 22 x y) :
    (execOp a.eval o).run Tryd.prog W = .ok .skip (W.setCell ⟨q, p, none⟩ (.slice A n c)) := by
  have hu := Tryd.underlying22
  unfold execOp
  simp only [ho, hx, hy]
  go_simp
theorem ls_st {ops : Array Oper} {Q : Exit → Act → World → Prop} {a : Act} {w w1 : World} {i : Nat} {p : Op} (ho : OpAt ops i none p none) (hrun : ∀ o : Oper, o.op = p → (execOp a.eval o).run Tryd.prog w = .ok .skip w1)
    (h : wpList Tryd.prog ops Q (ops.toList.drop (i + 1)) a w1) : wpList Tryd.prog ops Q (ops.toList.drop i) a w := by
  obtain ⟨o, he, hd, hp, hg⟩ := ho.cons
  rw [he]
  refine wpList_step fun K hK => ?_
  rw [if_pos (want_none o hg)]
  unfold Oper.wp
  rw [hrun o hp]
  show K (a.put o.dst undef) w1
  rw [hd]
  exact hK _ _ h
theorem ls_row {ops : Array Oper} {Q : Exit → Act → World → Prop} {a : Act} {w : World} {i : Nat} {x y : Operand} (g : Nat) (cs old : Array Value) (ho : OpAt ops i none (.store 26 x y) none) (hx : a.eval x = .pointer (some ⟨g, 0, none⟩)) (hy : a.eval y = .agg cs)
    (hg : w.heap[g]? = some (.cells old 26 (0, 0))) (hs : cs.size = 24) (h1 : cs.all (·.oneCell') = true) (hold : old.size = 24)
    (h : wpList Tryd.prog ops Q (ops.toList.drop (i + 1)) a (w.setRow g cs)) : wpList Tryd.prog ops Q (ops.toList.drop i) a w := by
  obtain ⟨o, he, hd, hp, hgd⟩ := ho.cons
  rw [he]
  refine wpList_store_row hgd 26 x y hp g cs hx hy 26 old hg (by rw [hs]; exact size26) (by rw [hs, hold]) h1 ?_
  rw [hd]
  exact h
theorem ls_build {ops : Array Oper} {Q : Exit → Act → World → Prop} {a : Act} {w : World} {i n : Nat} (ho : OpAt ops i (some n) (.build 26 #[]) none)
    (h : wpList Tryd.prog ops Q (ops.toList.drop (i + 1)) (a.put (some n) (.agg zA)) w) : wpList Tryd.prog ops Q (ops.toList.drop i) a w := by
  obtain ⟨o, he, hd, hp, hg⟩ := ho.cons
  rw [he]
  exact wpList_buildTo hg (some n) hd 26 _ hp zA (by kernel_rfl) h
end
structure RowsFor (ok : Nat → Prop) (w : World) (b8 : Nat) (c8 : Array Value) (a0 : AskP) (g1 c1 : Nat) (l rest : List (List Int)) (W : World) : Prop where
  o1 : One1 w W
  k8 : W.heap[b8]? = some (.cells c8 26 (0, 0))
  a8 : AskC W (fun k => ok k ∧ k ≠ w.heap.size) False c8 a0
  cr : Kd.C Kd.string W (if c1 = 1 then some ⟨g1, 0, none⟩ else some ⟨g1, 1, none⟩) rest.length (rest.map strOfNums)
  rb : ∀ p ∈ rest, Byt p
  rl : ∀ p ∈ rest, p.length ≤ 800000
  rn : l.length - 1 = rest.length
  r1 : 1 ≤ l.length
  rc : l.length ≤ c1
  r32 : l.length ≤ 32
set_option maxRecDepth 100000 in
set_option maxHeartbeats 4000000 in
theorem greg10 (ok : Nat → Prop) (w W : World) (b8 : Nat) (c8 : Array Value) (a0 : AskP) (g1 c1 : Nat) (l rest : List (List Int)) (F : RowsFor ok w b8 c8 a0 g1 c1 l rest W) (hk : ∀ k, w.heap.size ≤ k → ok k) (sb : ByteArray) (x0 : Act)
    (h0 : KN 69 x0 [(2, (ptw w)), (5, .string sb), (7, .slice (some ⟨g1, 0, none⟩) l.length c1), (8, .pointer (some ⟨b8, 0, none⟩))]) (K : Act → World → Prop)
    (hK : ∀ x W' q cx, RowsGot ok w (.pointer (some ⟨q, 0, none⟩)) (.int .i64 (rowsR a0 (rowsS [] a0 rest)).2) (rowsR a0 (rowsS [] a0 rest)) q cx W' → KN 69 x [(2, (ptw w)), (5, .string sb), (10, .pointer (some ⟨q, 0, none⟩)), (11, .int .i64 (rowsR a0 (rowsS [] a0 rest)).2)] → K x W') :
    Code.wp Tryd.prog (.region 10 (opsR 10 Tryd.f8.body) true) (QN K) x0 W := by
  generalize hfr : rowsR a0 (rowsS [] a0 rest) = fr at *
  obtain ⟨o0, i0, d0, v0, g0⟩ := op_at (show (opsR 10 Tryd.f8.body)[0]?.map (fun o => (o.dst, o.op, o.guard)) = some (some 41, Op.load 26 (Operand.tmp 8), none) by kernel_rfl)
  obtain ⟨o1, i1, d1, v1, g1_⟩ := op_at (show (opsR 10 Tryd.f8.body)[1]?.map (fun o => (o.dst, o.op, o.guard)) = some (some 42, Op.move (Operand.tmp 7), none) by kernel_rfl)
  obtain ⟨o2, i2, d2, v2, g2⟩ := op_at (show (opsR 10 Tryd.f8.body)[2]?.map (fun o => (o.dst, o.op, o.guard)) = some (some 43, Op.slice 40 (Operand.tmp 42) (some (Operand.const (Value.int IntKind.i64 1))) none none, none) by kernel_rfl)
  obtain ⟨o3, i3, d3, v3, g3⟩ := op_at (show (opsR 10 Tryd.f8.body)[3]?.map (fun o => (o.dst, o.op, o.guard)) = some (some 44, Op.call { callee := Callee.value (Operand.func 28), args := #[Operand.tmp 41, Operand.tmp 43], argTypes := #[26, 40] }, none) by kernel_rfl)
  obtain ⟨o4, i4, d4, v4, g4⟩ := op_at (show (opsR 10 Tryd.f8.body)[4]?.map (fun o => (o.dst, o.op, o.guard)) = some (some 40, Op.move (Operand.tmp 44), none) by kernel_rfl)
  obtain ⟨o5, i5, d5, v5, g5⟩ := op_at (show (opsR 10 Tryd.f8.body)[5]?.map (fun o => (o.dst, o.op, o.guard)) = some (some 45, Op.extract (Operand.tmp 40) 0, none) by kernel_rfl)
  obtain ⟨o6, i6, d6, v6, g6⟩ := op_at (show (opsR 10 Tryd.f8.body)[6]?.map (fun o => (o.dst, o.op, o.guard)) = some (some 46, Op.extract (Operand.tmp 40) 1, none) by kernel_rfl)
  obtain ⟨o7, i7, d7, v7, g7⟩ := op_at (show (opsR 10 Tryd.f8.body)[7]?.map (fun o => (o.dst, o.op, o.guard)) = some (some 10, Op.alloc 26, none) by kernel_rfl)
  obtain ⟨o8, i8, d8, v8, g8⟩ := op_at (show (opsR 10 Tryd.f8.body)[8]?.map (fun o => (o.dst, o.op, o.guard)) = some (none, Op.store 26 (Operand.tmp 10) (Operand.tmp 45), none) by kernel_rfl)
  obtain ⟨o9, i9, d9, v9, g9⟩ := op_at (show (opsR 10 Tryd.f8.body)[9]?.map (fun o => (o.dst, o.op, o.guard)) = some (some 11, Op.assign (Operand.tmp 46), none) by kernel_rfl)
  have hs8 := F.a8.size
  refine start_ (n := 10) (S := fun W => W.heap[b8]? = some (.cells c8 26 (0, 0))) (ds := []) #[false, false, false, false, false, false, false, false, false, false] rfl (by kernel_rfl) (by kernel_rfl) F.k8 fun S0 => ?_
  have Od := F.o1.below (below_drew (Below.refl W.heap.size W))
  have Ad := F.a8.below (below_drew (Below.refl W.heap.size W))
  have Cd := Kd.C_below F.cr (below_drew (Below.refl W.heap.size W))
  obtain ⟨_, _, _, _, hrb, hrl, hrn, hr1, hrc, hr32⟩ := F
  generalize W.drew = W at *
  have t0 := h0
  generalize x0 = u0 at t0 ⊢
  refine take_ #[true, false, false, false, false, false, false, false, false, false] i0 d0 (by kernel_rfl) (fun _ _ _ h => h) (yif (v := .agg c8) g0 fun W h => lod_26 b8 c8 (t0.at (by simp)) h hs8 v0) S0 rfl ?_
  have t1 := t0.go 41 (.agg c8) [(2, (ptw w)), (5, .string sb), (7, .slice (some ⟨g1, 0, none⟩) l.length c1)]
  generalize Act.put _ _ _ = u1 at t1 ⊢
  refine pure_ #[true, true, false, false, false, false, false, false, false, false] i1 d1 (by kernel_rfl) (fun _ _ _ h => h) (yfr (v := .slice (some ⟨g1, 0, none⟩) l.length c1) g1_ fun W => run_mv (t1.at (by simp)) v1) rfl ?_
  have t2 := t1.go 42 (.slice (some ⟨g1, 0, none⟩) l.length c1) [(2, (ptw w)), (5, .string sb), (41, .agg c8)]
  generalize Act.put _ _ _ = u2 at t2 ⊢
  refine pure_ #[true, true, true, false, false, false, false, false, false, false] i2 d2 (by kernel_rfl) (fun _ _ _ h => h) (yields_tail g1 l.length c1 hr1 hrc _ v2 g2 (t2.at (by simp))) rfl ?_
  rw [hrn]
  have t3 := t2.go 43 (.slice (if c1 = 1 then some ⟨g1, 0, none⟩ else some ⟨g1, 1, none⟩) rest.length (c1 - 1)) [(2, (ptw w)), (5, .string sb), (41, .agg c8)]
  generalize Act.put _ _ _ = u3 at t3 ⊢
  generalize hA' : (if c1 = 1 then (some ⟨g1, 0, none⟩ : Option Addr) else some ⟨g1, 1, none⟩) = A' at t3 Cd
  clear t0 t1 t2
  refine two_ #[true, true, true, true, false, false, false, false, false, false] #[true, true, true, false, false, false, false, true, false, false] i3 i7 d3 d7 (by kernel_rfl) (by simp) (by simp) (fun KK hKK => ?_) (fun KK hKK => ?_)
  · refine goes_ Tryd.func28 (by kernel_rfl) rfl (#[.agg c8, .slice A' rest.length (c1 - 1)]) (by simp [Region.wanted, g3]) d3 v3 (by simp only [List.map_toArray, List.map_cons, List.map_nil, t3.at (n := 41) (v := .agg c8) (by simp), t3.at (n := 43) (v := .slice A' rest.length (c1 - 1)) (by simp)]; try rfl) ?_
    refine (rrows_calls (fun k => ok k ∧ k ≠ w.heap.size) c8 a0 _ _ rest W Ad (fun k h => ⟨hk k (by have := Od.be.size; omega), by have := blk_lt Od.b0; omega⟩) Cd hrb hrl (by omega)).mono ?_
    rintro e wR ⟨cx, rfl, AX, BX⟩
    rw [hfr] at AX ⊢
    refine ⟨_, rfl, hKK.out _ _ ((BX.block _ (blk_lt S0)).trans S0) fun S1 => ?_⟩
    have t4 := t3.go 44 (.tuple #[.agg cx, .int .i64 fr.2]) [(2, (ptw w)), (5, .string sb)]
    generalize Act.put _ _ _ = u4 at t4 ⊢
    refine pure_ #[true, true, true, true, true, false, false, false, false, false] i4 d4 (by kernel_rfl) (fun _ _ _ h => h) (yfr (v := .tuple #[.agg cx, .int .i64 fr.2]) g4 fun W => run_mv (t4.at (by simp)) v4) rfl ?_
    have t5 := t4.go 40 (.tuple #[.agg cx, .int .i64 fr.2]) [(2, (ptw w)), (5, .string sb)]
    generalize Act.put _ _ _ = u5 at t5 ⊢
    refine pure_ #[true, true, true, true, true, true, false, false, false, false] i5 d5 (by kernel_rfl) (fun _ _ _ h => h) (yfr (v := .agg cx) g5 fun W => ext_run 0 #[.agg cx, .int .i64 fr.2] _ (t5.at (by simp)) rfl v5) rfl ?_
    have t6 := t5.go 45 (.agg cx) [(40, .tuple #[.agg cx, .int .i64 fr.2]), (2, (ptw w)), (5, .string sb)]
    generalize Act.put _ _ _ = u6 at t6 ⊢
    refine pure_ #[true, true, true, true, true, true, true, false, false, false] i6 d6 (by kernel_rfl) (fun _ _ _ h => h) (yfr (v := .int .i64 fr.2) g6 fun W => ext_run 1 #[.agg cx, .int .i64 fr.2] _ (t6.at (by simp)) rfl v6) rfl ?_
    have t7 := t6.go 46 (.int .i64 fr.2) [(45, .agg cx), (2, (ptw w)), (5, .string sb)]
    generalize Act.put _ _ _ = u7 at t7 ⊢
    have S2 := blk_alloc S1 (.cells zA 26)
    have S3 := blk_alloc S1 (.cells cx 26)
    refine one_ #[true, true, true, true, true, true, true, true, false, false] i7 d7 (by kernel_rfl) (by simp) fun KK2 hKK2 => value_ (by simp [Region.wanted, g7]) d7 (run_alloc26 v7 wR) (hKK2.out _ _ S2 fun _ => ?_)
    have t9 := t7.go 10 (.pointer (some ⟨wR.heap.size, 0, none⟩)) [(46, .int .i64 fr.2), (45, .agg cx), (2, (ptw w)), (5, .string sb)]
    generalize Act.put _ _ _ = u9 at t9 ⊢
    refine one_ #[true, true, true, true, true, true, true, true, true, false] i8 d8 (by kernel_rfl) (by simp) fun KK3 hKK3 => ?_
    rw [if_pos (by simp [Region.wanted, g8])]
    refine wp_store_row 26 (.tmp 10) (.tmp 45) v8 wR.heap.size cx (t9.at (by simp)) (t9.at (by simp)) 26 zA (blk_new wR _) (sizeA AX) (sizeAz AX) AX.one ?_
    rw [World.setRow_alloc_new, d8]
    refine hKK3.out _ _ S3 fun _ => ?_
    rw [show u9.put none undef = u9 from rfl]
    refine pure_ #[true, true, true, true, true, true, true, true, true, true] i9 d9 (by kernel_rfl) (fun _ _ _ h => h) (yfr (v := .int .i64 fr.2) g9 fun W => run_assign' (t9.at (by simp)) v9) rfl ?_
    have t10 := t9.go 11 (.int .i64 fr.2) [(10, .pointer (some ⟨wR.heap.size, 0, none⟩)), (2, (ptw w)), (5, .string sb)]
    generalize Act.put _ _ _ = u10 at t10 ⊢
    refine done_ (by kernel_rfl) ?_
    exact hK _ _ _ _ (RowsGot.ofCall Od BX AX) (t10.mono (by simp))
  · have S2 := blk_alloc S0 (.cells zA 26)
    have Fa := below_alloc (Below.refl W.heap.size W) (.cells zA 26)
    refine value_ (by simp [Region.wanted, g7]) d7 (run_alloc26 v7 W) (hKK.out _ _ S2 fun _ => ?_)
    have t4 := t3.go 10 (.pointer (some ⟨W.heap.size, 0, none⟩)) [(43, .slice A' rest.length (c1 - 1)), (41, .agg c8), (2, (ptw w)), (5, .string sb)]
    generalize Act.put _ _ _ = u4 at t4 ⊢
    refine one_ #[true, true, true, true, false, false, false, true, false, false] i3 d3 (by kernel_rfl) (by simp) fun KK2 hKK2 => ?_
    refine goes_ Tryd.func28 (by kernel_rfl) rfl (#[.agg c8, .slice A' rest.length (c1 - 1)]) (by simp [Region.wanted, g3]) d3 v3 (by simp only [List.map_toArray, List.map_cons, List.map_nil, t4.at (n := 41) (v := .agg c8) (by simp), t4.at (n := 43) (v := .slice A' rest.length (c1 - 1)) (by simp)]; try rfl) ?_
    refine (rrows_calls (fun k => (ok k ∧ k ≠ w.heap.size) ∧ k ≠ W.heap.size) c8 a0 _ _ rest (W.alloc (.cells zA 26)) ((Ad.bound.below Fa).mono fun k h => ⟨h.1, by have := h.2; omega⟩) (fun k h => by rw [size_alloc] at h; exact ⟨⟨hk k (by have := Od.be.size; omega), by have := blk_lt Od.b0; omega⟩, by omega⟩) (Kd.C_below Cd Fa) hrb hrl (by omega)).mono ?_
    rintro e wR ⟨cx, rfl, AX, BX⟩
    rw [hfr] at AX ⊢
    refine ⟨_, rfl, hKK2.out _ _ ((BX.block _ (blk_lt S2)).trans S2) fun S3 => ?_⟩
    have t5 := t4.go 44 (.tuple #[.agg cx, .int .i64 fr.2]) [(10, .pointer (some ⟨W.heap.size, 0, none⟩)), (2, (ptw w)), (5, .string sb)]
    generalize Act.put _ _ _ = u5 at t5 ⊢
    refine pure_ #[true, true, true, true, true, false, false, true, false, false] i4 d4 (by kernel_rfl) (fun _ _ _ h => h) (yfr (v := .tuple #[.agg cx, .int .i64 fr.2]) g4 fun W => run_mv (t5.at (by simp)) v4) rfl ?_
    have t6 := t5.go 40 (.tuple #[.agg cx, .int .i64 fr.2]) [(10, .pointer (some ⟨W.heap.size, 0, none⟩)), (2, (ptw w)), (5, .string sb)]
    generalize Act.put _ _ _ = u6 at t6 ⊢
    refine pure_ #[true, true, true, true, true, true, false, true, false, false] i5 d5 (by kernel_rfl) (fun _ _ _ h => h) (yfr (v := .agg cx) g5 fun W => ext_run 0 #[.agg cx, .int .i64 fr.2] _ (t6.at (by simp)) rfl v5) rfl ?_
    have t7 := t6.go 45 (.agg cx) [(40, .tuple #[.agg cx, .int .i64 fr.2]), (10, .pointer (some ⟨W.heap.size, 0, none⟩)), (2, (ptw w)), (5, .string sb)]
    generalize Act.put _ _ _ = u7 at t7 ⊢
    refine pure_ #[true, true, true, true, true, true, true, true, false, false] i6 d6 (by kernel_rfl) (fun _ _ _ h => h) (yfr (v := .int .i64 fr.2) g6 fun W => ext_run 1 #[.agg cx, .int .i64 fr.2] _ (t7.at (by simp)) rfl v6) rfl ?_
    have t8 := t7.go 46 (.int .i64 fr.2) [(45, .agg cx), (10, .pointer (some ⟨W.heap.size, 0, none⟩)), (2, (ptw w)), (5, .string sb)]
    generalize Act.put _ _ _ = u8 at t8 ⊢
    have t9 := t8
    generalize u8 = u9 at t9 ⊢
    refine one_ #[true, true, true, true, true, true, true, true, true, false] i8 d8 (by kernel_rfl) (by simp) fun KK3 hKK3 => ?_
    rw [if_pos (by simp [Region.wanted, g8])]
    refine wp_store_row 26 (.tmp 10) (.tmp 45) v8 W.heap.size cx (t9.at (by simp)) (t9.at (by simp)) 26 zA (blk_below (blk_new W _) BX) (sizeA AX) (sizeAz AX) AX.one ?_
    have ne8 : b8 ≠ W.heap.size := by have := blk_lt S0; omega
    rw [d8]
    refine hKK3.out _ _ ((setRow_other wR _ cx _ ne8).trans S3) fun _ => ?_
    rw [show u9.put none undef = u9 from rfl]
    refine pure_ #[true, true, true, true, true, true, true, true, true, true] i9 d9 (by kernel_rfl) (fun _ _ _ h => h) (yfr (v := .int .i64 fr.2) g9 fun W => run_assign' (t9.at (by simp)) v9) rfl ?_
    have t10 := t9.go 11 (.int .i64 fr.2) [(10, .pointer (some ⟨W.heap.size, 0, none⟩)), (2, (ptw w)), (5, .string sb)]
    generalize Act.put _ _ _ = u10 at t10 ⊢
    refine done_ (by kernel_rfl) ?_
    exact hK _ _ _ _ (RowsGot.ofStore Od BX AX) (t10.mono (by simp))
def GFin (ok : Nat → Prop) (w : World) (r : AskP × Int) (a' : Act) (W' : World) : Prop :=
  ∃ cF, KN 69 a' [(2, (ptw w)), (3, .int .i64 r.2)] ∧ W'.heap[w.heap.size]? = some (.cells cF 26 (0, 0)) ∧ AskC W' ok False cF r.1 ∧ Below w.heap.size w W'
theorem One1.gfin {ok : Nat → Prop} {w W : World} {cF : Array Value} {b : AskP} {c : Int} {a' : Act} (h : One1 w W) (hF : AskC W (fun k => ok k ∧ k ≠ w.heap.size) False cF b) (k : KN 69 a' [(2, (ptw w)), (3, .int .i64 c)]) : GFin ok w (b, c) a' (W.setRow w.heap.size cF) :=
  ⟨cF, k, blk_row h.b0 cF, (hF.step fun k hk _ => setRow_other W _ cF k hk.2).mono fun _ hk => hk.1, below_row h.be (Nat.le_refl _) cF⟩
set_option maxRecDepth 100000 in
set_option maxHeartbeats 8000000 in
theorem gbody (ok : Nat → Prop) (A : Option Addr) (c : Nat) (b : List Int) (w W : World) (O : One1 w W) (CW : Kd.C (Kd.int .u8) W A b.length b) (hB : Byt b) (hl : b.length ≤ 800000) (hk : ∀ k, w.heap.size ≤ k → ok k) (x0 : Act) (h0 : KN 69 x0 [(0, .slice A b.length c), (2, (ptw w)), (3, .int .i64 0)]) :
    Code.wp Tryd.prog (sndC (Tryd.f8.body.getD .skip)) (QR (fun _ _ => False) (GFin ok w (getS b))) x0 W := by
  have hcode : sndC (Tryd.f8.body.getD .skip) = .seq (.region 1 (opsR 1 Tryd.f8.body) false) (.seq (.seq (.region 2 (opsR 2 Tryd.f8.body) false) (.cond (.tmp 21) (.seq (.region 3 (opsR 3 Tryd.f8.body) false) (.ret)) (.skip))) (.seq (.region 4 (opsR 4 Tryd.f8.body) false) (.seq (.seq (.region 5 (opsR 5 Tryd.f8.body) false) (.cond (.tmp 27) (.seq (.region 6 (opsR 6 Tryd.f8.body) false) (.ret)) (.skip))) (.seq (.region 7 (opsR 7 Tryd.f8.body) false) (.seq (.seq (.region 8 (opsR 8 Tryd.f8.body) false) (.cond (.tmp 37) (.seq (.region 9 (opsR 9 Tryd.f8.body) false) (.ret)) (.skip))) (.seq (.region 10 (opsR 10 Tryd.f8.body) true) (.seq (.seq (.region 11 (opsR 11 Tryd.f8.body) false) (.cond (.tmp 48) (.seq (.region 12 (opsR 12 Tryd.f8.body) false) (.ret)) (.skip))) (.seq (.seq (.region 13 (opsR 13 Tryd.f8.body) false) (.cond (.tmp 63) (.seq (.region 14 (opsR 14 Tryd.f8.body) false) (.ret)) (.skip))) (.seq (.region 15 (opsR 15 Tryd.f8.body) false) (.seq (.region 16 (opsR 16 Tryd.f8.body) false) (.ret))))))))))) := by kernel_rfl
  rw [hcode]
  clear hcode
  have p0_0 : OpAt (opsR 0 Tryd.f8.body) 0 (some 2) (Op.alloc 26) none := by unfold OpAt; kernel_rfl
  have p0_1 : OpAt (opsR 0 Tryd.f8.body) 1 (some 3) (Op.assign (Operand.const (Value.int IntKind.i64 0))) none := by unfold OpAt; kernel_rfl
  have z0 : (opsR 0 Tryd.f8.body).toList.drop 2 = [] := by rw [List.drop_eq_nil_of_le (by rw [Array.length_toList, show (opsR 0 Tryd.f8.body).size = 2 from by kernel_rfl]; exact Nat.le_refl _)]
  have p1_0 : OpAt (opsR 1 Tryd.f8.body) 0 (some 13) (Op.move (Operand.tmp 0)) none := by unfold OpAt; kernel_rfl
  have p1_1 : OpAt (opsR 1 Tryd.f8.body) 1 (some 14) (Op.convert 22 9 (Operand.tmp 13)) none := by unfold OpAt; kernel_rfl
  have p1_2 : OpAt (opsR 1 Tryd.f8.body) 2 (some 15) (Op.call { callee := Callee.value (Operand.func 25), args := #[Operand.tmp 14, Operand.const (Value.string { data := #[10, 10] })], argTypes := #[9, 9] }) none := by unfold OpAt; kernel_rfl
  have p1_3 : OpAt (opsR 1 Tryd.f8.body) 3 (some 12) (Op.move (Operand.tmp 15)) none := by unfold OpAt; kernel_rfl
  have p1_4 : OpAt (opsR 1 Tryd.f8.body) 4 (some 16) (Op.extract (Operand.tmp 12) 0) none := by unfold OpAt; kernel_rfl
  have p1_5 : OpAt (opsR 1 Tryd.f8.body) 5 (some 17) (Op.extract (Operand.tmp 12) 1) none := by unfold OpAt; kernel_rfl
  have p1_6 : OpAt (opsR 1 Tryd.f8.body) 6 (some 18) (Op.extract (Operand.tmp 12) 2) none := by unfold OpAt; kernel_rfl
  have p1_7 : OpAt (opsR 1 Tryd.f8.body) 7 (some 4) (Op.assign (Operand.tmp 16)) none := by unfold OpAt; kernel_rfl
  have p1_8 : OpAt (opsR 1 Tryd.f8.body) 8 (some 5) (Op.assign (Operand.tmp 17)) none := by unfold OpAt; kernel_rfl
  have p1_9 : OpAt (opsR 1 Tryd.f8.body) 9 (some 6) (Op.assign (Operand.tmp 18)) none := by unfold OpAt; kernel_rfl
  have z1 : (opsR 1 Tryd.f8.body).toList.drop 10 = [] := by rw [List.drop_eq_nil_of_le (by rw [Array.length_toList, show (opsR 1 Tryd.f8.body).size = 10 from by kernel_rfl]; exact Nat.le_refl _)]
  have p2_0 : OpAt (opsR 2 Tryd.f8.body) 0 (some 19) (Op.move (Operand.tmp 4)) none := by unfold OpAt; kernel_rfl
  have p2_1 : OpAt (opsR 2 Tryd.f8.body) 1 (some 20) (Op.call { callee := Callee.builtin Builtin.len, args := #[Operand.tmp 19], argTypes := #[9] }) none := by unfold OpAt; kernel_rfl
  have p2_2 : OpAt (opsR 2 Tryd.f8.body) 2 (some 21) (Op.binOp BinOp.gtr 3 (Operand.tmp 20) (Operand.const (Value.int IntKind.i64 4096)) 3) none := by unfold OpAt; kernel_rfl
  have z2 : (opsR 2 Tryd.f8.body).toList.drop 3 = [] := by rw [List.drop_eq_nil_of_le (by rw [Array.length_toList, show (opsR 2 Tryd.f8.body).size = 3 from by kernel_rfl]; exact Nat.le_refl _)]
  have p3_0 : OpAt (opsR 3 Tryd.f8.body) 0 (some 22) (Op.build 26 #[]) none := by unfold OpAt; kernel_rfl
  have p3_1 : OpAt (opsR 3 Tryd.f8.body) 1 none (Op.store 26 (Operand.tmp 2) (Operand.tmp 22)) none := by unfold OpAt; kernel_rfl
  have p3_2 : OpAt (opsR 3 Tryd.f8.body) 2 (some 3) (Op.assign (Operand.const (Value.int IntKind.i64 17))) none := by unfold OpAt; kernel_rfl
  have z3 : (opsR 3 Tryd.f8.body).toList.drop 3 = [] := by rw [List.drop_eq_nil_of_le (by rw [Array.length_toList, show (opsR 3 Tryd.f8.body).size = 3 from by kernel_rfl]; exact Nat.le_refl _)]
  have p4_0 : OpAt (opsR 4 Tryd.f8.body) 0 (some 23) (Op.move (Operand.tmp 4)) none := by unfold OpAt; kernel_rfl
  have p4_1 : OpAt (opsR 4 Tryd.f8.body) 1 (some 24) (Op.call { callee := Callee.value (Operand.func 26), args := #[Operand.tmp 23, Operand.const (Value.string { data := #[10] })], argTypes := #[9, 9] }) none := by unfold OpAt; kernel_rfl
  have p4_2 : OpAt (opsR 4 Tryd.f8.body) 2 (some 7) (Op.assign (Operand.tmp 24)) none := by unfold OpAt; kernel_rfl
  have z4 : (opsR 4 Tryd.f8.body).toList.drop 3 = [] := by rw [List.drop_eq_nil_of_le (by rw [Array.length_toList, show (opsR 4 Tryd.f8.body).size = 3 from by kernel_rfl]; exact Nat.le_refl _)]
  have p5_0 : OpAt (opsR 5 Tryd.f8.body) 0 (some 25) (Op.move (Operand.tmp 7)) none := by unfold OpAt; kernel_rfl
  have p5_1 : OpAt (opsR 5 Tryd.f8.body) 1 (some 26) (Op.call { callee := Callee.builtin Builtin.len, args := #[Operand.tmp 25], argTypes := #[40] }) none := by unfold OpAt; kernel_rfl
  have p5_2 : OpAt (opsR 5 Tryd.f8.body) 2 (some 27) (Op.binOp BinOp.gtr 3 (Operand.tmp 26) (Operand.const (Value.int IntKind.i64 32)) 3) none := by unfold OpAt; kernel_rfl
  have z5 : (opsR 5 Tryd.f8.body).toList.drop 3 = [] := by rw [List.drop_eq_nil_of_le (by rw [Array.length_toList, show (opsR 5 Tryd.f8.body).size = 3 from by kernel_rfl]; exact Nat.le_refl _)]
  have p6_0 : OpAt (opsR 6 Tryd.f8.body) 0 (some 28) (Op.build 26 #[]) none := by unfold OpAt; kernel_rfl
  have p6_1 : OpAt (opsR 6 Tryd.f8.body) 1 none (Op.store 26 (Operand.tmp 2) (Operand.tmp 28)) none := by unfold OpAt; kernel_rfl
  have p6_2 : OpAt (opsR 6 Tryd.f8.body) 2 (some 3) (Op.assign (Operand.const (Value.int IntKind.i64 17))) none := by unfold OpAt; kernel_rfl
  have z6 : (opsR 6 Tryd.f8.body).toList.drop 3 = [] := by rw [List.drop_eq_nil_of_le (by rw [Array.length_toList, show (opsR 6 Tryd.f8.body).size = 3 from by kernel_rfl]; exact Nat.le_refl _)]
  have p7_0 : OpAt (opsR 7 Tryd.f8.body) 0 (some 30) (Op.move (Operand.tmp 7)) none := by unfold OpAt; kernel_rfl
  have p7_1 : OpAt (opsR 7 Tryd.f8.body) 1 (some 31) (Op.indexAddr 40 (Operand.tmp 30) (Operand.const (Value.int IntKind.i64 0))) none := by unfold OpAt; kernel_rfl
  have p7_2 : OpAt (opsR 7 Tryd.f8.body) 2 (some 32) (Op.load 9 (Operand.tmp 31)) none := by unfold OpAt; kernel_rfl
  have p7_3 : OpAt (opsR 7 Tryd.f8.body) 3 (some 33) (Op.call { callee := Callee.value (Operand.func 27), args := #[Operand.tmp 32], argTypes := #[9] }) none := by unfold OpAt; kernel_rfl
  have p7_4 : OpAt (opsR 7 Tryd.f8.body) 4 (some 29) (Op.move (Operand.tmp 33)) none := by unfold OpAt; kernel_rfl
  have p7_5 : OpAt (opsR 7 Tryd.f8.body) 5 (some 34) (Op.extract (Operand.tmp 29) 0) none := by unfold OpAt; kernel_rfl
  have p7_6 : OpAt (opsR 7 Tryd.f8.body) 6 (some 35) (Op.extract (Operand.tmp 29) 1) none := by unfold OpAt; kernel_rfl
  have p7_7 : OpAt (opsR 7 Tryd.f8.body) 7 (some 8) (Op.alloc 26) none := by unfold OpAt; kernel_rfl
  have p7_8 : OpAt (opsR 7 Tryd.f8.body) 8 none (Op.store 26 (Operand.tmp 8) (Operand.tmp 34)) none := by unfold OpAt; kernel_rfl
  have p7_9 : OpAt (opsR 7 Tryd.f8.body) 9 (some 9) (Op.assign (Operand.tmp 35)) none := by unfold OpAt; kernel_rfl
  have z7 : (opsR 7 Tryd.f8.body).toList.drop 10 = [] := by rw [List.drop_eq_nil_of_le (by rw [Array.length_toList, show (opsR 7 Tryd.f8.body).size = 10 from by kernel_rfl]; exact Nat.le_refl _)]
  have p8_0 : OpAt (opsR 8 Tryd.f8.body) 0 (some 36) (Op.move (Operand.tmp 9)) none := by unfold OpAt; kernel_rfl
  have p8_1 : OpAt (opsR 8 Tryd.f8.body) 1 (some 37) (Op.binOp BinOp.neq 27 (Operand.tmp 36) (Operand.const (Value.int IntKind.i64 0)) 27) none := by unfold OpAt; kernel_rfl
  have z8 : (opsR 8 Tryd.f8.body).toList.drop 2 = [] := by rw [List.drop_eq_nil_of_le (by rw [Array.length_toList, show (opsR 8 Tryd.f8.body).size = 2 from by kernel_rfl]; exact Nat.le_refl _)]
  have p9_0 : OpAt (opsR 9 Tryd.f8.body) 0 (some 38) (Op.build 26 #[]) none := by unfold OpAt; kernel_rfl
  have p9_1 : OpAt (opsR 9 Tryd.f8.body) 1 (some 39) (Op.move (Operand.tmp 9)) none := by unfold OpAt; kernel_rfl
  have p9_2 : OpAt (opsR 9 Tryd.f8.body) 2 none (Op.store 26 (Operand.tmp 2) (Operand.tmp 38)) none := by unfold OpAt; kernel_rfl
  have p9_3 : OpAt (opsR 9 Tryd.f8.body) 3 (some 3) (Op.assign (Operand.tmp 39)) none := by unfold OpAt; kernel_rfl
  have z9 : (opsR 9 Tryd.f8.body).toList.drop 4 = [] := by rw [List.drop_eq_nil_of_le (by rw [Array.length_toList, show (opsR 9 Tryd.f8.body).size = 4 from by kernel_rfl]; exact Nat.le_refl _)]
  have p11_0 : OpAt (opsR 11 Tryd.f8.body) 0 (some 47) (Op.move (Operand.tmp 11)) none := by unfold OpAt; kernel_rfl
  have p11_1 : OpAt (opsR 11 Tryd.f8.body) 1 (some 48) (Op.binOp BinOp.neq 27 (Operand.tmp 47) (Operand.const (Value.int IntKind.i64 0)) 27) none := by unfold OpAt; kernel_rfl
  have z11 : (opsR 11 Tryd.f8.body).toList.drop 2 = [] := by rw [List.drop_eq_nil_of_le (by rw [Array.length_toList, show (opsR 11 Tryd.f8.body).size = 2 from by kernel_rfl]; exact Nat.le_refl _)]
  have p12_0 : OpAt (opsR 12 Tryd.f8.body) 0 (some 49) (Op.build 26 #[]) none := by unfold OpAt; kernel_rfl
  have p12_1 : OpAt (opsR 12 Tryd.f8.body) 1 (some 50) (Op.move (Operand.tmp 11)) none := by unfold OpAt; kernel_rfl
  have p12_2 : OpAt (opsR 12 Tryd.f8.body) 2 none (Op.store 26 (Operand.tmp 2) (Operand.tmp 49)) none := by unfold OpAt; kernel_rfl
  have p12_3 : OpAt (opsR 12 Tryd.f8.body) 3 (some 3) (Op.assign (Operand.tmp 50)) none := by unfold OpAt; kernel_rfl
  have z12 : (opsR 12 Tryd.f8.body).toList.drop 4 = [] := by rw [List.drop_eq_nil_of_le (by rw [Array.length_toList, show (opsR 12 Tryd.f8.body).size = 4 from by kernel_rfl]; exact Nat.le_refl _)]
  have p13_0 : OpAt (opsR 13 Tryd.f8.body) 0 (some 51) (Op.move (Operand.tmp 5)) none := by unfold OpAt; kernel_rfl
  have p13_1 : OpAt (opsR 13 Tryd.f8.body) 1 (some 52) (Op.call { callee := Callee.builtin Builtin.len, args := #[Operand.tmp 51], argTypes := #[9] }) none := by unfold OpAt; kernel_rfl
  have p13_2 : OpAt (opsR 13 Tryd.f8.body) 2 (some 53) (Op.binOp BinOp.gtr 3 (Operand.tmp 52) (Operand.const (Value.int IntKind.i64 0)) 3) none := by unfold OpAt; kernel_rfl
  have p13_3 : OpAt (opsR 13 Tryd.f8.body) 3 (some 54) (Op.move (Operand.tmp 53)) none := by unfold OpAt; kernel_rfl
  have p13_4 : OpAt (opsR 13 Tryd.f8.body) 4 (some 55) (Op.fieldAddr 26 (Operand.tmp 10) 0) (some (3, true)) := by unfold OpAt; kernel_rfl
  have p13_5 : OpAt (opsR 13 Tryd.f8.body) 5 (some 56) (Op.load 3 (Operand.tmp 55)) (some (3, true)) := by unfold OpAt; kernel_rfl
  have p13_6 : OpAt (opsR 13 Tryd.f8.body) 6 (some 57) (Op.binOp BinOp.neq 3 (Operand.tmp 56) (Operand.const (Value.int IntKind.i64 5)) 3) (some (3, true)) := by unfold OpAt; kernel_rfl
  have p13_7 : OpAt (opsR 13 Tryd.f8.body) 7 (some 58) (Op.pick (Operand.tmp 54) (Operand.tmp 57) (Operand.const (Value.bool false))) none := by unfold OpAt; kernel_rfl
  have p13_8 : OpAt (opsR 13 Tryd.f8.body) 8 (some 59) (Op.move (Operand.tmp 58)) none := by unfold OpAt; kernel_rfl
  have p13_9 : OpAt (opsR 13 Tryd.f8.body) 9 (some 60) (Op.fieldAddr 26 (Operand.tmp 10) 0) (some (8, true)) := by unfold OpAt; kernel_rfl
  have p13_10 : OpAt (opsR 13 Tryd.f8.body) 10 (some 61) (Op.load 3 (Operand.tmp 60)) (some (8, true)) := by unfold OpAt; kernel_rfl
  have p13_11 : OpAt (opsR 13 Tryd.f8.body) 11 (some 62) (Op.binOp BinOp.neq 3 (Operand.tmp 61) (Operand.const (Value.int IntKind.i64 16)) 3) (some (8, true)) := by unfold OpAt; kernel_rfl
  have p13_12 : OpAt (opsR 13 Tryd.f8.body) 12 (some 63) (Op.pick (Operand.tmp 59) (Operand.tmp 62) (Operand.const (Value.bool false))) none := by unfold OpAt; kernel_rfl
  have z13 : (opsR 13 Tryd.f8.body).toList.drop 13 = [] := by rw [List.drop_eq_nil_of_le (by rw [Array.length_toList, show (opsR 13 Tryd.f8.body).size = 13 from by kernel_rfl]; exact Nat.le_refl _)]
  have p14_0 : OpAt (opsR 14 Tryd.f8.body) 0 (some 64) (Op.build 26 #[]) none := by unfold OpAt; kernel_rfl
  have p14_1 : OpAt (opsR 14 Tryd.f8.body) 1 none (Op.store 26 (Operand.tmp 2) (Operand.tmp 64)) none := by unfold OpAt; kernel_rfl
  have p14_2 : OpAt (opsR 14 Tryd.f8.body) 2 (some 3) (Op.assign (Operand.const (Value.int IntKind.i64 4))) none := by unfold OpAt; kernel_rfl
  have z14 : (opsR 14 Tryd.f8.body).toList.drop 3 = [] := by rw [List.drop_eq_nil_of_le (by rw [Array.length_toList, show (opsR 14 Tryd.f8.body).size = 3 from by kernel_rfl]; exact Nat.le_refl _)]
  have p15_0 : OpAt (opsR 15 Tryd.f8.body) 0 (some 65) (Op.move (Operand.tmp 5)) none := by unfold OpAt; kernel_rfl
  have p15_1 : OpAt (opsR 15 Tryd.f8.body) 1 (some 66) (Op.convert 9 22 (Operand.tmp 65)) none := by unfold OpAt; kernel_rfl
  have p15_2 : OpAt (opsR 15 Tryd.f8.body) 2 (some 67) (Op.fieldAddr 26 (Operand.tmp 10) 4) none := by unfold OpAt; kernel_rfl
  have p15_3 : OpAt (opsR 15 Tryd.f8.body) 3 none (Op.store 22 (Operand.tmp 67) (Operand.tmp 66)) none := by unfold OpAt; kernel_rfl
  have z15 : (opsR 15 Tryd.f8.body).toList.drop 4 = [] := by rw [List.drop_eq_nil_of_le (by rw [Array.length_toList, show (opsR 15 Tryd.f8.body).size = 4 from by kernel_rfl]; exact Nat.le_refl _)]
  have p16_0 : OpAt (opsR 16 Tryd.f8.body) 0 (some 68) (Op.load 26 (Operand.tmp 10)) none := by unfold OpAt; kernel_rfl
  have p16_1 : OpAt (opsR 16 Tryd.f8.body) 1 none (Op.store 26 (Operand.tmp 2) (Operand.tmp 68)) none := by unfold OpAt; kernel_rfl
  have p16_2 : OpAt (opsR 16 Tryd.f8.body) 2 (some 3) (Op.assign (Operand.const (Value.int IntKind.i64 0))) none := by unfold OpAt; kernel_rfl
  have z16 : (opsR 16 Tryd.f8.body).toList.drop 3 = [] := by rw [List.drop_eq_nil_of_le (by rw [Array.length_toList, show (opsR 16 Tryd.f8.body).size = 3 from by kernel_rfl]; exact Nat.le_refl _)]
  have t1 := h0
  refine wp_seq (wp_region_list ?_)
  show wpList _ _ _ ((opsR 1 Tryd.f8.body).toList.drop 0) _ _
  refine ls_v t1 (.slice A b.length c) p1_0 want_none (fun o ho => run_mv (t1.at (by simp)) ho) [(2, (ptw w))] fun u2 t2 => ?_
  refine ls_v t2 (.string (strOfNums b)) p1_1 want_none (fun o ho => conv_9 A c b CW (t2.at (by simp)) ho) [(2, (ptw w))] fun u3 t3 => ?_
  generalize hR : getS b = r
  unfold getS at hR
  have hbt := cutL_byt (sep := [10, 10]) hB
  have hbl := cutL_len [10, 10] b
  have HC := rcut_calls [10, 10] ⟨#[10, 10]⟩ rfl (by simp) (fun x hx => by simp at hx; omega) (by simp) b hB (by omega) W
  generalize cutL [10, 10] b = ct at HC hbt hbl hR
  obtain ⟨hd, bd, fd⟩ := ct
  simp only at hbt hbl hR HC
  refine ls_call Tryd.func25 (by kernel_rfl) rfl (#[.string (strOfNums b), .string ⟨#[10, 10]⟩]) p1_2 want_none (by simp only [List.map_toArray, List.map_cons, List.map_nil, t3.at (n := 14) (v := (.string (strOfNums b))) (by simp)]; try rfl) (HC.mono ?_)
  rintro e _ ⟨rfl, ⟨nd, rfl⟩⟩
  replace O := O.drewN nd
  generalize W.drewN nd = W2 at *
  refine ⟨_, rfl, ?_⟩
  have t4 := t3.to 15 (.tuple #[.string (strOfNums hd), .string (strOfNums bd), .bool fd]) [(2, (ptw w))] (by decide) (by simp)
  generalize Act.put _ _ _ = u4 at t4 ⊢
  refine ls_v t4 (.tuple #[.string (strOfNums hd), .string (strOfNums bd), .bool fd]) p1_3 want_none (fun o ho => run_mv (t4.at (by simp)) ho) [(2, (ptw w))] fun u5 t5 => ?_
  refine ls_v t5 (.string (strOfNums hd)) p1_4 want_none (fun o ho => ext_run 0 #[.string (strOfNums hd), .string (strOfNums bd), .bool fd] _ (t5.at (by simp)) rfl ho) [(2, (ptw w)), (12, (.tuple #[.string (strOfNums hd), .string (strOfNums bd), .bool fd]))] fun u6 t6 => ?_
  refine ls_v t6 (.string (strOfNums bd)) p1_5 want_none (fun o ho => ext_run 1 #[.string (strOfNums hd), .string (strOfNums bd), .bool fd] _ (t6.at (by simp)) rfl ho) [(2, (ptw w)), (12, (.tuple #[.string (strOfNums hd), .string (strOfNums bd), .bool fd])), (16, (.string (strOfNums hd)))] fun u7 t7 => ?_
  refine ls_v t7 (.bool fd) p1_6 want_none (fun o ho => ext_run 2 #[.string (strOfNums hd), .string (strOfNums bd), .bool fd] _ (t7.at (by simp)) rfl ho) [(2, (ptw w)), (16, (.string (strOfNums hd))), (17, (.string (strOfNums bd)))] fun u8 t8 => ?_
  refine ls_v t8 (.string (strOfNums hd)) p1_7 want_none (fun o ho => run_assign' (t8.at (by simp)) ho) [(2, (ptw w)), (17, (.string (strOfNums bd))), (18, (.bool fd))] fun u9 t9 => ?_
  refine ls_v t9 (.string (strOfNums bd)) p1_8 want_none (fun o ho => run_assign' (t9.at (by simp)) ho) [(2, (ptw w)), (18, (.bool fd)), (4, (.string (strOfNums hd)))] fun u10 t10 => ?_
  refine ls_v t10 (.bool fd) p1_9 want_none (fun o ho => run_assign' (t10.at (by simp)) ho) [(2, (ptw w)), (4, (.string (strOfNums hd))), (5, (.string (strOfNums bd)))] fun u11 t11 => ?_
  show wpList _ _ _ ((opsR 1 Tryd.f8.body).toList.drop 10) _ _
  rw [z1]
  clear CW
  refine wp_seq (wp_seq (wp_region_list ?_))
  show wpList _ _ _ ((opsR 2 Tryd.f8.body).toList.drop 0) _ _
  refine ls_v t11 (.string (strOfNums hd)) p2_0 want_none (fun o ho => run_mv (t11.at (by simp)) ho) [(2, (ptw w)), (4, (.string (strOfNums hd))), (5, (.string (strOfNums bd)))] fun u12 t12 => ?_
  refine ls_v t12 (.int .i64 ((strOfNums hd).size : Int)) p2_1 want_none (fun o ho => len_9k (strOfNums hd) _ _ _ _ (t12.at (by simp)) ho) [(2, (ptw w)), (4, (.string (strOfNums hd))), (5, (.string (strOfNums bd)))] fun u13 t13 => ?_
  refine ls_v t13 (.bool (decide (4096 < ((strOfNums hd).size : Int)))) p2_2 want_none (fun o ho => gtr_3k _ 4096 _ _ _ _ (t13.at (by simp)) ho) [(2, (ptw w)), (4, (.string (strOfNums hd))), (5, (.string (strOfNums bd)))] fun u14 t14 => ?_
  show wpList _ _ _ ((opsR 2 Tryd.f8.body).toList.drop 3) _ _
  rw [z2]
  have hsz : ((strOfNums hd).size : Int) = (hd.length : Int) := str_size hd
  refine wp_cond (t := decide (4096 < ((strOfNums hd).size : Int))) (t14.at (by simp)) ?_
  by_cases h1 : 4096 < hd.length
  · rw [decide_eq_true (show 4096 < ((strOfNums hd).size : Int) by omega), if_pos rfl]
    obtain rfl : r = (ask0, 17) := by rw [← hR, if_pos h1]
    refine wp_seq (wp_region_list ?_)
    show wpList _ _ _ ((opsR 3 Tryd.f8.body).toList.drop 0) _ _
    refine ls_build p3_0 ?_
    have t15 := t14.to 22 (.agg zA) [(2, (ptw w))] (by decide) (by simp)
    generalize Act.put _ _ _ = u15 at t15 ⊢
    refine ls_row w.heap.size zA zA p3_1 (t15.at (by simp)) (t15.at (by simp)) O.b0 zA_size zA_one zA_size ?_
    refine ls_v t15 (.int .i64 17) p3_2 want_none (fun o ho => run_assign' rfl ho) [(2, (ptw w))] fun u16 t16 => ?_
    show wpList _ _ _ ((opsR 3 Tryd.f8.body).toList.drop 3) _ _
    rw [z3]
    refine wp_ret ?_
    exact O.gfin (zA_ask _ _ False) (t16.mono (by simp))
  · rw [decide_eq_false (show ¬ 4096 < ((strOfNums hd).size : Int) by omega), if_neg (by simp)]
    refine wp_skip ?_
    rw [if_neg h1] at hR
    have HP := rsplit_calls 10 (by omega) ⟨#[10]⟩ rfl hd hbt.1 (by omega) W2
    have hsb : ∀ p ∈ splitC 10 hd, Byt p := fun p hp => split_byt hd.length (Nat.le_refl _) hbt.1 p hp
    have hsl : ∀ p ∈ splitC 10 hd, p.length ≤ hd.length := fun p hp => split_part hd.length hd (Nat.le_refl _) p hp
    have hne := split_ne 10 hd
    generalize splitC 10 hd = l at HP hsb hsl hne hR
    refine wp_seq (wp_region_list ?_)
    show wpList _ _ _ ((opsR 4 Tryd.f8.body).toList.drop 0) _ _
    refine ls_v t14 (.string (strOfNums hd)) p4_0 want_none (fun o ho => run_mv (t14.at (by simp)) ho) [(2, (ptw w)), (5, (.string (strOfNums bd)))] fun u15 t15 => ?_
    refine ls_call Tryd.func26 (by kernel_rfl) rfl (#[.string (strOfNums hd), .string ⟨#[10]⟩]) p4_1 want_none (by simp only [List.map_toArray, List.map_cons, List.map_nil, t15.at (n := 23) (v := (.string (strOfNums hd))) (by simp)]; try rfl) (HP.mono ?_)
    rintro e W3 ⟨v, rfl, RS, B3⟩
    obtain ⟨g1, c1, cur, hv1, _, K1, hlc, hcur⟩ := own_str RS (by intro h; have := congrArg List.length h; simp at this; rw [this] at hne; simp at hne)
    rw [List.length_map] at hv1 hlc
    subst hv1
    have CL := (Kd.R_reads' RS).2.2
    rw [List.length_map] at CL
    replace O := O.below B3
    have hcur2 : ∀ (j : Nat) (x : List Int), l[j]? = some x → cur[j]? = some (Value.string (strOfNums x)) := fun j x hx => hcur j (strOfNums x) (by rw [List.getElem?_map, hx]; rfl)
    clear hcur RS
    refine ⟨_, rfl, ?_⟩
    have t16 := t15.to 24 (.slice (some ⟨g1, 0, none⟩) l.length c1) [(2, (ptw w)), (5, (.string (strOfNums bd)))] (by decide) (by simp)
    generalize Act.put _ _ _ = u16 at t16 ⊢
    refine ls_v t16 (.slice (some ⟨g1, 0, none⟩) l.length c1) p4_2 want_none (fun o ho => run_assign' (t16.at (by simp)) ho) [(2, (ptw w)), (5, (.string (strOfNums bd)))] fun u17 t17 => ?_
    show wpList _ _ _ ((opsR 4 Tryd.f8.body).toList.drop 3) _ _
    rw [z4]
    refine wp_seq (wp_seq (wp_region_list ?_))
    show wpList _ _ _ ((opsR 5 Tryd.f8.body).toList.drop 0) _ _
    refine ls_v t17 (.slice (some ⟨g1, 0, none⟩) l.length c1) p5_0 want_none (fun o ho => run_mv (t17.at (by simp)) ho) [(2, (ptw w)), (5, (.string (strOfNums bd))), (7, (.slice (some ⟨g1, 0, none⟩) l.length c1))] fun u18 t18 => ?_
    refine ls_v t18 (.int .i64 (l.length : Int)) p5_1 want_none (fun o ho => len_40 (some ⟨g1, 0, none⟩) l.length c1 _ (t18.at (by simp)) ho) [(2, (ptw w)), (5, (.string (strOfNums bd))), (7, (.slice (some ⟨g1, 0, none⟩) l.length c1))] fun u19 t19 => ?_
    refine ls_v t19 (.bool (decide (32 < (l.length : Int)))) p5_2 want_none (fun o ho => gtr_3k _ 32 _ _ _ _ (t19.at (by simp)) ho) [(2, (ptw w)), (5, (.string (strOfNums bd))), (7, (.slice (some ⟨g1, 0, none⟩) l.length c1))] fun u20 t20 => ?_
    show wpList _ _ _ ((opsR 5 Tryd.f8.body).toList.drop 3) _ _
    rw [z5]
    refine wp_cond (t := decide (32 < (l.length : Int))) (t20.at (by simp)) ?_
    by_cases h2 : 32 < l.length
    · rw [decide_eq_true (show 32 < (l.length : Int) by omega), if_pos rfl]
      obtain rfl : r = (ask0, 17) := by rw [← hR, if_pos h2]
      refine wp_seq (wp_region_list ?_)
      show wpList _ _ _ ((opsR 6 Tryd.f8.body).toList.drop 0) _ _
      refine ls_build p6_0 ?_
      have t21 := t20.to 28 (.agg zA) [(2, (ptw w))] (by decide) (by simp)
      generalize Act.put _ _ _ = u21 at t21 ⊢
      refine ls_row w.heap.size zA zA p6_1 (t21.at (by simp)) (t21.at (by simp)) O.b0 zA_size zA_one zA_size ?_
      refine ls_v t21 (.int .i64 17) p6_2 want_none (fun o ho => run_assign' rfl ho) [(2, (ptw w))] fun u22 t22 => ?_
      show wpList _ _ _ ((opsR 6 Tryd.f8.body).toList.drop 3) _ _
      rw [z6]
      refine wp_ret ?_
      exact O.gfin (zA_ask _ _ False) (t22.mono (by simp))
    · rw [decide_eq_false (show ¬ 32 < (l.length : Int) by omega), if_neg (by simp)]
      refine wp_skip ?_
      rw [if_neg h2] at hR
      obtain ⟨f, rest, hlr⟩ : ∃ f rest, l = f :: rest := by
        cases l with
        | nil => simp at hne
        | cons f rest => exact ⟨f, rest, rfl⟩
      have c0 := (blk_cell K1 0).trans (hcur2 0 f (by rw [hlr]; rfl))
      have hl0 : 0 < l.length := by omega
      have hfm : f ∈ l := by rw [hlr]; simp
      have hF1 := hsb f hfm
      have hF2 : f.length < 1000000 := by have := hsl f hfm; omega
      have hrest : rest = l.drop 1 := by rw [hlr]; rfl
      have hrb : ∀ p ∈ rest, Byt p := fun p hp => hsb p (by rw [hlr]; exact List.mem_cons_of_mem _ hp)
      have hrl : ∀ p ∈ rest, p.length ≤ 800000 := fun p hp => by have := hsl p (by rw [hlr]; exact List.mem_cons_of_mem _ hp); omega
      have hrn : l.length - 1 = rest.length := by rw [hlr]; rfl
      have hR2 : (if (firstS f).2 ≠ 0 then (ask0, (firstS f).2) else if (rowsS [] (firstS f).1 rest).2 ≠ 0 then (ask0, (rowsS [] (firstS f).1 rest).2) else endS bd (rowsS [] (firstS f).1 rest).1) = r := by rw [hlr] at hR; exact hR
      clear hR hlr hcur2 hsb hsl
      refine wp_seq (wp_region_list ?_)
      show wpList _ _ _ ((opsR 7 Tryd.f8.body).toList.drop 0) _ _
      refine ls_v t20 (.slice (some ⟨g1, 0, none⟩) l.length c1) p7_0 want_none (fun o ho => run_mv (t20.at (by simp)) ho) [(2, (ptw w)), (5, (.string (strOfNums bd))), (7, (.slice (some ⟨g1, 0, none⟩) l.length c1))] fun u21 t21 => ?_
      refine ls_v t21 (.pointer (some ⟨g1, 0, none⟩)) p7_1 want_none (fun o ho => idx_40 g1 l.length c1 0 _ _ _ _ _ (t21.at (by simp)) rfl hl0 ho) [(2, (ptw w)), (5, (.string (strOfNums bd))), (7, (.slice (some ⟨g1, 0, none⟩) l.length c1))] fun u22 t22 => ?_
      refine ls_v t22 (.string (strOfNums f)) p7_2 want_none (fun o ho => lod_9 _ _ _ _ _ _ (t22.at (by simp)) c0 ho) [(2, (ptw w)), (5, (.string (strOfNums bd))), (7, (.slice (some ⟨g1, 0, none⟩) l.length c1))] fun u23 t23 => ?_
      have HF := rfirst_calls (fun k => ok k ∧ k ≠ w.heap.size) f hF1 hF2
      generalize firstS f = ff at HF hR2
      obtain ⟨a0, code⟩ := ff
      simp only at hR2
      refine ls_call Tryd.func27 (by kernel_rfl) rfl (#[.string (strOfNums f)]) p7_3 want_none (by simp only [List.map_toArray, List.map_cons, List.map_nil, t23.at (n := 32) (v := (.string (strOfNums f))) (by simp)]; try rfl) ((HF _).mono ?_)
      rintro e W5 ⟨c8, rfl, A8, B5⟩
      clear HF c0
      refine ⟨_, rfl, ?_⟩
      have t24 := t23.to 33 (.tuple #[.agg c8, .int .i64 code]) [(2, (ptw w)), (5, (.string (strOfNums bd))), (7, (.slice (some ⟨g1, 0, none⟩) l.length c1))] (by decide) (by simp)
      generalize Act.put _ _ _ = u24 at t24 ⊢
      refine ls_v t24 (.tuple #[.agg c8, .int .i64 code]) p7_4 want_none (fun o ho => run_mv (t24.at (by simp)) ho) [(2, (ptw w)), (5, (.string (strOfNums bd))), (7, (.slice (some ⟨g1, 0, none⟩) l.length c1))] fun u25 t25 => ?_
      refine ls_v t25 (.agg c8) p7_5 want_none (fun o ho => ext_run 0 #[.agg c8, .int .i64 code] _ (t25.at (by simp)) rfl ho) [(2, (ptw w)), (5, (.string (strOfNums bd))), (7, (.slice (some ⟨g1, 0, none⟩) l.length c1)), (29, (.tuple #[.agg c8, .int .i64 code]))] fun u26 t26 => ?_
      refine ls_v t26 (.int .i64 code) p7_6 want_none (fun o ho => ext_run 1 #[.agg c8, .int .i64 code] _ (t26.at (by simp)) rfl ho) [(2, (ptw w)), (5, (.string (strOfNums bd))), (7, (.slice (some ⟨g1, 0, none⟩) l.length c1)), (34, (.agg c8))] fun u27 t27 => ?_
      obtain ⟨o7_7, he7_7, hd7_7, hp7_7, hg7_7⟩ := p7_7.cons
      rw [he7_7]
      refine wpList_allocA hg7_7 (some 8) hd7_7 26 hp7_7 zA zA_info _ rfl ?_
      have t28 := t27.to 8 (.pointer (some ⟨W5.heap.size, 0, none⟩)) [(2, (ptw w)), (5, (.string (strOfNums bd))), (7, (.slice (some ⟨g1, 0, none⟩) l.length c1)), (34, (.agg c8)), (35, (.int .i64 code))] (by decide) (by simp)
      generalize Act.put _ _ _ = u28 at t28 ⊢
      refine ls_row W5.heap.size c8 zA p7_8 (t28.at (by simp)) (t28.at (by simp)) (blk_new W5 _) A8.size A8.one zA_size ?_
      rw [World.setRow_alloc_new]
      refine ls_v t28 (.int .i64 code) p7_9 want_none (fun o ho => run_assign' (t28.at (by simp)) ho) [(2, (ptw w)), (5, (.string (strOfNums bd))), (7, (.slice (some ⟨g1, 0, none⟩) l.length c1)), (8, (.pointer (some ⟨W5.heap.size, 0, none⟩)))] fun u29 t29 => ?_
      show wpList _ _ _ ((opsR 7 Tryd.f8.body).toList.drop 10) _ _
      rw [z7]
      have F5 := below_step B5 (below_alloc (Below.refl W5.heap.size W5) (.cells c8 26))
      have K8 := blk_new W5 (.cells c8 26)
      replace A8 := A8.below (below_alloc (Below.refl W5.heap.size W5) (.cells c8 26))
      replace O := O.below F5
      have CL6 := Kd.C_below CL F5
      clear B5 CL K1 F5
      generalize W5.heap.size = b8 at *
      generalize W5.alloc (.cells c8 26) = W6 at *
      refine wp_seq (wp_seq (wp_region_list ?_))
      show wpList _ _ _ ((opsR 8 Tryd.f8.body).toList.drop 0) _ _
      refine ls_v t29 (.int .i64 code) p8_0 want_none (fun o ho => run_mv (t29.at (by simp)) ho) [(2, (ptw w)), (5, (.string (strOfNums bd))), (7, (.slice (some ⟨g1, 0, none⟩) l.length c1)), (8, (.pointer (some ⟨b8, 0, none⟩))), (9, (.int .i64 code))] fun u30 t30 => ?_
      refine ls_v t30 (.bool (code != 0)) p8_1 want_none (fun o ho => neq_27 code 0 (t30.at (by simp)) ho) [(2, (ptw w)), (5, (.string (strOfNums bd))), (7, (.slice (some ⟨g1, 0, none⟩) l.length c1)), (8, (.pointer (some ⟨b8, 0, none⟩))), (9, (.int .i64 code))] fun u31 t31 => ?_
      show wpList _ _ _ ((opsR 8 Tryd.f8.body).toList.drop 2) _ _
      rw [z8]
      refine wp_cond (t := code != 0) (t31.at (by simp)) ?_
      by_cases hcd : code = 0
      · subst hcd
        rw [show ((0 : Int) != 0) = false from rfl, if_neg (by simp)]
        refine wp_skip ?_
        have hR3 : (if (rowsS [] a0 rest).2 ≠ 0 then (ask0, (rowsS [] a0 rest).2) else endS bd (rowsS [] a0 rest).1) = r := by simpa using hR2
        have hR4 : (if (rowsR a0 (rowsS [] a0 rest)).2 ≠ 0 then (ask0, (rowsR a0 (rowsS [] a0 rest)).2) else endS bd (rowsR a0 (rowsS [] a0 rest)).1) = r := by
          rw [← hR3]
          unfold rowsR
          by_cases h : (rowsS [] a0 rest).2 = 0
          · simp [h]
          · simp [h]
        clear hR2 hR3
        have CR : Kd.C Kd.string W6 (if c1 = 1 then some ⟨g1, 0, none⟩ else some ⟨g1, 1, none⟩) rest.length (rest.map strOfNums) := by
          have q0 : Kd.C Kd.string W6 (some ⟨g1, 0, none⟩) (l.map strOfNums).length (l.map strOfNums) := by rw [List.length_map]; exact CL6
          have q := Kd.C_drop (m := 1) (c := c1) q0 (by rw [List.length_map]; omega) (by rw [List.length_map]; omega)
          rw [List.length_drop, List.length_map, hrn, ← List.map_drop, ← hrest] at q
          exact q
        refine wp_seq (Code.wp_mono (QN.imp fun _ _ h => h) (greg10 ok w W6 b8 c8 a0 g1 c1 l rest ⟨O, K8, A8, CR, hrb, hrl, hrn, by omega, hlc, by omega⟩ hk (strOfNums bd) _ (t31.mono (by simp)) _ fun x1 W q cx hG k1 => ?_))
        obtain ⟨_, _, O, KQ, neq, leq, AX⟩ := hG
        generalize rowsR a0 (rowsS [] a0 rest) = fr at *
        obtain ⟨x, xc⟩ := fr
        simp only at AX hR4 k1
        clear CR CL6 K8 A8
        have t32 := k1
        refine wp_seq (wp_seq (wp_region_list ?_))
        show wpList _ _ _ ((opsR 11 Tryd.f8.body).toList.drop 0) _ _
        refine ls_v t32 (.int .i64 xc) p11_0 want_none (fun o ho => run_mv (t32.at (by simp)) ho) [(2, (ptw w)), (5, (.string (strOfNums bd))), (10, (.pointer (some ⟨q, 0, none⟩))), (11, (.int .i64 xc))] fun u33 t33 => ?_
        refine ls_v t33 (.bool (xc != 0)) p11_1 want_none (fun o ho => neq_27 xc 0 (t33.at (by simp)) ho) [(2, (ptw w)), (5, (.string (strOfNums bd))), (10, (.pointer (some ⟨q, 0, none⟩))), (11, (.int .i64 xc))] fun u34 t34 => ?_
        show wpList _ _ _ ((opsR 11 Tryd.f8.body).toList.drop 2) _ _
        rw [z11]
        refine wp_cond (t := xc != 0) (t34.at (by simp)) ?_
        by_cases hx : xc = 0
        · subst hx
          rw [show ((0 : Int) != 0) = false from rfl, if_neg (by simp)]
          refine wp_skip ?_
          have hE : endS bd x = r := by simpa using hR4
          clear hR4
          have c10 : W.cell? ⟨q, 0, none⟩ = some (.int .i64 x.x0) := (blk_cell KQ 0).trans (by obtain ⟨v, hv, rfl⟩ := AX.get 0 (by decide); exact hv)
          have hsb0 : ((strOfNums bd).size : Int) = (bd.length : Int) := str_size bd
          unfold endS at hE
          have tail : (¬ (bd ≠ [] ∧ x.x0 ≠ 5 ∧ x.x0 ≠ 16)) → ∀ y, KN 69 y [(2, (ptw w)), (5, (.string (strOfNums bd))), (10, (.pointer (some ⟨q, 0, none⟩)))] → Code.wp Tryd.prog (.seq (.region 15 (opsR 15 Tryd.f8.body) false) (.seq (.region 16 (opsR 16 Tryd.f8.body) false) (.ret))) (QR (fun _ _ => False) (GFin ok w r)) y W := by
            intro hbad y ky
            rw [if_neg hbad] at hE
            obtain rfl := hE
            have t35 := ky
            refine wp_seq (wp_region_list ?_)
            show wpList _ _ _ ((opsR 15 Tryd.f8.body).toList.drop 0) _ _
            refine ls_v t35 (.string (strOfNums bd)) p15_0 want_none (fun o ho => run_mv (t35.at (by simp)) ho) [(2, (ptw w)), (10, (.pointer (some ⟨q, 0, none⟩)))] fun u36 t36 => ?_
            have CB := bytes_C W (strOfNums bd) (by rw [strOfNums_size]; omega)
            have BB := bytes_below (Below.refl W.heap.size W) (Nat.le_refl _) 5 (strOfNums bd)
            rw [bytesOf_str hbt.2] at CB
            have hgc := grownCap_ge W (strOfNums bd).size 0 5
            have O3 := O.below BB
            have KQ3 := blk_below KQ BB
            have AX3 := AX.below BB
            have lq := blk_lt KQ
            have ls := blk_lt O.b0
            refine ls_new (w1 := Lib.bytesWorld W 5 (strOfNums bd)) (.slice (some ⟨W.heap.size, 0, none⟩) (strOfNums bd).size (grownCap W (strOfNums bd).size 0 5)) p15_1 (fun o ho => conv_22 (strOfNums bd) (t36.at (by simp)) ho) ?_
            have t37 := t36.to 66 (.slice (some ⟨W.heap.size, 0, none⟩) (strOfNums bd).size (grownCap W (strOfNums bd).size 0 5)) [(2, (ptw w)), (10, (.pointer (some ⟨q, 0, none⟩)))] (by decide) (by simp)
            generalize Act.put _ _ _ = u37 at t37 ⊢
            have hV : Kd.V (Kd.int .u8) 5 (Lib.bytesWorld W 5 (strOfNums bd)) 0 (fun k => (ok k ∧ k ≠ w.heap.size) ∧ k ≠ q) (.slice (some ⟨W.heap.size, 0, none⟩) (strOfNums bd).size (grownCap W (strOfNums bd).size 0 5)) bd :=
              ⟨_, _, by rw [strOfNums_size], by rw [strOfNums_size] at hgc; exact hgc, Kd.F_mono (F_at (by rw [strOfNums_size] at CB; exact CB)) (fun k e => by subst e; exact ⟨⟨hk _ (by omega), by omega⟩, by omega⟩)⟩
            generalize hcv : grownCap W (strOfNums bd).size 0 5 = gc at *
            generalize Lib.bytesWorld W 5 (strOfNums bd) = WB at *
            have AF := AX3.put4 _ bd hV
            obtain ⟨old, k4, _⟩ := AX3.get 4 (by decide)
            have c4 := (blk_cell KQ3 4).trans k4
            have z4 := blk_frozen KQ3 4
            have KF := blk_put KQ3 4 (.slice (some ⟨W.heap.size, 0, none⟩) (strOfNums bd).size gc) rfl
            have OF := O3.setc leq neq 4 (.slice (some ⟨W.heap.size, 0, none⟩) (strOfNums bd).size gc)
            have AF3 := (AF.step (w1 := WB.setCell ⟨q, 4, none⟩ (.slice (some ⟨W.heap.size, 0, none⟩) (strOfNums bd).size gc)) (fun k hk _ => Below.heap_setCell _ ⟨q, 4, none⟩ _ k hk.2)).mono (ok' := fun k => ok k ∧ k ≠ w.heap.size) fun _ hk => hk.1
            refine ls_v t37 (.pointer (some ⟨q, 4, none⟩)) p15_2 want_none (fun o ho => fld_4 _ _ q _ _ (show _ = Chain.ptr q from t37.at (n := 10) (v := .pointer (some ⟨q, 0, none⟩)) (by simp)) ho) [(2, (ptw w)), (10, (.pointer (some ⟨q, 0, none⟩))), (66, (.slice (some ⟨W.heap.size, 0, none⟩) (strOfNums bd).size gc))] fun u38 t38 => ?_
            refine ls_st p15_3 (fun o ho => st_22 q 4 (some ⟨W.heap.size, 0, none⟩) (strOfNums bd).size gc old (t38.at (by simp)) (t38.at (by simp)) c4 z4 ho) ?_
            show wpList _ _ _ ((opsR 15 Tryd.f8.body).toList.drop 4) _ _
            rw [z15]
            generalize cx.setIfInBounds 4 (.slice (some ⟨W.heap.size, 0, none⟩) (strOfNums bd).size gc) = cF at KF AF3
            generalize WB.setCell ⟨q, 4, none⟩ (.slice (some ⟨W.heap.size, 0, none⟩) (strOfNums bd).size gc) = WF at *
            refine wp_seq (wp_region_list ?_)
            show wpList _ _ _ ((opsR 16 Tryd.f8.body).toList.drop 0) _ _
            refine ls_v t38 (.agg cF) p16_0 want_none (fun o ho => lod_26 q cF (t38.at (by simp)) KF AF3.size ho) [(2, (ptw w)), (10, (.pointer (some ⟨q, 0, none⟩)))] fun u39 t39 => ?_
            refine ls_row w.heap.size cF zA p16_1 (t39.at (by simp)) (t39.at (by simp)) OF.b0 AF3.size AF3.one zA_size ?_
            refine ls_v t39 (.int .i64 0) p16_2 want_none (fun o ho => run_assign' rfl ho) [(2, (ptw w)), (10, (.pointer (some ⟨q, 0, none⟩)))] fun u40 t40 => ?_
            show wpList _ _ _ ((opsR 16 Tryd.f8.body).toList.drop 3) _ _
            rw [z16]
            refine wp_ret ?_
            exact OF.gfin AF3 (t40.mono (by simp))
          have t41 := t34
          refine wp_seq (wp_seq (wp_region_list ?_))
          show wpList _ _ _ ((opsR 13 Tryd.f8.body).toList.drop 0) _ _
          refine ls_v t41 (.string (strOfNums bd)) p13_0 want_none (fun o ho => run_mv (t41.at (by simp)) ho) [(2, (ptw w)), (5, (.string (strOfNums bd))), (10, (.pointer (some ⟨q, 0, none⟩)))] fun u42 t42 => ?_
          refine ls_v t42 (.int .i64 ((strOfNums bd).size : Int)) p13_1 want_none (fun o ho => len_9k (strOfNums bd) _ _ _ _ (t42.at (by simp)) ho) [(2, (ptw w)), (5, (.string (strOfNums bd))), (10, (.pointer (some ⟨q, 0, none⟩)))] fun u43 t43 => ?_
          by_cases a1 : bd = []
          · replace tail := tail (fun h => h.1 a1)
            have hbd0 : bd.length = 0 := by rw [a1]; rfl
            refine ls_v t43 (.bool false) p13_2 want_none (fun o ho => (gtr_3k ((strOfNums bd).size : Int) 0 _ _ _ _ (t43.at (by simp)) ho).trans (by rw [decide_eq_false (show ¬ 0 < ((strOfNums bd).size : Int) by omega)])) [(2, (ptw w)), (5, (.string (strOfNums bd))), (10, (.pointer (some ⟨q, 0, none⟩)))] fun u44 t44 => ?_
            refine ls_v t44 (.bool false) p13_3 want_none (fun o ho => run_mv (t44.at (by simp)) ho) [(2, (ptw w)), (5, (.string (strOfNums bd))), (10, (.pointer (some ⟨q, 0, none⟩)))] fun u45 t45 => ?_
            refine ls_o t45 p13_4 (want_some t45 3 54 true false p13_3.dst (by simp)) [(2, (ptw w)), (5, (.string (strOfNums bd))), (10, (.pointer (some ⟨q, 0, none⟩))), (54, (.bool false))] fun u46 t46 => ?_
            refine ls_o t46 p13_5 (want_some t46 3 54 true false p13_3.dst (by simp)) [(2, (ptw w)), (5, (.string (strOfNums bd))), (10, (.pointer (some ⟨q, 0, none⟩))), (54, (.bool false))] fun u47 t47 => ?_
            refine ls_o t47 p13_6 (want_some t47 3 54 true false p13_3.dst (by simp)) [(2, (ptw w)), (5, (.string (strOfNums bd))), (10, (.pointer (some ⟨q, 0, none⟩))), (54, (.bool false))] fun u48 t48 => ?_
            refine ls_v t48 (.bool false) p13_7 want_none (fun o ho => run_pick (b := false) (t48.at (by simp)) rfl rfl ho) [(2, (ptw w)), (5, (.string (strOfNums bd))), (10, (.pointer (some ⟨q, 0, none⟩)))] fun u49 t49 => ?_
            refine ls_v t49 (.bool false) p13_8 want_none (fun o ho => run_mv (t49.at (by simp)) ho) [(2, (ptw w)), (5, (.string (strOfNums bd))), (10, (.pointer (some ⟨q, 0, none⟩)))] fun u50 t50 => ?_
            refine ls_o t50 p13_9 (want_some t50 8 59 true false p13_8.dst (by simp)) [(2, (ptw w)), (5, (.string (strOfNums bd))), (10, (.pointer (some ⟨q, 0, none⟩))), (59, (.bool false))] fun u51 t51 => ?_
            refine ls_o t51 p13_10 (want_some t51 8 59 true false p13_8.dst (by simp)) [(2, (ptw w)), (5, (.string (strOfNums bd))), (10, (.pointer (some ⟨q, 0, none⟩))), (59, (.bool false))] fun u52 t52 => ?_
            refine ls_o t52 p13_11 (want_some t52 8 59 true false p13_8.dst (by simp)) [(2, (ptw w)), (5, (.string (strOfNums bd))), (10, (.pointer (some ⟨q, 0, none⟩))), (59, (.bool false))] fun u53 t53 => ?_
            refine ls_v t53 (.bool false) p13_12 want_none (fun o ho => run_pick (b := false) (t53.at (by simp)) rfl rfl ho) [(2, (ptw w)), (5, (.string (strOfNums bd))), (10, (.pointer (some ⟨q, 0, none⟩)))] fun u54 t54 => ?_
            show wpList _ _ _ ((opsR 13 Tryd.f8.body).toList.drop 13) _ _
            rw [z13]
            refine wp_cond (t := false) (t54.at (by simp)) ?_
            rw [if_neg (by simp)]
            refine wp_skip ?_
            exact tail _ (t54.mono (by simp))
          · have hb0 : 0 < bd.length := List.length_pos_iff.2 a1
            by_cases a2 : x.x0 = 5
            · replace tail := tail (fun h => h.2.1 a2)
              refine ls_v t43 (.bool true) p13_2 want_none (fun o ho => (gtr_3k ((strOfNums bd).size : Int) 0 _ _ _ _ (t43.at (by simp)) ho).trans (by rw [decide_eq_true (show 0 < ((strOfNums bd).size : Int) by omega)])) [(2, (ptw w)), (5, (.string (strOfNums bd))), (10, (.pointer (some ⟨q, 0, none⟩)))] fun u44 t44 => ?_
              refine ls_v t44 (.bool true) p13_3 want_none (fun o ho => run_mv (t44.at (by simp)) ho) [(2, (ptw w)), (5, (.string (strOfNums bd))), (10, (.pointer (some ⟨q, 0, none⟩)))] fun u45 t45 => ?_
              refine ls_v t45 (.pointer (some ⟨q, 0, none⟩)) p13_4 (want_some t45 3 54 true true p13_3.dst (by simp)) (fun o ho => fld_0 _ _ q _ _ (show _ = Chain.ptr q from t45.at (n := 10) (v := .pointer (some ⟨q, 0, none⟩)) (by simp)) ho) [(2, (ptw w)), (5, (.string (strOfNums bd))), (10, (.pointer (some ⟨q, 0, none⟩))), (54, (.bool true))] fun u46 t46 => ?_
              refine ls_v t46 (.int .i64 x.x0) p13_5 (want_some t46 3 54 true true p13_3.dst (by simp)) (fun o ho => lod_3 _ _ _ _ _ _ (t46.at (by simp)) c10 ho) [(2, (ptw w)), (5, (.string (strOfNums bd))), (10, (.pointer (some ⟨q, 0, none⟩))), (54, (.bool true))] fun u47 t47 => ?_
              refine ls_v t47 (.bool false) p13_6 (want_some t47 3 54 true true p13_3.dst (by simp)) (fun o ho => (neq_k x.x0 5 (t47.at (by simp)) ho).trans (by rw [show (x.x0 != 5) = false from by simpa using a2])) [(2, (ptw w)), (5, (.string (strOfNums bd))), (10, (.pointer (some ⟨q, 0, none⟩))), (54, (.bool true))] fun u48 t48 => ?_
              refine ls_v t48 (.bool false) p13_7 want_none (fun o ho => run_pick (b := true) (t48.at (by simp)) (t48.at (by simp)) rfl ho) [(2, (ptw w)), (5, (.string (strOfNums bd))), (10, (.pointer (some ⟨q, 0, none⟩)))] fun u49 t49 => ?_
              refine ls_v t49 (.bool false) p13_8 want_none (fun o ho => run_mv (t49.at (by simp)) ho) [(2, (ptw w)), (5, (.string (strOfNums bd))), (10, (.pointer (some ⟨q, 0, none⟩)))] fun u50 t50 => ?_
              refine ls_o t50 p13_9 (want_some t50 8 59 true false p13_8.dst (by simp)) [(2, (ptw w)), (5, (.string (strOfNums bd))), (10, (.pointer (some ⟨q, 0, none⟩))), (59, (.bool false))] fun u51 t51 => ?_
              refine ls_o t51 p13_10 (want_some t51 8 59 true false p13_8.dst (by simp)) [(2, (ptw w)), (5, (.string (strOfNums bd))), (10, (.pointer (some ⟨q, 0, none⟩))), (59, (.bool false))] fun u52 t52 => ?_
              refine ls_o t52 p13_11 (want_some t52 8 59 true false p13_8.dst (by simp)) [(2, (ptw w)), (5, (.string (strOfNums bd))), (10, (.pointer (some ⟨q, 0, none⟩))), (59, (.bool false))] fun u53 t53 => ?_
              refine ls_v t53 (.bool false) p13_12 want_none (fun o ho => run_pick (b := false) (t53.at (by simp)) rfl rfl ho) [(2, (ptw w)), (5, (.string (strOfNums bd))), (10, (.pointer (some ⟨q, 0, none⟩)))] fun u54 t54 => ?_
              show wpList _ _ _ ((opsR 13 Tryd.f8.body).toList.drop 13) _ _
              rw [z13]
              refine wp_cond (t := false) (t54.at (by simp)) ?_
              rw [if_neg (by simp)]
              refine wp_skip ?_
              exact tail _ (t54.mono (by simp))
            · by_cases a3 : x.x0 = 16
              · replace tail := tail (fun h => h.2.2 a3)
                refine ls_v t43 (.bool true) p13_2 want_none (fun o ho => (gtr_3k ((strOfNums bd).size : Int) 0 _ _ _ _ (t43.at (by simp)) ho).trans (by rw [decide_eq_true (show 0 < ((strOfNums bd).size : Int) by omega)])) [(2, (ptw w)), (5, (.string (strOfNums bd))), (10, (.pointer (some ⟨q, 0, none⟩)))] fun u44 t44 => ?_
                refine ls_v t44 (.bool true) p13_3 want_none (fun o ho => run_mv (t44.at (by simp)) ho) [(2, (ptw w)), (5, (.string (strOfNums bd))), (10, (.pointer (some ⟨q, 0, none⟩)))] fun u45 t45 => ?_
                refine ls_v t45 (.pointer (some ⟨q, 0, none⟩)) p13_4 (want_some t45 3 54 true true p13_3.dst (by simp)) (fun o ho => fld_0 _ _ q _ _ (show _ = Chain.ptr q from t45.at (n := 10) (v := .pointer (some ⟨q, 0, none⟩)) (by simp)) ho) [(2, (ptw w)), (5, (.string (strOfNums bd))), (10, (.pointer (some ⟨q, 0, none⟩))), (54, (.bool true))] fun u46 t46 => ?_
                refine ls_v t46 (.int .i64 x.x0) p13_5 (want_some t46 3 54 true true p13_3.dst (by simp)) (fun o ho => lod_3 _ _ _ _ _ _ (t46.at (by simp)) c10 ho) [(2, (ptw w)), (5, (.string (strOfNums bd))), (10, (.pointer (some ⟨q, 0, none⟩))), (54, (.bool true))] fun u47 t47 => ?_
                refine ls_v t47 (.bool true) p13_6 (want_some t47 3 54 true true p13_3.dst (by simp)) (fun o ho => (neq_k x.x0 5 (t47.at (by simp)) ho).trans (by rw [show (x.x0 != 5) = true from by simpa using a2])) [(2, (ptw w)), (5, (.string (strOfNums bd))), (10, (.pointer (some ⟨q, 0, none⟩))), (54, (.bool true))] fun u48 t48 => ?_
                refine ls_v t48 (.bool true) p13_7 want_none (fun o ho => run_pick (b := true) (t48.at (by simp)) (t48.at (by simp)) rfl ho) [(2, (ptw w)), (5, (.string (strOfNums bd))), (10, (.pointer (some ⟨q, 0, none⟩)))] fun u49 t49 => ?_
                refine ls_v t49 (.bool true) p13_8 want_none (fun o ho => run_mv (t49.at (by simp)) ho) [(2, (ptw w)), (5, (.string (strOfNums bd))), (10, (.pointer (some ⟨q, 0, none⟩)))] fun u50 t50 => ?_
                refine ls_v t50 (.pointer (some ⟨q, 0, none⟩)) p13_9 (want_some t50 8 59 true true p13_8.dst (by simp)) (fun o ho => fld_0 _ _ q _ _ (show _ = Chain.ptr q from t50.at (n := 10) (v := .pointer (some ⟨q, 0, none⟩)) (by simp)) ho) [(2, (ptw w)), (5, (.string (strOfNums bd))), (10, (.pointer (some ⟨q, 0, none⟩))), (59, (.bool true))] fun u51 t51 => ?_
                refine ls_v t51 (.int .i64 x.x0) p13_10 (want_some t51 8 59 true true p13_8.dst (by simp)) (fun o ho => lod_3 _ _ _ _ _ _ (t51.at (by simp)) c10 ho) [(2, (ptw w)), (5, (.string (strOfNums bd))), (10, (.pointer (some ⟨q, 0, none⟩))), (59, (.bool true))] fun u52 t52 => ?_
                refine ls_v t52 (.bool false) p13_11 (want_some t52 8 59 true true p13_8.dst (by simp)) (fun o ho => (neq_k x.x0 16 (t52.at (by simp)) ho).trans (by rw [show (x.x0 != 16) = false from by simpa using a3])) [(2, (ptw w)), (5, (.string (strOfNums bd))), (10, (.pointer (some ⟨q, 0, none⟩))), (59, (.bool true))] fun u53 t53 => ?_
                refine ls_v t53 (.bool false) p13_12 want_none (fun o ho => run_pick (b := true) (t53.at (by simp)) (t53.at (by simp)) rfl ho) [(2, (ptw w)), (5, (.string (strOfNums bd))), (10, (.pointer (some ⟨q, 0, none⟩)))] fun u54 t54 => ?_
                show wpList _ _ _ ((opsR 13 Tryd.f8.body).toList.drop 13) _ _
                rw [z13]
                refine wp_cond (t := false) (t54.at (by simp)) ?_
                rw [if_neg (by simp)]
                refine wp_skip ?_
                exact tail _ (t54.mono (by simp))
              · clear tail
                refine ls_v t43 (.bool true) p13_2 want_none (fun o ho => (gtr_3k ((strOfNums bd).size : Int) 0 _ _ _ _ (t43.at (by simp)) ho).trans (by rw [decide_eq_true (show 0 < ((strOfNums bd).size : Int) by omega)])) [(2, (ptw w)), (5, (.string (strOfNums bd))), (10, (.pointer (some ⟨q, 0, none⟩)))] fun u44 t44 => ?_
                refine ls_v t44 (.bool true) p13_3 want_none (fun o ho => run_mv (t44.at (by simp)) ho) [(2, (ptw w)), (5, (.string (strOfNums bd))), (10, (.pointer (some ⟨q, 0, none⟩)))] fun u45 t45 => ?_
                refine ls_v t45 (.pointer (some ⟨q, 0, none⟩)) p13_4 (want_some t45 3 54 true true p13_3.dst (by simp)) (fun o ho => fld_0 _ _ q _ _ (show _ = Chain.ptr q from t45.at (n := 10) (v := .pointer (some ⟨q, 0, none⟩)) (by simp)) ho) [(2, (ptw w)), (5, (.string (strOfNums bd))), (10, (.pointer (some ⟨q, 0, none⟩))), (54, (.bool true))] fun u46 t46 => ?_
                refine ls_v t46 (.int .i64 x.x0) p13_5 (want_some t46 3 54 true true p13_3.dst (by simp)) (fun o ho => lod_3 _ _ _ _ _ _ (t46.at (by simp)) c10 ho) [(2, (ptw w)), (5, (.string (strOfNums bd))), (10, (.pointer (some ⟨q, 0, none⟩))), (54, (.bool true))] fun u47 t47 => ?_
                refine ls_v t47 (.bool true) p13_6 (want_some t47 3 54 true true p13_3.dst (by simp)) (fun o ho => (neq_k x.x0 5 (t47.at (by simp)) ho).trans (by rw [show (x.x0 != 5) = true from by simpa using a2])) [(2, (ptw w)), (5, (.string (strOfNums bd))), (10, (.pointer (some ⟨q, 0, none⟩))), (54, (.bool true))] fun u48 t48 => ?_
                refine ls_v t48 (.bool true) p13_7 want_none (fun o ho => run_pick (b := true) (t48.at (by simp)) (t48.at (by simp)) rfl ho) [(2, (ptw w)), (5, (.string (strOfNums bd))), (10, (.pointer (some ⟨q, 0, none⟩)))] fun u49 t49 => ?_
                refine ls_v t49 (.bool true) p13_8 want_none (fun o ho => run_mv (t49.at (by simp)) ho) [(2, (ptw w)), (5, (.string (strOfNums bd))), (10, (.pointer (some ⟨q, 0, none⟩)))] fun u50 t50 => ?_
                refine ls_v t50 (.pointer (some ⟨q, 0, none⟩)) p13_9 (want_some t50 8 59 true true p13_8.dst (by simp)) (fun o ho => fld_0 _ _ q _ _ (show _ = Chain.ptr q from t50.at (n := 10) (v := .pointer (some ⟨q, 0, none⟩)) (by simp)) ho) [(2, (ptw w)), (5, (.string (strOfNums bd))), (10, (.pointer (some ⟨q, 0, none⟩))), (59, (.bool true))] fun u51 t51 => ?_
                refine ls_v t51 (.int .i64 x.x0) p13_10 (want_some t51 8 59 true true p13_8.dst (by simp)) (fun o ho => lod_3 _ _ _ _ _ _ (t51.at (by simp)) c10 ho) [(2, (ptw w)), (5, (.string (strOfNums bd))), (10, (.pointer (some ⟨q, 0, none⟩))), (59, (.bool true))] fun u52 t52 => ?_
                refine ls_v t52 (.bool true) p13_11 (want_some t52 8 59 true true p13_8.dst (by simp)) (fun o ho => (neq_k x.x0 16 (t52.at (by simp)) ho).trans (by rw [show (x.x0 != 16) = true from by simpa using a3])) [(2, (ptw w)), (5, (.string (strOfNums bd))), (10, (.pointer (some ⟨q, 0, none⟩))), (59, (.bool true))] fun u53 t53 => ?_
                refine ls_v t53 (.bool true) p13_12 want_none (fun o ho => run_pick (b := true) (t53.at (by simp)) (t53.at (by simp)) rfl ho) [(2, (ptw w)), (5, (.string (strOfNums bd))), (10, (.pointer (some ⟨q, 0, none⟩)))] fun u54 t54 => ?_
                show wpList _ _ _ ((opsR 13 Tryd.f8.body).toList.drop 13) _ _
                rw [z13]
                refine wp_cond (t := true) (t54.at (by simp)) ?_
                rw [if_pos rfl]
                obtain rfl : r = (ask0, 4) := by rw [← hE, if_pos ⟨a1, a2, a3⟩]
                refine wp_seq (wp_region_list ?_)
                show wpList _ _ _ ((opsR 14 Tryd.f8.body).toList.drop 0) _ _
                refine ls_build p14_0 ?_
                have t55 := t54.to 64 (.agg zA) [(2, (ptw w))] (by decide) (by simp)
                generalize Act.put _ _ _ = u55 at t55 ⊢
                refine ls_row w.heap.size zA zA p14_1 (t55.at (by simp)) (t55.at (by simp)) O.b0 zA_size zA_one zA_size ?_
                refine ls_v t55 (.int .i64 4) p14_2 want_none (fun o ho => run_assign' rfl ho) [(2, (ptw w))] fun u56 t56 => ?_
                show wpList _ _ _ ((opsR 14 Tryd.f8.body).toList.drop 3) _ _
                rw [z14]
                refine wp_ret ?_
                exact O.gfin (zA_ask _ _ False) (t56.mono (by simp))
        · rw [show (xc != 0) = true from by simpa using hx, if_pos rfl]
          obtain rfl : r = (ask0, xc) := by rw [← hR4, if_pos hx]
          refine wp_seq (wp_region_list ?_)
          show wpList _ _ _ ((opsR 12 Tryd.f8.body).toList.drop 0) _ _
          refine ls_build p12_0 ?_
          have t35 := t34.to 49 (.agg zA) [(2, (ptw w)), (11, (.int .i64 xc))] (by decide) (by simp)
          generalize Act.put _ _ _ = u35 at t35 ⊢
          refine ls_v t35 (.int .i64 xc) p12_1 want_none (fun o ho => run_mv (t35.at (by simp)) ho) [(2, (ptw w)), (49, (.agg zA))] fun u36 t36 => ?_
          refine ls_row w.heap.size zA zA p12_2 (t36.at (by simp)) (t36.at (by simp)) O.b0 zA_size zA_one zA_size ?_
          refine ls_v t36 (.int .i64 xc) p12_3 want_none (fun o ho => run_assign' (t36.at (by simp)) ho) [(2, (ptw w))] fun u37 t37 => ?_
          show wpList _ _ _ ((opsR 12 Tryd.f8.body).toList.drop 4) _ _
          rw [z12]
          refine wp_ret ?_
          exact O.gfin (zA_ask _ _ False) (t37.mono (by simp))
      · rw [show (code != 0) = true from by simpa using hcd, if_pos rfl]
        obtain rfl : r = (ask0, code) := by rw [← hR2, if_pos hcd]
        refine wp_seq (wp_region_list ?_)
        show wpList _ _ _ ((opsR 9 Tryd.f8.body).toList.drop 0) _ _
        refine ls_build p9_0 ?_
        have t32 := t31.to 38 (.agg zA) [(2, (ptw w)), (9, (.int .i64 code))] (by decide) (by simp)
        generalize Act.put _ _ _ = u32 at t32 ⊢
        refine ls_v t32 (.int .i64 code) p9_1 want_none (fun o ho => run_mv (t32.at (by simp)) ho) [(2, (ptw w)), (38, (.agg zA))] fun u33 t33 => ?_
        refine ls_row w.heap.size zA zA p9_2 (t33.at (by simp)) (t33.at (by simp)) O.b0 zA_size zA_one zA_size ?_
        refine ls_v t33 (.int .i64 code) p9_3 want_none (fun o ho => run_assign' (t33.at (by simp)) ho) [(2, (ptw w))] fun u34 t34 => ?_
        show wpList _ _ _ ((opsR 9 Tryd.f8.body).toList.drop 4) _ _
        rw [z9]
        refine wp_ret ?_
        exact O.gfin (zA_ask _ _ False) (t34.mono (by simp))
set_option maxRecDepth 100000 in
set_option maxHeartbeats 4000000 in
theorem rget_calls (ok : Nat → Prop) (A : Option Addr) (c : Nat) (b : List Int) (w : World) (hr : Kd.C (Kd.int .u8) w A b.length b) (hc : b.length ≤ c) (hB : Byt b) (hl : b.length ≤ 800000) (hk : ∀ k, w.heap.size ≤ k → ok k) :
    Calls Tryd.prog 8 #[.slice A b.length c] w (RR ok w (getS b)) := by
  have O := Lib.hid (One1.start w)
  have CW := Lib.hid (Kd.C_below hr (One1.start w).be)
  have hu := Tryd.underlying26
  clear hr
  go_enter Tryd.func8, Tryd.ntmps8
  replace hu := Lib.hid hu
  refine wp_seq_k fun K hK => ?_
  replace hK := Lib.hid hK
  go_wp2_with (refine wpList_allocA rfl (some 2) rfl 26 rfl zA zA_info (w.heap.size) rfl ?_; simp only [Act.put, List.setIfInBounds_toArray, List.set_cons_zero, List.set_cons_succ])
  refine hK.out _ _ (Code.wp_mono ?_ (gbody ok A c b w _ O.out CW.out hB hl hk _ ⟨by rfl, rfl, List.forall_mem_cons.2 ⟨⟨(by decide : (0 : Nat) < 69), rfl⟩, List.forall_mem_cons.2 ⟨⟨(by decide : (2 : Nat) < 69), rfl⟩, List.forall_mem_cons.2 ⟨⟨(by decide : (3 : Nat) < 69), rfl⟩, fun _ h => nomatch h⟩⟩⟩⟩))
  intro e a' W' hq
  cases e with
  | ret =>
    obtain ⟨cF, k, hb, hF, be⟩ := hq
    refine bodyPost_ret (results_ct rfl _ _ w.heap.size 26 cF (0, 0) _ (k.at (n := 2) (by simp)) hb hu.out rfl (sizeA hF)) k.2.1 ?_
    rw [show a'.tmps.getD 3 undef = .int .i64 (getS b).2 from k.at (n := 3) (by simp)]
    exact ⟨cF, rfl, hF, be⟩
  | _ => exact (hq : False).elim
end Go.Proofs.YtjkehapbemjnpaaDoor
