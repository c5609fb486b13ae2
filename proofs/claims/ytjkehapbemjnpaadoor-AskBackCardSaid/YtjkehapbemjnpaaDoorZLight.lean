/- Whether a request is no more than is waited for, walked by hand; each condition stands in its theorem. -/
import Derived.Test.YtjkehapbemjnpaaDoorZRSame
import Derived.Test.YtjkehapbemjnpaaDoorZLines
namespace Go.Proofs.YtjkehapbemjnpaaDoor
open Go.RowKit Go.Proofs.YtjkehapbemjnpaaDoorW.PrintWords Go.Proofs.YtjkehapbemjnpaaDoorW.PrintLast Go.Proofs.YtjkehapbemjnpaaDoorW.PrintMore Go.Proofs.YtjkehapbemjnpaaDoor.Lf Go.Proofs.YtjkehapbemjnpaaDoor.Kit Go.Proofs.YtjkehapbemjnpaaDoor.Cut Go.Proofs.YtjkehapbemjnpaaDoor.Pl Go.Proofs.YtjkehapbemjnpaaDoor.Num Go.Proofs.YtjkehapbemjnpaaDoor.Chain
set_option linter.unusedVariables false
set_option linter.unusedSimpArgs false
theorem len_9 (s : ByteArray) (a : Act) (q : Nat) (W : World) (o : Oper) (hx : a.eval (.tmp q) = .string s) (ho : o.op = .call { callee := .builtin .len, args := #[.tmp q], argTypes := #[9] }) : (execOp a.eval o).run Tryd.prog W = .ok (.value (.int .i64 s.size)) W := by
  have hx2 : a.tmps[q]?.getD undef = .string s := by
    rw [← hx, ← Array.getD_eq_getD_getElem?]
    rfl
  unfold execOp
  simp only [ho]
  go_simp
theorem len_22 (A : Option Addr) (n c : Nat) (a : Act) (q : Nat) (W : World) (o : Oper) (hx : a.eval (.tmp q) = .slice A n c) (ho : o.op = .call { callee := .builtin .len, args := #[.tmp q], argTypes := #[22] }) : (execOp a.eval o).run Tryd.prog W = .ok (.value (.int .i64 n)) W := by
  have hx2 : a.tmps[q]?.getD undef = .slice A n c := by
    rw [← hx, ← Array.getD_eq_getD_getElem?]
    rfl
  unfold execOp
  simp only [ho]
  go_simp
theorem gtr_3 (m n : Int) (a : Act) (x : Operand) (W : World) (o : Oper) (hx : a.eval x = .int .i64 m) (ho : o.op = .binOp .gtr 3 x (.const (.int .i64 n)) 3) : (execOp a.eval o).run Tryd.prog W = .ok (.value (.bool (decide (n < m)))) W := by
  unfold execOp
  simp only [ho, hx]
  go_simp
/-- One more test of a row 'len(x) > k || ..': a field of a struct. -/
theorem test_len {ops : Array Oper} {Q : Exit → Act → World → Prop} {a : Act} {w : World} {i N m p j : Nat} {ty : TypeId} (g : Nat) (v : Value) (n k : Int) (d : Bool) (h : KN N a [(p, .bool d), (1, ptr g)])
    (o0 : OpAt ops i (some m) (.move (.tmp p)) none)
    (o1 : OpAt ops (i + 1) (some (m + 1)) (.fieldAddr 26 (.tmp 1) j) (some (i, false)))
    (o2 : OpAt ops (i + 1 + 1) (some (m + 2)) (.load ty (.tmp (m + 1))) (some (i, false)))
    (o3 : OpAt ops (i + 1 + 1 + 1) (some (m + 3)) (.call { callee := .builtin .len, args := #[.tmp (m + 2)], argTypes := #[ty] }) (some (i, false)))
    (o4 : OpAt ops (i + 1 + 1 + 1 + 1) (some (m + 4)) (.binOp .gtr 3 (.tmp (m + 3)) (.const (.int .i64 k)) 3) (some (i, false)))
    (o5 : OpAt ops (i + 1 + 1 + 1 + 1 + 1) (some (m + 5)) (.pick (.tmp m) (.const (.bool true)) (.tmp (m + 4))) none)
    (hm : 3 < m) (hp : 3 < p) (hN : m + 5 < N)
    (rF : ∀ (a : Act) (q : Operand) (g : Nat) (W : World) (o : Oper), a.eval q = ptr g → o.op = .fieldAddr 26 q j → (execOp a.eval o).run Tryd.prog W = .ok (.value (.pointer (some ⟨g, j, none⟩))) W)
    (rL : ∀ (a : Act) (q : Operand) (A : Addr) (v : Value) (W : World) (o : Oper), a.eval q = .pointer (some A) → W.cell? A = some v → o.op = .load ty q → (execOp a.eval o).run Tryd.prog W = .ok (.value v) W)
    (rN : ∀ (a : Act) (q : Nat) (W : World) (o : Oper), a.eval (.tmp q) = v → o.op = .call { callee := .builtin .len, args := #[.tmp q], argTypes := #[ty] } → (execOp a.eval o).run Tryd.prog W = .ok (.value (.int .i64 n)) W)
    (ca : w.cell? ⟨g, j, none⟩ = some v)
    (hk : ∀ a', KN N a' [(m + 5, .bool (d || decide (k < n))), (1, ptr g)] → wpList Tryd.prog ops Q (ops.toList.drop (i + 1 + 1 + 1 + 1 + 1 + 1)) a' w) : wpList Tryd.prog ops Q (ops.toList.drop i) a w := by
  refine ls_val (.bool d) o0 want_none (fun o ho => run_mv (h.at (by simp)) ho) ?_
  have h1 := h.to m (.bool d) [(1, ptr g)] (by omega) (by simp <;> omega)
  generalize a.put _ _ = a1 at h1 ⊢
  have hw : ∀ (x : Act) (l : List (Nat × Value)), KN N x l → (m, Value.bool d) ∈ l → want ops x (some (i, false)) (d == false) := fun x l hx hl => want_some hx i m false d o0.dst hl
  cases d with
  | true =>
    refine ls_off o1 (hw _ _ h1 (by simp)) ?_
    have h2 := h1.to (m + 1) undef [(m, .bool true), (1, ptr g)] (by omega) (by simp <;> omega)
    generalize a1.put _ _ = a2 at h2 ⊢
    refine ls_off o2 (hw _ _ h2 (by simp)) ?_
    have h3 := h2.to (m + 2) undef [(m, .bool true), (1, ptr g)] (by omega) (by simp <;> omega)
    generalize a2.put _ _ = a3 at h3 ⊢
    refine ls_off o3 (hw _ _ h3 (by simp)) ?_
    have h4 := h3.to (m + 3) undef [(m, .bool true), (1, ptr g)] (by omega) (by simp <;> omega)
    generalize a3.put _ _ = a4 at h4 ⊢
    refine ls_off o4 (hw _ _ h4 (by simp)) ?_
    have h5 := h4.to (m + 4) undef [(m, .bool true), (1, ptr g)] (by omega) (by simp <;> omega)
    generalize a4.put _ _ = a5 at h5 ⊢
    refine ls_val (.bool true) o5 want_none (fun o ho => run_pick (b := true) (h5.at (by simp)) rfl rfl ho) ?_
    exact hk _ (h5.to (m + 5) (.bool true) [(1, ptr g)] (by omega) (by simp <;> omega))
  | false =>
    refine ls_val (.pointer (some ⟨g, j, none⟩)) o1 (hw _ _ h1 (by simp)) (fun o ho => rF _ _ _ _ _ (h1.at (by simp)) ho) ?_
    have h2 := h1.to (m + 1) (.pointer (some ⟨g, j, none⟩)) [(m, .bool false), (1, ptr g)] (by omega) (by simp <;> omega)
    generalize a1.put _ _ = a2 at h2 ⊢
    refine ls_val v o2 (hw _ _ h2 (by simp)) (fun o ho => rL _ _ _ _ _ _ (h2.at (by simp)) ca ho) ?_
    have h3 := h2.to (m + 2) v [(m, .bool false), (1, ptr g)] (by omega) (by simp <;> omega)
    generalize a2.put _ _ = a3 at h3 ⊢
    refine ls_val (.int .i64 n) o3 (hw _ _ h3 (by simp)) (fun o ho => rN _ _ _ _ (h3.at (by simp)) ho) ?_
    have h4 := h3.to (m + 3) (.int .i64 n) [(m, .bool false), (1, ptr g)] (by omega) (by simp <;> omega)
    generalize a3.put _ _ = a4 at h4 ⊢
    refine ls_val (.bool (decide (k < n))) o4 (hw _ _ h4 (by simp)) (fun o ho => gtr_3 n k _ _ _ _ (h4.at (by simp)) ho) ?_
    have h5 := h4.to (m + 4) (.bool (decide (k < n))) [(m, .bool false), (1, ptr g)] (by omega) (by simp <;> omega)
    generalize a4.put _ _ = a5 at h5 ⊢
    refine ls_val (.bool (decide (k < n))) o5 want_none (fun o ho => run_pick (b := false) (h5.at (by simp)) rfl (h5.at (by simp)) ho) ?_
    exact hk _ (h5.to (m + 5) (.bool (decide (k < n))) [(1, ptr g)] (by omega) (by simp <;> omega))
def heavy1 (a : AskP) : Bool := ((((((((decide ((300 : Int) < ((strOfNums a.x1).size : Int)) || decide ((300 : Int) < ((strOfNums a.x2).size : Int))) || decide ((3000 : Int) < (a.x4.length : Int))) || decide ((100 : Int) < (a.x5.length : Int))) || decide ((300 : Int) < ((strOfNums a.x6).size : Int))) || decide ((300 : Int) < ((strOfNums a.x7).size : Int))) || decide ((300 : Int) < ((strOfNums a.x8).size : Int))) || decide ((100 : Int) < (a.x9.length : Int))) || decide ((100 : Int) < (a.x10.length : Int)))
set_option maxRecDepth 100000 in
theorem heavy1_row (a : AskP) (g : Nat) (ca : Array Value) (W : World) (RA : AskIn W g ca a) (a0 : Act) (h0 : KN 95 a0 [(1, ptr g)]) (Q : Exit → Act → World → Prop)
    (hk : ∀ a', KN 95 a' [(54, .bool (heavy1 a)), (1, ptr g)] → Q .normal a' W) : Code.wp Tryd.prog (.region 1 (opsR 1 Tryd.f12.body) false) Q a0 W := by
  refine wp_region_list ?_
  have hz : (opsR 1 Tryd.f12.body).size = 52 := by kernel_rfl
  have c1 : W.cell? ⟨g, 1, none⟩ = some (.string (strOfNums a.x1)) := RA.cellS _ _ (by obtain ⟨v, hv, rfl⟩ := RA.2.get 1 (by decide); exact hv)
  have c2 : W.cell? ⟨g, 2, none⟩ = some (.string (strOfNums a.x2)) := RA.cellS _ _ (by obtain ⟨v, hv, rfl⟩ := RA.2.get 2 (by decide); exact hv)
  obtain ⟨A4, k4, c4, -, -⟩ := RA.body
  obtain ⟨A5, k5, c5, -, -⟩ := RA.oct 0 (by decide)
  have c6 : W.cell? ⟨g, 6, none⟩ = some (.string (strOfNums a.x6)) := RA.cellS _ _ (by obtain ⟨v, hv, rfl⟩ := RA.2.get 6 (by decide); exact hv)
  have c7 : W.cell? ⟨g, 7, none⟩ = some (.string (strOfNums a.x7)) := RA.cellS _ _ (by obtain ⟨v, hv, rfl⟩ := RA.2.get 7 (by decide); exact hv)
  have c8 : W.cell? ⟨g, 8, none⟩ = some (.string (strOfNums a.x8)) := RA.cellS _ _ (by obtain ⟨v, hv, rfl⟩ := RA.2.get 8 (by decide); exact hv)
  obtain ⟨A9, k9, c9, -, -⟩ := RA.oct 1 (by decide)
  obtain ⟨A10, k10, c10, -, -⟩ := RA.oct 2 (by decide)
  have q0 : OpAt (opsR 1 Tryd.f12.body) 0 (some 3) (.fieldAddr 26 (.tmp 1) 1) none := by unfold OpAt; kernel_rfl
  have q1 : OpAt (opsR 1 Tryd.f12.body) 1 (some 4) (.load 9 (.tmp 3)) none := by unfold OpAt; kernel_rfl
  have q2 : OpAt (opsR 1 Tryd.f12.body) 2 (some 5) (.call { callee := .builtin .len, args := #[.tmp 4], argTypes := #[9] }) none := by unfold OpAt; kernel_rfl
  have q3 : OpAt (opsR 1 Tryd.f12.body) 3 (some 6) (.binOp .gtr 3 (.tmp 5) (.const (.int .i64 300)) 3) none := by unfold OpAt; kernel_rfl
  have r0_0 : OpAt (opsR 1 Tryd.f12.body) 4 (some 7) (.move (.tmp 6)) none := by unfold OpAt; kernel_rfl
  have r0_1 : OpAt (opsR 1 Tryd.f12.body) 5 (some 8) (.fieldAddr 26 (.tmp 1) 2) (some (4, false)) := by unfold OpAt; kernel_rfl
  have r0_2 : OpAt (opsR 1 Tryd.f12.body) 6 (some 9) (.load 9 (.tmp 8)) (some (4, false)) := by unfold OpAt; kernel_rfl
  have r0_3 : OpAt (opsR 1 Tryd.f12.body) 7 (some 10) (.call { callee := .builtin .len, args := #[.tmp 9], argTypes := #[9] }) (some (4, false)) := by unfold OpAt; kernel_rfl
  have r0_4 : OpAt (opsR 1 Tryd.f12.body) 8 (some 11) (.binOp .gtr 3 (.tmp 10) (.const (.int .i64 300)) 3) (some (4, false)) := by unfold OpAt; kernel_rfl
  have r0_5 : OpAt (opsR 1 Tryd.f12.body) 9 (some 12) (.pick (.tmp 7) (.const (.bool true)) (.tmp 11)) none := by unfold OpAt; kernel_rfl
  have r1_0 : OpAt (opsR 1 Tryd.f12.body) 10 (some 13) (.move (.tmp 12)) none := by unfold OpAt; kernel_rfl
  have r1_1 : OpAt (opsR 1 Tryd.f12.body) 11 (some 14) (.fieldAddr 26 (.tmp 1) 4) (some (10, false)) := by unfold OpAt; kernel_rfl
  have r1_2 : OpAt (opsR 1 Tryd.f12.body) 12 (some 15) (.load 22 (.tmp 14)) (some (10, false)) := by unfold OpAt; kernel_rfl
  have r1_3 : OpAt (opsR 1 Tryd.f12.body) 13 (some 16) (.call { callee := .builtin .len, args := #[.tmp 15], argTypes := #[22] }) (some (10, false)) := by unfold OpAt; kernel_rfl
  have r1_4 : OpAt (opsR 1 Tryd.f12.body) 14 (some 17) (.binOp .gtr 3 (.tmp 16) (.const (.int .i64 3000)) 3) (some (10, false)) := by unfold OpAt; kernel_rfl
  have r1_5 : OpAt (opsR 1 Tryd.f12.body) 15 (some 18) (.pick (.tmp 13) (.const (.bool true)) (.tmp 17)) none := by unfold OpAt; kernel_rfl
  have r2_0 : OpAt (opsR 1 Tryd.f12.body) 16 (some 19) (.move (.tmp 18)) none := by unfold OpAt; kernel_rfl
  have r2_1 : OpAt (opsR 1 Tryd.f12.body) 17 (some 20) (.fieldAddr 26 (.tmp 1) 5) (some (16, false)) := by unfold OpAt; kernel_rfl
  have r2_2 : OpAt (opsR 1 Tryd.f12.body) 18 (some 21) (.load 22 (.tmp 20)) (some (16, false)) := by unfold OpAt; kernel_rfl
  have r2_3 : OpAt (opsR 1 Tryd.f12.body) 19 (some 22) (.call { callee := .builtin .len, args := #[.tmp 21], argTypes := #[22] }) (some (16, false)) := by unfold OpAt; kernel_rfl
  have r2_4 : OpAt (opsR 1 Tryd.f12.body) 20 (some 23) (.binOp .gtr 3 (.tmp 22) (.const (.int .i64 100)) 3) (some (16, false)) := by unfold OpAt; kernel_rfl
  have r2_5 : OpAt (opsR 1 Tryd.f12.body) 21 (some 24) (.pick (.tmp 19) (.const (.bool true)) (.tmp 23)) none := by unfold OpAt; kernel_rfl
  have r3_0 : OpAt (opsR 1 Tryd.f12.body) 22 (some 25) (.move (.tmp 24)) none := by unfold OpAt; kernel_rfl
  have r3_1 : OpAt (opsR 1 Tryd.f12.body) 23 (some 26) (.fieldAddr 26 (.tmp 1) 6) (some (22, false)) := by unfold OpAt; kernel_rfl
  have r3_2 : OpAt (opsR 1 Tryd.f12.body) 24 (some 27) (.load 9 (.tmp 26)) (some (22, false)) := by unfold OpAt; kernel_rfl
  have r3_3 : OpAt (opsR 1 Tryd.f12.body) 25 (some 28) (.call { callee := .builtin .len, args := #[.tmp 27], argTypes := #[9] }) (some (22, false)) := by unfold OpAt; kernel_rfl
  have r3_4 : OpAt (opsR 1 Tryd.f12.body) 26 (some 29) (.binOp .gtr 3 (.tmp 28) (.const (.int .i64 300)) 3) (some (22, false)) := by unfold OpAt; kernel_rfl
  have r3_5 : OpAt (opsR 1 Tryd.f12.body) 27 (some 30) (.pick (.tmp 25) (.const (.bool true)) (.tmp 29)) none := by unfold OpAt; kernel_rfl
  have r4_0 : OpAt (opsR 1 Tryd.f12.body) 28 (some 31) (.move (.tmp 30)) none := by unfold OpAt; kernel_rfl
  have r4_1 : OpAt (opsR 1 Tryd.f12.body) 29 (some 32) (.fieldAddr 26 (.tmp 1) 7) (some (28, false)) := by unfold OpAt; kernel_rfl
  have r4_2 : OpAt (opsR 1 Tryd.f12.body) 30 (some 33) (.load 9 (.tmp 32)) (some (28, false)) := by unfold OpAt; kernel_rfl
  have r4_3 : OpAt (opsR 1 Tryd.f12.body) 31 (some 34) (.call { callee := .builtin .len, args := #[.tmp 33], argTypes := #[9] }) (some (28, false)) := by unfold OpAt; kernel_rfl
  have r4_4 : OpAt (opsR 1 Tryd.f12.body) 32 (some 35) (.binOp .gtr 3 (.tmp 34) (.const (.int .i64 300)) 3) (some (28, false)) := by unfold OpAt; kernel_rfl
  have r4_5 : OpAt (opsR 1 Tryd.f12.body) 33 (some 36) (.pick (.tmp 31) (.const (.bool true)) (.tmp 35)) none := by unfold OpAt; kernel_rfl
  have r5_0 : OpAt (opsR 1 Tryd.f12.body) 34 (some 37) (.move (.tmp 36)) none := by unfold OpAt; kernel_rfl
  have r5_1 : OpAt (opsR 1 Tryd.f12.body) 35 (some 38) (.fieldAddr 26 (.tmp 1) 8) (some (34, false)) := by unfold OpAt; kernel_rfl
  have r5_2 : OpAt (opsR 1 Tryd.f12.body) 36 (some 39) (.load 9 (.tmp 38)) (some (34, false)) := by unfold OpAt; kernel_rfl
  have r5_3 : OpAt (opsR 1 Tryd.f12.body) 37 (some 40) (.call { callee := .builtin .len, args := #[.tmp 39], argTypes := #[9] }) (some (34, false)) := by unfold OpAt; kernel_rfl
  have r5_4 : OpAt (opsR 1 Tryd.f12.body) 38 (some 41) (.binOp .gtr 3 (.tmp 40) (.const (.int .i64 300)) 3) (some (34, false)) := by unfold OpAt; kernel_rfl
  have r5_5 : OpAt (opsR 1 Tryd.f12.body) 39 (some 42) (.pick (.tmp 37) (.const (.bool true)) (.tmp 41)) none := by unfold OpAt; kernel_rfl
  have r6_0 : OpAt (opsR 1 Tryd.f12.body) 40 (some 43) (.move (.tmp 42)) none := by unfold OpAt; kernel_rfl
  have r6_1 : OpAt (opsR 1 Tryd.f12.body) 41 (some 44) (.fieldAddr 26 (.tmp 1) 9) (some (40, false)) := by unfold OpAt; kernel_rfl
  have r6_2 : OpAt (opsR 1 Tryd.f12.body) 42 (some 45) (.load 22 (.tmp 44)) (some (40, false)) := by unfold OpAt; kernel_rfl
  have r6_3 : OpAt (opsR 1 Tryd.f12.body) 43 (some 46) (.call { callee := .builtin .len, args := #[.tmp 45], argTypes := #[22] }) (some (40, false)) := by unfold OpAt; kernel_rfl
  have r6_4 : OpAt (opsR 1 Tryd.f12.body) 44 (some 47) (.binOp .gtr 3 (.tmp 46) (.const (.int .i64 100)) 3) (some (40, false)) := by unfold OpAt; kernel_rfl
  have r6_5 : OpAt (opsR 1 Tryd.f12.body) 45 (some 48) (.pick (.tmp 43) (.const (.bool true)) (.tmp 47)) none := by unfold OpAt; kernel_rfl
  have r7_0 : OpAt (opsR 1 Tryd.f12.body) 46 (some 49) (.move (.tmp 48)) none := by unfold OpAt; kernel_rfl
  have r7_1 : OpAt (opsR 1 Tryd.f12.body) 47 (some 50) (.fieldAddr 26 (.tmp 1) 10) (some (46, false)) := by unfold OpAt; kernel_rfl
  have r7_2 : OpAt (opsR 1 Tryd.f12.body) 48 (some 51) (.load 22 (.tmp 50)) (some (46, false)) := by unfold OpAt; kernel_rfl
  have r7_3 : OpAt (opsR 1 Tryd.f12.body) 49 (some 52) (.call { callee := .builtin .len, args := #[.tmp 51], argTypes := #[22] }) (some (46, false)) := by unfold OpAt; kernel_rfl
  have r7_4 : OpAt (opsR 1 Tryd.f12.body) 50 (some 53) (.binOp .gtr 3 (.tmp 52) (.const (.int .i64 100)) 3) (some (46, false)) := by unfold OpAt; kernel_rfl
  have r7_5 : OpAt (opsR 1 Tryd.f12.body) 51 (some 54) (.pick (.tmp 49) (.const (.bool true)) (.tmp 53)) none := by unfold OpAt; kernel_rfl
  generalize opsR 1 Tryd.f12.body = ops at *
  show wpList Tryd.prog ops Q (ops.toList.drop 0) a0 W
  refine ls_val (.pointer (some ⟨g, 1, none⟩)) q0 want_none (fun o ho => fld_1 _ _ g _ _ (h0.at (by simp)) ho) ?_
  have h1 := h0.to 3 (.pointer (some ⟨g, 1, none⟩)) [(1, ptr g)] (by decide) (by simp)
  generalize a0.put _ _ = a1 at h1 ⊢
  refine ls_val (.string (strOfNums a.x1)) q1 want_none (fun o ho => lod_9 _ _ _ _ _ _ (h1.at (by simp)) c1 ho) ?_
  have h2 := h1.to 4 (.string (strOfNums a.x1)) [(1, ptr g)] (by decide) (by simp)
  generalize a1.put _ _ = a2 at h2 ⊢
  refine ls_val (.int .i64 ((strOfNums a.x1).size : Int)) q2 want_none (fun o ho => (fun a q W o => len_9 _ a q W o) _ _ _ _ (h2.at (by simp)) ho) ?_
  have h3 := h2.to 5 (.int .i64 ((strOfNums a.x1).size : Int)) [(1, ptr g)] (by decide) (by simp)
  generalize a2.put _ _ = a3 at h3 ⊢
  refine ls_val (.bool (decide ((300 : Int) < ((strOfNums a.x1).size : Int)))) q3 want_none (fun o ho => gtr_3 _ _ _ _ _ _ (h3.at (by simp)) ho) ?_
  have s0 := h3.to 6 (.bool (decide ((300 : Int) < ((strOfNums a.x1).size : Int)))) [(1, ptr g)] (by decide) (by simp)
  generalize a3.put _ _ = b0 at s0 ⊢
  refine test_len (i := 4) (m := 7) (p := 6) (j := 2) (ty := 9) g (.string (strOfNums a.x2)) ((strOfNums a.x2).size : Int) 300 (decide ((300 : Int) < ((strOfNums a.x1).size : Int))) s0 r0_0 r0_1 r0_2 r0_3 r0_4 r0_5 (by decide) (by decide) (by decide) fld_2 lod_9 (fun a q W o => len_9 _ a q W o) c2 ?_
  intro b1 s1
  refine test_len (i := 10) (m := 13) (p := 12) (j := 4) (ty := 22) g (.slice A4 a.x4.length k4) (a.x4.length : Int) 3000 ((decide ((300 : Int) < ((strOfNums a.x1).size : Int)) || decide ((300 : Int) < ((strOfNums a.x2).size : Int)))) s1 r1_0 r1_1 r1_2 r1_3 r1_4 r1_5 (by decide) (by decide) (by decide) fld_4 lod_22 (fun a q W o => len_22 A4 _ k4 a q W o) c4 ?_
  intro b2 s2
  refine test_len (i := 16) (m := 19) (p := 18) (j := 5) (ty := 22) g (.slice A5 a.x5.length k5) (a.x5.length : Int) 100 (((decide ((300 : Int) < ((strOfNums a.x1).size : Int)) || decide ((300 : Int) < ((strOfNums a.x2).size : Int))) || decide ((3000 : Int) < (a.x4.length : Int)))) s2 r2_0 r2_1 r2_2 r2_3 r2_4 r2_5 (by decide) (by decide) (by decide) fld_5 lod_22 (fun a q W o => len_22 A5 _ k5 a q W o) c5 ?_
  intro b3 s3
  refine test_len (i := 22) (m := 25) (p := 24) (j := 6) (ty := 9) g (.string (strOfNums a.x6)) ((strOfNums a.x6).size : Int) 300 ((((decide ((300 : Int) < ((strOfNums a.x1).size : Int)) || decide ((300 : Int) < ((strOfNums a.x2).size : Int))) || decide ((3000 : Int) < (a.x4.length : Int))) || decide ((100 : Int) < (a.x5.length : Int)))) s3 r3_0 r3_1 r3_2 r3_3 r3_4 r3_5 (by decide) (by decide) (by decide) fld_6 lod_9 (fun a q W o => len_9 _ a q W o) c6 ?_
  intro b4 s4
  refine test_len (i := 28) (m := 31) (p := 30) (j := 7) (ty := 9) g (.string (strOfNums a.x7)) ((strOfNums a.x7).size : Int) 300 (((((decide ((300 : Int) < ((strOfNums a.x1).size : Int)) || decide ((300 : Int) < ((strOfNums a.x2).size : Int))) || decide ((3000 : Int) < (a.x4.length : Int))) || decide ((100 : Int) < (a.x5.length : Int))) || decide ((300 : Int) < ((strOfNums a.x6).size : Int)))) s4 r4_0 r4_1 r4_2 r4_3 r4_4 r4_5 (by decide) (by decide) (by decide) fld_7 lod_9 (fun a q W o => len_9 _ a q W o) c7 ?_
  intro b5 s5
  refine test_len (i := 34) (m := 37) (p := 36) (j := 8) (ty := 9) g (.string (strOfNums a.x8)) ((strOfNums a.x8).size : Int) 300 ((((((decide ((300 : Int) < ((strOfNums a.x1).size : Int)) || decide ((300 : Int) < ((strOfNums a.x2).size : Int))) || decide ((3000 : Int) < (a.x4.length : Int))) || decide ((100 : Int) < (a.x5.length : Int))) || decide ((300 : Int) < ((strOfNums a.x6).size : Int))) || decide ((300 : Int) < ((strOfNums a.x7).size : Int)))) s5 r5_0 r5_1 r5_2 r5_3 r5_4 r5_5 (by decide) (by decide) (by decide) fld_8 lod_9 (fun a q W o => len_9 _ a q W o) c8 ?_
  intro b6 s6
  refine test_len (i := 40) (m := 43) (p := 42) (j := 9) (ty := 22) g (.slice A9 a.x9.length k9) (a.x9.length : Int) 100 (((((((decide ((300 : Int) < ((strOfNums a.x1).size : Int)) || decide ((300 : Int) < ((strOfNums a.x2).size : Int))) || decide ((3000 : Int) < (a.x4.length : Int))) || decide ((100 : Int) < (a.x5.length : Int))) || decide ((300 : Int) < ((strOfNums a.x6).size : Int))) || decide ((300 : Int) < ((strOfNums a.x7).size : Int))) || decide ((300 : Int) < ((strOfNums a.x8).size : Int)))) s6 r6_0 r6_1 r6_2 r6_3 r6_4 r6_5 (by decide) (by decide) (by decide) fld_9 lod_22 (fun a q W o => len_22 A9 _ k9 a q W o) c9 ?_
  intro b7 s7
  refine test_len (i := 46) (m := 49) (p := 48) (j := 10) (ty := 22) g (.slice A10 a.x10.length k10) (a.x10.length : Int) 100 ((((((((decide ((300 : Int) < ((strOfNums a.x1).size : Int)) || decide ((300 : Int) < ((strOfNums a.x2).size : Int))) || decide ((3000 : Int) < (a.x4.length : Int))) || decide ((100 : Int) < (a.x5.length : Int))) || decide ((300 : Int) < ((strOfNums a.x6).size : Int))) || decide ((300 : Int) < ((strOfNums a.x7).size : Int))) || decide ((300 : Int) < ((strOfNums a.x8).size : Int))) || decide ((100 : Int) < (a.x9.length : Int)))) s7 r7_0 r7_1 r7_2 r7_3 r7_4 r7_5 (by decide) (by decide) (by decide) fld_10 lod_22 (fun a q W o => len_22 A10 _ k10 a q W o) c10 ?_
  intro b8 s8
  have hd : ops.toList.drop 52 = [] := by rw [List.drop_eq_nil_of_le (by rw [Array.length_toList, hz]; exact Nat.le_refl _)]
  show wpList Tryd.prog ops Q (ops.toList.drop 52) _ W
  rw [hd]
  exact hk _ s8
def heavy3 (a : AskP) : Bool := ((((((decide ((300 : Int) < ((strOfNums a.x12).size : Int)) || decide ((300 : Int) < ((strOfNums a.x13).size : Int))) || decide ((300 : Int) < ((strOfNums a.x14).size : Int))) || decide ((300 : Int) < ((strOfNums a.x16).size : Int))) || decide ((300 : Int) < ((strOfNums a.x17).size : Int))) || decide ((100 : Int) < (a.x19.length : Int))) || decide ((60 : Int) < (a.x22.length : Int)))
set_option maxRecDepth 100000 in
theorem heavy3_row (a : AskP) (g : Nat) (ca : Array Value) (W : World) (RA : AskIn W g ca a) (a0 : Act) (h0 : KN 95 a0 [(1, ptr g)]) (Q : Exit → Act → World → Prop)
    (hk : ∀ a', KN 95 a' [(94, .bool (heavy3 a)), (1, ptr g)] → Q .normal a' W) : Code.wp Tryd.prog (.region 3 (opsR 3 Tryd.f12.body) false) Q a0 W := by
  refine wp_region_list ?_
  have hz : (opsR 3 Tryd.f12.body).size = 40 := by kernel_rfl
  have c12 : W.cell? ⟨g, 12, none⟩ = some (.string (strOfNums a.x12)) := RA.cellS _ _ (by obtain ⟨v, hv, rfl⟩ := RA.2.get 12 (by decide); exact hv)
  have c13 : W.cell? ⟨g, 13, none⟩ = some (.string (strOfNums a.x13)) := RA.cellS _ _ (by obtain ⟨v, hv, rfl⟩ := RA.2.get 13 (by decide); exact hv)
  have c14 : W.cell? ⟨g, 14, none⟩ = some (.string (strOfNums a.x14)) := RA.cellS _ _ (by obtain ⟨v, hv, rfl⟩ := RA.2.get 14 (by decide); exact hv)
  have c16 : W.cell? ⟨g, 16, none⟩ = some (.string (strOfNums a.x16)) := RA.cellS _ _ (by obtain ⟨v, hv, rfl⟩ := RA.2.get 16 (by decide); exact hv)
  have c17 : W.cell? ⟨g, 17, none⟩ = some (.string (strOfNums a.x17)) := RA.cellS _ _ (by obtain ⟨v, hv, rfl⟩ := RA.2.get 17 (by decide); exact hv)
  obtain ⟨A19, k19, c19, -, -⟩ := RA.oct 3 (by decide)
  obtain ⟨A22, k22, c22, -, -⟩ := RA.lst
  have q0 : OpAt (opsR 3 Tryd.f12.body) 0 (some 55) (.fieldAddr 26 (.tmp 1) 12) none := by unfold OpAt; kernel_rfl
  have q1 : OpAt (opsR 3 Tryd.f12.body) 1 (some 56) (.load 9 (.tmp 55)) none := by unfold OpAt; kernel_rfl
  have q2 : OpAt (opsR 3 Tryd.f12.body) 2 (some 57) (.call { callee := .builtin .len, args := #[.tmp 56], argTypes := #[9] }) none := by unfold OpAt; kernel_rfl
  have q3 : OpAt (opsR 3 Tryd.f12.body) 3 (some 58) (.binOp .gtr 3 (.tmp 57) (.const (.int .i64 300)) 3) none := by unfold OpAt; kernel_rfl
  have r0_0 : OpAt (opsR 3 Tryd.f12.body) 4 (some 59) (.move (.tmp 58)) none := by unfold OpAt; kernel_rfl
  have r0_1 : OpAt (opsR 3 Tryd.f12.body) 5 (some 60) (.fieldAddr 26 (.tmp 1) 13) (some (4, false)) := by unfold OpAt; kernel_rfl
  have r0_2 : OpAt (opsR 3 Tryd.f12.body) 6 (some 61) (.load 9 (.tmp 60)) (some (4, false)) := by unfold OpAt; kernel_rfl
  have r0_3 : OpAt (opsR 3 Tryd.f12.body) 7 (some 62) (.call { callee := .builtin .len, args := #[.tmp 61], argTypes := #[9] }) (some (4, false)) := by unfold OpAt; kernel_rfl
  have r0_4 : OpAt (opsR 3 Tryd.f12.body) 8 (some 63) (.binOp .gtr 3 (.tmp 62) (.const (.int .i64 300)) 3) (some (4, false)) := by unfold OpAt; kernel_rfl
  have r0_5 : OpAt (opsR 3 Tryd.f12.body) 9 (some 64) (.pick (.tmp 59) (.const (.bool true)) (.tmp 63)) none := by unfold OpAt; kernel_rfl
  have r1_0 : OpAt (opsR 3 Tryd.f12.body) 10 (some 65) (.move (.tmp 64)) none := by unfold OpAt; kernel_rfl
  have r1_1 : OpAt (opsR 3 Tryd.f12.body) 11 (some 66) (.fieldAddr 26 (.tmp 1) 14) (some (10, false)) := by unfold OpAt; kernel_rfl
  have r1_2 : OpAt (opsR 3 Tryd.f12.body) 12 (some 67) (.load 9 (.tmp 66)) (some (10, false)) := by unfold OpAt; kernel_rfl
  have r1_3 : OpAt (opsR 3 Tryd.f12.body) 13 (some 68) (.call { callee := .builtin .len, args := #[.tmp 67], argTypes := #[9] }) (some (10, false)) := by unfold OpAt; kernel_rfl
  have r1_4 : OpAt (opsR 3 Tryd.f12.body) 14 (some 69) (.binOp .gtr 3 (.tmp 68) (.const (.int .i64 300)) 3) (some (10, false)) := by unfold OpAt; kernel_rfl
  have r1_5 : OpAt (opsR 3 Tryd.f12.body) 15 (some 70) (.pick (.tmp 65) (.const (.bool true)) (.tmp 69)) none := by unfold OpAt; kernel_rfl
  have r2_0 : OpAt (opsR 3 Tryd.f12.body) 16 (some 71) (.move (.tmp 70)) none := by unfold OpAt; kernel_rfl
  have r2_1 : OpAt (opsR 3 Tryd.f12.body) 17 (some 72) (.fieldAddr 26 (.tmp 1) 16) (some (16, false)) := by unfold OpAt; kernel_rfl
  have r2_2 : OpAt (opsR 3 Tryd.f12.body) 18 (some 73) (.load 9 (.tmp 72)) (some (16, false)) := by unfold OpAt; kernel_rfl
  have r2_3 : OpAt (opsR 3 Tryd.f12.body) 19 (some 74) (.call { callee := .builtin .len, args := #[.tmp 73], argTypes := #[9] }) (some (16, false)) := by unfold OpAt; kernel_rfl
  have r2_4 : OpAt (opsR 3 Tryd.f12.body) 20 (some 75) (.binOp .gtr 3 (.tmp 74) (.const (.int .i64 300)) 3) (some (16, false)) := by unfold OpAt; kernel_rfl
  have r2_5 : OpAt (opsR 3 Tryd.f12.body) 21 (some 76) (.pick (.tmp 71) (.const (.bool true)) (.tmp 75)) none := by unfold OpAt; kernel_rfl
  have r3_0 : OpAt (opsR 3 Tryd.f12.body) 22 (some 77) (.move (.tmp 76)) none := by unfold OpAt; kernel_rfl
  have r3_1 : OpAt (opsR 3 Tryd.f12.body) 23 (some 78) (.fieldAddr 26 (.tmp 1) 17) (some (22, false)) := by unfold OpAt; kernel_rfl
  have r3_2 : OpAt (opsR 3 Tryd.f12.body) 24 (some 79) (.load 9 (.tmp 78)) (some (22, false)) := by unfold OpAt; kernel_rfl
  have r3_3 : OpAt (opsR 3 Tryd.f12.body) 25 (some 80) (.call { callee := .builtin .len, args := #[.tmp 79], argTypes := #[9] }) (some (22, false)) := by unfold OpAt; kernel_rfl
  have r3_4 : OpAt (opsR 3 Tryd.f12.body) 26 (some 81) (.binOp .gtr 3 (.tmp 80) (.const (.int .i64 300)) 3) (some (22, false)) := by unfold OpAt; kernel_rfl
  have r3_5 : OpAt (opsR 3 Tryd.f12.body) 27 (some 82) (.pick (.tmp 77) (.const (.bool true)) (.tmp 81)) none := by unfold OpAt; kernel_rfl
  have r4_0 : OpAt (opsR 3 Tryd.f12.body) 28 (some 83) (.move (.tmp 82)) none := by unfold OpAt; kernel_rfl
  have r4_1 : OpAt (opsR 3 Tryd.f12.body) 29 (some 84) (.fieldAddr 26 (.tmp 1) 19) (some (28, false)) := by unfold OpAt; kernel_rfl
  have r4_2 : OpAt (opsR 3 Tryd.f12.body) 30 (some 85) (.load 22 (.tmp 84)) (some (28, false)) := by unfold OpAt; kernel_rfl
  have r4_3 : OpAt (opsR 3 Tryd.f12.body) 31 (some 86) (.call { callee := .builtin .len, args := #[.tmp 85], argTypes := #[22] }) (some (28, false)) := by unfold OpAt; kernel_rfl
  have r4_4 : OpAt (opsR 3 Tryd.f12.body) 32 (some 87) (.binOp .gtr 3 (.tmp 86) (.const (.int .i64 100)) 3) (some (28, false)) := by unfold OpAt; kernel_rfl
  have r4_5 : OpAt (opsR 3 Tryd.f12.body) 33 (some 88) (.pick (.tmp 83) (.const (.bool true)) (.tmp 87)) none := by unfold OpAt; kernel_rfl
  have r5_0 : OpAt (opsR 3 Tryd.f12.body) 34 (some 89) (.move (.tmp 88)) none := by unfold OpAt; kernel_rfl
  have r5_1 : OpAt (opsR 3 Tryd.f12.body) 35 (some 90) (.fieldAddr 26 (.tmp 1) 22) (some (34, false)) := by unfold OpAt; kernel_rfl
  have r5_2 : OpAt (opsR 3 Tryd.f12.body) 36 (some 91) (.load 24 (.tmp 90)) (some (34, false)) := by unfold OpAt; kernel_rfl
  have r5_3 : OpAt (opsR 3 Tryd.f12.body) 37 (some 92) (.call { callee := .builtin .len, args := #[.tmp 91], argTypes := #[24] }) (some (34, false)) := by unfold OpAt; kernel_rfl
  have r5_4 : OpAt (opsR 3 Tryd.f12.body) 38 (some 93) (.binOp .gtr 3 (.tmp 92) (.const (.int .i64 60)) 3) (some (34, false)) := by unfold OpAt; kernel_rfl
  have r5_5 : OpAt (opsR 3 Tryd.f12.body) 39 (some 94) (.pick (.tmp 89) (.const (.bool true)) (.tmp 93)) none := by unfold OpAt; kernel_rfl
  generalize opsR 3 Tryd.f12.body = ops at *
  show wpList Tryd.prog ops Q (ops.toList.drop 0) a0 W
  refine ls_val (.pointer (some ⟨g, 12, none⟩)) q0 want_none (fun o ho => fld_12 _ _ g _ _ (h0.at (by simp)) ho) ?_
  have h1 := h0.to 55 (.pointer (some ⟨g, 12, none⟩)) [(1, ptr g)] (by decide) (by simp)
  generalize a0.put _ _ = a1 at h1 ⊢
  refine ls_val (.string (strOfNums a.x12)) q1 want_none (fun o ho => lod_9 _ _ _ _ _ _ (h1.at (by simp)) c12 ho) ?_
  have h2 := h1.to 56 (.string (strOfNums a.x12)) [(1, ptr g)] (by decide) (by simp)
  generalize a1.put _ _ = a2 at h2 ⊢
  refine ls_val (.int .i64 ((strOfNums a.x12).size : Int)) q2 want_none (fun o ho => (fun a q W o => len_9 _ a q W o) _ _ _ _ (h2.at (by simp)) ho) ?_
  have h3 := h2.to 57 (.int .i64 ((strOfNums a.x12).size : Int)) [(1, ptr g)] (by decide) (by simp)
  generalize a2.put _ _ = a3 at h3 ⊢
  refine ls_val (.bool (decide ((300 : Int) < ((strOfNums a.x12).size : Int)))) q3 want_none (fun o ho => gtr_3 _ _ _ _ _ _ (h3.at (by simp)) ho) ?_
  have s0 := h3.to 58 (.bool (decide ((300 : Int) < ((strOfNums a.x12).size : Int)))) [(1, ptr g)] (by decide) (by simp)
  generalize a3.put _ _ = b0 at s0 ⊢
  refine test_len (i := 4) (m := 59) (p := 58) (j := 13) (ty := 9) g (.string (strOfNums a.x13)) ((strOfNums a.x13).size : Int) 300 (decide ((300 : Int) < ((strOfNums a.x12).size : Int))) s0 r0_0 r0_1 r0_2 r0_3 r0_4 r0_5 (by decide) (by decide) (by decide) fld_13 lod_9 (fun a q W o => len_9 _ a q W o) c13 ?_
  intro b1 s1
  refine test_len (i := 10) (m := 65) (p := 64) (j := 14) (ty := 9) g (.string (strOfNums a.x14)) ((strOfNums a.x14).size : Int) 300 ((decide ((300 : Int) < ((strOfNums a.x12).size : Int)) || decide ((300 : Int) < ((strOfNums a.x13).size : Int)))) s1 r1_0 r1_1 r1_2 r1_3 r1_4 r1_5 (by decide) (by decide) (by decide) fld_14 lod_9 (fun a q W o => len_9 _ a q W o) c14 ?_
  intro b2 s2
  refine test_len (i := 16) (m := 71) (p := 70) (j := 16) (ty := 9) g (.string (strOfNums a.x16)) ((strOfNums a.x16).size : Int) 300 (((decide ((300 : Int) < ((strOfNums a.x12).size : Int)) || decide ((300 : Int) < ((strOfNums a.x13).size : Int))) || decide ((300 : Int) < ((strOfNums a.x14).size : Int)))) s2 r2_0 r2_1 r2_2 r2_3 r2_4 r2_5 (by decide) (by decide) (by decide) fld_16 lod_9 (fun a q W o => len_9 _ a q W o) c16 ?_
  intro b3 s3
  refine test_len (i := 22) (m := 77) (p := 76) (j := 17) (ty := 9) g (.string (strOfNums a.x17)) ((strOfNums a.x17).size : Int) 300 ((((decide ((300 : Int) < ((strOfNums a.x12).size : Int)) || decide ((300 : Int) < ((strOfNums a.x13).size : Int))) || decide ((300 : Int) < ((strOfNums a.x14).size : Int))) || decide ((300 : Int) < ((strOfNums a.x16).size : Int)))) s3 r3_0 r3_1 r3_2 r3_3 r3_4 r3_5 (by decide) (by decide) (by decide) fld_17 lod_9 (fun a q W o => len_9 _ a q W o) c17 ?_
  intro b4 s4
  refine test_len (i := 28) (m := 83) (p := 82) (j := 19) (ty := 22) g (.slice A19 a.x19.length k19) (a.x19.length : Int) 100 (((((decide ((300 : Int) < ((strOfNums a.x12).size : Int)) || decide ((300 : Int) < ((strOfNums a.x13).size : Int))) || decide ((300 : Int) < ((strOfNums a.x14).size : Int))) || decide ((300 : Int) < ((strOfNums a.x16).size : Int))) || decide ((300 : Int) < ((strOfNums a.x17).size : Int)))) s4 r4_0 r4_1 r4_2 r4_3 r4_4 r4_5 (by decide) (by decide) (by decide) fld_19 lod_22 (fun a q W o => len_22 A19 _ k19 a q W o) c19 ?_
  intro b5 s5
  refine test_len (i := 34) (m := 89) (p := 88) (j := 22) (ty := 24) g (.slice A22 a.x22.length k22) (a.x22.length : Int) 60 ((((((decide ((300 : Int) < ((strOfNums a.x12).size : Int)) || decide ((300 : Int) < ((strOfNums a.x13).size : Int))) || decide ((300 : Int) < ((strOfNums a.x14).size : Int))) || decide ((300 : Int) < ((strOfNums a.x16).size : Int))) || decide ((300 : Int) < ((strOfNums a.x17).size : Int))) || decide ((100 : Int) < (a.x19.length : Int)))) s5 r5_0 r5_1 r5_2 r5_3 r5_4 r5_5 (by decide) (by decide) (by decide) fld_22 lod_24 (fun a q W o => len_24 A22 _ k22 a q W o) c22 ?_
  intro b6 s6
  have hd : ops.toList.drop 40 = [] := by rw [List.drop_eq_nil_of_le (by rw [Array.length_toList, hz]; exact Nat.le_refl _)]
  show wpList Tryd.prog ops Q (ops.toList.drop 40) _ W
  rw [hd]
  exact hk _ s6
def lightS (a : AskP) : Int := if heavy1 a || heavy3 a then 1 else 0
theorem light_S {N : Nat} {a : AskP} (h : lightS a = 0) (b : AskN N a) : AskS a := by
  unfold lightS at h
  have h2 : (heavy1 a || heavy3 a) = false := by
    cases hq : (heavy1 a || heavy3 a) with
    | false => rfl
    | true => rw [hq] at h; simp at h
  simp only [Bool.or_eq_false_iff] at h2
  obtain ⟨g1, g3⟩ := h2
  unfold heavy1 at g1
  unfold heavy3 at g3
  simp only [Bool.or_eq_false_iff, decide_eq_false_iff_not, strOfNums_size] at g1 g3
  obtain ⟨⟨⟨⟨⟨⟨⟨⟨h1, h2⟩, h4⟩, h5⟩, h6⟩, h7⟩, h8⟩, h9⟩, h10⟩ := g1
  obtain ⟨⟨⟨⟨⟨⟨h12, h13⟩, h14⟩, h16⟩, h17⟩, h19⟩, h22⟩ := g3
  have bb : AskB a := ⟨⟨b.b1.1, by omega⟩, ⟨b.b2.1, by omega⟩, ⟨b.b4.1, by omega⟩, ⟨b.b5.1, by omega⟩, ⟨b.b6.1, by omega⟩, ⟨b.b7.1, by omega⟩, ⟨b.b8.1, by omega⟩, ⟨b.b9.1, by omega⟩, ⟨b.b10.1, by omega⟩, ⟨b.b12.1, by omega⟩, ⟨b.b13.1, by omega⟩, ⟨b.b14.1, by omega⟩, ⟨b.b16.1, by omega⟩, ⟨b.b17.1, by omega⟩, ⟨b.b19.1, by omega⟩⟩
  constructor <;> first | exact bb | omega
theorem body12_code : sndC (Tryd.f12.body.getD .skip) = .seq (.seq (.region 1 (opsR 1 Tryd.f12.body) false) (.cond (.tmp 54) (.seq (.region 2 (opsR 2 Tryd.f12.body) false) .ret) .skip)) (.seq (.seq (.region 3 (opsR 3 Tryd.f12.body) false) (.cond (.tmp 94) (.seq (.region 4 (opsR 4 Tryd.f12.body) false) .ret) .skip)) (.seq (.region 5 (opsR 5 Tryd.f12.body) false) .ret)) := by kernel_rfl
theorem body12 (a : AskP) (g : Nat) (ca : Array Value) (W : World) (RA : AskIn W g ca a) (a0 : Act) (h0 : KN 95 a0 [(1, ptr g)]) :
    Code.wp Tryd.prog (sndC (Tryd.f12.body.getD .skip)) (QR (fun _ _ => False) fun a' W' => KN 95 a' [(2, .int .i64 (lightS a))] ∧ W' = W) a0 W := by
  rw [body12_code]
  have p2 : OpAt (opsR 2 Tryd.f12.body) 0 (some 2) (.assign (.const (.int .i64 1))) none := by unfold OpAt; kernel_rfl
  have z2 : (opsR 2 Tryd.f12.body).toList.drop 1 = [] := by rw [List.drop_eq_nil_of_le (by rw [Array.length_toList, show (opsR 2 Tryd.f12.body).size = 1 from by kernel_rfl]; exact Nat.le_refl _)]
  have p4 : OpAt (opsR 4 Tryd.f12.body) 0 (some 2) (.assign (.const (.int .i64 1))) none := by unfold OpAt; kernel_rfl
  have z4 : (opsR 4 Tryd.f12.body).toList.drop 1 = [] := by rw [List.drop_eq_nil_of_le (by rw [Array.length_toList, show (opsR 4 Tryd.f12.body).size = 1 from by kernel_rfl]; exact Nat.le_refl _)]
  have p5 : OpAt (opsR 5 Tryd.f12.body) 0 (some 2) (.assign (.const (.int .i64 0))) none := by unfold OpAt; kernel_rfl
  have z5 : (opsR 5 Tryd.f12.body).toList.drop 1 = [] := by rw [List.drop_eq_nil_of_le (by rw [Array.length_toList, show (opsR 5 Tryd.f12.body).size = 1 from by kernel_rfl]; exact Nat.le_refl _)]
  refine wp_seq (wp_seq (heavy1_row a g ca W RA a0 h0 _ fun a1 h1 => ?_))
  refine wp_cond (t := heavy1 a) (h1.at (by simp)) ?_
  cases hd : heavy1 a with
  | true =>
    rw [if_pos rfl]
    refine wp_seq (wp_region_list ?_)
    show wpList _ _ _ ((opsR 2 Tryd.f12.body).toList.drop 0) _ _
    refine ls_val (.int .i64 1) p2 want_none (fun o ho => run_assign' rfl ho) ?_
    have k := h1.to 2 (.int .i64 1) [] (by decide) (by simp)
    show wpList _ _ _ ((opsR 2 Tryd.f12.body).toList.drop 1) _ _
    rw [z2]
    refine wp_ret ?_
    rw [show lightS a = 1 from by unfold lightS; rw [hd]; rfl]
    exact ⟨k, rfl⟩
  | false =>
    rw [if_neg (by simp)]
    refine wp_skip ?_
    refine wp_seq (wp_seq (heavy3_row a g ca W RA a1 (h1.mono (by simp)) _ fun a2 h2 => ?_))
    refine wp_cond (t := heavy3 a) (h2.at (by simp)) ?_
    cases hd3 : heavy3 a with
    | true =>
      rw [if_pos rfl]
      refine wp_seq (wp_region_list ?_)
      show wpList _ _ _ ((opsR 4 Tryd.f12.body).toList.drop 0) _ _
      refine ls_val (.int .i64 1) p4 want_none (fun o ho => run_assign' rfl ho) ?_
      have k := h2.to 2 (.int .i64 1) [] (by decide) (by simp)
      show wpList _ _ _ ((opsR 4 Tryd.f12.body).toList.drop 1) _ _
      rw [z4]
      refine wp_ret ?_
      rw [show lightS a = 1 from by unfold lightS; rw [hd, hd3]; rfl]
      exact ⟨k, rfl⟩
    | false =>
      rw [if_neg (by simp)]
      refine wp_skip ?_
      refine wp_seq (wp_region_list ?_)
      show wpList _ _ _ ((opsR 5 Tryd.f12.body).toList.drop 0) _ _
      refine ls_val (.int .i64 0) p5 want_none (fun o ho => run_assign' rfl ho) ?_
      have k := h2.to 2 (.int .i64 0) [] (by decide) (by simp)
      show wpList _ _ _ ((opsR 5 Tryd.f12.body).toList.drop 1) _ _
      rw [z5]
      refine wp_ret ?_
      rw [show lightS a = 0 from by unfold lightS; rw [hd, hd3]; rfl]
      exact ⟨k, rfl⟩
set_option maxRecDepth 100000 in
theorem light_calls (ca : Array Value) (ok : Nat → Prop) (nl : Prop) (a : AskP) (w : World) (hA : AskC w ok nl ca a) :
    Calls Tryd.prog 12 #[.agg ca] w fun e w' => e = .returned (.int .i64 (lightS a)) ∧ Below w.heap.size w w' := by
  have TW := Lib.hid (OneAt.start hA)
  clear hA
  go_enter Tryd.func12, Tryd.ntmps12
  refine wp_seq_k fun K hK => ?_
  replace hK := Lib.hid hK
  go_wp2_with fail
  refine hK.out _ _ (Code.wp_mono ?_ (body12 a w.heap.size ca _ TW.out.1 _ ⟨by rfl, rfl, List.forall_mem_cons.2 ⟨⟨(by decide : (1 : Nat) < 95), rfl⟩, fun _ h => nomatch h⟩⟩))
  intro e a' W' hq
  cases e with
  | ret =>
    obtain ⟨k, rfl⟩ := hq
    refine bodyPost_ret (results_tmp rfl _ _ _) k.2.1 ?_
    rw [show a'.tmps.getD 2 undef = .int .i64 (lightS a) from k.at (n := 2) (by simp)]
    exact ⟨rfl, TW.out.2⟩
  | _ => exact (hq : False).elim
end Go.Proofs.YtjkehapbemjnpaaDoor
