/- Whether a request is no more than is waited for, walked by hand; each condition stands in its theorem. -/
import Derived.Test.YtjkehapbemjnpaaDoorVRSame
import Derived.Test.YtjkehapbemjnpaaDoorVLines
set_option maxRecDepth 100000
namespace Go.Proofs.YtjkehapbemjnpaaDoor
open Go.RowKit Go.Proofs.YtjkehapbemjnpaaDoorW.PrintWords Go.Proofs.YtjkehapbemjnpaaDoorW.PrintLast Go.Proofs.YtjkehapbemjnpaaDoorW.PrintMore Lf Kit Cut Pl Num Chain
set_option linter.unusedVariables false
set_option linter.unusedSimpArgs false
theorem len_9 (s : ByteArray) (a : Act) (q : Nat) (W : World) (o : Oper) (hx : a.eval (.tmp q) = .string s) (ho : o.op = .call { callee := .builtin .len, args := #[.tmp q], argTypes := #[9] }) : (execOp a.eval o).run Tryd.prog W = .ok (.value (.int .i64 s.size)) W := by
 have hx2 : a.tmps[q]?.getD undef = .string s := by
  rw [← hx, ← Array.getD_eq_getD_getElem?]
  rfl
 unfold execOp
 simp only [ho]
 go_simp
theorem len_22 (A : Option Addr) (n c : Nat) (a : Act) (q : Nat) (W : World) (o : Oper) (hx : a.eval (.tmp q) = .slice A n c) (ho : o.op = .call { callee := .builtin .len, args := #[.tmp q], argTypes := #[22] }) : (execOp a.eval o).run Tryd.prog W = .ok (.value (.int .i64 n)) W := by
 have hx2 : a.tmps[q]?.getD undef = .slice A n c := by
  rw [← hx, ← Array.getD_eq_getD_getElem?]
  rfl
 unfold execOp
 simp only [ho]
 go_simp
theorem gtr_3 (m n : Int) (a : Act) (x : Operand) (W : World) (o : Oper) (hx : a.eval x = .int .i64 m) (ho : o.op = .binOp .gtr 3 x (.const (.int .i64 n)) 3) : (execOp a.eval o).run Tryd.prog W = .ok (.value (.bool (decide (n < m)))) W := by
 unfold execOp
 simp only [ho, hx]
 go_simp
theorem test_len {ops : Array Oper} {Q : Exit → Act → World → Prop} {a : Act} {w : World} {i N m p j : Nat} {ty : TypeId} (g : Nat) (v : Value) (n k : Int) (d : Bool) (h : KN N a [(p, .bool d), (1, ptr g)])
  (o0 : OpAt ops i (some m) (.move (.tmp p)) none)
  (o1 : OpAt ops (i + 1) (some (m + 1)) (.fieldAddr 26 (.tmp 1) j) (some (i, false)))
  (o2 : OpAt ops (i + 1 + 1) (some (m + 2)) (.load ty (.tmp (m + 1))) (some (i, false)))
  (o3 : OpAt ops (i + 1 + 1 + 1) (some (m + 3)) (.call { callee := .builtin .len, args := #[.tmp (m + 2)], argTypes := #[ty] }) (some (i, false)))
  (o4 : OpAt ops (i + 1 + 1 + 1 + 1) (some (m + 4)) (.binOp .gtr 3 (.tmp (m + 3)) (.const (.int .i64 k)) 3) (some (i, false)))
  (o5 : OpAt ops (i + 1 + 1 + 1 + 1 + 1) (some (m + 5)) (.pick (.tmp m) (.const (.bool true)) (.tmp (m + 4))) none)
  (hm : 3 < m) (hp : 3 < p) (hN : m + 5 < N)
  (rF : ∀ (a : Act) (q : Operand) (g : Nat) (W : World) (o : Oper), a.eval q = ptr g → o.op = .fieldAddr 26 q j → (execOp a.eval o).run Tryd.prog W = .ok (.value (.pointer (some ⟨g, j, none⟩))) W)
  (rL : ∀ (a : Act) (q : Operand) (A : Addr) (v : Value) (W : World) (o : Oper), a.eval q = .pointer (some A) → W.cell? A = some v → o.op = .load ty q → (execOp a.eval o).run Tryd.prog W = .ok (.value v) W)
  (rN : ∀ (a : Act) (q : Nat) (W : World) (o : Oper), a.eval (.tmp q) = v → o.op = .call { callee := .builtin .len, args := #[.tmp q], argTypes := #[ty] } → (execOp a.eval o).run Tryd.prog W = .ok (.value (.int .i64 n)) W)
  (ca : w.cell? ⟨g, j, none⟩ = some v)
  (hk : ∀ a', KN N a' [(m + 5, .bool (d || decide (k < n))), (1, ptr g)] → wpList Tryd.prog ops Q (ops.toList.drop (i + 1 + 1 + 1 + 1 + 1 + 1)) a' w) : wpList Tryd.prog ops Q (ops.toList.drop i) a w := by
 refine ls_val (.bool d) o0 want_none (fun o ho => run_mv (h.at (by simp)) ho) ?_
 have h1 := h.to m (.bool d) [(1, ptr g)] (by omega) (by simp <;> omega)
 generalize a.put _ _ = a1 at h1 ⊢
 have hw : ∀ (x : Act) (l : List (Nat × Value)), KN N x l → (m, Value.bool d) ∈ l → want ops x (some (i, false)) (d == false) := fun x l hx hl => want_some hx i m false d o0.dst hl
 cases d with
 | true =>
  refine ls_off o1 (hw _ _ h1 (by simp)) ?_
  have h2 := h1.to (m + 1) undef [(m, .bool true), (1, ptr g)] (by omega) (by simp <;> omega)
  generalize a1.put _ _ = a2 at h2 ⊢
  refine ls_off o2 (hw _ _ h2 (by simp)) ?_
  have h3 := h2.to (m + 2) undef [(m, .bool true), (1, ptr g)] (by omega) (by simp <;> omega)
  generalize a2.put _ _ = a3 at h3 ⊢
  refine ls_off o3 (hw _ _ h3 (by simp)) ?_
  have h4 := h3.to (m + 3) undef [(m, .bool true), (1, ptr g)] (by omega) (by simp <;> omega)
  generalize a3.put _ _ = a4 at h4 ⊢
  refine ls_off o4 (hw _ _ h4 (by simp)) ?_
  have h5 := h4.to (m + 4) undef [(m, .bool true), (1, ptr g)] (by omega) (by simp <;> omega)
  generalize a4.put _ _ = a5 at h5 ⊢
  refine ls_val (.bool true) o5 want_none (fun o ho => run_pick (b := true) (h5.at (by simp)) rfl rfl ho) ?_
  exact hk _ (h5.to (m + 5) (.bool true) [(1, ptr g)] (by omega) (by simp <;> omega))
 | false =>
  refine ls_val (.pointer (some ⟨g, j, none⟩)) o1 (hw _ _ h1 (by simp)) (fun o ho => rF _ _ _ _ _ (h1.at (by simp)) ho) ?_
  have h2 := h1.to (m + 1) (.pointer (some ⟨g, j, none⟩)) [(m, .bool false), (1, ptr g)] (by omega) (by simp <;> omega)
  generalize a1.put _ _ = a2 at h2 ⊢
  refine ls_val v o2 (hw _ _ h2 (by simp)) (fun o ho => rL _ _ _ _ _ _ (h2.at (by simp)) ca ho) ?_
  have h3 := h2.to (m + 2) v [(m, .bool false), (1, ptr g)] (by omega) (by simp <;> omega)
  generalize a2.put _ _ = a3 at h3 ⊢
  refine ls_val (.int .i64 n) o3 (hw _ _ h3 (by simp)) (fun o ho => rN _ _ _ _ (h3.at (by simp)) ho) ?_
  have h4 := h3.to (m + 3) (.int .i64 n) [(m, .bool false), (1, ptr g)] (by omega) (by simp <;> omega)
  generalize a3.put _ _ = a4 at h4 ⊢
  refine ls_val (.bool (decide (k < n))) o4 (hw _ _ h4 (by simp)) (fun o ho => gtr_3 n k _ _ _ _ (h4.at (by simp)) ho) ?_
  have h5 := h4.to (m + 4) (.bool (decide (k < n))) [(m, .bool false), (1, ptr g)] (by omega) (by simp <;> omega)
  generalize a4.put _ _ = a5 at h5 ⊢
  refine ls_val (.bool (decide (k < n))) o5 want_none (fun o ho => run_pick (b := false) (h5.at (by simp)) rfl (h5.at (by simp)) ho) ?_
  exact hk _ (h5.to (m + 5) (.bool (decide (k < n))) [(1, ptr g)] (by omega) (by simp <;> omega))
theorem tln {ops : Array Oper} {Q : Exit → Act → World → Prop} {a : Act} {w : World} {i N m p j : Nat} {ty : TypeId} {g : Nat} {v : Value} {n k : Int} {d : Bool} (h : KN N a [(p, .bool d), (1, ptr g)])
  (rF : ∀ (a : Act) (q : Operand) (g : Nat) (W : World) (o : Oper), a.eval q = ptr g → o.op = .fieldAddr 26 q j → (execOp a.eval o).run Tryd.prog W = .ok (.value (.pointer (some ⟨g, j, none⟩))) W)
  (rL : ∀ (a : Act) (q : Operand) (A : Addr) (v : Value) (W : World) (o : Oper), a.eval q = .pointer (some A) → W.cell? A = some v → o.op = .load ty q → (execOp a.eval o).run Tryd.prog W = .ok (.value v) W)
  (rN : ∀ (a : Act) (q : Nat) (W : World) (o : Oper), a.eval (.tmp q) = v → o.op = .call { callee := .builtin .len, args := #[.tmp q], argTypes := #[ty] } → (execOp a.eval o).run Tryd.prog W = .ok (.value (.int .i64 n)) W)
  (ca : w.cell? ⟨g, j, none⟩ = some v)
  (hk : ∀ a', KN N a' [(m + 5, .bool (d || decide (k < n))), (1, ptr g)] → wpList Tryd.prog ops Q (ops.toList.drop (i + 1 + 1 + 1 + 1 + 1 + 1)) a' w)
  (o0 : OpAt ops i (some m) (.move (.tmp p)) none := by rfl)
  (o1 : OpAt ops (i + 1) (some (m + 1)) (.fieldAddr 26 (.tmp 1) j) (some (i, false)) := by rfl)
  (o2 : OpAt ops (i + 1 + 1) (some (m + 2)) (.load ty (.tmp (m + 1))) (some (i, false)) := by rfl)
  (o3 : OpAt ops (i + 1 + 1 + 1) (some (m + 3)) (.call { callee := .builtin .len, args := #[.tmp (m + 2)], argTypes := #[ty] }) (some (i, false)) := by rfl)
  (o4 : OpAt ops (i + 1 + 1 + 1 + 1) (some (m + 4)) (.binOp .gtr 3 (.tmp (m + 3)) (.const (.int .i64 k)) 3) (some (i, false)) := by rfl)
  (o5 : OpAt ops (i + 1 + 1 + 1 + 1 + 1) (some (m + 5)) (.pick (.tmp m) (.const (.bool true)) (.tmp (m + 4))) none := by rfl)
  (hm : 3 < m := by decide) (hp : 3 < p := by decide) (hN : m + 5 < N := by decide) : wpList Tryd.prog ops Q (ops.toList.drop i) a w := test_len g v n k d h o0 o1 o2 o3 o4 o5 hm hp hN rF rL rN ca hk
def heavy1 (a : AskP) : Bool := ((((((((decide ((300 : Int) < ((strOfNums a.x1).size : Int)) || decide ((300 : Int) < ((strOfNums a.x2).size : Int))) || decide ((3000 : Int) < (a.x4.length : Int))) || decide ((100 : Int) < (a.x5.length : Int))) || decide ((300 : Int) < ((strOfNums a.x6).size : Int))) || decide ((300 : Int) < ((strOfNums a.x7).size : Int))) || decide ((300 : Int) < ((strOfNums a.x8).size : Int))) || decide ((100 : Int) < (a.x9.length : Int))) || decide ((100 : Int) < (a.x10.length : Int)))
theorem heavy1_row (a : AskP) (g : Nat) (ca : Array Value) (W : World) (RA : AskIn W g ca a) (a0 : Act) (h0 : KN 95 a0 [(1, ptr g)]) (Q : Exit → Act → World → Prop)
  (hk : ∀ a', KN 95 a' [(54, .bool (heavy1 a)), (1, ptr g)] → Q .normal a' W) : Code.wp Tryd.prog (.region 1 (opsR 1 Tryd.f12.body) false) Q a0 W := by
 refine wp_region_list ?_
 have hz : (opsR 1 Tryd.f12.body).size = 52 := by kernel_rfl
 have c1 : W.cell? ⟨g, 1, none⟩ = some (.string (strOfNums a.x1)) := RA.cellS _ _ (by obtain ⟨v, hv, rfl⟩ := RA.2.get 1 (by decide); exact hv)
 have c2 : W.cell? ⟨g, 2, none⟩ = some (.string (strOfNums a.x2)) := RA.cellS _ _ (by obtain ⟨v, hv, rfl⟩ := RA.2.get 2 (by decide); exact hv)
 obtain ⟨A4, k4, c4, -, -⟩ := RA.body
 obtain ⟨A5, k5, c5, -, -⟩ := RA.oct 0 (by decide)
 have c6 : W.cell? ⟨g, 6, none⟩ = some (.string (strOfNums a.x6)) := RA.cellS _ _ (by obtain ⟨v, hv, rfl⟩ := RA.2.get 6 (by decide); exact hv)
 have c7 : W.cell? ⟨g, 7, none⟩ = some (.string (strOfNums a.x7)) := RA.cellS _ _ (by obtain ⟨v, hv, rfl⟩ := RA.2.get 7 (by decide); exact hv)
 have c8 : W.cell? ⟨g, 8, none⟩ = some (.string (strOfNums a.x8)) := RA.cellS _ _ (by obtain ⟨v, hv, rfl⟩ := RA.2.get 8 (by decide); exact hv)
 obtain ⟨A9, k9, c9, -, -⟩ := RA.oct 1 (by decide)
 obtain ⟨A10, k10, c10, -, -⟩ := RA.oct 2 (by decide)
 show wpList Tryd.prog (opsR 1 Tryd.f12.body) Q ((opsR 1 Tryd.f12.body).toList.drop 0) a0 W
 refine ls_val (.pointer (some ⟨g, 1, none⟩)) (oa rfl) want_none (fun o ho => (fld 1 (by decide)) _ _ g _ _ (h0.at (by simp)) ho) ?_
 have h1 := h0.to 3 (.pointer (some ⟨g, 1, none⟩)) [(1, ptr g)] (by decide) (by simp)
 generalize a0.put _ _ = a1 at h1 ⊢
 refine ls_val (.string (strOfNums a.x1)) (oa rfl) want_none (fun o ho => lod_9 _ _ _ _ _ _ (h1.at (by simp)) c1 ho) ?_
 have h2 := h1.to 4 (.string (strOfNums a.x1)) [(1, ptr g)] (by decide) (by simp)
 generalize a1.put _ _ = a2 at h2 ⊢
 refine ls_val (.int .i64 ((strOfNums a.x1).size : Int)) (oa rfl) want_none (fun o ho => (fun a q W o => len_9 _ a q W o) _ _ _ _ (h2.at (by simp)) ho) ?_
 have h3 := h2.to 5 (.int .i64 ((strOfNums a.x1).size : Int)) [(1, ptr g)] (by decide) (by simp)
 generalize a2.put _ _ = a3 at h3 ⊢
 refine ls_val (.bool (decide ((300 : Int) < ((strOfNums a.x1).size : Int)))) (oa rfl) want_none (fun o ho => gtr_3 _ _ _ _ _ _ (h3.at (by simp)) ho) ?_
 have s0 := h3.to 6 (.bool (decide ((300 : Int) < ((strOfNums a.x1).size : Int)))) [(1, ptr g)] (by decide) (by simp)
 generalize a3.put _ _ = b0 at s0 ⊢
 refine tln s0 (fld 2 (by decide)) lod_9 (fun a q W o => len_9 _ a q W o) c2 fun b1 s1 => ?_
 refine tln s1 (fld 4 (by decide)) lod_22 (fun a q W o => len_22 A4 _ k4 a q W o) c4 fun b2 s2 => ?_
 refine tln s2 (fld 5 (by decide)) lod_22 (fun a q W o => len_22 A5 _ k5 a q W o) c5 fun b3 s3 => ?_
 refine tln s3 (fld 6 (by decide)) lod_9 (fun a q W o => len_9 _ a q W o) c6 fun b4 s4 => ?_
 refine tln s4 (fld 7 (by decide)) lod_9 (fun a q W o => len_9 _ a q W o) c7 fun b5 s5 => ?_
 refine tln s5 (fld 8 (by decide)) lod_9 (fun a q W o => len_9 _ a q W o) c8 fun b6 s6 => ?_
 refine tln s6 (fld 9 (by decide)) lod_22 (fun a q W o => len_22 A9 _ k9 a q W o) c9 fun b7 s7 => ?_
 refine tln s7 (fld 10 (by decide)) lod_22 (fun a q W o => len_22 A10 _ k10 a q W o) c10 fun b8 s8 => ?_
 have hd : (opsR 1 Tryd.f12.body).toList.drop 52 = [] := by rw [List.drop_eq_nil_of_le (by rw [Array.length_toList, hz]; exact Nat.le_refl _)]
 show wpList Tryd.prog (opsR 1 Tryd.f12.body) Q ((opsR 1 Tryd.f12.body).toList.drop 52) _ W
 rw [hd]
 exact hk _ s8
def heavy3 (a : AskP) : Bool := ((((((decide ((300 : Int) < ((strOfNums a.x12).size : Int)) || decide ((300 : Int) < ((strOfNums a.x13).size : Int))) || decide ((300 : Int) < ((strOfNums a.x14).size : Int))) || decide ((300 : Int) < ((strOfNums a.x16).size : Int))) || decide ((300 : Int) < ((strOfNums a.x17).size : Int))) || decide ((100 : Int) < (a.x19.length : Int))) || decide ((60 : Int) < (a.x22.length : Int)))
theorem heavy3_row (a : AskP) (g : Nat) (ca : Array Value) (W : World) (RA : AskIn W g ca a) (a0 : Act) (h0 : KN 95 a0 [(1, ptr g)]) (Q : Exit → Act → World → Prop)
  (hk : ∀ a', KN 95 a' [(94, .bool (heavy3 a)), (1, ptr g)] → Q .normal a' W) : Code.wp Tryd.prog (.region 3 (opsR 3 Tryd.f12.body) false) Q a0 W := by
 refine wp_region_list ?_
 have hz : (opsR 3 Tryd.f12.body).size = 40 := by kernel_rfl
 have c12 : W.cell? ⟨g, 12, none⟩ = some (.string (strOfNums a.x12)) := RA.cellS _ _ (by obtain ⟨v, hv, rfl⟩ := RA.2.get 12 (by decide); exact hv)
 have c13 : W.cell? ⟨g, 13, none⟩ = some (.string (strOfNums a.x13)) := RA.cellS _ _ (by obtain ⟨v, hv, rfl⟩ := RA.2.get 13 (by decide); exact hv)
 have c14 : W.cell? ⟨g, 14, none⟩ = some (.string (strOfNums a.x14)) := RA.cellS _ _ (by obtain ⟨v, hv, rfl⟩ := RA.2.get 14 (by decide); exact hv)
 have c16 : W.cell? ⟨g, 16, none⟩ = some (.string (strOfNums a.x16)) := RA.cellS _ _ (by obtain ⟨v, hv, rfl⟩ := RA.2.get 16 (by decide); exact hv)
 have c17 : W.cell? ⟨g, 17, none⟩ = some (.string (strOfNums a.x17)) := RA.cellS _ _ (by obtain ⟨v, hv, rfl⟩ := RA.2.get 17 (by decide); exact hv)
 obtain ⟨A19, k19, c19, -, -⟩ := RA.oct 3 (by decide)
 obtain ⟨A22, k22, c22, -, -⟩ := RA.lst
 show wpList Tryd.prog (opsR 3 Tryd.f12.body) Q ((opsR 3 Tryd.f12.body).toList.drop 0) a0 W
 refine ls_val (.pointer (some ⟨g, 12, none⟩)) (oa rfl) want_none (fun o ho => (fld 12 (by decide)) _ _ g _ _ (h0.at (by simp)) ho) ?_
 have h1 := h0.to 55 (.pointer (some ⟨g, 12, none⟩)) [(1, ptr g)] (by decide) (by simp)
 generalize a0.put _ _ = a1 at h1 ⊢
 refine ls_val (.string (strOfNums a.x12)) (oa rfl) want_none (fun o ho => lod_9 _ _ _ _ _ _ (h1.at (by simp)) c12 ho) ?_
 have h2 := h1.to 56 (.string (strOfNums a.x12)) [(1, ptr g)] (by decide) (by simp)
 generalize a1.put _ _ = a2 at h2 ⊢
 refine ls_val (.int .i64 ((strOfNums a.x12).size : Int)) (oa rfl) want_none (fun o ho => (fun a q W o => len_9 _ a q W o) _ _ _ _ (h2.at (by simp)) ho) ?_
 have h3 := h2.to 57 (.int .i64 ((strOfNums a.x12).size : Int)) [(1, ptr g)] (by decide) (by simp)
 generalize a2.put _ _ = a3 at h3 ⊢
 refine ls_val (.bool (decide ((300 : Int) < ((strOfNums a.x12).size : Int)))) (oa rfl) want_none (fun o ho => gtr_3 _ _ _ _ _ _ (h3.at (by simp)) ho) ?_
 have s0 := h3.to 58 (.bool (decide ((300 : Int) < ((strOfNums a.x12).size : Int)))) [(1, ptr g)] (by decide) (by simp)
 generalize a3.put _ _ = b0 at s0 ⊢
 refine tln s0 (fld 13 (by decide)) lod_9 (fun a q W o => len_9 _ a q W o) c13 fun b1 s1 => ?_
 refine tln s1 (fld 14 (by decide)) lod_9 (fun a q W o => len_9 _ a q W o) c14 fun b2 s2 => ?_
 refine tln s2 (fld 16 (by decide)) lod_9 (fun a q W o => len_9 _ a q W o) c16 fun b3 s3 => ?_
 refine tln s3 (fld 17 (by decide)) lod_9 (fun a q W o => len_9 _ a q W o) c17 fun b4 s4 => ?_
 refine tln s4 (fld 19 (by decide)) lod_22 (fun a q W o => len_22 A19 _ k19 a q W o) c19 fun b5 s5 => ?_
 refine tln s5 (fld 22 (by decide)) lod_24 (fun a q W o => len_24 A22 _ k22 a q W o) c22 fun b6 s6 => ?_
 have hd : (opsR 3 Tryd.f12.body).toList.drop 40 = [] := by rw [List.drop_eq_nil_of_le (by rw [Array.length_toList, hz]; exact Nat.le_refl _)]
 show wpList Tryd.prog (opsR 3 Tryd.f12.body) Q ((opsR 3 Tryd.f12.body).toList.drop 40) _ W
 rw [hd]
 exact hk _ s6
def lightS (a : AskP) : Int := if heavy1 a || heavy3 a then 1 else 0
theorem light_S {N : Nat} {a : AskP} (h : lightS a = 0) (b : AskN N a) : AskS a := by
 unfold lightS at h
 have h2 : (heavy1 a || heavy3 a) = false := by
  cases hq : (heavy1 a || heavy3 a) with
  | false => rfl
  | true => rw [hq] at h; simp at h
 simp only [Bool.or_eq_false_iff] at h2
 obtain ⟨g1, g3⟩ := h2
 unfold heavy1 at g1
 unfold heavy3 at g3
 simp only [Bool.or_eq_false_iff, decide_eq_false_iff_not, strOfNums_size] at g1 g3
 obtain ⟨⟨⟨⟨⟨⟨⟨⟨h1, h2⟩, h4⟩, h5⟩, h6⟩, h7⟩, h8⟩, h9⟩, h10⟩ := g1
 obtain ⟨⟨⟨⟨⟨⟨h12, h13⟩, h14⟩, h16⟩, h17⟩, h19⟩, h22⟩ := g3
 have bb : AskB a := ⟨⟨b.b1.1, by omega⟩, ⟨b.b2.1, by omega⟩, ⟨b.b4.1, by omega⟩, ⟨b.b5.1, by omega⟩, ⟨b.b6.1, by omega⟩, ⟨b.b7.1, by omega⟩, ⟨b.b8.1, by omega⟩, ⟨b.b9.1, by omega⟩, ⟨b.b10.1, by omega⟩, ⟨b.b12.1, by omega⟩, ⟨b.b13.1, by omega⟩, ⟨b.b14.1, by omega⟩, ⟨b.b16.1, by omega⟩, ⟨b.b17.1, by omega⟩, ⟨b.b19.1, by omega⟩⟩
 constructor <;> first | exact bb | omega
theorem body12_code : sndC (Tryd.f12.body.getD .skip) = .seq (.seq (.region 1 (opsR 1 Tryd.f12.body) false) (.cond (.tmp 54) (.seq (.region 2 (opsR 2 Tryd.f12.body) false) .ret) .skip)) (.seq (.seq (.region 3 (opsR 3 Tryd.f12.body) false) (.cond (.tmp 94) (.seq (.region 4 (opsR 4 Tryd.f12.body) false) .ret) .skip)) (.seq (.region 5 (opsR 5 Tryd.f12.body) false) .ret)) := by kernel_rfl
theorem body12 (a : AskP) (g : Nat) (ca : Array Value) (W : World) (RA : AskIn W g ca a) (a0 : Act) (h0 : KN 95 a0 [(1, ptr g)]) :
  Code.wp Tryd.prog (sndC (Tryd.f12.body.getD .skip)) (QR (fun _ _ => False) fun a' W' => KN 95 a' [(2, .int .i64 (lightS a))] ∧ W' = W) a0 W := by
 rw [body12_code]
 have z2 : (opsR 2 Tryd.f12.body).toList.drop 1 = [] := by rw [List.drop_eq_nil_of_le (by rw [Array.length_toList, show (opsR 2 Tryd.f12.body).size = 1 from by kernel_rfl]; exact Nat.le_refl _)]
 have z4 : (opsR 4 Tryd.f12.body).toList.drop 1 = [] := by rw [List.drop_eq_nil_of_le (by rw [Array.length_toList, show (opsR 4 Tryd.f12.body).size = 1 from by kernel_rfl]; exact Nat.le_refl _)]
 have z5 : (opsR 5 Tryd.f12.body).toList.drop 1 = [] := by rw [List.drop_eq_nil_of_le (by rw [Array.length_toList, show (opsR 5 Tryd.f12.body).size = 1 from by kernel_rfl]; exact Nat.le_refl _)]
 refine wp_seq (wp_seq (heavy1_row a g ca W RA a0 h0 _ fun a1 h1 => ?_))
 refine wp_cond (t := heavy1 a) (h1.at (by simp)) ?_
 cases hd : heavy1 a with
 | true =>
  rw [if_pos rfl]
  refine wp_seq (wp_region_list ?_)
  show wpList _ _ _ ((opsR 2 Tryd.f12.body).toList.drop 0) _ _
  refine ls_val (.int .i64 1) (oa rfl) want_none (fun o ho => run_assign' rfl ho) ?_
  have k := h1.to 2 (.int .i64 1) [] (by decide) (by simp)
  show wpList _ _ _ ((opsR 2 Tryd.f12.body).toList.drop 1) _ _
  rw [z2]
  refine wp_ret ?_
  rw [show lightS a = 1 from by unfold lightS; rw [hd]; rfl]
  exact ⟨k, rfl⟩
 | false =>
  rw [if_neg (by simp)]
  refine wp_skip ?_
  refine wp_seq (wp_seq (heavy3_row a g ca W RA a1 (h1.mono (by simp)) _ fun a2 h2 => ?_))
  refine wp_cond (t := heavy3 a) (h2.at (by simp)) ?_
  cases hd3 : heavy3 a with
  | true =>
   rw [if_pos rfl]
   refine wp_seq (wp_region_list ?_)
   show wpList _ _ _ ((opsR 4 Tryd.f12.body).toList.drop 0) _ _
   refine ls_val (.int .i64 1) (oa rfl) want_none (fun o ho => run_assign' rfl ho) ?_
   have k := h2.to 2 (.int .i64 1) [] (by decide) (by simp)
   show wpList _ _ _ ((opsR 4 Tryd.f12.body).toList.drop 1) _ _
   rw [z4]
   refine wp_ret ?_
   rw [show lightS a = 1 from by unfold lightS; rw [hd, hd3]; rfl]
   exact ⟨k, rfl⟩
  | false =>
   rw [if_neg (by simp)]
   refine wp_skip ?_
   refine wp_seq (wp_region_list ?_)
   show wpList _ _ _ ((opsR 5 Tryd.f12.body).toList.drop 0) _ _
   refine ls_val (.int .i64 0) (oa rfl) want_none (fun o ho => run_assign' rfl ho) ?_
   have k := h2.to 2 (.int .i64 0) [] (by decide) (by simp)
   show wpList _ _ _ ((opsR 5 Tryd.f12.body).toList.drop 1) _ _
   rw [z5]
   refine wp_ret ?_
   rw [show lightS a = 0 from by unfold lightS; rw [hd, hd3]; rfl]
   exact ⟨k, rfl⟩
theorem light_calls (ca : Array Value) (ok : Nat → Prop) (nl : Prop) (a : AskP) (w : World) (hA : AskC w ok nl ca a) :
  Calls Tryd.prog 12 #[.agg ca] w fun e w' => e = .returned (.int .i64 (lightS a)) ∧ Below w.heap.size w w' := by
 have TW := Lib.hid (OneAt.start hA)
 clear hA
 go_enter Tryd.func12, Tryd.ntmps12
 refine wp_seq_k fun K hK => ?_
 replace hK := Lib.hid hK
 go_wp2_with fail
 refine hK.out _ _ (Code.wp_mono ?_ (body12 a w.heap.size ca _ TW.out.1 _ ⟨by rfl, rfl, List.forall_mem_cons.2 ⟨⟨(by decide : (1 : Nat) < 95), rfl⟩, fun _ h => nomatch h⟩⟩))
 intro e a' W' hq
 cases e with
 | ret =>
  obtain ⟨k, rfl⟩ := hq
  refine bodyPost_ret (results_tmp rfl _ _ _) k.2.1 ?_
  rw [show a'.tmps.getD 2 undef = .int .i64 (lightS a) from k.at (n := 2) (by simp)]
  exact ⟨rfl, TW.out.2⟩
 | _ => exact (hq : False).elim
end Go.Proofs.YtjkehapbemjnpaaDoor
