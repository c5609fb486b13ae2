/- The chapter's own Same, walked by hand: long rows of tests by Chain; each condition stands in its theorem. -/
import Derived.Test.YtjkehapbemjnpaaDoorVPutT
import Derived.Test.YtjkehapbemjnpaaDoorVChain
set_option maxRecDepth 100000
set_option maxHeartbeats 4000000
namespace Go.Proofs.YtjkehapbemjnpaaDoor
open Go.RowKit Go.Proofs.YtjkehapbemjnpaaDoorW.PrintWords Go.Proofs.YtjkehapbemjnpaaDoorW.PrintLast Go.Proofs.YtjkehapbemjnpaaDoorW.PrintMore Lf Kit Cut Pl Num Chain
set_option linter.unusedVariables false
set_option linter.unusedSimpArgs false
section
variable (a : Act) (W : World) (o : Oper)
theorem fld (j : Nat) (hj : j < 24) (a : Act) (q : Operand) (g : Nat) (W : World) (o : Oper) (hq : a.eval q = ptr g) (ho : o.op = .fieldAddr 26 q j) : (execOp a.eval o).run Tryd.prog W = .ok (.value (.pointer (some ⟨g, j, none⟩))) W := by
 have hu := Tryd.underlying26
 unfold ptr at hq
 unfold execOp
 simp only [ho, hq]
 rcases j with _ | _ | _ | _ | _ | _ | _ | _ | _ | _ | _ | _ | _ | _ | _ | _ | _ | _ | _ | _ | _ | _ | _ | _ | _
 all_goals first | (exfalso; omega) | go_simp
theorem lod_3 (a : Act) (q : Operand) (A : Addr) (v : Value) (W : World) (o : Oper) (hq : a.eval q = .pointer (some A)) (hc : W.cell? A = some v) (ho : o.op = .load 3 q) : (execOp a.eval o).run Tryd.prog W = .ok (.value v) W := by
 unfold execOp
 simp only [ho, hq]
 go_simp
theorem lod_9 (a : Act) (q : Operand) (A : Addr) (v : Value) (W : World) (o : Oper) (hq : a.eval q = .pointer (some A)) (hc : W.cell? A = some v) (ho : o.op = .load 9 q) : (execOp a.eval o).run Tryd.prog W = .ok (.value v) W := by
 unfold execOp
 simp only [ho, hq]
 go_simp
theorem lod_22 (a : Act) (q : Operand) (A : Addr) (v : Value) (W : World) (o : Oper) (hq : a.eval q = .pointer (some A)) (hc : W.cell? A = some v) (ho : o.op = .load 22 q) : (execOp a.eval o).run Tryd.prog W = .ok (.value v) W := by
 unfold execOp
 simp only [ho, hq]
 go_simp
theorem lod_24 (a : Act) (q : Operand) (A : Addr) (v : Value) (W : World) (o : Oper) (hq : a.eval q = .pointer (some A)) (hc : W.cell? A = some v) (ho : o.op = .load 24 q) : (execOp a.eval o).run Tryd.prog W = .ok (.value v) W := by
 unfold execOp
 simp only [ho, hq]
 go_simp
theorem neq_3 (m n : Int) (a : Act) (x y : Operand) (W : World) (o : Oper) (hx : a.eval x = .int .i64 m) (hy : a.eval y = .int .i64 n) (ho : o.op = .binOp .neq 3 x y 3) : (execOp a.eval o).run Tryd.prog W = .ok (.value (.bool (m != n))) W := by
 unfold execOp
 simp only [ho, hx, hy]
 go_simp
theorem neq_9 (m n : ByteArray) (a : Act) (x y : Operand) (W : World) (o : Oper) (hx : a.eval x = .string m) (hy : a.eval y = .string n) (ho : o.op = .binOp .neq 9 x y 9) : (execOp a.eval o).run Tryd.prog W = .ok (.value (.bool (m.toList != n.toList))) W := by
 unfold execOp
 simp only [ho, hx, hy]
 go_simp
 simp [bne]
theorem len_24 (A : Option Addr) (n c : Nat) (a : Act) (q : Nat) (W : World) (o : Oper) (hx : a.eval (.tmp q) = .slice A n c) (ho : o.op = .call { callee := .builtin .len, args := #[.tmp q], argTypes := #[24] }) : (execOp a.eval o).run Tryd.prog W = .ok (.value (.int .i64 n)) W := by
 have hx2 : a.tmps[q]?.getD undef = .slice A n c := by
  rw [← hx, ← Array.getD_eq_getD_getElem?]
  rfl
 unfold execOp
 simp only [ho]
 go_simp
end
def rdiff (a b : AskP) : Bool := (((((((((((((((((((a.x0 != b.x0) || ((strOfNums a.x1).toList != (strOfNums b.x1).toList)) || ((strOfNums a.x2).toList != (strOfNums b.x2).toList)) || (a.x3 != b.x3)) || ((strOfNums a.x6).toList != (strOfNums b.x6).toList)) || ((strOfNums a.x7).toList != (strOfNums b.x7).toList)) || ((strOfNums a.x8).toList != (strOfNums b.x8).toList)) || (a.x11 != b.x11)) || ((strOfNums a.x12).toList != (strOfNums b.x12).toList)) || ((strOfNums a.x13).toList != (strOfNums b.x13).toList)) || ((strOfNums a.x14).toList != (strOfNums b.x14).toList)) || (a.x15 != b.x15)) || ((strOfNums a.x16).toList != (strOfNums b.x16).toList)) || ((strOfNums a.x17).toList != (strOfNums b.x17).toList)) || (a.x18 != b.x18)) || (a.x20 != b.x20)) || (a.x21 != b.x21)) || (a.x23 != b.x23)) || ((a.x22.length : Int) != (b.x22.length : Int)))
def reg1 (c : Option Code) : Code := fstC (fstC (sndC (c.getD .skip)))
theorem reg1_code : reg1 Tryd.f9.body = .region 1 (opsC (reg1 Tryd.f9.body)) false := by kernel_rfl
theorem row1 (a b : AskP) (ga gb : Nat) (ca cb : Array Value) (W : World) (RA : AskIn W ga ca a) (RB : AskIn W gb cb b) (a0 : Act) (h0 : KN 190 a0 [(2, ptr ga), (3, ptr gb)]) (Q : Exit → Act → World → Prop)
  (hk : ∀ a', KN 190 a' [(138, .bool (rdiff a b)), (2, ptr ga), (3, ptr gb)] → Q .normal a' W) : Code.wp Tryd.prog (reg1 Tryd.f9.body) Q a0 W := by
 rw [reg1_code]
 refine wp_region_list ?_
 have hz : (opsC (reg1 Tryd.f9.body)).size = 133 := by kernel_rfl
 have c0a : W.cell? ⟨ga, 0, none⟩ = some (.int .i64 a.x0) := RA.cellS _ _ (by obtain ⟨v, hv, rfl⟩ := RA.2.get 0 (by decide); exact hv)
 have c0b : W.cell? ⟨gb, 0, none⟩ = some (.int .i64 b.x0) := RB.cellS _ _ (by obtain ⟨v, hv, rfl⟩ := RB.2.get 0 (by decide); exact hv)
 have c1a : W.cell? ⟨ga, 1, none⟩ = some (.string (strOfNums a.x1)) := RA.cellS _ _ (by obtain ⟨v, hv, rfl⟩ := RA.2.get 1 (by decide); exact hv)
 have c1b : W.cell? ⟨gb, 1, none⟩ = some (.string (strOfNums b.x1)) := RB.cellS _ _ (by obtain ⟨v, hv, rfl⟩ := RB.2.get 1 (by decide); exact hv)
 have c2a : W.cell? ⟨ga, 2, none⟩ = some (.string (strOfNums a.x2)) := RA.cellS _ _ (by obtain ⟨v, hv, rfl⟩ := RA.2.get 2 (by decide); exact hv)
 have c2b : W.cell? ⟨gb, 2, none⟩ = some (.string (strOfNums b.x2)) := RB.cellS _ _ (by obtain ⟨v, hv, rfl⟩ := RB.2.get 2 (by decide); exact hv)
 have c3a : W.cell? ⟨ga, 3, none⟩ = some (.int .i64 a.x3) := RA.cellS _ _ (by obtain ⟨v, hv, rfl⟩ := RA.2.get 3 (by decide); exact hv)
 have c3b : W.cell? ⟨gb, 3, none⟩ = some (.int .i64 b.x3) := RB.cellS _ _ (by obtain ⟨v, hv, rfl⟩ := RB.2.get 3 (by decide); exact hv)
 have c6a : W.cell? ⟨ga, 6, none⟩ = some (.string (strOfNums a.x6)) := RA.cellS _ _ (by obtain ⟨v, hv, rfl⟩ := RA.2.get 6 (by decide); exact hv)
 have c6b : W.cell? ⟨gb, 6, none⟩ = some (.string (strOfNums b.x6)) := RB.cellS _ _ (by obtain ⟨v, hv, rfl⟩ := RB.2.get 6 (by decide); exact hv)
 have c7a : W.cell? ⟨ga, 7, none⟩ = some (.string (strOfNums a.x7)) := RA.cellS _ _ (by obtain ⟨v, hv, rfl⟩ := RA.2.get 7 (by decide); exact hv)
 have c7b : W.cell? ⟨gb, 7, none⟩ = some (.string (strOfNums b.x7)) := RB.cellS _ _ (by obtain ⟨v, hv, rfl⟩ := RB.2.get 7 (by decide); exact hv)
 have c8a : W.cell? ⟨ga, 8, none⟩ = some (.string (strOfNums a.x8)) := RA.cellS _ _ (by obtain ⟨v, hv, rfl⟩ := RA.2.get 8 (by decide); exact hv)
 have c8b : W.cell? ⟨gb, 8, none⟩ = some (.string (strOfNums b.x8)) := RB.cellS _ _ (by obtain ⟨v, hv, rfl⟩ := RB.2.get 8 (by decide); exact hv)
 have c11a : W.cell? ⟨ga, 11, none⟩ = some (.int .i64 a.x11) := RA.cellS _ _ (by obtain ⟨v, hv, rfl⟩ := RA.2.get 11 (by decide); exact hv)
 have c11b : W.cell? ⟨gb, 11, none⟩ = some (.int .i64 b.x11) := RB.cellS _ _ (by obtain ⟨v, hv, rfl⟩ := RB.2.get 11 (by decide); exact hv)
 have c12a : W.cell? ⟨ga, 12, none⟩ = some (.string (strOfNums a.x12)) := RA.cellS _ _ (by obtain ⟨v, hv, rfl⟩ := RA.2.get 12 (by decide); exact hv)
 have c12b : W.cell? ⟨gb, 12, none⟩ = some (.string (strOfNums b.x12)) := RB.cellS _ _ (by obtain ⟨v, hv, rfl⟩ := RB.2.get 12 (by decide); exact hv)
 have c13a : W.cell? ⟨ga, 13, none⟩ = some (.string (strOfNums a.x13)) := RA.cellS _ _ (by obtain ⟨v, hv, rfl⟩ := RA.2.get 13 (by decide); exact hv)
 have c13b : W.cell? ⟨gb, 13, none⟩ = some (.string (strOfNums b.x13)) := RB.cellS _ _ (by obtain ⟨v, hv, rfl⟩ := RB.2.get 13 (by decide); exact hv)
 have c14a : W.cell? ⟨ga, 14, none⟩ = some (.string (strOfNums a.x14)) := RA.cellS _ _ (by obtain ⟨v, hv, rfl⟩ := RA.2.get 14 (by decide); exact hv)
 have c14b : W.cell? ⟨gb, 14, none⟩ = some (.string (strOfNums b.x14)) := RB.cellS _ _ (by obtain ⟨v, hv, rfl⟩ := RB.2.get 14 (by decide); exact hv)
 have c15a : W.cell? ⟨ga, 15, none⟩ = some (.int .i64 a.x15) := RA.cellS _ _ (by obtain ⟨v, hv, rfl⟩ := RA.2.get 15 (by decide); exact hv)
 have c15b : W.cell? ⟨gb, 15, none⟩ = some (.int .i64 b.x15) := RB.cellS _ _ (by obtain ⟨v, hv, rfl⟩ := RB.2.get 15 (by decide); exact hv)
 have c16a : W.cell? ⟨ga, 16, none⟩ = some (.string (strOfNums a.x16)) := RA.cellS _ _ (by obtain ⟨v, hv, rfl⟩ := RA.2.get 16 (by decide); exact hv)
 have c16b : W.cell? ⟨gb, 16, none⟩ = some (.string (strOfNums b.x16)) := RB.cellS _ _ (by obtain ⟨v, hv, rfl⟩ := RB.2.get 16 (by decide); exact hv)
 have c17a : W.cell? ⟨ga, 17, none⟩ = some (.string (strOfNums a.x17)) := RA.cellS _ _ (by obtain ⟨v, hv, rfl⟩ := RA.2.get 17 (by decide); exact hv)
 have c17b : W.cell? ⟨gb, 17, none⟩ = some (.string (strOfNums b.x17)) := RB.cellS _ _ (by obtain ⟨v, hv, rfl⟩ := RB.2.get 17 (by decide); exact hv)
 have c18a : W.cell? ⟨ga, 18, none⟩ = some (.int .i64 a.x18) := RA.cellS _ _ (by obtain ⟨v, hv, rfl⟩ := RA.2.get 18 (by decide); exact hv)
 have c18b : W.cell? ⟨gb, 18, none⟩ = some (.int .i64 b.x18) := RB.cellS _ _ (by obtain ⟨v, hv, rfl⟩ := RB.2.get 18 (by decide); exact hv)
 have c20a : W.cell? ⟨ga, 20, none⟩ = some (.int .i64 a.x20) := RA.cellS _ _ (by obtain ⟨v, hv, rfl⟩ := RA.2.get 20 (by decide); exact hv)
 have c20b : W.cell? ⟨gb, 20, none⟩ = some (.int .i64 b.x20) := RB.cellS _ _ (by obtain ⟨v, hv, rfl⟩ := RB.2.get 20 (by decide); exact hv)
 have c21a : W.cell? ⟨ga, 21, none⟩ = some (.int .i64 a.x21) := RA.cellS _ _ (by obtain ⟨v, hv, rfl⟩ := RA.2.get 21 (by decide); exact hv)
 have c21b : W.cell? ⟨gb, 21, none⟩ = some (.int .i64 b.x21) := RB.cellS _ _ (by obtain ⟨v, hv, rfl⟩ := RB.2.get 21 (by decide); exact hv)
 have c23a : W.cell? ⟨ga, 23, none⟩ = some (.int .i64 a.x23) := RA.cellS _ _ (by obtain ⟨v, hv, rfl⟩ := RA.2.get 23 (by decide); exact hv)
 have c23b : W.cell? ⟨gb, 23, none⟩ = some (.int .i64 b.x23) := RB.cellS _ _ (by obtain ⟨v, hv, rfl⟩ := RB.2.get 23 (by decide); exact hv)
 obtain ⟨Aa, ka, c22a, -, -⟩ := RA.lst
 obtain ⟨Ab, kb, c22b, -, -⟩ := RB.lst
 have h0a := h0
 show wpList Tryd.prog (opsC (reg1 Tryd.f9.body)) Q ((opsC (reg1 Tryd.f9.body)).toList.drop 0) a0 W
 refine ls_val (.pointer (some ⟨ga, 0, none⟩)) (oa rfl) want_none (fun o ho => (fld 0 (by decide)) _ _ ga _ _ (h0.at (by simp)) ho) ?_
 have h1 := h0.to 6 (.pointer (some ⟨ga, 0, none⟩)) [(2, ptr ga), (3, ptr gb)] (by decide) (by simp)
 generalize a0.put _ _ = a1 at h1 ⊢
 refine ls_val (.int .i64 a.x0) (oa rfl) want_none (fun o ho => lod_3 _ _ _ _ _ _ (h1.at (by simp)) c0a ho) ?_
 have h2 := h1.to 7 (.int .i64 a.x0) [(2, ptr ga), (3, ptr gb)] (by decide) (by simp)
 generalize a1.put _ _ = a2 at h2 ⊢
 refine ls_val (.pointer (some ⟨gb, 0, none⟩)) (oa rfl) want_none (fun o ho => (fld 0 (by decide)) _ _ gb _ _ (h2.at (by simp)) ho) ?_
 have h3 := h2.to 8 (.pointer (some ⟨gb, 0, none⟩)) [(7, .int .i64 a.x0), (2, ptr ga), (3, ptr gb)] (by decide) (by simp)
 generalize a2.put _ _ = a3 at h3 ⊢
 refine ls_val (.int .i64 b.x0) (oa rfl) want_none (fun o ho => lod_3 _ _ _ _ _ _ (h3.at (by simp)) c0b ho) ?_
 have h4 := h3.to 9 (.int .i64 b.x0) [(7, .int .i64 a.x0), (2, ptr ga), (3, ptr gb)] (by decide) (by simp)
 generalize a3.put _ _ = a4 at h4 ⊢
 refine ls_val (.bool (a.x0 != b.x0)) (oa rfl) want_none (fun o ho => neq_3 a.x0 b.x0 _ _ _ _ _ (h4.at (by simp)) (h4.at (by simp)) ho) ?_
 have s0 := h4.to 10 (.bool (a.x0 != b.x0)) [(2, ptr ga), (3, ptr gb)] (by decide) (by simp)
 generalize a4.put _ _ = b0 at s0 ⊢
 refine tor s0 (fld 1 (by decide)) lod_9 (neq_9 _ _) c1a c1b fun b1 s1 => ?_
 refine tor s1 (fld 2 (by decide)) lod_9 (neq_9 _ _) c2a c2b fun b2 s2 => ?_
 refine tor s2 (fld 3 (by decide)) lod_3 (neq_3 _ _) c3a c3b fun b3 s3 => ?_
 refine tor s3 (fld 6 (by decide)) lod_9 (neq_9 _ _) c6a c6b fun b4 s4 => ?_
 refine tor s4 (fld 7 (by decide)) lod_9 (neq_9 _ _) c7a c7b fun b5 s5 => ?_
 refine tor s5 (fld 8 (by decide)) lod_9 (neq_9 _ _) c8a c8b fun b6 s6 => ?_
 refine tor s6 (fld 11 (by decide)) lod_3 (neq_3 _ _) c11a c11b fun b7 s7 => ?_
 refine tor s7 (fld 12 (by decide)) lod_9 (neq_9 _ _) c12a c12b fun b8 s8 => ?_
 refine tor s8 (fld 13 (by decide)) lod_9 (neq_9 _ _) c13a c13b fun b9 s9 => ?_
 refine tor s9 (fld 14 (by decide)) lod_9 (neq_9 _ _) c14a c14b fun b10 s10 => ?_
 refine tor s10 (fld 15 (by decide)) lod_3 (neq_3 _ _) c15a c15b fun b11 s11 => ?_
 refine tor s11 (fld 16 (by decide)) lod_9 (neq_9 _ _) c16a c16b fun b12 s12 => ?_
 refine tor s12 (fld 17 (by decide)) lod_9 (neq_9 _ _) c17a c17b fun b13 s13 => ?_
 refine tor s13 (fld 18 (by decide)) lod_3 (neq_3 _ _) c18a c18b fun b14 s14 => ?_
 refine tor s14 (fld 20 (by decide)) lod_3 (neq_3 _ _) c20a c20b fun b15 s15 => ?_
 refine tor s15 (fld 21 (by decide)) lod_3 (neq_3 _ _) c21a c21b fun b16 s16 => ?_
 refine tor s16 (fld 23 (by decide)) lod_3 (neq_3 _ _) c23a c23b fun b17 s17 => ?_
 generalize hD : ((((((((((((((((((a.x0 != b.x0) || ((strOfNums a.x1).toList != (strOfNums b.x1).toList)) || ((strOfNums a.x2).toList != (strOfNums b.x2).toList)) || (a.x3 != b.x3)) || ((strOfNums a.x6).toList != (strOfNums b.x6).toList)) || ((strOfNums a.x7).toList != (strOfNums b.x7).toList)) || ((strOfNums a.x8).toList != (strOfNums b.x8).toList)) || (a.x11 != b.x11)) || ((strOfNums a.x12).toList != (strOfNums b.x12).toList)) || ((strOfNums a.x13).toList != (strOfNums b.x13).toList)) || ((strOfNums a.x14).toList != (strOfNums b.x14).toList)) || (a.x15 != b.x15)) || ((strOfNums a.x16).toList != (strOfNums b.x16).toList)) || ((strOfNums a.x17).toList != (strOfNums b.x17).toList)) || (a.x18 != b.x18)) || (a.x20 != b.x20)) || (a.x21 != b.x21)) || (a.x23 != b.x23)) = d at s17
 have hR : rdiff a b = (d || ((a.x22.length : Int) != (b.x22.length : Int))) := by rw [← hD]; rfl
 rw [hR] at hk
 clear hD hR
 refine ls_val (.bool d) (oa rfl) want_none (fun o ho => run_mv (s17.at (by simp)) ho) ?_
 have h1 := s17.to 130 (.bool d) [(2, ptr ga), (3, ptr gb)] (by decide) (by simp)
 generalize b17.put _ _ = a1 at h1 ⊢
 have hw : ∀ (x : Act) (l : List (Nat × Value)), KN 190 x l → (130, Value.bool d) ∈ l → want (opsC (reg1 Tryd.f9.body)) x (some (124, false)) (d == false) := fun x l hx hl => want_some hx 124 130 false d rfl hl
 cases d with
 | true =>
  refine ls_off (oa rfl) (hw _ _ h1 (by simp)) ?_
  have h2 := h1.to 131 undef [(130, .bool true), (2, ptr ga), (3, ptr gb)] (by decide) (by simp)
  generalize a1.put _ _ = a2 at h2 ⊢
  refine ls_off (oa rfl) (hw _ _ h2 (by simp)) ?_
  have h3 := h2.to 132 undef [(130, .bool true), (2, ptr ga), (3, ptr gb)] (by decide) (by simp)
  generalize a2.put _ _ = a3 at h3 ⊢
  refine ls_off (oa rfl) (hw _ _ h3 (by simp)) ?_
  have h4 := h3.to 133 undef [(130, .bool true), (2, ptr ga), (3, ptr gb)] (by decide) (by simp)
  generalize a3.put _ _ = a4 at h4 ⊢
  refine ls_off (oa rfl) (hw _ _ h4 (by simp)) ?_
  have h5 := h4.to 134 undef [(130, .bool true), (2, ptr ga), (3, ptr gb)] (by decide) (by simp)
  generalize a4.put _ _ = a5 at h5 ⊢
  refine ls_off (oa rfl) (hw _ _ h5 (by simp)) ?_
  have h6 := h5.to 135 undef [(130, .bool true), (2, ptr ga), (3, ptr gb)] (by decide) (by simp)
  generalize a5.put _ _ = a6 at h6 ⊢
  refine ls_off (oa rfl) (hw _ _ h6 (by simp)) ?_
  have h7 := h6.to 136 undef [(130, .bool true), (2, ptr ga), (3, ptr gb)] (by decide) (by simp)
  generalize a6.put _ _ = a7 at h7 ⊢
  refine ls_off (oa rfl) (hw _ _ h7 (by simp)) ?_
  have h8 := h7.to 137 undef [(130, .bool true), (2, ptr ga), (3, ptr gb)] (by decide) (by simp)
  generalize a7.put _ _ = a8 at h8 ⊢
  refine ls_val (.bool true) (oa rfl) want_none (fun o ho => run_pick (b := true) (h8.at (by simp)) rfl rfl ho) ?_
  have h9 := h8.to 138 (.bool true) [(2, ptr ga), (3, ptr gb)] (by decide) (by simp)
  have hd : (opsC (reg1 Tryd.f9.body)).toList.drop 133 = [] := by rw [List.drop_eq_nil_of_le (by rw [Array.length_toList, hz]; exact Nat.le_refl _)]
  show wpList Tryd.prog (opsC (reg1 Tryd.f9.body)) Q ((opsC (reg1 Tryd.f9.body)).toList.drop 133) _ W
  rw [hd]
  exact hk _ h9
 | false =>
  refine ls_val (.pointer (some ⟨ga, 22, none⟩)) (oa rfl) (hw _ _ h1 (by simp)) (fun o ho => (fld 22 (by decide)) _ _ ga _ _ (h1.at (by simp)) ho) ?_
  have h2 := h1.to 131 (.pointer (some ⟨ga, 22, none⟩)) [(130, .bool false), (2, ptr ga), (3, ptr gb)] (by decide) (by simp)
  generalize a1.put _ _ = a2 at h2 ⊢
  refine ls_val (.slice Aa a.x22.length ka) (oa rfl) (hw _ _ h2 (by simp)) (fun o ho => lod_24 _ _ _ _ _ _ (h2.at (by simp)) c22a ho) ?_
  have h3 := h2.to 132 (.slice Aa a.x22.length ka) [(130, .bool false), (2, ptr ga), (3, ptr gb)] (by decide) (by simp)
  generalize a2.put _ _ = a3 at h3 ⊢
  refine ls_val (.int .i64 (a.x22.length : Int)) (oa rfl) (hw _ _ h3 (by simp)) (fun o ho => len_24 Aa a.x22.length ka _ _ _ _ (h3.at (by simp)) ho) ?_
  have h4 := h3.to 133 (.int .i64 (a.x22.length : Int)) [(130, .bool false), (2, ptr ga), (3, ptr gb)] (by decide) (by simp)
  generalize a3.put _ _ = a4 at h4 ⊢
  refine ls_val (.pointer (some ⟨gb, 22, none⟩)) (oa rfl) (hw _ _ h4 (by simp)) (fun o ho => (fld 22 (by decide)) _ _ gb _ _ (h4.at (by simp)) ho) ?_
  have h5 := h4.to 134 (.pointer (some ⟨gb, 22, none⟩)) [(133, .int .i64 (a.x22.length : Int)), (130, .bool false), (2, ptr ga), (3, ptr gb)] (by decide) (by simp)
  generalize a4.put _ _ = a5 at h5 ⊢
  refine ls_val (.slice Ab b.x22.length kb) (oa rfl) (hw _ _ h5 (by simp)) (fun o ho => lod_24 _ _ _ _ _ _ (h5.at (by simp)) c22b ho) ?_
  have h6 := h5.to 135 (.slice Ab b.x22.length kb) [(133, .int .i64 (a.x22.length : Int)), (130, .bool false), (2, ptr ga), (3, ptr gb)] (by decide) (by simp)
  generalize a5.put _ _ = a6 at h6 ⊢
  refine ls_val (.int .i64 (b.x22.length : Int)) (oa rfl) (hw _ _ h6 (by simp)) (fun o ho => len_24 Ab b.x22.length kb _ _ _ _ (h6.at (by simp)) ho) ?_
  have h7 := h6.to 136 (.int .i64 (b.x22.length : Int)) [(133, .int .i64 (a.x22.length : Int)), (130, .bool false), (2, ptr ga), (3, ptr gb)] (by decide) (by simp)
  generalize a6.put _ _ = a7 at h7 ⊢
  refine ls_val (.bool ((a.x22.length : Int) != (b.x22.length : Int))) (oa rfl) (hw _ _ h7 (by simp)) (fun o ho => neq_3 _ _ _ _ _ _ _ (h7.at (by simp)) (h7.at (by simp)) ho) ?_
  have h8 := h7.to 137 (.bool ((a.x22.length : Int) != (b.x22.length : Int))) [(130, .bool false), (2, ptr ga), (3, ptr gb)] (by decide) (by simp)
  generalize a7.put _ _ = a8 at h8 ⊢
  refine ls_val (.bool ((a.x22.length : Int) != (b.x22.length : Int))) (oa rfl) want_none (fun o ho => run_pick (b := false) (h8.at (by simp)) rfl (h8.at (by simp)) ho) ?_
  have h9 := h8.to 138 (.bool ((a.x22.length : Int) != (b.x22.length : Int))) [(2, ptr ga), (3, ptr gb)] (by decide) (by simp)
  have hd : (opsC (reg1 Tryd.f9.body)).toList.drop 133 = [] := by rw [List.drop_eq_nil_of_le (by rw [Array.length_toList, hz]; exact Nat.le_refl _)]
  show wpList Tryd.prog (opsC (reg1 Tryd.f9.body)) Q ((opsC (reg1 Tryd.f9.body)).toList.drop 133) _ W
  rw [hd]
  exact hk _ h9
theorem run_assign' {a : Act} {w : World} {o : Oper} {x : Operand} {v : Value} (hv : a.eval x = v) (h : o.op = .assign x) : (execOp a.eval o).run Tryd.prog w = .ok (.value v) w := by
 unfold execOp; rw [h, ← hv]; rfl
theorem refsame_calls (A1 : Option Addr) (c1 : Nat) (xs : List Int) (A2 : Option Addr) (c2 : Nat) (ys : List Int) (w : World) (h1 : Kd.C (Kd.int .u8) w A1 xs.length xs) (hc1 : xs.length ≤ c1) (h2 : Kd.C (Kd.int .u8) w A2 ys.length ys) (hc2 : ys.length ≤ c2) (hx : BytN xs) :
  Calls Tryd.prog 15 #[.slice A1 xs.length c1, .slice A2 ys.length c2] w fun e w' => e = .returned (.bool (decide (xs = ys))) ∧ ∃ nd, w' = w.drewN nd := by
 obtain ⟨k, hk⟩ := (ref_same xs ys hx.2).rounds
 exact (deedboxref01_Same.calls k A1 c1 xs A2 c2 ys _ w h1 hc1 h2 hc2 hk).mono fun e w' ⟨he, hd⟩ => ⟨he, drawn_ex hd⟩
def rsames (a b : AskP) : Bool := ((((decide (a.x4 = b.x4) && decide (a.o 0 = b.o 0)) && decide (a.o 1 = b.o 1)) && decide (a.o 2 = b.o 2)) && decide (a.o 3 = b.o 3))
def reg8 (c : Option Code) : Code := fstC (nthC 3 (c.getD .skip))
theorem reg8_code : reg8 Tryd.f9.body = .region 8 (opsC (reg8 Tryd.f9.body)) false := by kernel_rfl
theorem row8 (a b : AskP) (w : World) (ga gb : Nat) (ca cb : Array Value) (W : World) (TW : TwoAt w ga gb ca cb a b W) (ba : AskB a) (a0 : Act) (h0 : KN 190 a0 [(2, ptr ga), (3, ptr gb)]) (Q : Exit → Act → World → Prop)
  (hk : ∀ a' W', TwoAt w ga gb ca cb a b W' → KN 190 a' [(4, .bool (rsames a b))] → Q .normal a' W') : Code.wp Tryd.prog (reg8 Tryd.f9.body) Q a0 W := by
 rw [reg8_code]
 refine wp_region_list ?_
 have hz : (opsC (reg8 Tryd.f9.body)).size = 34 := by kernel_rfl
 obtain ⟨A1, k1, x1, l1, C1⟩ := TW.1.body
 obtain ⟨A2, k2, x2, l2, C2⟩ := TW.2.1.body
 show wpList Tryd.prog (opsC (reg8 Tryd.f9.body)) Q ((opsC (reg8 Tryd.f9.body)).toList.drop 0) a0 W
 refine ls_val (.pointer (some ⟨ga, 4, none⟩)) (oa rfl) want_none (fun o ho => (fld 4 (by decide)) _ _ ga _ _ (h0.at (by simp)) ho) ?_
 have h1 := h0.to 157 (.pointer (some ⟨ga, 4, none⟩)) [(2, ptr ga), (3, ptr gb)] (by decide) (by simp)
 generalize a0.put _ _ = a1 at h1 ⊢
 refine ls_val (.slice A1 a.x4.length k1) (oa rfl) want_none (fun o ho => lod_22 _ _ _ _ _ _ (h1.at (by simp)) x1 ho) ?_
 have h2 := h1.to 158 (.slice A1 a.x4.length k1) [(2, ptr ga), (3, ptr gb)] (by decide) (by simp)
 generalize a1.put _ _ = a2 at h2 ⊢
 refine ls_val (.pointer (some ⟨gb, 4, none⟩)) (oa rfl) want_none (fun o ho => (fld 4 (by decide)) _ _ gb _ _ (h2.at (by simp)) ho) ?_
 have h3 := h2.to 159 (.pointer (some ⟨gb, 4, none⟩)) [(158, .slice A1 a.x4.length k1), (2, ptr ga), (3, ptr gb)] (by decide) (by simp)
 generalize a2.put _ _ = a3 at h3 ⊢
 refine ls_val (.slice A2 b.x4.length k2) (oa rfl) want_none (fun o ho => lod_22 _ _ _ _ _ _ (h3.at (by simp)) x2 ho) ?_
 have h4 := h3.to 160 (.slice A2 b.x4.length k2) [(158, .slice A1 a.x4.length k1), (2, ptr ga), (3, ptr gb)] (by decide) (by simp)
 generalize a3.put _ _ = a4 at h4 ⊢
 refine ls_call Tryd.func15 (by kernel_rfl) rfl #[.slice A1 a.x4.length k1, .slice A2 b.x4.length k2] (oa rfl) want_none (by simp only [List.map_toArray, List.map_cons, List.map_nil, h4.at (n := 158) (v := .slice A1 a.x4.length k1) (by simp), h4.at (n := 160) (v := .slice A2 b.x4.length k2) (by simp)]) ((refsame_calls A1 k1 a.x4 A2 k2 b.x4 W C1 l1 C2 l2 ba.b4).mono ?_)
 rintro e W0 ⟨rfl, ⟨nd, hnd⟩⟩
 refine ⟨_, rfl, ?_⟩
 have I0 : TwoAt w ga gb ca cb a b W0 := by rw [hnd]; exact TW.drewN nd
 clear x1 x2 C1 C2 TW hnd
 have s0 := h4.to 161 (.bool (decide (a.x4 = b.x4))) [(2, ptr ga), (3, ptr gb)] (by decide) (by simp)
 generalize a4.put _ _ = b0 at s0 ⊢
 obtain ⟨A1, k1, x1, l1, C1⟩ := I0.1.oct 0 (by decide)
 obtain ⟨A2, k2, x2, l2, C2⟩ := I0.2.1.oct 0 (by decide)
 refine test_and (i := 5) (m := 162) (p := 161) (j := 5) (ty := 22) (fun W => TwoAt w ga gb ca cb a b W) ga gb (.slice A1 (a.o 0).length k1) (.slice A2 (b.o 0).length k2) (decide (a.x4 = b.x4)) (decide (a.o 0 = b.o 0)) s0 Tryd.func15 (by kernel_rfl) rfl (oa rfl) (oa rfl) (oa rfl) (oa rfl) (oa rfl) (oa rfl) (oa rfl) (by decide) (by decide) (by decide) (fld 5 (by decide)) lod_22 ((refsame_calls A1 k1 (a.o 0) A2 k2 (b.o 0) W0 C1 l1 C2 l2 (ba.o 0)).mono fun e w' ⟨h1, ⟨nd, h2⟩⟩ => ⟨h1, by rw [h2]; exact I0.drewN nd⟩) I0 x1 x2 ?_
 intro b1 W1 I1 s1
 clear x1 x2 C1 C2 I0
 obtain ⟨A1, k1, x1, l1, C1⟩ := I1.1.oct 1 (by decide)
 obtain ⟨A2, k2, x2, l2, C2⟩ := I1.2.1.oct 1 (by decide)
 refine test_and (i := 12) (m := 169) (p := 168) (j := 9) (ty := 22) (fun W => TwoAt w ga gb ca cb a b W) ga gb (.slice A1 (a.o 1).length k1) (.slice A2 (b.o 1).length k2) ((decide (a.x4 = b.x4) && decide (a.o 0 = b.o 0))) (decide (a.o 1 = b.o 1)) s1 Tryd.func15 (by kernel_rfl) rfl (oa rfl) (oa rfl) (oa rfl) (oa rfl) (oa rfl) (oa rfl) (oa rfl) (by decide) (by decide) (by decide) (fld 9 (by decide)) lod_22 ((refsame_calls A1 k1 (a.o 1) A2 k2 (b.o 1) W1 C1 l1 C2 l2 (ba.o 1)).mono fun e w' ⟨h1, ⟨nd, h2⟩⟩ => ⟨h1, by rw [h2]; exact I1.drewN nd⟩) I1 x1 x2 ?_
 intro b2 W2 I2 s2
 clear x1 x2 C1 C2 I1
 obtain ⟨A1, k1, x1, l1, C1⟩ := I2.1.oct 2 (by decide)
 obtain ⟨A2, k2, x2, l2, C2⟩ := I2.2.1.oct 2 (by decide)
 refine test_and (i := 19) (m := 176) (p := 175) (j := 10) (ty := 22) (fun W => TwoAt w ga gb ca cb a b W) ga gb (.slice A1 (a.o 2).length k1) (.slice A2 (b.o 2).length k2) (((decide (a.x4 = b.x4) && decide (a.o 0 = b.o 0)) && decide (a.o 1 = b.o 1))) (decide (a.o 2 = b.o 2)) s2 Tryd.func15 (by kernel_rfl) rfl (oa rfl) (oa rfl) (oa rfl) (oa rfl) (oa rfl) (oa rfl) (oa rfl) (by decide) (by decide) (by decide) (fld 10 (by decide)) lod_22 ((refsame_calls A1 k1 (a.o 2) A2 k2 (b.o 2) W2 C1 l1 C2 l2 (ba.o 2)).mono fun e w' ⟨h1, ⟨nd, h2⟩⟩ => ⟨h1, by rw [h2]; exact I2.drewN nd⟩) I2 x1 x2 ?_
 intro b3 W3 I3 s3
 clear x1 x2 C1 C2 I2
 obtain ⟨A1, k1, x1, l1, C1⟩ := I3.1.oct 3 (by decide)
 obtain ⟨A2, k2, x2, l2, C2⟩ := I3.2.1.oct 3 (by decide)
 refine test_and (i := 26) (m := 183) (p := 182) (j := 19) (ty := 22) (fun W => TwoAt w ga gb ca cb a b W) ga gb (.slice A1 (a.o 3).length k1) (.slice A2 (b.o 3).length k2) ((((decide (a.x4 = b.x4) && decide (a.o 0 = b.o 0)) && decide (a.o 1 = b.o 1)) && decide (a.o 2 = b.o 2))) (decide (a.o 3 = b.o 3)) s3 Tryd.func15 (by kernel_rfl) rfl (oa rfl) (oa rfl) (oa rfl) (oa rfl) (oa rfl) (oa rfl) (oa rfl) (by decide) (by decide) (by decide) (fld 19 (by decide)) lod_22 ((refsame_calls A1 k1 (a.o 3) A2 k2 (b.o 3) W3 C1 l1 C2 l2 (ba.o 3)).mono fun e w' ⟨h1, ⟨nd, h2⟩⟩ => ⟨h1, by rw [h2]; exact I3.drewN nd⟩) I3 x1 x2 ?_
 intro b4 W4 I4 s4
 clear x1 x2 C1 C2 I3
 refine ls_val (.bool (rsames a b)) (oa rfl) want_none (fun o ho => run_assign' (s4.at (by simp [rsames])) ho) ?_
 have h9 := s4.to 4 (.bool (rsames a b)) [] (by decide) (by simp)
 have hd : (opsC (reg8 Tryd.f9.body)).toList.drop 34 = [] := by rw [List.drop_eq_nil_of_le (by rw [Array.length_toList, hz]; exact Nat.le_refl _)]
 show wpList Tryd.prog (opsC (reg8 Tryd.f9.body)) Q ((opsC (reg8 Tryd.f9.body)).toList.drop 34) _ W4
 rw [hd]
 exact hk _ _ I4 h9
def findR (n : Nat) : Code → Option (Array Oper)
 | .region id ops _ => if id = n then some ops else none
 | .seq a b => (findR n a).orElse fun _ => findR n b
 | .cond _ a b => (findR n a).orElse fun _ => findR n b
 | .block _ c => findR n c
 | .loop c => findR n c
 | _ => none
def opsR (n : Nat) (c : Option Code) : Array Oper := (findR n (c.getD .skip)).getD #[]
def lc9 (c : Option Code) : Code := fstC (nthC 2 (c.getD .skip))
theorem lc9_code : lc9 Tryd.f9.body = .seq (.region 3 (opsR 3 Tryd.f9.body) false) (.block 0 (.loop (.seq (.seq (.region 4 (opsR 4 Tryd.f9.body) false) (.cond (.tmp 143) .skip (.exit 0))) (.seq (.block 1 (.seq (.region 6 (opsR 6 Tryd.f9.body) true) (.cond (.tmp 156) (.seq (.region 7 (opsR 7 Tryd.f9.body) false) .ret) .skip))) (.region 5 (opsR 5 Tryd.f9.body) false))))) := by kernel_rfl
def QR (Kn Kr : Act → World → Prop) : Exit → Act → World → Prop
 | .normal, a, w => Kn a w
 | .ret, a, w => Kr a w
 | _, _, _ => False
theorem yif {P : Program} {ops : Array Oper} {S : World → Prop} {o : Oper} {v : Value} {a : Act} (hg : o.guard = none) (h : ∀ W, S W → (execOp a.eval o).run P W = .ok (.value v) W) : YieldsIf P ops S o v a := .inl ⟨by simp [Region.wanted, hg], h⟩
theorem idx_24 (ad : Addr) (n c j : Nat) (a : Act) (x y : Operand) (W : World) (o : Oper) (hx : a.eval x = .slice (some ad) n c) (hy : a.eval y = .int .i64 j) (hj : j < n) (ho : o.op = .indexAddr 24 x y) : (execOp a.eval o).run Tryd.prog W = .ok (.value (.pointer (some (ad.add j)))) W := by
 have hu := Tryd.underlying24
 have h1 : (j : Int) < (n : Int) := by omega
 unfold execOp
 simp only [ho, hx, hy]
 go_simp
theorem lss_3 (m n : Int) (a : Act) (x y : Operand) (W : World) (o : Oper) (hx : a.eval x = .int .i64 m) (hy : a.eval y = .int .i64 n) (ho : o.op = .binOp .lss 3 x y 3) : (execOp a.eval o).run Tryd.prog W = .ok (.value (.bool (decide (m < n)))) W := by
 unfold execOp
 simp only [ho, hx, hy]
 go_simp
theorem inc_3 (m : Nat) (a : Act) (x : Operand) (W : World) (o : Oper) (hm : m + 1 ≤ 9223372036854775807) (hx : a.eval x = .int .i64 (m : Int)) (ho : o.op = .binOp .add 3 x (.const (.int .i64 1)) 3) : (execOp a.eval o).run Tryd.prog W = .ok (.value (.int .i64 ((m + 1 : Nat) : Int))) W := by
 have h1 : (m : Int) + 1 ≤ 9223372036854775807 := by omega
 unfold execOp
 simp only [ho, hx]
 go_simp
 rw [IntKind.wrap_i64]
 omega
theorem loop9 (a b : AskP) (w : World) (ga gb : Nat) (ca cb : Array Value) (W : World) (TW : TwoAt w ga gb ca cb a b W) (hll : a.x22.length = b.x22.length) (a0 : Act) (h0 : KN 190 a0 [(2, ptr ga), (3, ptr gb)]) (Kn Kr : Act → World → Prop)
  (hn : ∀ a' W', TwoAt w ga gb ca cb a b W' → a.x22 = b.x22 → KN 190 a' [(2, ptr ga), (3, ptr gb)] → Kn a' W')
  (hr : ∀ a' W', TwoAt w ga gb ca cb a b W' → a.x22 ≠ b.x22 → KN 190 a' [(4, .bool false)] → Kr a' W') : Code.wp Tryd.prog (lc9 Tryd.f9.body) (QR Kn Kr) a0 W := by
 rw [lc9_code]
 obtain ⟨e0, i0, d0, v0, g0⟩ := op_at (show (opsR 6 Tryd.f9.body)[0]?.map (fun o => (o.dst, o.op, o.guard)) = some (some 146, .fieldAddr 26 (.tmp 2) 22, none) by kernel_rfl)
 obtain ⟨e1, i1, d1, v1, g1⟩ := op_at (show (opsR 6 Tryd.f9.body)[1]?.map (fun o => (o.dst, o.op, o.guard)) = some (some 147, .load 24 (.tmp 146), none) by kernel_rfl)
 obtain ⟨e2, i2, d2, v2, g2⟩ := op_at (show (opsR 6 Tryd.f9.body)[2]?.map (fun o => (o.dst, o.op, o.guard)) = some (some 148, .move (.tmp 5), none) by kernel_rfl)
 obtain ⟨e3, i3, d3, v3, g3⟩ := op_at (show (opsR 6 Tryd.f9.body)[3]?.map (fun o => (o.dst, o.op, o.guard)) = some (some 149, .indexAddr 24 (.tmp 147) (.tmp 148), none) by kernel_rfl)
 obtain ⟨e4, i4, d4, v4, g4⟩ := op_at (show (opsR 6 Tryd.f9.body)[4]?.map (fun o => (o.dst, o.op, o.guard)) = some (some 150, .load 3 (.tmp 149), none) by kernel_rfl)
 obtain ⟨e5, i5, d5, v5, g5⟩ := op_at (show (opsR 6 Tryd.f9.body)[5]?.map (fun o => (o.dst, o.op, o.guard)) = some (some 151, .fieldAddr 26 (.tmp 3) 22, none) by kernel_rfl)
 obtain ⟨e6, i6, d6, v6, g6⟩ := op_at (show (opsR 6 Tryd.f9.body)[6]?.map (fun o => (o.dst, o.op, o.guard)) = some (some 152, .load 24 (.tmp 151), none) by kernel_rfl)
 obtain ⟨e7, i7, d7, v7, g7⟩ := op_at (show (opsR 6 Tryd.f9.body)[7]?.map (fun o => (o.dst, o.op, o.guard)) = some (some 153, .move (.tmp 5), none) by kernel_rfl)
 obtain ⟨e8, i8, d8, v8, g8⟩ := op_at (show (opsR 6 Tryd.f9.body)[8]?.map (fun o => (o.dst, o.op, o.guard)) = some (some 154, .indexAddr 24 (.tmp 152) (.tmp 153), none) by kernel_rfl)
 obtain ⟨e9, i9, d9, v9, g9⟩ := op_at (show (opsR 6 Tryd.f9.body)[9]?.map (fun o => (o.dst, o.op, o.guard)) = some (some 155, .load 3 (.tmp 154), none) by kernel_rfl)
 obtain ⟨e10, i10, d10, v10, g10⟩ := op_at (show (opsR 6 Tryd.f9.body)[10]?.map (fun o => (o.dst, o.op, o.guard)) = some (some 156, .binOp .neq 3 (.tmp 150) (.tmp 155) 3, none) by kernel_rfl)
 have z3 : (opsR 3 Tryd.f9.body).toList.drop 1 = [] := by rw [List.drop_eq_nil_of_le (by rw [Array.length_toList, show (opsR 3 Tryd.f9.body).size = 1 from by kernel_rfl]; exact Nat.le_refl _)]
 have z4 : (opsR 4 Tryd.f9.body).toList.drop 5 = [] := by rw [List.drop_eq_nil_of_le (by rw [Array.length_toList, show (opsR 4 Tryd.f9.body).size = 5 from by kernel_rfl]; exact Nat.le_refl _)]
 have z5 : (opsR 5 Tryd.f9.body).toList.drop 3 = [] := by rw [List.drop_eq_nil_of_le (by rw [Array.length_toList, show (opsR 5 Tryd.f9.body).size = 3 from by kernel_rfl]; exact Nat.le_refl _)]
 have z7 : (opsR 7 Tryd.f9.body).toList.drop 1 = [] := by rw [List.drop_eq_nil_of_le (by rw [Array.length_toList, show (opsR 7 Tryd.f9.body).size = 1 from by kernel_rfl]; exact Nat.le_refl _)]
 refine wp_seq (wp_region_list ?_)
 show wpList _ _ _ ((opsR 3 Tryd.f9.body).toList.drop 0) _ _
 refine ls_val (.int .i64 0) (oa rfl) want_none (fun o ho => run_assign' rfl ho) ?_
 have h1 := h0.to 5 (.int .i64 0) [(2, ptr ga), (3, ptr gb)] (by decide) (by simp)
 generalize a0.put _ _ = a1 at h1 ⊢
 show wpList _ _ _ ((opsR 3 Tryd.f9.body).toList.drop 1) _ _
 rw [z3]
 refine wp_block (wp_loop (fun x X => ∃ j : Nat, j ≤ a.x22.length ∧ KN 190 x [(5, .int .i64 j), (2, ptr ga), (3, ptr gb)] ∧ TwoAt w ga gb ca cb a b X ∧ ∀ i, i < j → a.x22[i]? = b.x22[i]?) (fun x _ => a.x22.length - (intOf (x.eval (.tmp 5))).toNat) ⟨0, Nat.zero_le _, h1, TW, fun i h => by omega⟩ ?_)
 clear h1 h0 TW
 rintro x X ⟨j, hj, s0, TX, heq⟩
 have hmu : (intOf (x.eval (.tmp 5))).toNat = j := by rw [s0.at (n := 5) (v := .int .i64 j) (by simp)]; simp [intOf]
 simp only [hmu]
 obtain ⟨A1, c1, x1, l1, C1⟩ := TX.1.lst
 obtain ⟨A2, c2, x2, l2, C2⟩ := TX.2.1.lst
 have hmax := Kd.C_max C1
 refine wp_seq (wp_seq (wp_region_list ?_))
 show wpList _ _ _ ((opsR 4 Tryd.f9.body).toList.drop 0) _ _
 refine ls_val (.int .i64 j) (oa rfl) want_none (fun o ho => run_mv (s0.at (by simp)) ho) ?_
 have s1 := s0.to 139 (.int .i64 j) [(5, .int .i64 j), (2, ptr ga), (3, ptr gb)] (by decide) (by simp)
 generalize x.put _ _ = y1 at s1 ⊢
 refine ls_val (.pointer (some ⟨ga, 22, none⟩)) (oa rfl) want_none (fun o ho => (fld 22 (by decide)) _ _ ga _ _ (s1.at (by simp)) ho) ?_
 have s2 := s1.to 140 (.pointer (some ⟨ga, 22, none⟩)) [(139, .int .i64 j), (5, .int .i64 j), (2, ptr ga), (3, ptr gb)] (by decide) (by simp)
 generalize y1.put _ _ = y2 at s2 ⊢
 refine ls_val (.slice A1 a.x22.length c1) (oa rfl) want_none (fun o ho => lod_24 _ _ _ _ _ _ (s2.at (by simp)) x1 ho) ?_
 have s3 := s2.to 141 (.slice A1 a.x22.length c1) [(139, .int .i64 j), (5, .int .i64 j), (2, ptr ga), (3, ptr gb)] (by decide) (by simp)
 generalize y2.put _ _ = y3 at s3 ⊢
 refine ls_val (.int .i64 (a.x22.length : Int)) (oa rfl) want_none (fun o ho => len_24 A1 _ c1 _ _ _ _ (s3.at (by simp)) ho) ?_
 have s4 := s3.to 142 (.int .i64 (a.x22.length : Int)) [(139, .int .i64 j), (5, .int .i64 j), (2, ptr ga), (3, ptr gb)] (by decide) (by simp)
 generalize y3.put _ _ = y4 at s4 ⊢
 refine ls_val (.bool (decide ((j : Int) < (a.x22.length : Int)))) (oa rfl) want_none (fun o ho => lss_3 _ _ _ _ _ _ _ (s4.at (by simp)) (s4.at (by simp)) ho) ?_
 have s5 := s4.to 143 (.bool (decide ((j : Int) < (a.x22.length : Int)))) [(5, .int .i64 j), (2, ptr ga), (3, ptr gb)] (by decide) (by simp)
 generalize y4.put _ _ = y5 at s5 ⊢
 show wpList _ _ _ ((opsR 4 Tryd.f9.body).toList.drop 5) _ _
 rw [z4]
 clear s1 s2 s3 s4
 refine wp_cond (t := decide ((j : Int) < (a.x22.length : Int))) (s5.at (by simp)) ?_
 by_cases hjn : j < a.x22.length
 ·rw [decide_eq_true (show (j : Int) < (a.x22.length : Int) by omega), if_pos rfl]
  refine wp_skip ?_
  obtain ⟨ad1, rfl, x3⟩ := Kd.at_int C1 (j : Int) (by omega) (by omega)
  obtain ⟨ad2, rfl, x4⟩ := Kd.at_int C2 (j : Int) (by omega) (by omega)
  rw [Int.toNat_natCast] at x3 x4
  have hrd : rd a.x22 (j : Int) = rd b.x22 (j : Int) ↔ a.x22[j]? = b.x22[j]? := by
   unfold rd
   rw [Int.toNat_natCast, List.getD_eq_getElem?_getD, List.getD_eq_getElem?_getD, List.getElem?_eq_getElem hjn, List.getElem?_eq_getElem (show j < b.x22.length by omega)]
   simp
  generalize rd a.x22 (j : Int) = m1 at x3 hrd
  generalize rd b.x22 (j : Int) = m2 at x4 hrd
  refine wp_seq (wp_block (wp_seq ?_))
  refine start_ (n := 11) (S := fun W' => W'.cell? ⟨ga, 22, none⟩ = some (.slice (some ad1) a.x22.length c1) ∧ W'.cell? ⟨gb, 22, none⟩ = some (.slice (some ad2) b.x22.length c2) ∧ W'.cell? (ad1.add j) = some (.int .i64 m1) ∧ W'.cell? (ad2.add j) = some (.int .i64 m2)) (ds := []) #[false, false, false, false, false, false, false, false, false, false, false] rfl (by kernel_rfl) (by kernel_rfl) ⟨x1, x2, x3, x4⟩ fun S0 => ?_
  have t0 := s5.mono (l' := [(5, .int .i64 j), (2, ptr ga), (3, ptr gb)]) (by simp)
  clear s5
  generalize y5 = u0 at t0 ⊢
  refine take_ #[true, false, false, false, false, false, false, false, false, false, false] i0 d0 (by kernel_rfl) (fun _ _ _ h => h) (yif (v := .pointer (some ⟨ga, 22, none⟩)) g0 fun W h => (fld 22 (by decide)) _ _ ga _ _ (t0.at (by simp)) v0) S0 rfl ?_
  have t1 := t0.to 146 (.pointer (some ⟨ga, 22, none⟩)) [(5, .int .i64 j), (2, ptr ga), (3, ptr gb)] (by decide) (by simp)
  generalize u0.put _ _ = u1 at t1 ⊢
  clear t0
  refine take_ #[true, true, false, false, false, false, false, false, false, false, false] i1 d1 (by kernel_rfl) (fun _ _ _ h => h) (yif (v := .slice (some ad1) a.x22.length c1) g1 fun W h => lod_24 _ _ _ _ _ _ (t1.at (by simp)) h.1 v1) S0 rfl ?_
  have t2 := t1.to 147 (.slice (some ad1) a.x22.length c1) [(5, .int .i64 j), (2, ptr ga), (3, ptr gb)] (by decide) (by simp)
  generalize u1.put _ _ = u2 at t2 ⊢
  clear t1
  refine take_ #[true, true, true, false, false, false, false, false, false, false, false] i2 d2 (by kernel_rfl) (fun _ _ _ h => h) (yif (v := .int .i64 j) g2 fun W h => run_mv (t2.at (by simp)) v2) S0 rfl ?_
  have t3 := t2.to 148 (.int .i64 j) [(147, .slice (some ad1) a.x22.length c1), (5, .int .i64 j), (2, ptr ga), (3, ptr gb)] (by decide) (by simp)
  generalize u2.put _ _ = u3 at t3 ⊢
  clear t2
  refine take_ #[true, true, true, true, false, false, false, false, false, false, false] i3 d3 (by kernel_rfl) (fun _ _ _ h => h) (yif (v := .pointer (some (ad1.add j))) g3 fun W h => idx_24 ad1 a.x22.length c1 j _ _ _ _ _ (t3.at (by simp)) (t3.at (by simp)) hjn v3) S0 rfl ?_
  have t4 := t3.to 149 (.pointer (some (ad1.add j))) [(5, .int .i64 j), (2, ptr ga), (3, ptr gb)] (by decide) (by simp)
  generalize u3.put _ _ = u4 at t4 ⊢
  clear t3
  refine take_ #[true, true, true, true, true, false, false, false, false, false, false] i4 d4 (by kernel_rfl) (fun _ _ _ h => h) (yif (v := .int .i64 m1) g4 fun W h => lod_3 _ _ _ _ _ _ (t4.at (by simp)) h.2.2.1 v4) S0 rfl ?_
  have t5 := t4.to 150 (.int .i64 m1) [(5, .int .i64 j), (2, ptr ga), (3, ptr gb)] (by decide) (by simp)
  generalize u4.put _ _ = u5 at t5 ⊢
  clear t4
  refine take_ #[true, true, true, true, true, true, false, false, false, false, false] i5 d5 (by kernel_rfl) (fun _ _ _ h => h) (yif (v := .pointer (some ⟨gb, 22, none⟩)) g5 fun W h => (fld 22 (by decide)) _ _ gb _ _ (t5.at (by simp)) v5) S0 rfl ?_
  have t6 := t5.to 151 (.pointer (some ⟨gb, 22, none⟩)) [(150, .int .i64 m1), (5, .int .i64 j), (2, ptr ga), (3, ptr gb)] (by decide) (by simp)
  generalize u5.put _ _ = u6 at t6 ⊢
  clear t5
  refine take_ #[true, true, true, true, true, true, true, false, false, false, false] i6 d6 (by kernel_rfl) (fun _ _ _ h => h) (yif (v := .slice (some ad2) b.x22.length c2) g6 fun W h => lod_24 _ _ _ _ _ _ (t6.at (by simp)) h.2.1 v6) S0 rfl ?_
  have t7 := t6.to 152 (.slice (some ad2) b.x22.length c2) [(150, .int .i64 m1), (5, .int .i64 j), (2, ptr ga), (3, ptr gb)] (by decide) (by simp)
  generalize u6.put _ _ = u7 at t7 ⊢
  clear t6
  refine take_ #[true, true, true, true, true, true, true, true, false, false, false] i7 d7 (by kernel_rfl) (fun _ _ _ h => h) (yif (v := .int .i64 j) g7 fun W h => run_mv (t7.at (by simp)) v7) S0 rfl ?_
  have t8 := t7.to 153 (.int .i64 j) [(150, .int .i64 m1), (152, .slice (some ad2) b.x22.length c2), (5, .int .i64 j), (2, ptr ga), (3, ptr gb)] (by decide) (by simp)
  generalize u7.put _ _ = u8 at t8 ⊢
  clear t7
  refine take_ #[true, true, true, true, true, true, true, true, true, false, false] i8 d8 (by kernel_rfl) (fun _ _ _ h => h) (yif (v := .pointer (some (ad2.add j))) g8 fun W h => idx_24 ad2 b.x22.length c2 j _ _ _ _ _ (t8.at (by simp)) (t8.at (by simp)) (by omega) v8) S0 rfl ?_
  have t9 := t8.to 154 (.pointer (some (ad2.add j))) [(150, .int .i64 m1), (5, .int .i64 j), (2, ptr ga), (3, ptr gb)] (by decide) (by simp)
  generalize u8.put _ _ = u9 at t9 ⊢
  clear t8
  refine take_ #[true, true, true, true, true, true, true, true, true, true, false] i9 d9 (by kernel_rfl) (fun _ _ _ h => h) (yif (v := .int .i64 m2) g9 fun W h => lod_3 _ _ _ _ _ _ (t9.at (by simp)) h.2.2.2 v9) S0 rfl ?_
  have t10 := t9.to 155 (.int .i64 m2) [(150, .int .i64 m1), (5, .int .i64 j), (2, ptr ga), (3, ptr gb)] (by decide) (by simp)
  generalize u9.put _ _ = u10 at t10 ⊢
  clear t9
  refine take_ #[true, true, true, true, true, true, true, true, true, true, true] i10 d10 (by kernel_rfl) (fun _ _ _ h => h) (yif (v := .bool (m1 != m2)) g10 fun W h => neq_3 m1 m2 _ _ _ _ _ (t10.at (by simp)) (t10.at (by simp)) v10) S0 rfl ?_
  have t11 := t10.to 156 (.bool (m1 != m2)) [(5, .int .i64 j), (2, ptr ga), (3, ptr gb)] (by decide) (by simp)
  generalize u10.put _ _ = u11 at t11 ⊢
  clear t10
  refine done_ (by kernel_rfl) ?_
  have TD := TX.drew
  refine wp_cond (t := (m1 != m2)) (t11.at (by simp)) ?_
  by_cases hjq : m1 = m2
  ·rw [show (m1 != m2) = false from by simpa using hjq, if_neg (by simp)]
   refine wp_skip ?_
   refine wp_region_list ?_
   show wpList _ _ _ ((opsR 5 Tryd.f9.body).toList.drop 0) _ _
   refine ls_val (.int .i64 j) (oa rfl) want_none (fun o ho => run_mv (t11.at (by simp)) ho) ?_
   have s1 := t11.to 144 (.int .i64 j) [(2, ptr ga), (3, ptr gb)] (by decide) (by simp)
   generalize u11.put _ _ = y1 at s1 ⊢
   refine ls_val (.int .i64 ((j + 1 : Nat) : Int)) (oa rfl) want_none (fun o ho => inc_3 j _ _ _ _ (by omega) (s1.at (by simp)) ho) ?_
   have s2 := s1.to 145 (.int .i64 ((j + 1 : Nat) : Int)) [(2, ptr ga), (3, ptr gb)] (by decide) (by simp)
   generalize y1.put _ _ = y2 at s2 ⊢
   refine ls_val (.int .i64 ((j + 1 : Nat) : Int)) (oa rfl) want_none (fun o ho => run_assign' (s2.at (by simp)) ho) ?_
   have s3 := s2.to 5 (.int .i64 ((j + 1 : Nat) : Int)) [(2, ptr ga), (3, ptr gb)] (by decide) (by simp)
   generalize y2.put _ _ = y3 at s3 ⊢
   show wpList _ _ _ ((opsR 5 Tryd.f9.body).toList.drop 3) _ _
   rw [z5]
   have hm2 : (intOf (y3.eval (.tmp 5))).toNat = j + 1 := by rw [s3.at (n := 5) (v := .int .i64 ((j + 1 : Nat) : Int)) (by simp)]; simp only [intOf]; omega
   refine ⟨⟨j + 1, by omega, s3, TD, fun i hi => ?_⟩, by simp only [hm2]; omega⟩
   by_cases h : i = j
   ·rw [h]; exact hrd.1 hjq
   ·exact heq i (by omega)
  ·rw [show (m1 != m2) = true from by simpa using hjq, if_pos rfl]
   refine wp_seq (wp_region_list ?_)
   show wpList _ _ _ ((opsR 7 Tryd.f9.body).toList.drop 0) _ _
   refine ls_val (.bool false) (oa rfl) want_none (fun o ho => run_assign' rfl ho) ?_
   have s1 := t11.to 4 (.bool false) [] (by decide) (by simp)
   generalize u11.put _ _ = y1 at s1 ⊢
   show wpList _ _ _ ((opsR 7 Tryd.f9.body).toList.drop 1) _ _
   rw [z7]
   refine wp_ret ?_
   exact hr _ _ TD (fun h => hjq (hrd.2 (by rw [h]))) s1
 ·rw [decide_eq_false (show ¬ (j : Int) < (a.x22.length : Int) by omega), if_neg (by simp)]
  refine wp_exit ?_
  refine hn _ _ TX (List.ext_getElem? fun i => ?_) (s5.mono (by simp))
  by_cases h : i < a.x22.length
  ·exact heq i (by omega)
  ·rw [List.getElem?_eq_none (by omega), List.getElem?_eq_none (by omega)]
theorem str_bne {x y : List Int} (hx : Byt x) (hy : Byt y) : ((strOfNums x).toList != (strOfNums y).toList) = !decide (x = y) := by
 rw [bne, str_beq hx hy]
theorem rdiff_no {a b : AskP} (ba : AskB a) (bb : AskB b) (h : rdiff a b = false) : a.x22.length = b.x22.length ∧ (a.x22 = b.x22 → rsames a b = decide (a = b)) := by
 unfold rdiff at h
 rw [str_bne ba.b1.1 bb.b1.1, str_bne ba.b2.1 bb.b2.1, str_bne ba.b6.1 bb.b6.1, str_bne ba.b7.1 bb.b7.1, str_bne ba.b8.1 bb.b8.1, str_bne ba.b12.1 bb.b12.1, str_bne ba.b13.1 bb.b13.1, str_bne ba.b14.1 bb.b14.1, str_bne ba.b16.1 bb.b16.1, str_bne ba.b17.1 bb.b17.1] at h
 simp only [Bool.or_eq_false_iff, bne_eq_false_iff_eq, Bool.not_eq_false', decide_eq_true_eq] at h
 obtain ⟨⟨⟨⟨⟨⟨⟨⟨⟨⟨⟨⟨⟨⟨⟨⟨⟨⟨e0, e1⟩, e2⟩, e3⟩, e6⟩, e7⟩, e8⟩, e11⟩, e12⟩, e13⟩, e14⟩, e15⟩, e16⟩, e17⟩, e18⟩, e20⟩, e21⟩, e23⟩, e22⟩ := h
 refine ⟨by omega, fun h22 => ?_⟩
 by_cases hs : rsames a b = true
 ·have hq := hs
  unfold rsames at hq
  simp only [Bool.and_eq_true, decide_eq_true_eq] at hq
  obtain ⟨⟨⟨⟨g4, g5⟩, g9⟩, g10⟩, g19⟩ := hq
  have : a = b := ask_ext (fun i hi => by
   match i, hi with
   | 0, _ => exact e6
   | 1, _ => exact e7
   | 2, _ => exact e8
   | 3, _ => exact e12
   | 4, _ => exact e13
   | 5, _ => exact e14) (fun i hi => by
   match i, hi with
   | 0, _ => exact g5
   | 1, _ => exact g9
   | 2, _ => exact g10
   | 3, _ => exact g19) (fun i hi => by
   match i, hi with
   | 0, _ => exact e3
   | 1, _ => exact e11
   | 2, _ => exact e15
   | 3, _ => exact e18
   | 4, _ => exact e20
   | 5, _ => exact e21) h22 e0 e1 e2 g4 e16 e17 e23
  rw [hs, decide_eq_true this]
 ·have : a ≠ b := fun e => hs (by subst e; simp [rsames])
  rw [decide_eq_false this]
  simpa using hs
theorem rdiff_yes {a b : AskP} (h : rdiff a b = true) : a ≠ b := fun e => by
 subst e
 simp [rdiff] at h
theorem body9_code : sndC (Tryd.f9.body.getD .skip) = .seq (.seq (reg1 Tryd.f9.body) (.cond (.tmp 138) (.seq (.region 2 (opsR 2 Tryd.f9.body) false) .ret) .skip)) (.seq (lc9 Tryd.f9.body) (.seq (reg8 Tryd.f9.body) .ret)) := by kernel_rfl
theorem body9 (a b : AskP) (w : World) (ga gb : Nat) (ca cb : Array Value) (W : World) (TW : TwoAt w ga gb ca cb a b W) (ba : AskB a) (bb : AskB b) (a0 : Act) (h0 : KN 190 a0 [(2, ptr ga), (3, ptr gb)]) :
  Code.wp Tryd.prog (sndC (Tryd.f9.body.getD .skip)) (QR (fun _ _ => False) fun a' W' => KN 190 a' [(4, .bool (decide (a = b)))] ∧ Below w.heap.size w W') a0 W := by
 rw [body9_code]
 have z2 : (opsR 2 Tryd.f9.body).toList.drop 1 = [] := by rw [List.drop_eq_nil_of_le (by rw [Array.length_toList, show (opsR 2 Tryd.f9.body).size = 1 from by kernel_rfl]; exact Nat.le_refl _)]
 refine wp_seq (wp_seq (row1 a b ga gb ca cb W TW.1 TW.2.1 a0 h0 _ fun a1 h1 => ?_))
 refine wp_cond (t := rdiff a b) (h1.at (by simp)) ?_
 cases hd : rdiff a b with
 | true =>
  rw [if_pos rfl]
  refine wp_seq (wp_region_list ?_)
  show wpList _ _ _ ((opsR 2 Tryd.f9.body).toList.drop 0) _ _
  refine ls_val (.bool false) (oa rfl) want_none (fun o ho => run_assign' rfl ho) ?_
  have h2 := h1.to 4 (.bool false) [] (by decide) (by simp)
  show wpList _ _ _ ((opsR 2 Tryd.f9.body).toList.drop 1) _ _
  rw [z2]
  refine wp_ret ?_
  rw [decide_eq_false (rdiff_yes hd)]
  exact ⟨h2, TW.2.2⟩
 | false =>
  rw [if_neg (by simp)]
  refine wp_skip ?_
  obtain ⟨hl, hs⟩ := rdiff_no ba bb hd
  refine wp_seq (Code.wp_mono ?_ (loop9 a b w ga gb ca cb W TW hl a1 (h1.mono (by simp)) (fun a' W' => TwoAt w ga gb ca cb a b W' ∧ a.x22 = b.x22 ∧ KN 190 a' [(2, ptr ga), (3, ptr gb)]) (fun a' W' => KN 190 a' [(4, .bool (decide (a = b)))] ∧ Below w.heap.size w W') (fun a' W' t e k => ⟨t, e, k⟩) (fun a' W' t e k => by
   rw [decide_eq_false (fun h => e (by rw [h]))]
   exact ⟨k, t.2.2⟩)))
  intro e a' W' hq
  cases e with
  | normal =>
   obtain ⟨t, e22, k⟩ := hq
   refine wp_seq (row8 a b w ga gb ca cb W' t ba a' k _ fun a2 W2 t2 k2 => ?_)
   refine wp_ret ?_
   rw [← hs e22]
   exact ⟨k2, t2.2.2⟩
  | ret => exact hq
  | _ => exact hq.elim
theorem rsame_calls (ca cb : Array Value) (oka okb : Nat → Prop) (nla nlb : Prop) (a b : AskP) (w : World) (hA : AskC w oka nla ca a) (hB : AskC w okb nlb cb b) (ba : AskB a) (bb : AskB b) :
  Calls Tryd.prog 9 #[.agg ca, .agg cb] w (BoolP w (decide (a = b))) := by
 have Bw := below_alloc (below_alloc (Below.refl w.heap.size w) (.cells ca 26)) (.cells cb 26)
 have TW : TwoAt w w.heap.size (w.heap.size + 1) ca cb a b ((w.alloc (.cells ca 26)).alloc (.cells cb 26)) :=
  ⟨⟨heap_alloc2_old _ _ _, ((hA.step (fun k _ hlt => Bw.block k hlt)).mono (fun _ _ => trivial)).weak (fun h => h.elim)⟩, ⟨heap_alloc2_new _ _ _, ((hB.step (fun k _ hlt => Bw.block k hlt)).mono (fun _ _ => trivial)).weak (fun h => h.elim)⟩, Bw⟩
 replace TW := Lib.hid TW
 clear Bw hA hB
 go_enter Tryd.func9, Tryd.ntmps9
 refine wp_seq_k fun K hK => ?_
 replace hK := Lib.hid hK
 go_wp2_with fail
 refine hK.out _ _ (Code.wp_mono ?_ (body9 a b w w.heap.size (w.heap.size + 1) ca cb _ TW.out ba bb _ ⟨by rfl, rfl, List.forall_mem_cons.2 ⟨⟨(by decide : (2 : Nat) < 190), rfl⟩, List.forall_mem_cons.2 ⟨⟨(by decide : (3 : Nat) < 190), rfl⟩, fun _ h => nomatch h⟩⟩⟩))
 intro e a' W' hq
 cases e with
 | ret =>
  obtain ⟨k, hb⟩ := hq
  refine bodyPost_ret (results_tmp rfl _ _ _) k.2.1 ?_
  rw [show a'.tmps.getD 4 undef = .bool (decide (a = b)) from k.at (n := 4) (by simp)]
  exact ⟨rfl, hb⟩
 | _ => exact (hq : False).elim
end Go.Proofs.YtjkehapbemjnpaaDoor
