/- The chapter's own Same, walked by hand: long rows of tests by Chain; each condition stands in its theorem. -/
import Derived.Test.YtjkehapbemjnpaaDoorZPutT
import Derived.Test.YtjkehapbemjnpaaDoorZChain
namespace Go.Proofs.YtjkehapbemjnpaaDoor
open Go.RowKit Go.Proofs.YtjkehapbemjnpaaDoorW.PrintWords Go.Proofs.YtjkehapbemjnpaaDoorW.PrintLast Go.Proofs.YtjkehapbemjnpaaDoorW.PrintMore Go.Proofs.YtjkehapbemjnpaaDoor.Lf Go.Proofs.YtjkehapbemjnpaaDoor.Kit Go.Proofs.YtjkehapbemjnpaaDoor.Cut Go.Proofs.YtjkehapbemjnpaaDoor.Pl Go.Proofs.YtjkehapbemjnpaaDoor.Num Go.Proofs.YtjkehapbemjnpaaDoor.Chain
set_option linter.unusedVariables false
set_option linter.unusedSimpArgs false
section
variable (a : Act) (W : World) (o : Oper)
theorem fld_0 (a : Act) (q : Operand) (g : Nat) (W : World) (o : Oper) (hq : a.eval q = ptr g) (ho : o.op = .fieldAddr 26 q 0) : (execOp a.eval o).run Tryd.prog W = .ok (.value (.pointer (some ⟨g, 0, none⟩))) W := by
  have hu := Tryd.underlying26
  unfold ptr at hq
  unfold execOp
  simp only [ho, hq]
  go_simp
theorem fld_1 (a : Act) (q : Operand) (g : Nat) (W : World) (o : Oper) (hq : a.eval q = ptr g) (ho : o.op = .fieldAddr 26 q 1) : (execOp a.eval o).run Tryd.prog W = .ok (.value (.pointer (some ⟨g, 1, none⟩))) W := by
  have hu := Tryd.underlying26
  unfold ptr at hq
  unfold execOp
  simp only [ho, hq]
  go_simp
theorem fld_2 (a : Act) (q : Operand) (g : Nat) (W : World) (o : Oper) (hq : a.eval q = ptr g) (ho : o.op = .fieldAddr 26 q 2) : (execOp a.eval o).run Tryd.prog W = .ok (.value (.pointer (some ⟨g, 2, none⟩))) W := by
  have hu := Tryd.underlying26
  unfold ptr at hq
  unfold execOp
  simp only [ho, hq]
  go_simp
theorem fld_3 (a : Act) (q : Operand) (g : Nat) (W : World) (o : Oper) (hq : a.eval q = ptr g) (ho : o.op = .fieldAddr 26 q 3) : (execOp a.eval o).run Tryd.prog W = .ok (.value (.pointer (some ⟨g, 3, none⟩))) W := by
  have hu := Tryd.underlying26
  unfold ptr at hq
  unfold execOp
  simp only [ho, hq]
  go_simp
theorem fld_6 (a : Act) (q : Operand) (g : Nat) (W : World) (o : Oper) (hq : a.eval q = ptr g) (ho : o.op = .fieldAddr 26 q 6) : (execOp a.eval o).run Tryd.prog W = .ok (.value (.pointer (some ⟨g, 6, none⟩))) W := by
  have hu := Tryd.underlying26
  unfold ptr at hq
  unfold execOp
  simp only [ho, hq]
  go_simp
theorem fld_7 (a : Act) (q : Operand) (g : Nat) (W : World) (o : Oper) (hq : a.eval q = ptr g) (ho : o.op = .fieldAddr 26 q 7) : (execOp a.eval o).run Tryd.prog W = .ok (.value (.pointer (some ⟨g, 7, none⟩))) W := by
  have hu := Tryd.underlying26
  unfold ptr at hq
  unfold execOp
  simp only [ho, hq]
  go_simp
theorem fld_8 (a : Act) (q : Operand) (g : Nat) (W : World) (o : Oper) (hq : a.eval q = ptr g) (ho : o.op = .fieldAddr 26 q 8) : (execOp a.eval o).run Tryd.prog W = .ok (.value (.pointer (some ⟨g, 8, none⟩))) W := by
  have hu := Tryd.underlying26
  unfold ptr at hq
  unfold execOp
  simp only [ho, hq]
  go_simp
theorem fld_11 (a : Act) (q : Operand) (g : Nat) (W : World) (o : Oper) (hq : a.eval q = ptr g) (ho : o.op = .fieldAddr 26 q 11) : (execOp a.eval o).run Tryd.prog W = .ok (.value (.pointer (some ⟨g, 11, none⟩))) W := by
  have hu := Tryd.underlying26
  unfold ptr at hq
  unfold execOp
  simp only [ho, hq]
  go_simp
theorem fld_12 (a : Act) (q : Operand) (g : Nat) (W : World) (o : Oper) (hq : a.eval q = ptr g) (ho : o.op = .fieldAddr 26 q 12) : (execOp a.eval o).run Tryd.prog W = .ok (.value (.pointer (some ⟨g, 12, none⟩))) W := by
  have hu := Tryd.underlying26
  unfold ptr at hq
  unfold execOp
  simp only [ho, hq]
  go_simp
theorem fld_13 (a : Act) (q : Operand) (g : Nat) (W : World) (o : Oper) (hq : a.eval q = ptr g) (ho : o.op = .fieldAddr 26 q 13) : (execOp a.eval o).run Tryd.prog W = .ok (.value (.pointer (some ⟨g, 13, none⟩))) W := by
  have hu := Tryd.underlying26
  unfold ptr at hq
  unfold execOp
  simp only [ho, hq]
  go_simp
theorem fld_14 (a : Act) (q : Operand) (g : Nat) (W : World) (o : Oper) (hq : a.eval q = ptr g) (ho : o.op = .fieldAddr 26 q 14) : (execOp a.eval o).run Tryd.prog W = .ok (.value (.pointer (some ⟨g, 14, none⟩))) W := by
  have hu := Tryd.underlying26
  unfold ptr at hq
  unfold execOp
  simp only [ho, hq]
  go_simp
theorem fld_15 (a : Act) (q : Operand) (g : Nat) (W : World) (o : Oper) (hq : a.eval q = ptr g) (ho : o.op = .fieldAddr 26 q 15) : (execOp a.eval o).run Tryd.prog W = .ok (.value (.pointer (some ⟨g, 15, none⟩))) W := by
  have hu := Tryd.underlying26
  unfold ptr at hq
  unfold execOp
  simp only [ho, hq]
  go_simp
theorem fld_16 (a : Act) (q : Operand) (g : Nat) (W : World) (o : Oper) (hq : a.eval q = ptr g) (ho : o.op = .fieldAddr 26 q 16) : (execOp a.eval o).run Tryd.prog W = .ok (.value (.pointer (some ⟨g, 16, none⟩))) W := by
  have hu := Tryd.underlying26
  unfold ptr at hq
  unfold execOp
  simp only [ho, hq]
  go_simp
theorem fld_17 (a : Act) (q : Operand) (g : Nat) (W : World) (o : Oper) (hq : a.eval q = ptr g) (ho : o.op = .fieldAddr 26 q 17) : (execOp a.eval o).run Tryd.prog W = .ok (.value (.pointer (some ⟨g, 17, none⟩))) W := by
  have hu := Tryd.underlying26
  unfold ptr at hq
  unfold execOp
  simp only [ho, hq]
  go_simp
theorem fld_18 (a : Act) (q : Operand) (g : Nat) (W : World) (o : Oper) (hq : a.eval q = ptr g) (ho : o.op = .fieldAddr 26 q 18) : (execOp a.eval o).run Tryd.prog W = .ok (.value (.pointer (some ⟨g, 18, none⟩))) W := by
  have hu := Tryd.underlying26
  unfold ptr at hq
  unfold execOp
  simp only [ho, hq]
  go_simp
theorem fld_20 (a : Act) (q : Operand) (g : Nat) (W : World) (o : Oper) (hq : a.eval q = ptr g) (ho : o.op = .fieldAddr 26 q 20) : (execOp a.eval o).run Tryd.prog W = .ok (.value (.pointer (some ⟨g, 20, none⟩))) W := by
  have hu := Tryd.underlying26
  unfold ptr at hq
  unfold execOp
  simp only [ho, hq]
  go_simp
theorem fld_21 (a : Act) (q : Operand) (g : Nat) (W : World) (o : Oper) (hq : a.eval q = ptr g) (ho : o.op = .fieldAddr 26 q 21) : (execOp a.eval o).run Tryd.prog W = .ok (.value (.pointer (some ⟨g, 21, none⟩))) W := by
  have hu := Tryd.underlying26
  unfold ptr at hq
  unfold execOp
  simp only [ho, hq]
  go_simp
theorem fld_23 (a : Act) (q : Operand) (g : Nat) (W : World) (o : Oper) (hq : a.eval q = ptr g) (ho : o.op = .fieldAddr 26 q 23) : (execOp a.eval o).run Tryd.prog W = .ok (.value (.pointer (some ⟨g, 23, none⟩))) W := by
  have hu := Tryd.underlying26
  unfold ptr at hq
  unfold execOp
  simp only [ho, hq]
  go_simp
theorem fld_22 (a : Act) (q : Operand) (g : Nat) (W : World) (o : Oper) (hq : a.eval q = ptr g) (ho : o.op = .fieldAddr 26 q 22) : (execOp a.eval o).run Tryd.prog W = .ok (.value (.pointer (some ⟨g, 22, none⟩))) W := by
  have hu := Tryd.underlying26
  unfold ptr at hq
  unfold execOp
  simp only [ho, hq]
  go_simp
theorem fld_4 (a : Act) (q : Operand) (g : Nat) (W : World) (o : Oper) (hq : a.eval q = ptr g) (ho : o.op = .fieldAddr 26 q 4) : (execOp a.eval o).run Tryd.prog W = .ok (.value (.pointer (some ⟨g, 4, none⟩))) W := by
  have hu := Tryd.underlying26
  unfold ptr at hq
  unfold execOp
  simp only [ho, hq]
  go_simp
theorem fld_5 (a : Act) (q : Operand) (g : Nat) (W : World) (o : Oper) (hq : a.eval q = ptr g) (ho : o.op = .fieldAddr 26 q 5) : (execOp a.eval o).run Tryd.prog W = .ok (.value (.pointer (some ⟨g, 5, none⟩))) W := by
  have hu := Tryd.underlying26
  unfold ptr at hq
  unfold execOp
  simp only [ho, hq]
  go_simp
theorem fld_9 (a : Act) (q : Operand) (g : Nat) (W : World) (o : Oper) (hq : a.eval q = ptr g) (ho : o.op = .fieldAddr 26 q 9) : (execOp a.eval o).run Tryd.prog W = .ok (.value (.pointer (some ⟨g, 9, none⟩))) W := by
  have hu := Tryd.underlying26
  unfold ptr at hq
  unfold execOp
  simp only [ho, hq]
  go_simp
theorem fld_10 (a : Act) (q : Operand) (g : Nat) (W : World) (o : Oper) (hq : a.eval q = ptr g) (ho : o.op = .fieldAddr 26 q 10) : (execOp a.eval o).run Tryd.prog W = .ok (.value (.pointer (some ⟨g, 10, none⟩))) W := by
  have hu := Tryd.underlying26
  unfold ptr at hq
  unfold execOp
  simp only [ho, hq]
  go_simp
theorem fld_19 (a : Act) (q : Operand) (g : Nat) (W : World) (o : Oper) (hq : a.eval q = ptr g) (ho : o.op = .fieldAddr 26 q 19) : (execOp a.eval o).run Tryd.prog W = .ok (.value (.pointer (some ⟨g, 19, none⟩))) W := by
  have hu := Tryd.underlying26
  unfold ptr at hq
  unfold execOp
  simp only [ho, hq]
  go_simp
theorem lod_3 (a : Act) (q : Operand) (A : Addr) (v : Value) (W : World) (o : Oper) (hq : a.eval q = .pointer (some A)) (hc : W.cell? A = some v) (ho : o.op = .load 3 q) : (execOp a.eval o).run Tryd.prog W = .ok (.value v) W := by
  unfold execOp
  simp only [ho, hq]
  go_simp
theorem lod_9 (a : Act) (q : Operand) (A : Addr) (v : Value) (W : World) (o : Oper) (hq : a.eval q = .pointer (some A)) (hc : W.cell? A = some v) (ho : o.op = .load 9 q) : (execOp a.eval o).run Tryd.prog W = .ok (.value v) W := by
  unfold execOp
  simp only [ho, hq]
  go_simp
theorem lod_22 (a : Act) (q : Operand) (A : Addr) (v : Value) (W : World) (o : Oper) (hq : a.eval q = .pointer (some A)) (hc : W.cell? A = some v) (ho : o.op = .load 22 q) : (execOp a.eval o).run Tryd.prog W = .ok (.value v) W := by
  unfold execOp
  simp only [ho, hq]
  go_simp
theorem lod_24 (a : Act) (q : Operand) (A : Addr) (v : Value) (W : World) (o : Oper) (hq : a.eval q = .pointer (some A)) (hc : W.cell? A = some v) (ho : o.op = .load 24 q) : (execOp a.eval o).run Tryd.prog W = .ok (.value v) W := by
  unfold execOp
  simp only [ho, hq]
  go_simp
theorem neq_3 (m n : Int) (a : Act) (x y : Operand) (W : World) (o : Oper) (hx : a.eval x = .int .i64 m) (hy : a.eval y = .int .i64 n) (ho : o.op = .binOp .neq 3 x y 3) : (execOp a.eval o).run Tryd.prog W = .ok (.value (.bool (m != n))) W := by
  unfold execOp
  simp only [ho, hx, hy]
  go_simp
theorem neq_9 (m n : ByteArray) (a : Act) (x y : Operand) (W : World) (o : Oper) (hx : a.eval x = .string m) (hy : a.eval y = .string n) (ho : o.op = .binOp .neq 9 x y 9) : (execOp a.eval o).run Tryd.prog W = .ok (.value (.bool (m.toList != n.toList))) W := by
  unfold execOp
  simp only [ho, hx, hy]
  go_simp
  simp [bne]
theorem len_24 (A : Option Addr) (n c : Nat) (a : Act) (q : Nat) (W : World) (o : Oper) (hx : a.eval (.tmp q) = .slice A n c) (ho : o.op = .call { callee := .builtin .len, args := #[.tmp q], argTypes := #[24] }) : (execOp a.eval o).run Tryd.prog W = .ok (.value (.int .i64 n)) W := by
  have hx2 : a.tmps[q]?.getD undef = .slice A n c := by
    rw [← hx, ← Array.getD_eq_getD_getElem?]
    rfl
  unfold execOp
  simp only [ho]
  go_simp
end
def rdiff (a b : AskP) : Bool := (((((((((((((((((((a.x0 != b.x0) || ((strOfNums a.x1).toList != (strOfNums b.x1).toList)) || ((strOfNums a.x2).toList != (strOfNums b.x2).toList)) || (a.x3 != b.x3)) || ((strOfNums a.x6).toList != (strOfNums b.x6).toList)) || ((strOfNums a.x7).toList != (strOfNums b.x7).toList)) || ((strOfNums a.x8).toList != (strOfNums b.x8).toList)) || (a.x11 != b.x11)) || ((strOfNums a.x12).toList != (strOfNums b.x12).toList)) || ((strOfNums a.x13).toList != (strOfNums b.x13).toList)) || ((strOfNums a.x14).toList != (strOfNums b.x14).toList)) || (a.x15 != b.x15)) || ((strOfNums a.x16).toList != (strOfNums b.x16).toList)) || ((strOfNums a.x17).toList != (strOfNums b.x17).toList)) || (a.x18 != b.x18)) || (a.x20 != b.x20)) || (a.x21 != b.x21)) || (a.x23 != b.x23)) || ((a.x22.length : Int) != (b.x22.length : Int)))
def reg1 (c : Option Code) : Code := fstC (fstC (sndC (c.getD .skip)))
theorem reg1_code : reg1 Tryd.f9.body = .region 1 (opsC (reg1 Tryd.f9.body)) false := by kernel_rfl
set_option maxRecDepth 100000 in
theorem row1 (a b : AskP) (ga gb : Nat) (ca cb : Array Value) (W : World) (RA : AskIn W ga ca a) (RB : AskIn W gb cb b) (a0 : Act) (h0 : KN 190 a0 [(2, ptr ga), (3, ptr gb)]) (Q : Exit → Act → World → Prop)
    (hk : ∀ a', KN 190 a' [(138, .bool (rdiff a b)), (2, ptr ga), (3, ptr gb)] → Q .normal a' W) : Code.wp Tryd.prog (reg1 Tryd.f9.body) Q a0 W := by
  rw [reg1_code]
  refine wp_region_list ?_
  have hz : (opsC (reg1 Tryd.f9.body)).size = 133 := by kernel_rfl
  have c0a : W.cell? ⟨ga, 0, none⟩ = some (.int .i64 a.x0) := RA.cellS _ _ (by obtain ⟨v, hv, rfl⟩ := RA.2.get 0 (by decide); exact hv)
  have c0b : W.cell? ⟨gb, 0, none⟩ = some (.int .i64 b.x0) := RB.cellS _ _ (by obtain ⟨v, hv, rfl⟩ := RB.2.get 0 (by decide); exact hv)
  have c1a : W.cell? ⟨ga, 1, none⟩ = some (.string (strOfNums a.x1)) := RA.cellS _ _ (by obtain ⟨v, hv, rfl⟩ := RA.2.get 1 (by decide); exact hv)
  have c1b : W.cell? ⟨gb, 1, none⟩ = some (.string (strOfNums b.x1)) := RB.cellS _ _ (by obtain ⟨v, hv, rfl⟩ := RB.2.get 1 (by decide); exact hv)
  have c2a : W.cell? ⟨ga, 2, none⟩ = some (.string (strOfNums a.x2)) := RA.cellS _ _ (by obtain ⟨v, hv, rfl⟩ := RA.2.get 2 (by decide); exact hv)
  have c2b : W.cell? ⟨gb, 2, none⟩ = some (.string (strOfNums b.x2)) := RB.cellS _ _ (by obtain ⟨v, hv, rfl⟩ := RB.2.get 2 (by decide); exact hv)
  have c3a : W.cell? ⟨ga, 3, none⟩ = some (.int .i64 a.x3) := RA.cellS _ _ (by obtain ⟨v, hv, rfl⟩ := RA.2.get 3 (by decide); exact hv)
  have c3b : W.cell? ⟨gb, 3, none⟩ = some (.int .i64 b.x3) := RB.cellS _ _ (by obtain ⟨v, hv, rfl⟩ := RB.2.get 3 (by decide); exact hv)
  have c6a : W.cell? ⟨ga, 6, none⟩ = some (.string (strOfNums a.x6)) := RA.cellS _ _ (by obtain ⟨v, hv, rfl⟩ := RA.2.get 6 (by decide); exact hv)
  have c6b : W.cell? ⟨gb, 6, none⟩ = some (.string (strOfNums b.x6)) := RB.cellS _ _ (by obtain ⟨v, hv, rfl⟩ := RB.2.get 6 (by decide); exact hv)
  have c7a : W.cell? ⟨ga, 7, none⟩ = some (.string (strOfNums a.x7)) := RA.cellS _ _ (by obtain ⟨v, hv, rfl⟩ := RA.2.get 7 (by decide); exact hv)
  have c7b : W.cell? ⟨gb, 7, none⟩ = some (.string (strOfNums b.x7)) := RB.cellS _ _ (by obtain ⟨v, hv, rfl⟩ := RB.2.get 7 (by decide); exact hv)
  have c8a : W.cell? ⟨ga, 8, none⟩ = some (.string (strOfNums a.x8)) := RA.cellS _ _ (by obtain ⟨v, hv, rfl⟩ := RA.2.get 8 (by decide); exact hv)
  have c8b : W.cell? ⟨gb, 8, none⟩ = some (.string (strOfNums b.x8)) := RB.cellS _ _ (by obtain ⟨v, hv, rfl⟩ := RB.2.get 8 (by decide); exact hv)
  have c11a : W.cell? ⟨ga, 11, none⟩ = some (.int .i64 a.x11) := RA.cellS _ _ (by obtain ⟨v, hv, rfl⟩ := RA.2.get 11 (by decide); exact hv)
  have c11b : W.cell? ⟨gb, 11, none⟩ = some (.int .i64 b.x11) := RB.cellS _ _ (by obtain ⟨v, hv, rfl⟩ := RB.2.get 11 (by decide); exact hv)
  have c12a : W.cell? ⟨ga, 12, none⟩ = some (.string (strOfNums a.x12)) := RA.cellS _ _ (by obtain ⟨v, hv, rfl⟩ := RA.2.get 12 (by decide); exact hv)
  have c12b : W.cell? ⟨gb, 12, none⟩ = some (.string (strOfNums b.x12)) := RB.cellS _ _ (by obtain ⟨v, hv, rfl⟩ := RB.2.get 12 (by decide); exact hv)
  have c13a : W.cell? ⟨ga, 13, none⟩ = some (.string (strOfNums a.x13)) := RA.cellS _ _ (by obtain ⟨v, hv, rfl⟩ := RA.2.get 13 (by decide); exact hv)
  have c13b : W.cell? ⟨gb, 13, none⟩ = some (.string (strOfNums b.x13)) := RB.cellS _ _ (by obtain ⟨v, hv, rfl⟩ := RB.2.get 13 (by decide); exact hv)
  have c14a : W.cell? ⟨ga, 14, none⟩ = some (.string (strOfNums a.x14)) := RA.cellS _ _ (by obtain ⟨v, hv, rfl⟩ := RA.2.get 14 (by decide); exact hv)
  have c14b : W.cell? ⟨gb, 14, none⟩ = some (.string (strOfNums b.x14)) := RB.cellS _ _ (by obtain ⟨v, hv, rfl⟩ := RB.2.get 14 (by decide); exact hv)
  have c15a : W.cell? ⟨ga, 15, none⟩ = some (.int .i64 a.x15) := RA.cellS _ _ (by obtain ⟨v, hv, rfl⟩ := RA.2.get 15 (by decide); exact hv)
  have c15b : W.cell? ⟨gb, 15, none⟩ = some (.int .i64 b.x15) := RB.cellS _ _ (by obtain ⟨v, hv, rfl⟩ := RB.2.get 15 (by decide); exact hv)
  have c16a : W.cell? ⟨ga, 16, none⟩ = some (.string (strOfNums a.x16)) := RA.cellS _ _ (by obtain ⟨v, hv, rfl⟩ := RA.2.get 16 (by decide); exact hv)
  have c16b : W.cell? ⟨gb, 16, none⟩ = some (.string (strOfNums b.x16)) := RB.cellS _ _ (by obtain ⟨v, hv, rfl⟩ := RB.2.get 16 (by decide); exact hv)
  have c17a : W.cell? ⟨ga, 17, none⟩ = some (.string (strOfNums a.x17)) := RA.cellS _ _ (by obtain ⟨v, hv, rfl⟩ := RA.2.get 17 (by decide); exact hv)
  have c17b : W.cell? ⟨gb, 17, none⟩ = some (.string (strOfNums b.x17)) := RB.cellS _ _ (by obtain ⟨v, hv, rfl⟩ := RB.2.get 17 (by decide); exact hv)
  have c18a : W.cell? ⟨ga, 18, none⟩ = some (.int .i64 a.x18) := RA.cellS _ _ (by obtain ⟨v, hv, rfl⟩ := RA.2.get 18 (by decide); exact hv)
  have c18b : W.cell? ⟨gb, 18, none⟩ = some (.int .i64 b.x18) := RB.cellS _ _ (by obtain ⟨v, hv, rfl⟩ := RB.2.get 18 (by decide); exact hv)
  have c20a : W.cell? ⟨ga, 20, none⟩ = some (.int .i64 a.x20) := RA.cellS _ _ (by obtain ⟨v, hv, rfl⟩ := RA.2.get 20 (by decide); exact hv)
  have c20b : W.cell? ⟨gb, 20, none⟩ = some (.int .i64 b.x20) := RB.cellS _ _ (by obtain ⟨v, hv, rfl⟩ := RB.2.get 20 (by decide); exact hv)
  have c21a : W.cell? ⟨ga, 21, none⟩ = some (.int .i64 a.x21) := RA.cellS _ _ (by obtain ⟨v, hv, rfl⟩ := RA.2.get 21 (by decide); exact hv)
  have c21b : W.cell? ⟨gb, 21, none⟩ = some (.int .i64 b.x21) := RB.cellS _ _ (by obtain ⟨v, hv, rfl⟩ := RB.2.get 21 (by decide); exact hv)
  have c23a : W.cell? ⟨ga, 23, none⟩ = some (.int .i64 a.x23) := RA.cellS _ _ (by obtain ⟨v, hv, rfl⟩ := RA.2.get 23 (by decide); exact hv)
  have c23b : W.cell? ⟨gb, 23, none⟩ = some (.int .i64 b.x23) := RB.cellS _ _ (by obtain ⟨v, hv, rfl⟩ := RB.2.get 23 (by decide); exact hv)
  obtain ⟨Aa, ka, c22a, -, -⟩ := RA.lst
  obtain ⟨Ab, kb, c22b, -, -⟩ := RB.lst
  have q0 : OpAt (opsC (reg1 Tryd.f9.body)) 0 (some 6) (.fieldAddr 26 (.tmp 2) 0) none := by unfold OpAt; kernel_rfl
  have q1 : OpAt (opsC (reg1 Tryd.f9.body)) 1 (some 7) (.load 3 (.tmp 6)) none := by unfold OpAt; kernel_rfl
  have q2 : OpAt (opsC (reg1 Tryd.f9.body)) 2 (some 8) (.fieldAddr 26 (.tmp 3) 0) none := by unfold OpAt; kernel_rfl
  have q3 : OpAt (opsC (reg1 Tryd.f9.body)) 3 (some 9) (.load 3 (.tmp 8)) none := by unfold OpAt; kernel_rfl
  have q4 : OpAt (opsC (reg1 Tryd.f9.body)) 4 (some 10) (.binOp .neq 3 (.tmp 7) (.tmp 9) 3) none := by unfold OpAt; kernel_rfl
  have r0_0 : OpAt (opsC (reg1 Tryd.f9.body)) 5 (some 11) (.move (.tmp 10)) none := by unfold OpAt; kernel_rfl
  have r0_1 : OpAt (opsC (reg1 Tryd.f9.body)) 6 (some 12) (.fieldAddr 26 (.tmp 2) 1) (some (5, false)) := by unfold OpAt; kernel_rfl
  have r0_2 : OpAt (opsC (reg1 Tryd.f9.body)) 7 (some 13) (.load 9 (.tmp 12)) (some (5, false)) := by unfold OpAt; kernel_rfl
  have r0_3 : OpAt (opsC (reg1 Tryd.f9.body)) 8 (some 14) (.fieldAddr 26 (.tmp 3) 1) (some (5, false)) := by unfold OpAt; kernel_rfl
  have r0_4 : OpAt (opsC (reg1 Tryd.f9.body)) 9 (some 15) (.load 9 (.tmp 14)) (some (5, false)) := by unfold OpAt; kernel_rfl
  have r0_5 : OpAt (opsC (reg1 Tryd.f9.body)) 10 (some 16) (.binOp .neq 9 (.tmp 13) (.tmp 15) 9) (some (5, false)) := by unfold OpAt; kernel_rfl
  have r0_6 : OpAt (opsC (reg1 Tryd.f9.body)) 11 (some 17) (.pick (.tmp 11) (.const (.bool true)) (.tmp 16)) none := by unfold OpAt; kernel_rfl
  have r1_0 : OpAt (opsC (reg1 Tryd.f9.body)) 12 (some 18) (.move (.tmp 17)) none := by unfold OpAt; kernel_rfl
  have r1_1 : OpAt (opsC (reg1 Tryd.f9.body)) 13 (some 19) (.fieldAddr 26 (.tmp 2) 2) (some (12, false)) := by unfold OpAt; kernel_rfl
  have r1_2 : OpAt (opsC (reg1 Tryd.f9.body)) 14 (some 20) (.load 9 (.tmp 19)) (some (12, false)) := by unfold OpAt; kernel_rfl
  have r1_3 : OpAt (opsC (reg1 Tryd.f9.body)) 15 (some 21) (.fieldAddr 26 (.tmp 3) 2) (some (12, false)) := by unfold OpAt; kernel_rfl
  have r1_4 : OpAt (opsC (reg1 Tryd.f9.body)) 16 (some 22) (.load 9 (.tmp 21)) (some (12, false)) := by unfold OpAt; kernel_rfl
  have r1_5 : OpAt (opsC (reg1 Tryd.f9.body)) 17 (some 23) (.binOp .neq 9 (.tmp 20) (.tmp 22) 9) (some (12, false)) := by unfold OpAt; kernel_rfl
  have r1_6 : OpAt (opsC (reg1 Tryd.f9.body)) 18 (some 24) (.pick (.tmp 18) (.const (.bool true)) (.tmp 23)) none := by unfold OpAt; kernel_rfl
  have r2_0 : OpAt (opsC (reg1 Tryd.f9.body)) 19 (some 25) (.move (.tmp 24)) none := by unfold OpAt; kernel_rfl
  have r2_1 : OpAt (opsC (reg1 Tryd.f9.body)) 20 (some 26) (.fieldAddr 26 (.tmp 2) 3) (some (19, false)) := by unfold OpAt; kernel_rfl
  have r2_2 : OpAt (opsC (reg1 Tryd.f9.body)) 21 (some 27) (.load 3 (.tmp 26)) (some (19, false)) := by unfold OpAt; kernel_rfl
  have r2_3 : OpAt (opsC (reg1 Tryd.f9.body)) 22 (some 28) (.fieldAddr 26 (.tmp 3) 3) (some (19, false)) := by unfold OpAt; kernel_rfl
  have r2_4 : OpAt (opsC (reg1 Tryd.f9.body)) 23 (some 29) (.load 3 (.tmp 28)) (some (19, false)) := by unfold OpAt; kernel_rfl
  have r2_5 : OpAt (opsC (reg1 Tryd.f9.body)) 24 (some 30) (.binOp .neq 3 (.tmp 27) (.tmp 29) 3) (some (19, false)) := by unfold OpAt; kernel_rfl
  have r2_6 : OpAt (opsC (reg1 Tryd.f9.body)) 25 (some 31) (.pick (.tmp 25) (.const (.bool true)) (.tmp 30)) none := by unfold OpAt; kernel_rfl
  have r3_0 : OpAt (opsC (reg1 Tryd.f9.body)) 26 (some 32) (.move (.tmp 31)) none := by unfold OpAt; kernel_rfl
  have r3_1 : OpAt (opsC (reg1 Tryd.f9.body)) 27 (some 33) (.fieldAddr 26 (.tmp 2) 6) (some (26, false)) := by unfold OpAt; kernel_rfl
  have r3_2 : OpAt (opsC (reg1 Tryd.f9.body)) 28 (some 34) (.load 9 (.tmp 33)) (some (26, false)) := by unfold OpAt; kernel_rfl
  have r3_3 : OpAt (opsC (reg1 Tryd.f9.body)) 29 (some 35) (.fieldAddr 26 (.tmp 3) 6) (some (26, false)) := by unfold OpAt; kernel_rfl
  have r3_4 : OpAt (opsC (reg1 Tryd.f9.body)) 30 (some 36) (.load 9 (.tmp 35)) (some (26, false)) := by unfold OpAt; kernel_rfl
  have r3_5 : OpAt (opsC (reg1 Tryd.f9.body)) 31 (some 37) (.binOp .neq 9 (.tmp 34) (.tmp 36) 9) (some (26, false)) := by unfold OpAt; kernel_rfl
  have r3_6 : OpAt (opsC (reg1 Tryd.f9.body)) 32 (some 38) (.pick (.tmp 32) (.const (.bool true)) (.tmp 37)) none := by unfold OpAt; kernel_rfl
  have r4_0 : OpAt (opsC (reg1 Tryd.f9.body)) 33 (some 39) (.move (.tmp 38)) none := by unfold OpAt; kernel_rfl
  have r4_1 : OpAt (opsC (reg1 Tryd.f9.body)) 34 (some 40) (.fieldAddr 26 (.tmp 2) 7) (some (33, false)) := by unfold OpAt; kernel_rfl
  have r4_2 : OpAt (opsC (reg1 Tryd.f9.body)) 35 (some 41) (.load 9 (.tmp 40)) (some (33, false)) := by unfold OpAt; kernel_rfl
  have r4_3 : OpAt (opsC (reg1 Tryd.f9.body)) 36 (some 42) (.fieldAddr 26 (.tmp 3) 7) (some (33, false)) := by unfold OpAt; kernel_rfl
  have r4_4 : OpAt (opsC (reg1 Tryd.f9.body)) 37 (some 43) (.load 9 (.tmp 42)) (some (33, false)) := by unfold OpAt; kernel_rfl
  have r4_5 : OpAt (opsC (reg1 Tryd.f9.body)) 38 (some 44) (.binOp .neq 9 (.tmp 41) (.tmp 43) 9) (some (33, false)) := by unfold OpAt; kernel_rfl
  have r4_6 : OpAt (opsC (reg1 Tryd.f9.body)) 39 (some 45) (.pick (.tmp 39) (.const (.bool true)) (.tmp 44)) none := by unfold OpAt; kernel_rfl
  have r5_0 : OpAt (opsC (reg1 Tryd.f9.body)) 40 (some 46) (.move (.tmp 45)) none := by unfold OpAt; kernel_rfl
  have r5_1 : OpAt (opsC (reg1 Tryd.f9.body)) 41 (some 47) (.fieldAddr 26 (.tmp 2) 8) (some (40, false)) := by unfold OpAt; kernel_rfl
  have r5_2 : OpAt (opsC (reg1 Tryd.f9.body)) 42 (some 48) (.load 9 (.tmp 47)) (some (40, false)) := by unfold OpAt; kernel_rfl
  have r5_3 : OpAt (opsC (reg1 Tryd.f9.body)) 43 (some 49) (.fieldAddr 26 (.tmp 3) 8) (some (40, false)) := by unfold OpAt; kernel_rfl
  have r5_4 : OpAt (opsC (reg1 Tryd.f9.body)) 44 (some 50) (.load 9 (.tmp 49)) (some (40, false)) := by unfold OpAt; kernel_rfl
  have r5_5 : OpAt (opsC (reg1 Tryd.f9.body)) 45 (some 51) (.binOp .neq 9 (.tmp 48) (.tmp 50) 9) (some (40, false)) := by unfold OpAt; kernel_rfl
  have r5_6 : OpAt (opsC (reg1 Tryd.f9.body)) 46 (some 52) (.pick (.tmp 46) (.const (.bool true)) (.tmp 51)) none := by unfold OpAt; kernel_rfl
  have r6_0 : OpAt (opsC (reg1 Tryd.f9.body)) 47 (some 53) (.move (.tmp 52)) none := by unfold OpAt; kernel_rfl
  have r6_1 : OpAt (opsC (reg1 Tryd.f9.body)) 48 (some 54) (.fieldAddr 26 (.tmp 2) 11) (some (47, false)) := by unfold OpAt; kernel_rfl
  have r6_2 : OpAt (opsC (reg1 Tryd.f9.body)) 49 (some 55) (.load 3 (.tmp 54)) (some (47, false)) := by unfold OpAt; kernel_rfl
  have r6_3 : OpAt (opsC (reg1 Tryd.f9.body)) 50 (some 56) (.fieldAddr 26 (.tmp 3) 11) (some (47, false)) := by unfold OpAt; kernel_rfl
  have r6_4 : OpAt (opsC (reg1 Tryd.f9.body)) 51 (some 57) (.load 3 (.tmp 56)) (some (47, false)) := by unfold OpAt; kernel_rfl
  have r6_5 : OpAt (opsC (reg1 Tryd.f9.body)) 52 (some 58) (.binOp .neq 3 (.tmp 55) (.tmp 57) 3) (some (47, false)) := by unfold OpAt; kernel_rfl
  have r6_6 : OpAt (opsC (reg1 Tryd.f9.body)) 53 (some 59) (.pick (.tmp 53) (.const (.bool true)) (.tmp 58)) none := by unfold OpAt; kernel_rfl
  have r7_0 : OpAt (opsC (reg1 Tryd.f9.body)) 54 (some 60) (.move (.tmp 59)) none := by unfold OpAt; kernel_rfl
  have r7_1 : OpAt (opsC (reg1 Tryd.f9.body)) 55 (some 61) (.fieldAddr 26 (.tmp 2) 12) (some (54, false)) := by unfold OpAt; kernel_rfl
  have r7_2 : OpAt (opsC (reg1 Tryd.f9.body)) 56 (some 62) (.load 9 (.tmp 61)) (some (54, false)) := by unfold OpAt; kernel_rfl
  have r7_3 : OpAt (opsC (reg1 Tryd.f9.body)) 57 (some 63) (.fieldAddr 26 (.tmp 3) 12) (some (54, false)) := by unfold OpAt; kernel_rfl
  have r7_4 : OpAt (opsC (reg1 Tryd.f9.body)) 58 (some 64) (.load 9 (.tmp 63)) (some (54, false)) := by unfold OpAt; kernel_rfl
  have r7_5 : OpAt (opsC (reg1 Tryd.f9.body)) 59 (some 65) (.binOp .neq 9 (.tmp 62) (.tmp 64) 9) (some (54, false)) := by unfold OpAt; kernel_rfl
  have r7_6 : OpAt (opsC (reg1 Tryd.f9.body)) 60 (some 66) (.pick (.tmp 60) (.const (.bool true)) (.tmp 65)) none := by unfold OpAt; kernel_rfl
  have r8_0 : OpAt (opsC (reg1 Tryd.f9.body)) 61 (some 67) (.move (.tmp 66)) none := by unfold OpAt; kernel_rfl
  have r8_1 : OpAt (opsC (reg1 Tryd.f9.body)) 62 (some 68) (.fieldAddr 26 (.tmp 2) 13) (some (61, false)) := by unfold OpAt; kernel_rfl
  have r8_2 : OpAt (opsC (reg1 Tryd.f9.body)) 63 (some 69) (.load 9 (.tmp 68)) (some (61, false)) := by unfold OpAt; kernel_rfl
  have r8_3 : OpAt (opsC (reg1 Tryd.f9.body)) 64 (some 70) (.fieldAddr 26 (.tmp 3) 13) (some (61, false)) := by unfold OpAt; kernel_rfl
  have r8_4 : OpAt (opsC (reg1 Tryd.f9.body)) 65 (some 71) (.load 9 (.tmp 70)) (some (61, false)) := by unfold OpAt; kernel_rfl
  have r8_5 : OpAt (opsC (reg1 Tryd.f9.body)) 66 (some 72) (.binOp .neq 9 (.tmp 69) (.tmp 71) 9) (some (61, false)) := by unfold OpAt; kernel_rfl
  have r8_6 : OpAt (opsC (reg1 Tryd.f9.body)) 67 (some 73) (.pick (.tmp 67) (.const (.bool true)) (.tmp 72)) none := by unfold OpAt; kernel_rfl
  have r9_0 : OpAt (opsC (reg1 Tryd.f9.body)) 68 (some 74) (.move (.tmp 73)) none := by unfold OpAt; kernel_rfl
  have r9_1 : OpAt (opsC (reg1 Tryd.f9.body)) 69 (some 75) (.fieldAddr 26 (.tmp 2) 14) (some (68, false)) := by unfold OpAt; kernel_rfl
  have r9_2 : OpAt (opsC (reg1 Tryd.f9.body)) 70 (some 76) (.load 9 (.tmp 75)) (some (68, false)) := by unfold OpAt; kernel_rfl
  have r9_3 : OpAt (opsC (reg1 Tryd.f9.body)) 71 (some 77) (.fieldAddr 26 (.tmp 3) 14) (some (68, false)) := by unfold OpAt; kernel_rfl
  have r9_4 : OpAt (opsC (reg1 Tryd.f9.body)) 72 (some 78) (.load 9 (.tmp 77)) (some (68, false)) := by unfold OpAt; kernel_rfl
  have r9_5 : OpAt (opsC (reg1 Tryd.f9.body)) 73 (some 79) (.binOp .neq 9 (.tmp 76) (.tmp 78) 9) (some (68, false)) := by unfold OpAt; kernel_rfl
  have r9_6 : OpAt (opsC (reg1 Tryd.f9.body)) 74 (some 80) (.pick (.tmp 74) (.const (.bool true)) (.tmp 79)) none := by unfold OpAt; kernel_rfl
  have r10_0 : OpAt (opsC (reg1 Tryd.f9.body)) 75 (some 81) (.move (.tmp 80)) none := by unfold OpAt; kernel_rfl
  have r10_1 : OpAt (opsC (reg1 Tryd.f9.body)) 76 (some 82) (.fieldAddr 26 (.tmp 2) 15) (some (75, false)) := by unfold OpAt; kernel_rfl
  have r10_2 : OpAt (opsC (reg1 Tryd.f9.body)) 77 (some 83) (.load 3 (.tmp 82)) (some (75, false)) := by unfold OpAt; kernel_rfl
  have r10_3 : OpAt (opsC (reg1 Tryd.f9.body)) 78 (some 84) (.fieldAddr 26 (.tmp 3) 15) (some (75, false)) := by unfold OpAt; kernel_rfl
  have r10_4 : OpAt (opsC (reg1 Tryd.f9.body)) 79 (some 85) (.load 3 (.tmp 84)) (some (75, false)) := by unfold OpAt; kernel_rfl
  have r10_5 : OpAt (opsC (reg1 Tryd.f9.body)) 80 (some 86) (.binOp .neq 3 (.tmp 83) (.tmp 85) 3) (some (75, false)) := by unfold OpAt; kernel_rfl
  have r10_6 : OpAt (opsC (reg1 Tryd.f9.body)) 81 (some 87) (.pick (.tmp 81) (.const (.bool true)) (.tmp 86)) none := by unfold OpAt; kernel_rfl
  have r11_0 : OpAt (opsC (reg1 Tryd.f9.body)) 82 (some 88) (.move (.tmp 87)) none := by unfold OpAt; kernel_rfl
  have r11_1 : OpAt (opsC (reg1 Tryd.f9.body)) 83 (some 89) (.fieldAddr 26 (.tmp 2) 16) (some (82, false)) := by unfold OpAt; kernel_rfl
  have r11_2 : OpAt (opsC (reg1 Tryd.f9.body)) 84 (some 90) (.load 9 (.tmp 89)) (some (82, false)) := by unfold OpAt; kernel_rfl
  have r11_3 : OpAt (opsC (reg1 Tryd.f9.body)) 85 (some 91) (.fieldAddr 26 (.tmp 3) 16) (some (82, false)) := by unfold OpAt; kernel_rfl
  have r11_4 : OpAt (opsC (reg1 Tryd.f9.body)) 86 (some 92) (.load 9 (.tmp 91)) (some (82, false)) := by unfold OpAt; kernel_rfl
  have r11_5 : OpAt (opsC (reg1 Tryd.f9.body)) 87 (some 93) (.binOp .neq 9 (.tmp 90) (.tmp 92) 9) (some (82, false)) := by unfold OpAt; kernel_rfl
  have r11_6 : OpAt (opsC (reg1 Tryd.f9.body)) 88 (some 94) (.pick (.tmp 88) (.const (.bool true)) (.tmp 93)) none := by unfold OpAt; kernel_rfl
  have r12_0 : OpAt (opsC (reg1 Tryd.f9.body)) 89 (some 95) (.move (.tmp 94)) none := by unfold OpAt; kernel_rfl
  have r12_1 : OpAt (opsC (reg1 Tryd.f9.body)) 90 (some 96) (.fieldAddr 26 (.tmp 2) 17) (some (89, false)) := by unfold OpAt; kernel_rfl
  have r12_2 : OpAt (opsC (reg1 Tryd.f9.body)) 91 (some 97) (.load 9 (.tmp 96)) (some (89, false)) := by unfold OpAt; kernel_rfl
  have r12_3 : OpAt (opsC (reg1 Tryd.f9.body)) 92 (some 98) (.fieldAddr 26 (.tmp 3) 17) (some (89, false)) := by unfold OpAt; kernel_rfl
  have r12_4 : OpAt (opsC (reg1 Tryd.f9.body)) 93 (some 99) (.load 9 (.tmp 98)) (some (89, false)) := by unfold OpAt; kernel_rfl
  have r12_5 : OpAt (opsC (reg1 Tryd.f9.body)) 94 (some 100) (.binOp .neq 9 (.tmp 97) (.tmp 99) 9) (some (89, false)) := by unfold OpAt; kernel_rfl
  have r12_6 : OpAt (opsC (reg1 Tryd.f9.body)) 95 (some 101) (.pick (.tmp 95) (.const (.bool true)) (.tmp 100)) none := by unfold OpAt; kernel_rfl
  have r13_0 : OpAt (opsC (reg1 Tryd.f9.body)) 96 (some 102) (.move (.tmp 101)) none := by unfold OpAt; kernel_rfl
  have r13_1 : OpAt (opsC (reg1 Tryd.f9.body)) 97 (some 103) (.fieldAddr 26 (.tmp 2) 18) (some (96, false)) := by unfold OpAt; kernel_rfl
  have r13_2 : OpAt (opsC (reg1 Tryd.f9.body)) 98 (some 104) (.load 3 (.tmp 103)) (some (96, false)) := by unfold OpAt; kernel_rfl
  have r13_3 : OpAt (opsC (reg1 Tryd.f9.body)) 99 (some 105) (.fieldAddr 26 (.tmp 3) 18) (some (96, false)) := by unfold OpAt; kernel_rfl
  have r13_4 : OpAt (opsC (reg1 Tryd.f9.body)) 100 (some 106) (.load 3 (.tmp 105)) (some (96, false)) := by unfold OpAt; kernel_rfl
  have r13_5 : OpAt (opsC (reg1 Tryd.f9.body)) 101 (some 107) (.binOp .neq 3 (.tmp 104) (.tmp 106) 3) (some (96, false)) := by unfold OpAt; kernel_rfl
  have r13_6 : OpAt (opsC (reg1 Tryd.f9.body)) 102 (some 108) (.pick (.tmp 102) (.const (.bool true)) (.tmp 107)) none := by unfold OpAt; kernel_rfl
  have r14_0 : OpAt (opsC (reg1 Tryd.f9.body)) 103 (some 109) (.move (.tmp 108)) none := by unfold OpAt; kernel_rfl
  have r14_1 : OpAt (opsC (reg1 Tryd.f9.body)) 104 (some 110) (.fieldAddr 26 (.tmp 2) 20) (some (103, false)) := by unfold OpAt; kernel_rfl
  have r14_2 : OpAt (opsC (reg1 Tryd.f9.body)) 105 (some 111) (.load 3 (.tmp 110)) (some (103, false)) := by unfold OpAt; kernel_rfl
  have r14_3 : OpAt (opsC (reg1 Tryd.f9.body)) 106 (some 112) (.fieldAddr 26 (.tmp 3) 20) (some (103, false)) := by unfold OpAt; kernel_rfl
  have r14_4 : OpAt (opsC (reg1 Tryd.f9.body)) 107 (some 113) (.load 3 (.tmp 112)) (some (103, false)) := by unfold OpAt; kernel_rfl
  have r14_5 : OpAt (opsC (reg1 Tryd.f9.body)) 108 (some 114) (.binOp .neq 3 (.tmp 111) (.tmp 113) 3) (some (103, false)) := by unfold OpAt; kernel_rfl
  have r14_6 : OpAt (opsC (reg1 Tryd.f9.body)) 109 (some 115) (.pick (.tmp 109) (.const (.bool true)) (.tmp 114)) none := by unfold OpAt; kernel_rfl
  have r15_0 : OpAt (opsC (reg1 Tryd.f9.body)) 110 (some 116) (.move (.tmp 115)) none := by unfold OpAt; kernel_rfl
  have r15_1 : OpAt (opsC (reg1 Tryd.f9.body)) 111 (some 117) (.fieldAddr 26 (.tmp 2) 21) (some (110, false)) := by unfold OpAt; kernel_rfl
  have r15_2 : OpAt (opsC (reg1 Tryd.f9.body)) 112 (some 118) (.load 3 (.tmp 117)) (some (110, false)) := by unfold OpAt; kernel_rfl
  have r15_3 : OpAt (opsC (reg1 Tryd.f9.body)) 113 (some 119) (.fieldAddr 26 (.tmp 3) 21) (some (110, false)) := by unfold OpAt; kernel_rfl
  have r15_4 : OpAt (opsC (reg1 Tryd.f9.body)) 114 (some 120) (.load 3 (.tmp 119)) (some (110, false)) := by unfold OpAt; kernel_rfl
  have r15_5 : OpAt (opsC (reg1 Tryd.f9.body)) 115 (some 121) (.binOp .neq 3 (.tmp 118) (.tmp 120) 3) (some (110, false)) := by unfold OpAt; kernel_rfl
  have r15_6 : OpAt (opsC (reg1 Tryd.f9.body)) 116 (some 122) (.pick (.tmp 116) (.const (.bool true)) (.tmp 121)) none := by unfold OpAt; kernel_rfl
  have r16_0 : OpAt (opsC (reg1 Tryd.f9.body)) 117 (some 123) (.move (.tmp 122)) none := by unfold OpAt; kernel_rfl
  have r16_1 : OpAt (opsC (reg1 Tryd.f9.body)) 118 (some 124) (.fieldAddr 26 (.tmp 2) 23) (some (117, false)) := by unfold OpAt; kernel_rfl
  have r16_2 : OpAt (opsC (reg1 Tryd.f9.body)) 119 (some 125) (.load 3 (.tmp 124)) (some (117, false)) := by unfold OpAt; kernel_rfl
  have r16_3 : OpAt (opsC (reg1 Tryd.f9.body)) 120 (some 126) (.fieldAddr 26 (.tmp 3) 23) (some (117, false)) := by unfold OpAt; kernel_rfl
  have r16_4 : OpAt (opsC (reg1 Tryd.f9.body)) 121 (some 127) (.load 3 (.tmp 126)) (some (117, false)) := by unfold OpAt; kernel_rfl
  have r16_5 : OpAt (opsC (reg1 Tryd.f9.body)) 122 (some 128) (.binOp .neq 3 (.tmp 125) (.tmp 127) 3) (some (117, false)) := by unfold OpAt; kernel_rfl
  have r16_6 : OpAt (opsC (reg1 Tryd.f9.body)) 123 (some 129) (.pick (.tmp 123) (.const (.bool true)) (.tmp 128)) none := by unfold OpAt; kernel_rfl
  have l_0 : OpAt (opsC (reg1 Tryd.f9.body)) 124 (some 130) (.move (.tmp 129)) none := by unfold OpAt; kernel_rfl
  have l_1 : OpAt (opsC (reg1 Tryd.f9.body)) 125 (some 131) (.fieldAddr 26 (.tmp 2) 22) (some (124, false)) := by unfold OpAt; kernel_rfl
  have l_2 : OpAt (opsC (reg1 Tryd.f9.body)) 126 (some 132) (.load 24 (.tmp 131)) (some (124, false)) := by unfold OpAt; kernel_rfl
  have l_3 : OpAt (opsC (reg1 Tryd.f9.body)) 127 (some 133) (.call { callee := .builtin .len, args := #[.tmp 132], argTypes := #[24] }) (some (124, false)) := by unfold OpAt; kernel_rfl
  have l_4 : OpAt (opsC (reg1 Tryd.f9.body)) 128 (some 134) (.fieldAddr 26 (.tmp 3) 22) (some (124, false)) := by unfold OpAt; kernel_rfl
  have l_5 : OpAt (opsC (reg1 Tryd.f9.body)) 129 (some 135) (.load 24 (.tmp 134)) (some (124, false)) := by unfold OpAt; kernel_rfl
  have l_6 : OpAt (opsC (reg1 Tryd.f9.body)) 130 (some 136) (.call { callee := .builtin .len, args := #[.tmp 135], argTypes := #[24] }) (some (124, false)) := by unfold OpAt; kernel_rfl
  have l_7 : OpAt (opsC (reg1 Tryd.f9.body)) 131 (some 137) (.binOp .neq 3 (.tmp 133) (.tmp 136) 3) (some (124, false)) := by unfold OpAt; kernel_rfl
  have l_8 : OpAt (opsC (reg1 Tryd.f9.body)) 132 (some 138) (.pick (.tmp 130) (.const (.bool true)) (.tmp 137)) none := by unfold OpAt; kernel_rfl
  generalize opsC (reg1 Tryd.f9.body) = ops at *
  have h0a := h0
  show wpList Tryd.prog ops Q (ops.toList.drop 0) a0 W
  refine ls_val (.pointer (some ⟨ga, 0, none⟩)) q0 want_none (fun o ho => fld_0 _ _ ga _ _ (h0.at (by simp)) ho) ?_
  have h1 := h0.to 6 (.pointer (some ⟨ga, 0, none⟩)) [(2, ptr ga), (3, ptr gb)] (by decide) (by simp)
  generalize a0.put _ _ = a1 at h1 ⊢
  refine ls_val (.int .i64 a.x0) q1 want_none (fun o ho => lod_3 _ _ _ _ _ _ (h1.at (by simp)) c0a ho) ?_
  have h2 := h1.to 7 (.int .i64 a.x0) [(2, ptr ga), (3, ptr gb)] (by decide) (by simp)
  generalize a1.put _ _ = a2 at h2 ⊢
  refine ls_val (.pointer (some ⟨gb, 0, none⟩)) q2 want_none (fun o ho => fld_0 _ _ gb _ _ (h2.at (by simp)) ho) ?_
  have h3 := h2.to 8 (.pointer (some ⟨gb, 0, none⟩)) [(7, .int .i64 a.x0), (2, ptr ga), (3, ptr gb)] (by decide) (by simp)
  generalize a2.put _ _ = a3 at h3 ⊢
  refine ls_val (.int .i64 b.x0) q3 want_none (fun o ho => lod_3 _ _ _ _ _ _ (h3.at (by simp)) c0b ho) ?_
  have h4 := h3.to 9 (.int .i64 b.x0) [(7, .int .i64 a.x0), (2, ptr ga), (3, ptr gb)] (by decide) (by simp)
  generalize a3.put _ _ = a4 at h4 ⊢
  refine ls_val (.bool (a.x0 != b.x0)) q4 want_none (fun o ho => neq_3 a.x0 b.x0 _ _ _ _ _ (h4.at (by simp)) (h4.at (by simp)) ho) ?_
  have s0 := h4.to 10 (.bool (a.x0 != b.x0)) [(2, ptr ga), (3, ptr gb)] (by decide) (by simp)
  generalize a4.put _ _ = b0 at s0 ⊢
  refine test_or (i := 5) (m := 11) (p := 10) (j := 1) (ty := 9) ga gb (.string (strOfNums a.x1)) (.string (strOfNums b.x1)) (a.x0 != b.x0) ((strOfNums a.x1).toList != (strOfNums b.x1).toList) s0 r0_0 r0_1 r0_2 r0_3 r0_4 r0_5 r0_6 (by decide) (by decide) (by decide) fld_1 lod_9 (fun a x y W o => neq_9 _ _ a x y W o) c1a c1b ?_
  intro b1 s1
  refine test_or (i := 12) (m := 18) (p := 17) (j := 2) (ty := 9) ga gb (.string (strOfNums a.x2)) (.string (strOfNums b.x2)) ((a.x0 != b.x0) || ((strOfNums a.x1).toList != (strOfNums b.x1).toList)) ((strOfNums a.x2).toList != (strOfNums b.x2).toList) s1 r1_0 r1_1 r1_2 r1_3 r1_4 r1_5 r1_6 (by decide) (by decide) (by decide) fld_2 lod_9 (fun a x y W o => neq_9 _ _ a x y W o) c2a c2b ?_
  intro b2 s2
  refine test_or (i := 19) (m := 25) (p := 24) (j := 3) (ty := 3) ga gb (.int .i64 a.x3) (.int .i64 b.x3) (((a.x0 != b.x0) || ((strOfNums a.x1).toList != (strOfNums b.x1).toList)) || ((strOfNums a.x2).toList != (strOfNums b.x2).toList)) (a.x3 != b.x3) s2 r2_0 r2_1 r2_2 r2_3 r2_4 r2_5 r2_6 (by decide) (by decide) (by decide) fld_3 lod_3 (fun a x y W o => neq_3 _ _ a x y W o) c3a c3b ?_
  intro b3 s3
  refine test_or (i := 26) (m := 32) (p := 31) (j := 6) (ty := 9) ga gb (.string (strOfNums a.x6)) (.string (strOfNums b.x6)) ((((a.x0 != b.x0) || ((strOfNums a.x1).toList != (strOfNums b.x1).toList)) || ((strOfNums a.x2).toList != (strOfNums b.x2).toList)) || (a.x3 != b.x3)) ((strOfNums a.x6).toList != (strOfNums b.x6).toList) s3 r3_0 r3_1 r3_2 r3_3 r3_4 r3_5 r3_6 (by decide) (by decide) (by decide) fld_6 lod_9 (fun a x y W o => neq_9 _ _ a x y W o) c6a c6b ?_
  intro b4 s4
  refine test_or (i := 33) (m := 39) (p := 38) (j := 7) (ty := 9) ga gb (.string (strOfNums a.x7)) (.string (strOfNums b.x7)) (((((a.x0 != b.x0) || ((strOfNums a.x1).toList != (strOfNums b.x1).toList)) || ((strOfNums a.x2).toList != (strOfNums b.x2).toList)) || (a.x3 != b.x3)) || ((strOfNums a.x6).toList != (strOfNums b.x6).toList)) ((strOfNums a.x7).toList != (strOfNums b.x7).toList) s4 r4_0 r4_1 r4_2 r4_3 r4_4 r4_5 r4_6 (by decide) (by decide) (by decide) fld_7 lod_9 (fun a x y W o => neq_9 _ _ a x y W o) c7a c7b ?_
  intro b5 s5
  refine test_or (i := 40) (m := 46) (p := 45) (j := 8) (ty := 9) ga gb (.string (strOfNums a.x8)) (.string (strOfNums b.x8)) ((((((a.x0 != b.x0) || ((strOfNums a.x1).toList != (strOfNums b.x1).toList)) || ((strOfNums a.x2).toList != (strOfNums b.x2).toList)) || (a.x3 != b.x3)) || ((strOfNums a.x6).toList != (strOfNums b.x6).toList)) || ((strOfNums a.x7).toList != (strOfNums b.x7).toList)) ((strOfNums a.x8).toList != (strOfNums b.x8).toList) s5 r5_0 r5_1 r5_2 r5_3 r5_4 r5_5 r5_6 (by decide) (by decide) (by decide) fld_8 lod_9 (fun a x y W o => neq_9 _ _ a x y W o) c8a c8b ?_
  intro b6 s6
  refine test_or (i := 47) (m := 53) (p := 52) (j := 11) (ty := 3) ga gb (.int .i64 a.x11) (.int .i64 b.x11) (((((((a.x0 != b.x0) || ((strOfNums a.x1).toList != (strOfNums b.x1).toList)) || ((strOfNums a.x2).toList != (strOfNums b.x2).toList)) || (a.x3 != b.x3)) || ((strOfNums a.x6).toList != (strOfNums b.x6).toList)) || ((strOfNums a.x7).toList != (strOfNums b.x7).toList)) || ((strOfNums a.x8).toList != (strOfNums b.x8).toList)) (a.x11 != b.x11) s6 r6_0 r6_1 r6_2 r6_3 r6_4 r6_5 r6_6 (by decide) (by decide) (by decide) fld_11 lod_3 (fun a x y W o => neq_3 _ _ a x y W o) c11a c11b ?_
  intro b7 s7
  refine test_or (i := 54) (m := 60) (p := 59) (j := 12) (ty := 9) ga gb (.string (strOfNums a.x12)) (.string (strOfNums b.x12)) ((((((((a.x0 != b.x0) || ((strOfNums a.x1).toList != (strOfNums b.x1).toList)) || ((strOfNums a.x2).toList != (strOfNums b.x2).toList)) || (a.x3 != b.x3)) || ((strOfNums a.x6).toList != (strOfNums b.x6).toList)) || ((strOfNums a.x7).toList != (strOfNums b.x7).toList)) || ((strOfNums a.x8).toList != (strOfNums b.x8).toList)) || (a.x11 != b.x11)) ((strOfNums a.x12).toList != (strOfNums b.x12).toList) s7 r7_0 r7_1 r7_2 r7_3 r7_4 r7_5 r7_6 (by decide) (by decide) (by decide) fld_12 lod_9 (fun a x y W o => neq_9 _ _ a x y W o) c12a c12b ?_
  intro b8 s8
  refine test_or (i := 61) (m := 67) (p := 66) (j := 13) (ty := 9) ga gb (.string (strOfNums a.x13)) (.string (strOfNums b.x13)) (((((((((a.x0 != b.x0) || ((strOfNums a.x1).toList != (strOfNums b.x1).toList)) || ((strOfNums a.x2).toList != (strOfNums b.x2).toList)) || (a.x3 != b.x3)) || ((strOfNums a.x6).toList != (strOfNums b.x6).toList)) || ((strOfNums a.x7).toList != (strOfNums b.x7).toList)) || ((strOfNums a.x8).toList != (strOfNums b.x8).toList)) || (a.x11 != b.x11)) || ((strOfNums a.x12).toList != (strOfNums b.x12).toList)) ((strOfNums a.x13).toList != (strOfNums b.x13).toList) s8 r8_0 r8_1 r8_2 r8_3 r8_4 r8_5 r8_6 (by decide) (by decide) (by decide) fld_13 lod_9 (fun a x y W o => neq_9 _ _ a x y W o) c13a c13b ?_
  intro b9 s9
  refine test_or (i := 68) (m := 74) (p := 73) (j := 14) (ty := 9) ga gb (.string (strOfNums a.x14)) (.string (strOfNums b.x14)) ((((((((((a.x0 != b.x0) || ((strOfNums a.x1).toList != (strOfNums b.x1).toList)) || ((strOfNums a.x2).toList != (strOfNums b.x2).toList)) || (a.x3 != b.x3)) || ((strOfNums a.x6).toList != (strOfNums b.x6).toList)) || ((strOfNums a.x7).toList != (strOfNums b.x7).toList)) || ((strOfNums a.x8).toList != (strOfNums b.x8).toList)) || (a.x11 != b.x11)) || ((strOfNums a.x12).toList != (strOfNums b.x12).toList)) || ((strOfNums a.x13).toList != (strOfNums b.x13).toList)) ((strOfNums a.x14).toList != (strOfNums b.x14).toList) s9 r9_0 r9_1 r9_2 r9_3 r9_4 r9_5 r9_6 (by decide) (by decide) (by decide) fld_14 lod_9 (fun a x y W o => neq_9 _ _ a x y W o) c14a c14b ?_
  intro b10 s10
  refine test_or (i := 75) (m := 81) (p := 80) (j := 15) (ty := 3) ga gb (.int .i64 a.x15) (.int .i64 b.x15) (((((((((((a.x0 != b.x0) || ((strOfNums a.x1).toList != (strOfNums b.x1).toList)) || ((strOfNums a.x2).toList != (strOfNums b.x2).toList)) || (a.x3 != b.x3)) || ((strOfNums a.x6).toList != (strOfNums b.x6).toList)) || ((strOfNums a.x7).toList != (strOfNums b.x7).toList)) || ((strOfNums a.x8).toList != (strOfNums b.x8).toList)) || (a.x11 != b.x11)) || ((strOfNums a.x12).toList != (strOfNums b.x12).toList)) || ((strOfNums a.x13).toList != (strOfNums b.x13).toList)) || ((strOfNums a.x14).toList != (strOfNums b.x14).toList)) (a.x15 != b.x15) s10 r10_0 r10_1 r10_2 r10_3 r10_4 r10_5 r10_6 (by decide) (by decide) (by decide) fld_15 lod_3 (fun a x y W o => neq_3 _ _ a x y W o) c15a c15b ?_
  intro b11 s11
  refine test_or (i := 82) (m := 88) (p := 87) (j := 16) (ty := 9) ga gb (.string (strOfNums a.x16)) (.string (strOfNums b.x16)) ((((((((((((a.x0 != b.x0) || ((strOfNums a.x1).toList != (strOfNums b.x1).toList)) || ((strOfNums a.x2).toList != (strOfNums b.x2).toList)) || (a.x3 != b.x3)) || ((strOfNums a.x6).toList != (strOfNums b.x6).toList)) || ((strOfNums a.x7).toList != (strOfNums b.x7).toList)) || ((strOfNums a.x8).toList != (strOfNums b.x8).toList)) || (a.x11 != b.x11)) || ((strOfNums a.x12).toList != (strOfNums b.x12).toList)) || ((strOfNums a.x13).toList != (strOfNums b.x13).toList)) || ((strOfNums a.x14).toList != (strOfNums b.x14).toList)) || (a.x15 != b.x15)) ((strOfNums a.x16).toList != (strOfNums b.x16).toList) s11 r11_0 r11_1 r11_2 r11_3 r11_4 r11_5 r11_6 (by decide) (by decide) (by decide) fld_16 lod_9 (fun a x y W o => neq_9 _ _ a x y W o) c16a c16b ?_
  intro b12 s12
  refine test_or (i := 89) (m := 95) (p := 94) (j := 17) (ty := 9) ga gb (.string (strOfNums a.x17)) (.string (strOfNums b.x17)) (((((((((((((a.x0 != b.x0) || ((strOfNums a.x1).toList != (strOfNums b.x1).toList)) || ((strOfNums a.x2).toList != (strOfNums b.x2).toList)) || (a.x3 != b.x3)) || ((strOfNums a.x6).toList != (strOfNums b.x6).toList)) || ((strOfNums a.x7).toList != (strOfNums b.x7).toList)) || ((strOfNums a.x8).toList != (strOfNums b.x8).toList)) || (a.x11 != b.x11)) || ((strOfNums a.x12).toList != (strOfNums b.x12).toList)) || ((strOfNums a.x13).toList != (strOfNums b.x13).toList)) || ((strOfNums a.x14).toList != (strOfNums b.x14).toList)) || (a.x15 != b.x15)) || ((strOfNums a.x16).toList != (strOfNums b.x16).toList)) ((strOfNums a.x17).toList != (strOfNums b.x17).toList) s12 r12_0 r12_1 r12_2 r12_3 r12_4 r12_5 r12_6 (by decide) (by decide) (by decide) fld_17 lod_9 (fun a x y W o => neq_9 _ _ a x y W o) c17a c17b ?_
  intro b13 s13
  refine test_or (i := 96) (m := 102) (p := 101) (j := 18) (ty := 3) ga gb (.int .i64 a.x18) (.int .i64 b.x18) ((((((((((((((a.x0 != b.x0) || ((strOfNums a.x1).toList != (strOfNums b.x1).toList)) || ((strOfNums a.x2).toList != (strOfNums b.x2).toList)) || (a.x3 != b.x3)) || ((strOfNums a.x6).toList != (strOfNums b.x6).toList)) || ((strOfNums a.x7).toList != (strOfNums b.x7).toList)) || ((strOfNums a.x8).toList != (strOfNums b.x8).toList)) || (a.x11 != b.x11)) || ((strOfNums a.x12).toList != (strOfNums b.x12).toList)) || ((strOfNums a.x13).toList != (strOfNums b.x13).toList)) || ((strOfNums a.x14).toList != (strOfNums b.x14).toList)) || (a.x15 != b.x15)) || ((strOfNums a.x16).toList != (strOfNums b.x16).toList)) || ((strOfNums a.x17).toList != (strOfNums b.x17).toList)) (a.x18 != b.x18) s13 r13_0 r13_1 r13_2 r13_3 r13_4 r13_5 r13_6 (by decide) (by decide) (by decide) fld_18 lod_3 (fun a x y W o => neq_3 _ _ a x y W o) c18a c18b ?_
  intro b14 s14
  refine test_or (i := 103) (m := 109) (p := 108) (j := 20) (ty := 3) ga gb (.int .i64 a.x20) (.int .i64 b.x20) (((((((((((((((a.x0 != b.x0) || ((strOfNums a.x1).toList != (strOfNums b.x1).toList)) || ((strOfNums a.x2).toList != (strOfNums b.x2).toList)) || (a.x3 != b.x3)) || ((strOfNums a.x6).toList != (strOfNums b.x6).toList)) || ((strOfNums a.x7).toList != (strOfNums b.x7).toList)) || ((strOfNums a.x8).toList != (strOfNums b.x8).toList)) || (a.x11 != b.x11)) || ((strOfNums a.x12).toList != (strOfNums b.x12).toList)) || ((strOfNums a.x13).toList != (strOfNums b.x13).toList)) || ((strOfNums a.x14).toList != (strOfNums b.x14).toList)) || (a.x15 != b.x15)) || ((strOfNums a.x16).toList != (strOfNums b.x16).toList)) || ((strOfNums a.x17).toList != (strOfNums b.x17).toList)) || (a.x18 != b.x18)) (a.x20 != b.x20) s14 r14_0 r14_1 r14_2 r14_3 r14_4 r14_5 r14_6 (by decide) (by decide) (by decide) fld_20 lod_3 (fun a x y W o => neq_3 _ _ a x y W o) c20a c20b ?_
  intro b15 s15
  refine test_or (i := 110) (m := 116) (p := 115) (j := 21) (ty := 3) ga gb (.int .i64 a.x21) (.int .i64 b.x21) ((((((((((((((((a.x0 != b.x0) || ((strOfNums a.x1).toList != (strOfNums b.x1).toList)) || ((strOfNums a.x2).toList != (strOfNums b.x2).toList)) || (a.x3 != b.x3)) || ((strOfNums a.x6).toList != (strOfNums b.x6).toList)) || ((strOfNums a.x7).toList != (strOfNums b.x7).toList)) || ((strOfNums a.x8).toList != (strOfNums b.x8).toList)) || (a.x11 != b.x11)) || ((strOfNums a.x12).toList != (strOfNums b.x12).toList)) || ((strOfNums a.x13).toList != (strOfNums b.x13).toList)) || ((strOfNums a.x14).toList != (strOfNums b.x14).toList)) || (a.x15 != b.x15)) || ((strOfNums a.x16).toList != (strOfNums b.x16).toList)) || ((strOfNums a.x17).toList != (strOfNums b.x17).toList)) || (a.x18 != b.x18)) || (a.x20 != b.x20)) (a.x21 != b.x21) s15 r15_0 r15_1 r15_2 r15_3 r15_4 r15_5 r15_6 (by decide) (by decide) (by decide) fld_21 lod_3 (fun a x y W o => neq_3 _ _ a x y W o) c21a c21b ?_
  intro b16 s16
  refine test_or (i := 117) (m := 123) (p := 122) (j := 23) (ty := 3) ga gb (.int .i64 a.x23) (.int .i64 b.x23) (((((((((((((((((a.x0 != b.x0) || ((strOfNums a.x1).toList != (strOfNums b.x1).toList)) || ((strOfNums a.x2).toList != (strOfNums b.x2).toList)) || (a.x3 != b.x3)) || ((strOfNums a.x6).toList != (strOfNums b.x6).toList)) || ((strOfNums a.x7).toList != (strOfNums b.x7).toList)) || ((strOfNums a.x8).toList != (strOfNums b.x8).toList)) || (a.x11 != b.x11)) || ((strOfNums a.x12).toList != (strOfNums b.x12).toList)) || ((strOfNums a.x13).toList != (strOfNums b.x13).toList)) || ((strOfNums a.x14).toList != (strOfNums b.x14).toList)) || (a.x15 != b.x15)) || ((strOfNums a.x16).toList != (strOfNums b.x16).toList)) || ((strOfNums a.x17).toList != (strOfNums b.x17).toList)) || (a.x18 != b.x18)) || (a.x20 != b.x20)) || (a.x21 != b.x21)) (a.x23 != b.x23) s16 r16_0 r16_1 r16_2 r16_3 r16_4 r16_5 r16_6 (by decide) (by decide) (by decide) fld_23 lod_3 (fun a x y W o => neq_3 _ _ a x y W o) c23a c23b ?_
  intro b17 s17
  generalize hD : ((((((((((((((((((a.x0 != b.x0) || ((strOfNums a.x1).toList != (strOfNums b.x1).toList)) || ((strOfNums a.x2).toList != (strOfNums b.x2).toList)) || (a.x3 != b.x3)) || ((strOfNums a.x6).toList != (strOfNums b.x6).toList)) || ((strOfNums a.x7).toList != (strOfNums b.x7).toList)) || ((strOfNums a.x8).toList != (strOfNums b.x8).toList)) || (a.x11 != b.x11)) || ((strOfNums a.x12).toList != (strOfNums b.x12).toList)) || ((strOfNums a.x13).toList != (strOfNums b.x13).toList)) || ((strOfNums a.x14).toList != (strOfNums b.x14).toList)) || (a.x15 != b.x15)) || ((strOfNums a.x16).toList != (strOfNums b.x16).toList)) || ((strOfNums a.x17).toList != (strOfNums b.x17).toList)) || (a.x18 != b.x18)) || (a.x20 != b.x20)) || (a.x21 != b.x21)) || (a.x23 != b.x23)) = d at s17
  have hR : rdiff a b = (d || ((a.x22.length : Int) != (b.x22.length : Int))) := by rw [← hD]; rfl
  rw [hR] at hk
  clear hD hR
  refine ls_val (.bool d) l_0 want_none (fun o ho => run_mv (s17.at (by simp)) ho) ?_
  have h1 := s17.to 130 (.bool d) [(2, ptr ga), (3, ptr gb)] (by decide) (by simp)
  generalize b17.put _ _ = a1 at h1 ⊢
  have hw : ∀ (x : Act) (l : List (Nat × Value)), KN 190 x l → (130, Value.bool d) ∈ l → want ops x (some (124, false)) (d == false) := fun x l hx hl => want_some hx 124 130 false d l_0.dst hl
  cases d with
  | true =>
    refine ls_off l_1 (hw _ _ h1 (by simp)) ?_
    have h2 := h1.to 131 undef [(130, .bool true), (2, ptr ga), (3, ptr gb)] (by decide) (by simp)
    generalize a1.put _ _ = a2 at h2 ⊢
    refine ls_off l_2 (hw _ _ h2 (by simp)) ?_
    have h3 := h2.to 132 undef [(130, .bool true), (2, ptr ga), (3, ptr gb)] (by decide) (by simp)
    generalize a2.put _ _ = a3 at h3 ⊢
    refine ls_off l_3 (hw _ _ h3 (by simp)) ?_
    have h4 := h3.to 133 undef [(130, .bool true), (2, ptr ga), (3, ptr gb)] (by decide) (by simp)
    generalize a3.put _ _ = a4 at h4 ⊢
    refine ls_off l_4 (hw _ _ h4 (by simp)) ?_
    have h5 := h4.to 134 undef [(130, .bool true), (2, ptr ga), (3, ptr gb)] (by decide) (by simp)
    generalize a4.put _ _ = a5 at h5 ⊢
    refine ls_off l_5 (hw _ _ h5 (by simp)) ?_
    have h6 := h5.to 135 undef [(130, .bool true), (2, ptr ga), (3, ptr gb)] (by decide) (by simp)
    generalize a5.put _ _ = a6 at h6 ⊢
    refine ls_off l_6 (hw _ _ h6 (by simp)) ?_
    have h7 := h6.to 136 undef [(130, .bool true), (2, ptr ga), (3, ptr gb)] (by decide) (by simp)
    generalize a6.put _ _ = a7 at h7 ⊢
    refine ls_off l_7 (hw _ _ h7 (by simp)) ?_
    have h8 := h7.to 137 undef [(130, .bool true), (2, ptr ga), (3, ptr gb)] (by decide) (by simp)
    generalize a7.put _ _ = a8 at h8 ⊢
    refine ls_val (.bool true) l_8 want_none (fun o ho => run_pick (b := true) (h8.at (by simp)) rfl rfl ho) ?_
    have h9 := h8.to 138 (.bool true) [(2, ptr ga), (3, ptr gb)] (by decide) (by simp)
    have hd : ops.toList.drop 133 = [] := by rw [List.drop_eq_nil_of_le (by rw [Array.length_toList, hz]; exact Nat.le_refl _)]
    show wpList Tryd.prog ops Q (ops.toList.drop 133) _ W
    rw [hd]
    exact hk _ h9
  | false =>
    refine ls_val (.pointer (some ⟨ga, 22, none⟩)) l_1 (hw _ _ h1 (by simp)) (fun o ho => fld_22 _ _ ga _ _ (h1.at (by simp)) ho) ?_
    have h2 := h1.to 131 (.pointer (some ⟨ga, 22, none⟩)) [(130, .bool false), (2, ptr ga), (3, ptr gb)] (by decide) (by simp)
    generalize a1.put _ _ = a2 at h2 ⊢
    refine ls_val (.slice Aa a.x22.length ka) l_2 (hw _ _ h2 (by simp)) (fun o ho => lod_24 _ _ _ _ _ _ (h2.at (by simp)) c22a ho) ?_
    have h3 := h2.to 132 (.slice Aa a.x22.length ka) [(130, .bool false), (2, ptr ga), (3, ptr gb)] (by decide) (by simp)
    generalize a2.put _ _ = a3 at h3 ⊢
    refine ls_val (.int .i64 (a.x22.length : Int)) l_3 (hw _ _ h3 (by simp)) (fun o ho => len_24 Aa a.x22.length ka _ _ _ _ (h3.at (by simp)) ho) ?_
    have h4 := h3.to 133 (.int .i64 (a.x22.length : Int)) [(130, .bool false), (2, ptr ga), (3, ptr gb)] (by decide) (by simp)
    generalize a3.put _ _ = a4 at h4 ⊢
    refine ls_val (.pointer (some ⟨gb, 22, none⟩)) l_4 (hw _ _ h4 (by simp)) (fun o ho => fld_22 _ _ gb _ _ (h4.at (by simp)) ho) ?_
    have h5 := h4.to 134 (.pointer (some ⟨gb, 22, none⟩)) [(133, .int .i64 (a.x22.length : Int)), (130, .bool false), (2, ptr ga), (3, ptr gb)] (by decide) (by simp)
    generalize a4.put _ _ = a5 at h5 ⊢
    refine ls_val (.slice Ab b.x22.length kb) l_5 (hw _ _ h5 (by simp)) (fun o ho => lod_24 _ _ _ _ _ _ (h5.at (by simp)) c22b ho) ?_
    have h6 := h5.to 135 (.slice Ab b.x22.length kb) [(133, .int .i64 (a.x22.length : Int)), (130, .bool false), (2, ptr ga), (3, ptr gb)] (by decide) (by simp)
    generalize a5.put _ _ = a6 at h6 ⊢
    refine ls_val (.int .i64 (b.x22.length : Int)) l_6 (hw _ _ h6 (by simp)) (fun o ho => len_24 Ab b.x22.length kb _ _ _ _ (h6.at (by simp)) ho) ?_
    have h7 := h6.to 136 (.int .i64 (b.x22.length : Int)) [(133, .int .i64 (a.x22.length : Int)), (130, .bool false), (2, ptr ga), (3, ptr gb)] (by decide) (by simp)
    generalize a6.put _ _ = a7 at h7 ⊢
    refine ls_val (.bool ((a.x22.length : Int) != (b.x22.length : Int))) l_7 (hw _ _ h7 (by simp)) (fun o ho => neq_3 _ _ _ _ _ _ _ (h7.at (by simp)) (h7.at (by simp)) ho) ?_
    have h8 := h7.to 137 (.bool ((a.x22.length : Int) != (b.x22.length : Int))) [(130, .bool false), (2, ptr ga), (3, ptr gb)] (by decide) (by simp)
    generalize a7.put _ _ = a8 at h8 ⊢
    refine ls_val (.bool ((a.x22.length : Int) != (b.x22.length : Int))) l_8 want_none (fun o ho => run_pick (b := false) (h8.at (by simp)) rfl (h8.at (by simp)) ho) ?_
    have h9 := h8.to 138 (.bool ((a.x22.length : Int) != (b.x22.length : Int))) [(2, ptr ga), (3, ptr gb)] (by decide) (by simp)
    have hd : ops.toList.drop 133 = [] := by rw [List.drop_eq_nil_of_le (by rw [Array.length_toList, hz]; exact Nat.le_refl _)]
    show wpList Tryd.prog ops Q (ops.toList.drop 133) _ W
    rw [hd]
    exact hk _ h9
theorem run_assign' {a : Act} {w : World} {o : Oper} {x : Operand} {v : Value} (hv : a.eval x = v) (h : o.op = .assign x) : (execOp a.eval o).run Tryd.prog w = .ok (.value v) w := by
  unfold execOp; rw [h, ← hv]; rfl
theorem refsame_calls (A1 : Option Addr) (c1 : Nat) (xs : List Int) (A2 : Option Addr) (c2 : Nat) (ys : List Int) (w : World) (h1 : Kd.C (Kd.int .u8) w A1 xs.length xs) (hc1 : xs.length ≤ c1) (h2 : Kd.C (Kd.int .u8) w A2 ys.length ys) (hc2 : ys.length ≤ c2) (hx : BytN xs) :
    Calls Tryd.prog 15 #[.slice A1 xs.length c1, .slice A2 ys.length c2] w fun e w' => e = .returned (.bool (decide (xs = ys))) ∧ ∃ nd, w' = w.drewN nd := by
  obtain ⟨k, hk⟩ := (ref_same xs ys hx.2).rounds
  exact (deedboxref01_Same.calls k A1 c1 xs A2 c2 ys _ w h1 hc1 h2 hc2 hk).mono fun e w' ⟨he, hd⟩ => ⟨he, drawn_ex hd⟩
def rsames (a b : AskP) : Bool := ((((decide (a.x4 = b.x4) && decide (a.o 0 = b.o 0)) && decide (a.o 1 = b.o 1)) && decide (a.o 2 = b.o 2)) && decide (a.o 3 = b.o 3))
def reg8 (c : Option Code) : Code := fstC (nthC 3 (c.getD .skip))
theorem reg8_code : reg8 Tryd.f9.body = .region 8 (opsC (reg8 Tryd.f9.body)) false := by kernel_rfl
set_option maxRecDepth 100000 in
theorem row8 (a b : AskP) (w : World) (ga gb : Nat) (ca cb : Array Value) (W : World) (TW : TwoAt w ga gb ca cb a b W) (ba : AskB a) (a0 : Act) (h0 : KN 190 a0 [(2, ptr ga), (3, ptr gb)]) (Q : Exit → Act → World → Prop)
    (hk : ∀ a' W', TwoAt w ga gb ca cb a b W' → KN 190 a' [(4, .bool (rsames a b))] → Q .normal a' W') : Code.wp Tryd.prog (reg8 Tryd.f9.body) Q a0 W := by
  rw [reg8_code]
  refine wp_region_list ?_
  have hz : (opsC (reg8 Tryd.f9.body)).size = 34 := by kernel_rfl
  have q0 : OpAt (opsC (reg8 Tryd.f9.body)) 0 (some 157) (.fieldAddr 26 (.tmp 2) 4) none := by unfold OpAt; kernel_rfl
  have q1 : OpAt (opsC (reg8 Tryd.f9.body)) 1 (some 158) (.load 22 (.tmp 157)) none := by unfold OpAt; kernel_rfl
  have q2 : OpAt (opsC (reg8 Tryd.f9.body)) 2 (some 159) (.fieldAddr 26 (.tmp 3) 4) none := by unfold OpAt; kernel_rfl
  have q3 : OpAt (opsC (reg8 Tryd.f9.body)) 3 (some 160) (.load 22 (.tmp 159)) none := by unfold OpAt; kernel_rfl
  have q4 : OpAt (opsC (reg8 Tryd.f9.body)) 4 (some 161) (.call { callee := .value (.func 15), args := #[.tmp 158, .tmp 160], argTypes := #[22, 22] }) none := by unfold OpAt; kernel_rfl
  have r0_0 : OpAt (opsC (reg8 Tryd.f9.body)) 5 (some 162) (.move (.tmp 161)) none := by unfold OpAt; kernel_rfl
  have r0_1 : OpAt (opsC (reg8 Tryd.f9.body)) 6 (some 163) (.fieldAddr 26 (.tmp 2) 5) (some (5, true)) := by unfold OpAt; kernel_rfl
  have r0_2 : OpAt (opsC (reg8 Tryd.f9.body)) 7 (some 164) (.load 22 (.tmp 163)) (some (5, true)) := by unfold OpAt; kernel_rfl
  have r0_3 : OpAt (opsC (reg8 Tryd.f9.body)) 8 (some 165) (.fieldAddr 26 (.tmp 3) 5) (some (5, true)) := by unfold OpAt; kernel_rfl
  have r0_4 : OpAt (opsC (reg8 Tryd.f9.body)) 9 (some 166) (.load 22 (.tmp 165)) (some (5, true)) := by unfold OpAt; kernel_rfl
  have r0_5 : OpAt (opsC (reg8 Tryd.f9.body)) 10 (some 167) (.call { callee := .value (.func 15), args := #[.tmp 164, .tmp 166], argTypes := #[22, 22] }) (some (5, true)) := by unfold OpAt; kernel_rfl
  have r0_6 : OpAt (opsC (reg8 Tryd.f9.body)) 11 (some 168) (.pick (.tmp 162) (.tmp 167) (.const (.bool false))) none := by unfold OpAt; kernel_rfl
  have r1_0 : OpAt (opsC (reg8 Tryd.f9.body)) 12 (some 169) (.move (.tmp 168)) none := by unfold OpAt; kernel_rfl
  have r1_1 : OpAt (opsC (reg8 Tryd.f9.body)) 13 (some 170) (.fieldAddr 26 (.tmp 2) 9) (some (12, true)) := by unfold OpAt; kernel_rfl
  have r1_2 : OpAt (opsC (reg8 Tryd.f9.body)) 14 (some 171) (.load 22 (.tmp 170)) (some (12, true)) := by unfold OpAt; kernel_rfl
  have r1_3 : OpAt (opsC (reg8 Tryd.f9.body)) 15 (some 172) (.fieldAddr 26 (.tmp 3) 9) (some (12, true)) := by unfold OpAt; kernel_rfl
  have r1_4 : OpAt (opsC (reg8 Tryd.f9.body)) 16 (some 173) (.load 22 (.tmp 172)) (some (12, true)) := by unfold OpAt; kernel_rfl
  have r1_5 : OpAt (opsC (reg8 Tryd.f9.body)) 17 (some 174) (.call { callee := .value (.func 15), args := #[.tmp 171, .tmp 173], argTypes := #[22, 22] }) (some (12, true)) := by unfold OpAt; kernel_rfl
  have r1_6 : OpAt (opsC (reg8 Tryd.f9.body)) 18 (some 175) (.pick (.tmp 169) (.tmp 174) (.const (.bool false))) none := by unfold OpAt; kernel_rfl
  have r2_0 : OpAt (opsC (reg8 Tryd.f9.body)) 19 (some 176) (.move (.tmp 175)) none := by unfold OpAt; kernel_rfl
  have r2_1 : OpAt (opsC (reg8 Tryd.f9.body)) 20 (some 177) (.fieldAddr 26 (.tmp 2) 10) (some (19, true)) := by unfold OpAt; kernel_rfl
  have r2_2 : OpAt (opsC (reg8 Tryd.f9.body)) 21 (some 178) (.load 22 (.tmp 177)) (some (19, true)) := by unfold OpAt; kernel_rfl
  have r2_3 : OpAt (opsC (reg8 Tryd.f9.body)) 22 (some 179) (.fieldAddr 26 (.tmp 3) 10) (some (19, true)) := by unfold OpAt; kernel_rfl
  have r2_4 : OpAt (opsC (reg8 Tryd.f9.body)) 23 (some 180) (.load 22 (.tmp 179)) (some (19, true)) := by unfold OpAt; kernel_rfl
  have r2_5 : OpAt (opsC (reg8 Tryd.f9.body)) 24 (some 181) (.call { callee := .value (.func 15), args := #[.tmp 178, .tmp 180], argTypes := #[22, 22] }) (some (19, true)) := by unfold OpAt; kernel_rfl
  have r2_6 : OpAt (opsC (reg8 Tryd.f9.body)) 25 (some 182) (.pick (.tmp 176) (.tmp 181) (.const (.bool false))) none := by unfold OpAt; kernel_rfl
  have r3_0 : OpAt (opsC (reg8 Tryd.f9.body)) 26 (some 183) (.move (.tmp 182)) none := by unfold OpAt; kernel_rfl
  have r3_1 : OpAt (opsC (reg8 Tryd.f9.body)) 27 (some 184) (.fieldAddr 26 (.tmp 2) 19) (some (26, true)) := by unfold OpAt; kernel_rfl
  have r3_2 : OpAt (opsC (reg8 Tryd.f9.body)) 28 (some 185) (.load 22 (.tmp 184)) (some (26, true)) := by unfold OpAt; kernel_rfl
  have r3_3 : OpAt (opsC (reg8 Tryd.f9.body)) 29 (some 186) (.fieldAddr 26 (.tmp 3) 19) (some (26, true)) := by unfold OpAt; kernel_rfl
  have r3_4 : OpAt (opsC (reg8 Tryd.f9.body)) 30 (some 187) (.load 22 (.tmp 186)) (some (26, true)) := by unfold OpAt; kernel_rfl
  have r3_5 : OpAt (opsC (reg8 Tryd.f9.body)) 31 (some 188) (.call { callee := .value (.func 15), args := #[.tmp 185, .tmp 187], argTypes := #[22, 22] }) (some (26, true)) := by unfold OpAt; kernel_rfl
  have r3_6 : OpAt (opsC (reg8 Tryd.f9.body)) 32 (some 189) (.pick (.tmp 183) (.tmp 188) (.const (.bool false))) none := by unfold OpAt; kernel_rfl
  have l0 : OpAt (opsC (reg8 Tryd.f9.body)) 33 (some 4) (.assign (.tmp 189)) none := by unfold OpAt; kernel_rfl
  generalize opsC (reg8 Tryd.f9.body) = ops at *
  obtain ⟨A1, k1, x1, l1, C1⟩ := TW.1.body
  obtain ⟨A2, k2, x2, l2, C2⟩ := TW.2.1.body
  show wpList Tryd.prog ops Q (ops.toList.drop 0) a0 W
  refine ls_val (.pointer (some ⟨ga, 4, none⟩)) q0 want_none (fun o ho => fld_4 _ _ ga _ _ (h0.at (by simp)) ho) ?_
  have h1 := h0.to 157 (.pointer (some ⟨ga, 4, none⟩)) [(2, ptr ga), (3, ptr gb)] (by decide) (by simp)
  generalize a0.put _ _ = a1 at h1 ⊢
  refine ls_val (.slice A1 a.x4.length k1) q1 want_none (fun o ho => lod_22 _ _ _ _ _ _ (h1.at (by simp)) x1 ho) ?_
  have h2 := h1.to 158 (.slice A1 a.x4.length k1) [(2, ptr ga), (3, ptr gb)] (by decide) (by simp)
  generalize a1.put _ _ = a2 at h2 ⊢
  refine ls_val (.pointer (some ⟨gb, 4, none⟩)) q2 want_none (fun o ho => fld_4 _ _ gb _ _ (h2.at (by simp)) ho) ?_
  have h3 := h2.to 159 (.pointer (some ⟨gb, 4, none⟩)) [(158, .slice A1 a.x4.length k1), (2, ptr ga), (3, ptr gb)] (by decide) (by simp)
  generalize a2.put _ _ = a3 at h3 ⊢
  refine ls_val (.slice A2 b.x4.length k2) q3 want_none (fun o ho => lod_22 _ _ _ _ _ _ (h3.at (by simp)) x2 ho) ?_
  have h4 := h3.to 160 (.slice A2 b.x4.length k2) [(158, .slice A1 a.x4.length k1), (2, ptr ga), (3, ptr gb)] (by decide) (by simp)
  generalize a3.put _ _ = a4 at h4 ⊢
  refine ls_call Tryd.func15 (by kernel_rfl) rfl #[.slice A1 a.x4.length k1, .slice A2 b.x4.length k2] q4 want_none (by simp only [List.map_toArray, List.map_cons, List.map_nil, h4.at (n := 158) (v := .slice A1 a.x4.length k1) (by simp), h4.at (n := 160) (v := .slice A2 b.x4.length k2) (by simp)]) ((refsame_calls A1 k1 a.x4 A2 k2 b.x4 W C1 l1 C2 l2 ba.b4).mono ?_)
  rintro e W0 ⟨rfl, ⟨nd, hnd⟩⟩
  refine ⟨_, rfl, ?_⟩
  have I0 : TwoAt w ga gb ca cb a b W0 := by rw [hnd]; exact TW.drewN nd
  clear x1 x2 C1 C2 TW hnd
  have s0 := h4.to 161 (.bool (decide (a.x4 = b.x4))) [(2, ptr ga), (3, ptr gb)] (by decide) (by simp)
  generalize a4.put _ _ = b0 at s0 ⊢
  obtain ⟨A1, k1, x1, l1, C1⟩ := I0.1.oct 0 (by decide)
  obtain ⟨A2, k2, x2, l2, C2⟩ := I0.2.1.oct 0 (by decide)
  refine test_and (i := 5) (m := 162) (p := 161) (j := 5) (ty := 22) (fun W => TwoAt w ga gb ca cb a b W) ga gb (.slice A1 (a.o 0).length k1) (.slice A2 (b.o 0).length k2) (decide (a.x4 = b.x4)) (decide (a.o 0 = b.o 0)) s0 Tryd.func15 (by kernel_rfl) rfl r0_0 r0_1 r0_2 r0_3 r0_4 r0_5 r0_6 (by decide) (by decide) (by decide) fld_5 lod_22 ((refsame_calls A1 k1 (a.o 0) A2 k2 (b.o 0) W0 C1 l1 C2 l2 (ba.o 0)).mono fun e w' ⟨h1, ⟨nd, h2⟩⟩ => ⟨h1, by rw [h2]; exact I0.drewN nd⟩) I0 x1 x2 ?_
  intro b1 W1 I1 s1
  clear x1 x2 C1 C2 I0
  obtain ⟨A1, k1, x1, l1, C1⟩ := I1.1.oct 1 (by decide)
  obtain ⟨A2, k2, x2, l2, C2⟩ := I1.2.1.oct 1 (by decide)
  refine test_and (i := 12) (m := 169) (p := 168) (j := 9) (ty := 22) (fun W => TwoAt w ga gb ca cb a b W) ga gb (.slice A1 (a.o 1).length k1) (.slice A2 (b.o 1).length k2) ((decide (a.x4 = b.x4) && decide (a.o 0 = b.o 0))) (decide (a.o 1 = b.o 1)) s1 Tryd.func15 (by kernel_rfl) rfl r1_0 r1_1 r1_2 r1_3 r1_4 r1_5 r1_6 (by decide) (by decide) (by decide) fld_9 lod_22 ((refsame_calls A1 k1 (a.o 1) A2 k2 (b.o 1) W1 C1 l1 C2 l2 (ba.o 1)).mono fun e w' ⟨h1, ⟨nd, h2⟩⟩ => ⟨h1, by rw [h2]; exact I1.drewN nd⟩) I1 x1 x2 ?_
  intro b2 W2 I2 s2
  clear x1 x2 C1 C2 I1
  obtain ⟨A1, k1, x1, l1, C1⟩ := I2.1.oct 2 (by decide)
  obtain ⟨A2, k2, x2, l2, C2⟩ := I2.2.1.oct 2 (by decide)
  refine test_and (i := 19) (m := 176) (p := 175) (j := 10) (ty := 22) (fun W => TwoAt w ga gb ca cb a b W) ga gb (.slice A1 (a.o 2).length k1) (.slice A2 (b.o 2).length k2) (((decide (a.x4 = b.x4) && decide (a.o 0 = b.o 0)) && decide (a.o 1 = b.o 1))) (decide (a.o 2 = b.o 2)) s2 Tryd.func15 (by kernel_rfl) rfl r2_0 r2_1 r2_2 r2_3 r2_4 r2_5 r2_6 (by decide) (by decide) (by decide) fld_10 lod_22 ((refsame_calls A1 k1 (a.o 2) A2 k2 (b.o 2) W2 C1 l1 C2 l2 (ba.o 2)).mono fun e w' ⟨h1, ⟨nd, h2⟩⟩ => ⟨h1, by rw [h2]; exact I2.drewN nd⟩) I2 x1 x2 ?_
  intro b3 W3 I3 s3
  clear x1 x2 C1 C2 I2
  obtain ⟨A1, k1, x1, l1, C1⟩ := I3.1.oct 3 (by decide)
  obtain ⟨A2, k2, x2, l2, C2⟩ := I3.2.1.oct 3 (by decide)
  refine test_and (i := 26) (m := 183) (p := 182) (j := 19) (ty := 22) (fun W => TwoAt w ga gb ca cb a b W) ga gb (.slice A1 (a.o 3).length k1) (.slice A2 (b.o 3).length k2) ((((decide (a.x4 = b.x4) && decide (a.o 0 = b.o 0)) && decide (a.o 1 = b.o 1)) && decide (a.o 2 = b.o 2))) (decide (a.o 3 = b.o 3)) s3 Tryd.func15 (by kernel_rfl) rfl r3_0 r3_1 r3_2 r3_3 r3_4 r3_5 r3_6 (by decide) (by decide) (by decide) fld_19 lod_22 ((refsame_calls A1 k1 (a.o 3) A2 k2 (b.o 3) W3 C1 l1 C2 l2 (ba.o 3)).mono fun e w' ⟨h1, ⟨nd, h2⟩⟩ => ⟨h1, by rw [h2]; exact I3.drewN nd⟩) I3 x1 x2 ?_
  intro b4 W4 I4 s4
  clear x1 x2 C1 C2 I3
  refine ls_val (.bool (rsames a b)) l0 want_none (fun o ho => run_assign' (s4.at (by simp [rsames])) ho) ?_
  have h9 := s4.to 4 (.bool (rsames a b)) [] (by decide) (by simp)
  have hd : ops.toList.drop 34 = [] := by rw [List.drop_eq_nil_of_le (by rw [Array.length_toList, hz]; exact Nat.le_refl _)]
  show wpList Tryd.prog ops Q (ops.toList.drop 34) _ W4
  rw [hd]
  exact hk _ _ I4 h9
def findR (n : Nat) : Code → Option (Array Oper)
  | .region id ops _ => if id = n then some ops else none
  | .seq a b => (findR n a).orElse fun _ => findR n b
  | .cond _ a b => (findR n a).orElse fun _ => findR n b
  | .block _ c => findR n c
  | .loop c => findR n c
  | _ => none
def opsR (n : Nat) (c : Option Code) : Array Oper := (findR n (c.getD .skip)).getD #[]
def lc9 (c : Option Code) : Code := fstC (nthC 2 (c.getD .skip))
theorem lc9_code : lc9 Tryd.f9.body = .seq (.region 3 (opsR 3 Tryd.f9.body) false) (.block 0 (.loop (.seq (.seq (.region 4 (opsR 4 Tryd.f9.body) false) (.cond (.tmp 143) .skip (.exit 0))) (.seq (.block 1 (.seq (.region 6 (opsR 6 Tryd.f9.body) true) (.cond (.tmp 156) (.seq (.region 7 (opsR 7 Tryd.f9.body) false) .ret) .skip))) (.region 5 (opsR 5 Tryd.f9.body) false))))) := by kernel_rfl
def QR (Kn Kr : Act → World → Prop) : Exit → Act → World → Prop
  | .normal, a, w => Kn a w
  | .ret, a, w => Kr a w
  | _, _, _ => False
theorem yif {P : Program} {ops : Array Oper} {S : World → Prop} {o : Oper} {v : Value} {a : Act} (hg : o.guard = none) (h : ∀ W, S W → (execOp a.eval o).run P W = .ok (.value v) W) : YieldsIf P ops S o v a := .inl ⟨by simp [Region.wanted, hg], h⟩
theorem idx_24 (ad : Addr) (n c j : Nat) (a : Act) (x y : Operand) (W : World) (o : Oper) (hx : a.eval x = .slice (some ad) n c) (hy : a.eval y = .int .i64 j) (hj : j < n) (ho : o.op = .indexAddr 24 x y) : (execOp a.eval o).run Tryd.prog W = .ok (.value (.pointer (some (ad.add j)))) W := by
  have hu := Tryd.underlying24
  have h1 : (j : Int) < (n : Int) := by omega
  unfold execOp
  simp only [ho, hx, hy]
  go_simp
theorem lss_3 (m n : Int) (a : Act) (x y : Operand) (W : World) (o : Oper) (hx : a.eval x = .int .i64 m) (hy : a.eval y = .int .i64 n) (ho : o.op = .binOp .lss 3 x y 3) : (execOp a.eval o).run Tryd.prog W = .ok (.value (.bool (decide (m < n)))) W := by
  unfold execOp
  simp only [ho, hx, hy]
  go_simp
theorem inc_3 (m : Nat) (a : Act) (x : Operand) (W : World) (o : Oper) (hm : m + 1 ≤ 9223372036854775807) (hx : a.eval x = .int .i64 (m : Int)) (ho : o.op = .binOp .add 3 x (.const (.int .i64 1)) 3) : (execOp a.eval o).run Tryd.prog W = .ok (.value (.int .i64 ((m + 1 : Nat) : Int))) W := by
  have h1 : (m : Int) + 1 ≤ 9223372036854775807 := by omega
  unfold execOp
  simp only [ho, hx]
  go_simp
  rw [IntKind.wrap_i64]
  omega
set_option maxRecDepth 100000 in
theorem loop9 (a b : AskP) (w : World) (ga gb : Nat) (ca cb : Array Value) (W : World) (TW : TwoAt w ga gb ca cb a b W) (hll : a.x22.length = b.x22.length) (a0 : Act) (h0 : KN 190 a0 [(2, ptr ga), (3, ptr gb)]) (Kn Kr : Act → World → Prop)
    (hn : ∀ a' W', TwoAt w ga gb ca cb a b W' → a.x22 = b.x22 → KN 190 a' [(2, ptr ga), (3, ptr gb)] → Kn a' W')
    (hr : ∀ a' W', TwoAt w ga gb ca cb a b W' → a.x22 ≠ b.x22 → KN 190 a' [(4, .bool false)] → Kr a' W') : Code.wp Tryd.prog (lc9 Tryd.f9.body) (QR Kn Kr) a0 W := by
  rw [lc9_code]
  have p3_0 : OpAt (opsR 3 Tryd.f9.body) 0 (some 5) (.assign (.const (.int .i64 0))) none := by unfold OpAt; kernel_rfl
  have p4_0 : OpAt (opsR 4 Tryd.f9.body) 0 (some 139) (.move (.tmp 5)) none := by unfold OpAt; kernel_rfl
  have p4_1 : OpAt (opsR 4 Tryd.f9.body) 1 (some 140) (.fieldAddr 26 (.tmp 2) 22) none := by unfold OpAt; kernel_rfl
  have p4_2 : OpAt (opsR 4 Tryd.f9.body) 2 (some 141) (.load 24 (.tmp 140)) none := by unfold OpAt; kernel_rfl
  have p4_3 : OpAt (opsR 4 Tryd.f9.body) 3 (some 142) (.call { callee := .builtin .len, args := #[.tmp 141], argTypes := #[24] }) none := by unfold OpAt; kernel_rfl
  have p4_4 : OpAt (opsR 4 Tryd.f9.body) 4 (some 143) (.binOp .lss 3 (.tmp 139) (.tmp 142) 3) none := by unfold OpAt; kernel_rfl
  have p5_0 : OpAt (opsR 5 Tryd.f9.body) 0 (some 144) (.move (.tmp 5)) none := by unfold OpAt; kernel_rfl
  have p5_1 : OpAt (opsR 5 Tryd.f9.body) 1 (some 145) (.binOp .add 3 (.tmp 144) (.const (.int .i64 1)) 3) none := by unfold OpAt; kernel_rfl
  have p5_2 : OpAt (opsR 5 Tryd.f9.body) 2 (some 5) (.assign (.tmp 145)) none := by unfold OpAt; kernel_rfl
  have p7_0 : OpAt (opsR 7 Tryd.f9.body) 0 (some 4) (.assign (.const (.bool false))) none := by unfold OpAt; kernel_rfl
  obtain ⟨e0, i0, d0, v0, g0⟩ := op_at (show (opsR 6 Tryd.f9.body)[0]?.map (fun o => (o.dst, o.op, o.guard)) = some (some 146, .fieldAddr 26 (.tmp 2) 22, none) by kernel_rfl)
  obtain ⟨e1, i1, d1, v1, g1⟩ := op_at (show (opsR 6 Tryd.f9.body)[1]?.map (fun o => (o.dst, o.op, o.guard)) = some (some 147, .load 24 (.tmp 146), none) by kernel_rfl)
  obtain ⟨e2, i2, d2, v2, g2⟩ := op_at (show (opsR 6 Tryd.f9.body)[2]?.map (fun o => (o.dst, o.op, o.guard)) = some (some 148, .move (.tmp 5), none) by kernel_rfl)
  obtain ⟨e3, i3, d3, v3, g3⟩ := op_at (show (opsR 6 Tryd.f9.body)[3]?.map (fun o => (o.dst, o.op, o.guard)) = some (some 149, .indexAddr 24 (.tmp 147) (.tmp 148), none) by kernel_rfl)
  obtain ⟨e4, i4, d4, v4, g4⟩ := op_at (show (opsR 6 Tryd.f9.body)[4]?.map (fun o => (o.dst, o.op, o.guard)) = some (some 150, .load 3 (.tmp 149), none) by kernel_rfl)
  obtain ⟨e5, i5, d5, v5, g5⟩ := op_at (show (opsR 6 Tryd.f9.body)[5]?.map (fun o => (o.dst, o.op, o.guard)) = some (some 151, .fieldAddr 26 (.tmp 3) 22, none) by kernel_rfl)
  obtain ⟨e6, i6, d6, v6, g6⟩ := op_at (show (opsR 6 Tryd.f9.body)[6]?.map (fun o => (o.dst, o.op, o.guard)) = some (some 152, .load 24 (.tmp 151), none) by kernel_rfl)
  obtain ⟨e7, i7, d7, v7, g7⟩ := op_at (show (opsR 6 Tryd.f9.body)[7]?.map (fun o => (o.dst, o.op, o.guard)) = some (some 153, .move (.tmp 5), none) by kernel_rfl)
  obtain ⟨e8, i8, d8, v8, g8⟩ := op_at (show (opsR 6 Tryd.f9.body)[8]?.map (fun o => (o.dst, o.op, o.guard)) = some (some 154, .indexAddr 24 (.tmp 152) (.tmp 153), none) by kernel_rfl)
  obtain ⟨e9, i9, d9, v9, g9⟩ := op_at (show (opsR 6 Tryd.f9.body)[9]?.map (fun o => (o.dst, o.op, o.guard)) = some (some 155, .load 3 (.tmp 154), none) by kernel_rfl)
  obtain ⟨e10, i10, d10, v10, g10⟩ := op_at (show (opsR 6 Tryd.f9.body)[10]?.map (fun o => (o.dst, o.op, o.guard)) = some (some 156, .binOp .neq 3 (.tmp 150) (.tmp 155) 3, none) by kernel_rfl)
  have z3 : (opsR 3 Tryd.f9.body).toList.drop 1 = [] := by rw [List.drop_eq_nil_of_le (by rw [Array.length_toList, show (opsR 3 Tryd.f9.body).size = 1 from by kernel_rfl]; exact Nat.le_refl _)]
  have z4 : (opsR 4 Tryd.f9.body).toList.drop 5 = [] := by rw [List.drop_eq_nil_of_le (by rw [Array.length_toList, show (opsR 4 Tryd.f9.body).size = 5 from by kernel_rfl]; exact Nat.le_refl _)]
  have z5 : (opsR 5 Tryd.f9.body).toList.drop 3 = [] := by rw [List.drop_eq_nil_of_le (by rw [Array.length_toList, show (opsR 5 Tryd.f9.body).size = 3 from by kernel_rfl]; exact Nat.le_refl _)]
  have z7 : (opsR 7 Tryd.f9.body).toList.drop 1 = [] := by rw [List.drop_eq_nil_of_le (by rw [Array.length_toList, show (opsR 7 Tryd.f9.body).size = 1 from by kernel_rfl]; exact Nat.le_refl _)]
  refine wp_seq (wp_region_list ?_)
  show wpList _ _ _ ((opsR 3 Tryd.f9.body).toList.drop 0) _ _
  refine ls_val (.int .i64 0) p3_0 want_none (fun o ho => run_assign' rfl ho) ?_
  have h1 := h0.to 5 (.int .i64 0) [(2, ptr ga), (3, ptr gb)] (by decide) (by simp)
  generalize a0.put _ _ = a1 at h1 ⊢
  show wpList _ _ _ ((opsR 3 Tryd.f9.body).toList.drop 1) _ _
  rw [z3]
  refine wp_block (wp_loop (fun x X => ∃ j : Nat, j ≤ a.x22.length ∧ KN 190 x [(5, .int .i64 j), (2, ptr ga), (3, ptr gb)] ∧ TwoAt w ga gb ca cb a b X ∧ ∀ i, i < j → a.x22[i]? = b.x22[i]?) (fun x _ => a.x22.length - (intOf (x.eval (.tmp 5))).toNat) ⟨0, Nat.zero_le _, h1, TW, fun i h => by omega⟩ ?_)
  clear h1 h0 TW
  rintro x X ⟨j, hj, s0, TX, heq⟩
  have hmu : (intOf (x.eval (.tmp 5))).toNat = j := by rw [s0.at (n := 5) (v := .int .i64 j) (by simp)]; simp [intOf]
  simp only [hmu]
  obtain ⟨A1, c1, x1, l1, C1⟩ := TX.1.lst
  obtain ⟨A2, c2, x2, l2, C2⟩ := TX.2.1.lst
  have hmax := Kd.C_max C1
  refine wp_seq (wp_seq (wp_region_list ?_))
  show wpList _ _ _ ((opsR 4 Tryd.f9.body).toList.drop 0) _ _
  refine ls_val (.int .i64 j) p4_0 want_none (fun o ho => run_mv (s0.at (by simp)) ho) ?_
  have s1 := s0.to 139 (.int .i64 j) [(5, .int .i64 j), (2, ptr ga), (3, ptr gb)] (by decide) (by simp)
  generalize x.put _ _ = y1 at s1 ⊢
  refine ls_val (.pointer (some ⟨ga, 22, none⟩)) p4_1 want_none (fun o ho => fld_22 _ _ ga _ _ (s1.at (by simp)) ho) ?_
  have s2 := s1.to 140 (.pointer (some ⟨ga, 22, none⟩)) [(139, .int .i64 j), (5, .int .i64 j), (2, ptr ga), (3, ptr gb)] (by decide) (by simp)
  generalize y1.put _ _ = y2 at s2 ⊢
  refine ls_val (.slice A1 a.x22.length c1) p4_2 want_none (fun o ho => lod_24 _ _ _ _ _ _ (s2.at (by simp)) x1 ho) ?_
  have s3 := s2.to 141 (.slice A1 a.x22.length c1) [(139, .int .i64 j), (5, .int .i64 j), (2, ptr ga), (3, ptr gb)] (by decide) (by simp)
  generalize y2.put _ _ = y3 at s3 ⊢
  refine ls_val (.int .i64 (a.x22.length : Int)) p4_3 want_none (fun o ho => len_24 A1 _ c1 _ _ _ _ (s3.at (by simp)) ho) ?_
  have s4 := s3.to 142 (.int .i64 (a.x22.length : Int)) [(139, .int .i64 j), (5, .int .i64 j), (2, ptr ga), (3, ptr gb)] (by decide) (by simp)
  generalize y3.put _ _ = y4 at s4 ⊢
  refine ls_val (.bool (decide ((j : Int) < (a.x22.length : Int)))) p4_4 want_none (fun o ho => lss_3 _ _ _ _ _ _ _ (s4.at (by simp)) (s4.at (by simp)) ho) ?_
  have s5 := s4.to 143 (.bool (decide ((j : Int) < (a.x22.length : Int)))) [(5, .int .i64 j), (2, ptr ga), (3, ptr gb)] (by decide) (by simp)
  generalize y4.put _ _ = y5 at s5 ⊢
  show wpList _ _ _ ((opsR 4 Tryd.f9.body).toList.drop 5) _ _
  rw [z4]
  clear s1 s2 s3 s4
  refine wp_cond (t := decide ((j : Int) < (a.x22.length : Int))) (s5.at (by simp)) ?_
  by_cases hjn : j < a.x22.length
  · rw [decide_eq_true (show (j : Int) < (a.x22.length : Int) by omega), if_pos rfl]
    refine wp_skip ?_
    obtain ⟨ad1, rfl, x3⟩ := Kd.at_int C1 (j : Int) (by omega) (by omega)
    obtain ⟨ad2, rfl, x4⟩ := Kd.at_int C2 (j : Int) (by omega) (by omega)
    rw [Int.toNat_natCast] at x3 x4
    have hrd : rd a.x22 (j : Int) = rd b.x22 (j : Int) ↔ a.x22[j]? = b.x22[j]? := by
      unfold rd
      rw [Int.toNat_natCast, List.getD_eq_getElem?_getD, List.getD_eq_getElem?_getD, List.getElem?_eq_getElem hjn, List.getElem?_eq_getElem (show j < b.x22.length by omega)]
      simp
    generalize rd a.x22 (j : Int) = m1 at x3 hrd
    generalize rd b.x22 (j : Int) = m2 at x4 hrd
    refine wp_seq (wp_block (wp_seq ?_))
    refine start_ (n := 11) (S := fun W' => W'.cell? ⟨ga, 22, none⟩ = some (.slice (some ad1) a.x22.length c1) ∧ W'.cell? ⟨gb, 22, none⟩ = some (.slice (some ad2) b.x22.length c2) ∧ W'.cell? (ad1.add j) = some (.int .i64 m1) ∧ W'.cell? (ad2.add j) = some (.int .i64 m2)) (ds := []) #[false, false, false, false, false, false, false, false, false, false, false] rfl (by kernel_rfl) (by kernel_rfl) ⟨x1, x2, x3, x4⟩ fun S0 => ?_
    have t0 := s5.mono (l' := [(5, .int .i64 j), (2, ptr ga), (3, ptr gb)]) (by simp)
    clear s5
    generalize y5 = u0 at t0 ⊢
    refine take_ #[true, false, false, false, false, false, false, false, false, false, false] i0 d0 (by kernel_rfl) (fun _ _ _ h => h) (yif (v := .pointer (some ⟨ga, 22, none⟩)) g0 fun W h => fld_22 _ _ ga _ _ (t0.at (by simp)) v0) S0 rfl ?_
    have t1 := t0.to 146 (.pointer (some ⟨ga, 22, none⟩)) [(5, .int .i64 j), (2, ptr ga), (3, ptr gb)] (by decide) (by simp)
    generalize u0.put _ _ = u1 at t1 ⊢
    clear t0
    refine take_ #[true, true, false, false, false, false, false, false, false, false, false] i1 d1 (by kernel_rfl) (fun _ _ _ h => h) (yif (v := .slice (some ad1) a.x22.length c1) g1 fun W h => lod_24 _ _ _ _ _ _ (t1.at (by simp)) h.1 v1) S0 rfl ?_
    have t2 := t1.to 147 (.slice (some ad1) a.x22.length c1) [(5, .int .i64 j), (2, ptr ga), (3, ptr gb)] (by decide) (by simp)
    generalize u1.put _ _ = u2 at t2 ⊢
    clear t1
    refine take_ #[true, true, true, false, false, false, false, false, false, false, false] i2 d2 (by kernel_rfl) (fun _ _ _ h => h) (yif (v := .int .i64 j) g2 fun W h => run_mv (t2.at (by simp)) v2) S0 rfl ?_
    have t3 := t2.to 148 (.int .i64 j) [(147, .slice (some ad1) a.x22.length c1), (5, .int .i64 j), (2, ptr ga), (3, ptr gb)] (by decide) (by simp)
    generalize u2.put _ _ = u3 at t3 ⊢
    clear t2
    refine take_ #[true, true, true, true, false, false, false, false, false, false, false] i3 d3 (by kernel_rfl) (fun _ _ _ h => h) (yif (v := .pointer (some (ad1.add j))) g3 fun W h => idx_24 ad1 a.x22.length c1 j _ _ _ _ _ (t3.at (by simp)) (t3.at (by simp)) hjn v3) S0 rfl ?_
    have t4 := t3.to 149 (.pointer (some (ad1.add j))) [(5, .int .i64 j), (2, ptr ga), (3, ptr gb)] (by decide) (by simp)
    generalize u3.put _ _ = u4 at t4 ⊢
    clear t3
    refine take_ #[true, true, true, true, true, false, false, false, false, false, false] i4 d4 (by kernel_rfl) (fun _ _ _ h => h) (yif (v := .int .i64 m1) g4 fun W h => lod_3 _ _ _ _ _ _ (t4.at (by simp)) h.2.2.1 v4) S0 rfl ?_
    have t5 := t4.to 150 (.int .i64 m1) [(5, .int .i64 j), (2, ptr ga), (3, ptr gb)] (by decide) (by simp)
    generalize u4.put _ _ = u5 at t5 ⊢
    clear t4
    refine take_ #[true, true, true, true, true, true, false, false, false, false, false] i5 d5 (by kernel_rfl) (fun _ _ _ h => h) (yif (v := .pointer (some ⟨gb, 22, none⟩)) g5 fun W h => fld_22 _ _ gb _ _ (t5.at (by simp)) v5) S0 rfl ?_
    have t6 := t5.to 151 (.pointer (some ⟨gb, 22, none⟩)) [(150, .int .i64 m1), (5, .int .i64 j), (2, ptr ga), (3, ptr gb)] (by decide) (by simp)
    generalize u5.put _ _ = u6 at t6 ⊢
    clear t5
    refine take_ #[true, true, true, true, true, true, true, false, false, false, false] i6 d6 (by kernel_rfl) (fun _ _ _ h => h) (yif (v := .slice (some ad2) b.x22.length c2) g6 fun W h => lod_24 _ _ _ _ _ _ (t6.at (by simp)) h.2.1 v6) S0 rfl ?_
    have t7 := t6.to 152 (.slice (some ad2) b.x22.length c2) [(150, .int .i64 m1), (5, .int .i64 j), (2, ptr ga), (3, ptr gb)] (by decide) (by simp)
    generalize u6.put _ _ = u7 at t7 ⊢
    clear t6
    refine take_ #[true, true, true, true, true, true, true, true, false, false, false] i7 d7 (by kernel_rfl) (fun _ _ _ h => h) (yif (v := .int .i64 j) g7 fun W h => run_mv (t7.at (by simp)) v7) S0 rfl ?_
    have t8 := t7.to 153 (.int .i64 j) [(150, .int .i64 m1), (152, .slice (some ad2) b.x22.length c2), (5, .int .i64 j), (2, ptr ga), (3, ptr gb)] (by decide) (by simp)
    generalize u7.put _ _ = u8 at t8 ⊢
    clear t7
    refine take_ #[true, true, true, true, true, true, true, true, true, false, false] i8 d8 (by kernel_rfl) (fun _ _ _ h => h) (yif (v := .pointer (some (ad2.add j))) g8 fun W h => idx_24 ad2 b.x22.length c2 j _ _ _ _ _ (t8.at (by simp)) (t8.at (by simp)) (by omega) v8) S0 rfl ?_
    have t9 := t8.to 154 (.pointer (some (ad2.add j))) [(150, .int .i64 m1), (5, .int .i64 j), (2, ptr ga), (3, ptr gb)] (by decide) (by simp)
    generalize u8.put _ _ = u9 at t9 ⊢
    clear t8
    refine take_ #[true, true, true, true, true, true, true, true, true, true, false] i9 d9 (by kernel_rfl) (fun _ _ _ h => h) (yif (v := .int .i64 m2) g9 fun W h => lod_3 _ _ _ _ _ _ (t9.at (by simp)) h.2.2.2 v9) S0 rfl ?_
    have t10 := t9.to 155 (.int .i64 m2) [(150, .int .i64 m1), (5, .int .i64 j), (2, ptr ga), (3, ptr gb)] (by decide) (by simp)
    generalize u9.put _ _ = u10 at t10 ⊢
    clear t9
    refine take_ #[true, true, true, true, true, true, true, true, true, true, true] i10 d10 (by kernel_rfl) (fun _ _ _ h => h) (yif (v := .bool (m1 != m2)) g10 fun W h => neq_3 m1 m2 _ _ _ _ _ (t10.at (by simp)) (t10.at (by simp)) v10) S0 rfl ?_
    have t11 := t10.to 156 (.bool (m1 != m2)) [(5, .int .i64 j), (2, ptr ga), (3, ptr gb)] (by decide) (by simp)
    generalize u10.put _ _ = u11 at t11 ⊢
    clear t10
    refine done_ (by kernel_rfl) ?_
    have TD := TX.drew
    refine wp_cond (t := (m1 != m2)) (t11.at (by simp)) ?_
    by_cases hjq : m1 = m2
    · rw [show (m1 != m2) = false from by simpa using hjq, if_neg (by simp)]
      refine wp_skip ?_
      refine wp_region_list ?_
      show wpList _ _ _ ((opsR 5 Tryd.f9.body).toList.drop 0) _ _
      refine ls_val (.int .i64 j) p5_0 want_none (fun o ho => run_mv (t11.at (by simp)) ho) ?_
      have s1 := t11.to 144 (.int .i64 j) [(2, ptr ga), (3, ptr gb)] (by decide) (by simp)
      generalize u11.put _ _ = y1 at s1 ⊢
      refine ls_val (.int .i64 ((j + 1 : Nat) : Int)) p5_1 want_none (fun o ho => inc_3 j _ _ _ _ (by omega) (s1.at (by simp)) ho) ?_
      have s2 := s1.to 145 (.int .i64 ((j + 1 : Nat) : Int)) [(2, ptr ga), (3, ptr gb)] (by decide) (by simp)
      generalize y1.put _ _ = y2 at s2 ⊢
      refine ls_val (.int .i64 ((j + 1 : Nat) : Int)) p5_2 want_none (fun o ho => run_assign' (s2.at (by simp)) ho) ?_
      have s3 := s2.to 5 (.int .i64 ((j + 1 : Nat) : Int)) [(2, ptr ga), (3, ptr gb)] (by decide) (by simp)
      generalize y2.put _ _ = y3 at s3 ⊢
      show wpList _ _ _ ((opsR 5 Tryd.f9.body).toList.drop 3) _ _
      rw [z5]
      have hm2 : (intOf (y3.eval (.tmp 5))).toNat = j + 1 := by rw [s3.at (n := 5) (v := .int .i64 ((j + 1 : Nat) : Int)) (by simp)]; simp only [intOf]; omega
      refine ⟨⟨j + 1, by omega, s3, TD, fun i hi => ?_⟩, by simp only [hm2]; omega⟩
      by_cases h : i = j
      · rw [h]; exact hrd.1 hjq
      · exact heq i (by omega)
    · rw [show (m1 != m2) = true from by simpa using hjq, if_pos rfl]
      refine wp_seq (wp_region_list ?_)
      show wpList _ _ _ ((opsR 7 Tryd.f9.body).toList.drop 0) _ _
      refine ls_val (.bool false) p7_0 want_none (fun o ho => run_assign' rfl ho) ?_
      have s1 := t11.to 4 (.bool false) [] (by decide) (by simp)
      generalize u11.put _ _ = y1 at s1 ⊢
      show wpList _ _ _ ((opsR 7 Tryd.f9.body).toList.drop 1) _ _
      rw [z7]
      refine wp_ret ?_
      exact hr _ _ TD (fun h => hjq (hrd.2 (by rw [h]))) s1
  · rw [decide_eq_false (show ¬ (j : Int) < (a.x22.length : Int) by omega), if_neg (by simp)]
    refine wp_exit ?_
    refine hn _ _ TX (List.ext_getElem? fun i => ?_) (s5.mono (by simp))
    by_cases h : i < a.x22.length
    · exact heq i (by omega)
    · rw [List.getElem?_eq_none (by omega), List.getElem?_eq_none (by omega)]
theorem str_bne {x y : List Int} (hx : Byt x) (hy : Byt y) : ((strOfNums x).toList != (strOfNums y).toList) = !decide (x = y) := by
  rw [bne, str_beq hx hy]
theorem rdiff_no {a b : AskP} (ba : AskB a) (bb : AskB b) (h : rdiff a b = false) : a.x22.length = b.x22.length ∧ (a.x22 = b.x22 → rsames a b = decide (a = b)) := by
  unfold rdiff at h
  rw [str_bne ba.b1.1 bb.b1.1, str_bne ba.b2.1 bb.b2.1, str_bne ba.b6.1 bb.b6.1, str_bne ba.b7.1 bb.b7.1, str_bne ba.b8.1 bb.b8.1, str_bne ba.b12.1 bb.b12.1, str_bne ba.b13.1 bb.b13.1, str_bne ba.b14.1 bb.b14.1, str_bne ba.b16.1 bb.b16.1, str_bne ba.b17.1 bb.b17.1] at h
  simp only [Bool.or_eq_false_iff, bne_eq_false_iff_eq, Bool.not_eq_false', decide_eq_true_eq] at h
  obtain ⟨⟨⟨⟨⟨⟨⟨⟨⟨⟨⟨⟨⟨⟨⟨⟨⟨⟨e0, e1⟩, e2⟩, e3⟩, e6⟩, e7⟩, e8⟩, e11⟩, e12⟩, e13⟩, e14⟩, e15⟩, e16⟩, e17⟩, e18⟩, e20⟩, e21⟩, e23⟩, e22⟩ := h
  refine ⟨by omega, fun h22 => ?_⟩
  by_cases hs : rsames a b = true
  · have hq := hs
    unfold rsames at hq
    simp only [Bool.and_eq_true, decide_eq_true_eq] at hq
    obtain ⟨⟨⟨⟨g4, g5⟩, g9⟩, g10⟩, g19⟩ := hq
    have : a = b := ask_ext (fun i hi => by
      match i, hi with
      | 0, _ => exact e6
      | 1, _ => exact e7
      | 2, _ => exact e8
      | 3, _ => exact e12
      | 4, _ => exact e13
      | 5, _ => exact e14) (fun i hi => by
      match i, hi with
      | 0, _ => exact g5
      | 1, _ => exact g9
      | 2, _ => exact g10
      | 3, _ => exact g19) (fun i hi => by
      match i, hi with
      | 0, _ => exact e3
      | 1, _ => exact e11
      | 2, _ => exact e15
      | 3, _ => exact e18
      | 4, _ => exact e20
      | 5, _ => exact e21) h22 e0 e1 e2 g4 e16 e17 e23
    rw [hs, decide_eq_true this]
  · have : a ≠ b := fun e => hs (by subst e; simp [rsames])
    rw [decide_eq_false this]
    simpa using hs
theorem rdiff_yes {a b : AskP} (h : rdiff a b = true) : a ≠ b := fun e => by
  subst e
  simp [rdiff] at h
theorem body9_code : sndC (Tryd.f9.body.getD .skip) = .seq (.seq (reg1 Tryd.f9.body) (.cond (.tmp 138) (.seq (.region 2 (opsR 2 Tryd.f9.body) false) .ret) .skip)) (.seq (lc9 Tryd.f9.body) (.seq (reg8 Tryd.f9.body) .ret)) := by kernel_rfl
theorem body9 (a b : AskP) (w : World) (ga gb : Nat) (ca cb : Array Value) (W : World) (TW : TwoAt w ga gb ca cb a b W) (ba : AskB a) (bb : AskB b) (a0 : Act) (h0 : KN 190 a0 [(2, ptr ga), (3, ptr gb)]) :
    Code.wp Tryd.prog (sndC (Tryd.f9.body.getD .skip)) (QR (fun _ _ => False) fun a' W' => KN 190 a' [(4, .bool (decide (a = b)))] ∧ Below w.heap.size w W') a0 W := by
  rw [body9_code]
  have p2 : OpAt (opsR 2 Tryd.f9.body) 0 (some 4) (.assign (.const (.bool false))) none := by unfold OpAt; kernel_rfl
  have z2 : (opsR 2 Tryd.f9.body).toList.drop 1 = [] := by rw [List.drop_eq_nil_of_le (by rw [Array.length_toList, show (opsR 2 Tryd.f9.body).size = 1 from by kernel_rfl]; exact Nat.le_refl _)]
  refine wp_seq (wp_seq (row1 a b ga gb ca cb W TW.1 TW.2.1 a0 h0 _ fun a1 h1 => ?_))
  refine wp_cond (t := rdiff a b) (h1.at (by simp)) ?_
  cases hd : rdiff a b with
  | true =>
    rw [if_pos rfl]
    refine wp_seq (wp_region_list ?_)
    show wpList _ _ _ ((opsR 2 Tryd.f9.body).toList.drop 0) _ _
    refine ls_val (.bool false) p2 want_none (fun o ho => run_assign' rfl ho) ?_
    have h2 := h1.to 4 (.bool false) [] (by decide) (by simp)
    show wpList _ _ _ ((opsR 2 Tryd.f9.body).toList.drop 1) _ _
    rw [z2]
    refine wp_ret ?_
    rw [decide_eq_false (rdiff_yes hd)]
    exact ⟨h2, TW.2.2⟩
  | false =>
    rw [if_neg (by simp)]
    refine wp_skip ?_
    obtain ⟨hl, hs⟩ := rdiff_no ba bb hd
    refine wp_seq (Code.wp_mono ?_ (loop9 a b w ga gb ca cb W TW hl a1 (h1.mono (by simp)) (fun a' W' => TwoAt w ga gb ca cb a b W' ∧ a.x22 = b.x22 ∧ KN 190 a' [(2, ptr ga), (3, ptr gb)]) (fun a' W' => KN 190 a' [(4, .bool (decide (a = b)))] ∧ Below w.heap.size w W') (fun a' W' t e k => ⟨t, e, k⟩) (fun a' W' t e k => by
      rw [decide_eq_false (fun h => e (by rw [h]))]
      exact ⟨k, t.2.2⟩)))
    intro e a' W' hq
    cases e with
    | normal =>
      obtain ⟨t, e22, k⟩ := hq
      refine wp_seq (row8 a b w ga gb ca cb W' t ba a' k _ fun a2 W2 t2 k2 => ?_)
      refine wp_ret ?_
      rw [← hs e22]
      exact ⟨k2, t2.2.2⟩
    | ret => exact hq
    | _ => exact hq.elim
set_option maxRecDepth 100000 in
set_option maxHeartbeats 4000000 in
theorem rsame_calls (ca cb : Array Value) (oka okb : Nat → Prop) (nla nlb : Prop) (a b : AskP) (w : World) (hA : AskC w oka nla ca a) (hB : AskC w okb nlb cb b) (ba : AskB a) (bb : AskB b) :
    Calls Tryd.prog 9 #[.agg ca, .agg cb] w (BoolP w (decide (a = b))) := by
  have Bw := below_alloc (below_alloc (Below.refl w.heap.size w) (.cells ca 26)) (.cells cb 26)
  have TW : TwoAt w w.heap.size (w.heap.size + 1) ca cb a b ((w.alloc (.cells ca 26)).alloc (.cells cb 26)) :=
    ⟨⟨heap_alloc2_old _ _ _, ((hA.step (fun k _ hlt => Bw.block k hlt)).mono (fun _ _ => trivial)).weak (fun h => h.elim)⟩, ⟨heap_alloc2_new _ _ _, ((hB.step (fun k _ hlt => Bw.block k hlt)).mono (fun _ _ => trivial)).weak (fun h => h.elim)⟩, Bw⟩
  replace TW := Lib.hid TW
  clear Bw hA hB
  go_enter Tryd.func9, Tryd.ntmps9
  refine wp_seq_k fun K hK => ?_
  replace hK := Lib.hid hK
  go_wp2_with fail
  refine hK.out _ _ (Code.wp_mono ?_ (body9 a b w w.heap.size (w.heap.size + 1) ca cb _ TW.out ba bb _ ⟨by rfl, rfl, List.forall_mem_cons.2 ⟨⟨(by decide : (2 : Nat) < 190), rfl⟩, List.forall_mem_cons.2 ⟨⟨(by decide : (3 : Nat) < 190), rfl⟩, fun _ h => nomatch h⟩⟩⟩))
  intro e a' W' hq
  cases e with
  | ret =>
    obtain ⟨k, hb⟩ := hq
    refine bodyPost_ret (results_tmp rfl _ _ _) k.2.1 ?_
    rw [show a'.tmps.getD 4 undef = .bool (decide (a = b)) from k.at (n := 4) (by simp)]
    exact ⟨rfl, hb⟩
  | _ => exact (hq : False).elim
end Go.Proofs.YtjkehapbemjnpaaDoor
