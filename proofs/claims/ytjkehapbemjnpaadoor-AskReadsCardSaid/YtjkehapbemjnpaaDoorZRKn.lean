/- Steps of a walk with an opaque frame; each condition stands in its theorem. -/
import Derived.Test.YtjkehapbemjnpaaDoorZRSame
namespace Go.Proofs.YtjkehapbemjnpaaDoor
open Go.RowKit Go.Proofs.YtjkehapbemjnpaaDoorW.PrintWords Go.Proofs.YtjkehapbemjnpaaDoorW.PrintLast Go.Proofs.YtjkehapbemjnpaaDoorW.PrintMore Go.Proofs.YtjkehapbemjnpaaDoor.Lf Go.Proofs.YtjkehapbemjnpaaDoor.Kit Go.Proofs.YtjkehapbemjnpaaDoor.Cut Go.Proofs.YtjkehapbemjnpaaDoor.Pl Go.Proofs.YtjkehapbemjnpaaDoor.Num Go.Proofs.YtjkehapbemjnpaaDoor.Chain
set_option linter.unusedVariables false
set_option linter.unusedSimpArgs false
theorem idx_40 (g n c j : Nat) (a : Act) (x y : Operand) (W : World) (o : Oper) (hx : a.eval x = .slice (some ⟨g, 0, none⟩) n c) (hy : a.eval y = .int .i64 j) (hj : j < n) (ho : o.op = .indexAddr 40 x y) : (execOp a.eval o).run Tryd.prog W = .ok (.value (.pointer (some ⟨g, j, none⟩))) W := by
  have hu := Tryd.underlying40
  have hj2 : (j : Int) < (n : Int) := by omega
  unfold execOp
  simp only [ho, hx, hy]
  go_simp
theorem yfr {P : Program} {ops : Array Oper} {o : Oper} {v : Value} {a : Act} (hg : o.guard = none) (h : ∀ W, (execOp a.eval o).run P W = .ok (.value v) W) : Yields P ops o v a := .inl ⟨by simp [Region.wanted, hg], h⟩
theorem ls_new {ops : Array Oper} {Q : Exit → Act → World → Prop} {a : Act} {w w1 : World} {i n : Nat} {p : Op} (v : Value) (ho : OpAt ops i (some n) p none) (hrun : ∀ o : Oper, o.op = p → (execOp a.eval o).run Tryd.prog w = .ok (.value v) w1)
    (h : wpList Tryd.prog ops Q (ops.toList.drop (i + 1)) (a.put (some n) v) w1) : wpList Tryd.prog ops Q (ops.toList.drop i) a w := by
  obtain ⟨o, he, hd, hp, hg⟩ := ho.cons
  rw [he]
  refine wpList_step fun K hK => ?_
  rw [if_pos (want_none o hg)]
  unfold Oper.wp
  rw [hrun o hp]
  show K (a.put o.dst v) w1
  rw [hd]
  exact hK _ _ h
theorem ls_v {P : Program} {ops : Array Oper} {Q : Exit → Act → World → Prop} {a : Act} {w : World} {i N n : Nat} {l : List (Nat × Value)} {p : Op} {g : Option (Nat × Bool)} (h : KN N a l) (v : Value) (ho : OpAt ops i (some n) p g) (hw : want ops a g true)
    (hrun : ∀ o : Oper, o.op = p → (execOp a.eval o).run P w = .ok (.value v) w) (l' : List (Nat × Value)) (hk : ∀ a', KN N a' ((n, v) :: l') → wpList P ops Q (ops.toList.drop (i + 1)) a' w) (hn : n < N := by decide) (hl : ∀ p ∈ l', p ∈ l ∧ p.1 ≠ n := by simp) :
    wpList P ops Q (ops.toList.drop i) a w := ls_val v ho hw hrun (hk _ (h.to n v l' hn hl))
theorem ls_o {P : Program} {ops : Array Oper} {Q : Exit → Act → World → Prop} {a : Act} {w : World} {i N n : Nat} {l : List (Nat × Value)} {p : Op} {g : Option (Nat × Bool)} (h : KN N a l) (ho : OpAt ops i (some n) p g) (hw : want ops a g false)
    (l' : List (Nat × Value)) (hk : ∀ a', KN N a' ((n, undef) :: l') → wpList P ops Q (ops.toList.drop (i + 1)) a' w) (hn : n < N := by decide) (hl : ∀ p ∈ l', p ∈ l ∧ p.1 ≠ n := by simp) :
    wpList P ops Q (ops.toList.drop i) a w := ls_off ho hw (hk _ (h.to n undef l' hn hl))
theorem Chain.KN.go {N : Nat} {a : Act} {l : List (Nat × Value)} (h : KN N a l) (n : Nat) (v : Value) (l' : List (Nat × Value)) (hn : n < N := by decide) (hl : ∀ p ∈ l', p ∈ l ∧ p.1 ≠ n := by simp) : KN N (a.put (some n) v) ((n, v) :: l') := h.to n v l' hn hl
abbrev ptw (w : World) : Value := .pointer (some ⟨w.heap.size, 0, none⟩)
def TruthP (w : World) (e : Ending) (w' : World) : Prop := e = .returned (.bool true) ∧ Below w.heap.size w w'
theorem wpList_load_rowG {P : Program} {ops : Array Oper} {rest : List Oper} {o : Oper} {a : Act} {w : World} {Q : Exit → Act → World → Prop} (hw : Region.wanted o (yielded ops a.tmps) = true) (ty : TypeId) (x : Operand) (ho : o.op = .load ty x)
    (g : Nat) (hx : a.eval x = .pointer (some ⟨g, 0, none⟩)) (t : TypeId) (cs : Array Value) (fr : Nat × Nat) (d : TypeDesc) (hg : w.heap[g]? = some (.cells cs t fr))
    (hu : P.underlying ty = some d) (hd : (match d with | .struct _ | .array _ _ => true | _ => false) = true) (hi : (P.info? ty).map (·.size) = some cs.size)
    (h : wpList P ops Q rest (a.put o.dst (.agg cs)) w) : wpList P ops Q (o :: rest) a w :=
  BigFrame.wpList_want hw fun _ hK => wp_load_row ty x ho g hx t cs fr d hg hu hd hi (hK _ _ h)
theorem len_9k (s : ByteArray) (a : Act) (q : Nat) (W : World) (o : Oper) (hx : a.eval (.tmp q) = .string s) (ho : o.op = .call { callee := .builtin .len, args := #[.tmp q], argTypes := #[9] }) : (execOp a.eval o).run Tryd.prog W = .ok (.value (.int .i64 s.size)) W := by
  have hx2 : a.tmps[q]?.getD undef = .string s := by
    rw [← hx, ← Array.getD_eq_getD_getElem?]
    rfl
  unfold execOp
  simp only [ho]
  go_simp
theorem gtr_3k (m n : Int) (a : Act) (x : Operand) (W : World) (o : Oper) (hx : a.eval x = .int .i64 m) (ho : o.op = .binOp .gtr 3 x (.const (.int .i64 n)) 3) : (execOp a.eval o).run Tryd.prog W = .ok (.value (.bool (decide (n < m)))) W := by
  unfold execOp
  simp only [ho, hx]
  go_simp
end Go.Proofs.YtjkehapbemjnpaaDoor
