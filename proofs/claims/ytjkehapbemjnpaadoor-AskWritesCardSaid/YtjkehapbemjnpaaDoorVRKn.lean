/- Steps of a walk with an opaque frame; each condition stands in its theorem. -/
import Derived.Test.YtjkehapbemjnpaaDoorVRSame
namespace Go.Proofs.YtjkehapbemjnpaaDoor
open Go.RowKit Go.Proofs.YtjkehapbemjnpaaDoorW.PrintWords Go.Proofs.YtjkehapbemjnpaaDoorW.PrintLast Go.Proofs.YtjkehapbemjnpaaDoorW.PrintMore Lf Kit Cut Pl Num Chain
set_option linter.unusedVariables false
set_option linter.unusedSimpArgs false
theorem idx_40 (g n c j : Nat) (a : Act) (x y : Operand) (W : World) (o : Oper) (hx : a.eval x = .slice (some ⟨g, 0, none⟩) n c) (hy : a.eval y = .int .i64 j) (hj : j < n) (ho : o.op = .indexAddr 40 x y) : (execOp a.eval o).run Tryd.prog W = .ok (.value (.pointer (some ⟨g, j, none⟩))) W := by
 have hu := Tryd.underlying40
 have hj2 : (j : Int) < (n : Int) := by omega
 unfold execOp
 simp only [ho, hx, hy]
 go_simp
theorem yfr {P : Program} {ops : Array Oper} {o : Oper} {v : Value} {a : Act} (hg : o.guard = none) (h : ∀ W, (execOp a.eval o).run P W = .ok (.value v) W) : Yields P ops o v a := .inl ⟨by simp [Region.wanted, hg], h⟩
theorem ls_new {ops : Array Oper} {Q : Exit → Act → World → Prop} {a : Act} {w w1 : World} {i n : Nat} {p : Op} (v : Value) (ho : OpAt ops i (some n) p none) (hrun : ∀ o : Oper, o.op = p → (execOp a.eval o).run Tryd.prog w = .ok (.value v) w1)
  (h : wpList Tryd.prog ops Q (ops.toList.drop (i + 1)) (a.put (some n) v) w1) : wpList Tryd.prog ops Q (ops.toList.drop i) a w := by
 obtain ⟨o, he, hd, hp, hg⟩ := ho.cons
 rw [he]
 refine wpList_step fun K hK => ?_
 rw [if_pos (want_none o hg)]
 unfold Oper.wp
 rw [hrun o hp]
 show K (a.put o.dst v) w1
 rw [hd]
 exact hK _ _ h
theorem Chain.KN.go {N : Nat} {a : Act} {l : List (Nat × Value)} (h : KN N a l) (n : Nat) (v : Value) (l' : List (Nat × Value)) (hn : n < N := by decide) (hl : ∀ p ∈ l', p ∈ l ∧ p.1 ≠ n := by simp) : KN N (a.put (some n) v) ((n, v) :: l') := h.to n v l' hn hl
def bm (n k : Nat) : Array Bool := ((List.range n).map fun i => k.testBit i).toArray
section
variable {P : Program} {md : Region.Mode} {ops : Array Oper} {Q : Exit → Act → World → Prop} {S : World → Prop} {ds : List Nat} {i fuel N n : Nat} {l : Array Bool} {a : Act} {w : World} {oi : Oper} {L : List (Nat × Value)}
theorem tk (h : KN N a L) {v : Value} (l' : Array Bool) (hi : ops[i]? = some oi) (hN : oi.dst = some n) (hc : takeB md ops ds l l' i = true) (hQ : ∀ c a w, Q (.panic c) (a.put oi.dst v) w → Q (.panic c) a w) (hy : YieldsIf P ops S oi v a) (hS : S w) (L' : List (Nat × Value))
  (hk : ∀ a', KN N a' ((n, v) :: L') → wpAnyLast P md ops Q S ds fuel l' a' w) (hn : n < N := by decide) (hl : ∀ p ∈ L', p ∈ L ∧ p.1 ≠ n := by simp) : wpAnyLast P md ops Q S ds (fuel + 1) l a w := take_ l' hi hN hc hQ hy hS rfl (hk _ (h.to n v L' hn hl))
theorem pk (h : KN N a L) {v : Value} (l' : Array Bool) (hi : ops[i]? = some oi) (hN : oi.dst = some n) (hc : anyB md ops l l' i = true) (hQ : ∀ c a w, Q (.panic c) (a.put oi.dst v) w → Q (.panic c) a w) (hy : Yields P ops oi v a) (L' : List (Nat × Value))
  (hk : ∀ a', KN N a' ((n, v) :: L') → wpAnyLast P md ops Q S ds fuel l' a' w) (hn : n < N := by decide) (hl : ∀ p ∈ L', p ∈ L ∧ p.1 ≠ n := by simp) : wpAnyLast P md ops Q S ds (fuel + 1) l a w := pure_ l' hi hN hc hQ hy rfl (hk _ (h.to n v L' hn hl))
end
theorem op_at2 {ops : Array Oper} {i : Nat} {d : Option Tmp} {p : Op} {g : Option (Nat × Bool)} (h : OpAt ops i d p g) : ∃ o, ops[i]? = some o ∧ o.dst = d ∧ o.op = p ∧ o.guard = g := op_at h
abbrev ptw (w : World) : Value := .pointer (some ⟨w.heap.size, 0, none⟩)
def TruthP (w : World) (e : Ending) (w' : World) : Prop := e = .returned (.bool true) ∧ Below w.heap.size w w'
theorem len_9k (s : ByteArray) (a : Act) (q : Nat) (W : World) (o : Oper) (hx : a.eval (.tmp q) = .string s) (ho : o.op = .call { callee := .builtin .len, args := #[.tmp q], argTypes := #[9] }) : (execOp a.eval o).run Tryd.prog W = .ok (.value (.int .i64 s.size)) W := by
 have hx2 : a.tmps[q]?.getD undef = .string s := by
  rw [← hx, ← Array.getD_eq_getD_getElem?]
  rfl
 unfold execOp
 simp only [ho]
 go_simp
theorem gtr_3k (m n : Int) (a : Act) (x : Operand) (W : World) (o : Oper) (hx : a.eval x = .int .i64 m) (ho : o.op = .binOp .gtr 3 x (.const (.int .i64 n)) 3) : (execOp a.eval o).run Tryd.prog W = .ok (.value (.bool (decide (n < m)))) W := by
 unfold execOp
 simp only [ho, hx]
 go_simp
end Go.Proofs.YtjkehapbemjnpaaDoor
namespace Go.Proofs.YtjkehapbemjnpaaDoor
open Go.RowKit Go.Proofs.YtjkehapbemjnpaaDoorW.PrintWords Go.Proofs.YtjkehapbemjnpaaDoorW.PrintLast Lf Kit Chain
set_option linter.unusedVariables false
set_option linter.unusedSimpArgs false
/-- What is known of a slot. -/
def lk (n : Nat) : List (Nat × Value) → Option Value
 | [] => none
 | p :: r => match Nat.beq p.1 n with
  | true => some p.2
  | false => lk n r
/-- What is known of a frame of N slots; what stands ahead is the latest. -/
def KL (N : Nat) (a : Act) (l : List (Nat × Value)) : Prop := a.tmps.size = N ∧ a.defers = [] ∧ ∀ n v, lk n l = some v → n < N ∧ a.eval (.tmp n) = v
theorem lk_mem {n : Nat} {v : Value} : ∀ {l : List (Nat × Value)}, lk n l = some v → (n, v) ∈ l
 | p :: r, h => by
  unfold lk at h
  cases hb : Nat.beq p.1 n with
  | true =>
   rw [hb] at h
   obtain rfl := Nat.eq_of_beq_eq_true hb
   obtain rfl := Option.some.inj h
   exact List.mem_cons_self
  | false =>
   rw [hb] at h
   exact List.mem_cons_of_mem _ (lk_mem h)
theorem Chain.KN.l {N : Nat} {a : Act} {l : List (Nat × Value)} (h : KN N a l) : KL N a l := ⟨h.1, h.2.1, fun n v hl => h.2.2 _ (lk_mem hl)⟩
theorem KL.put {N : Nat} {a : Act} {l : List (Nat × Value)} (h : KL N a l) (n : Nat) (v : Value) (hn : n < N) : KL N (a.put (some n) v) ((n, v) :: l) := by
 have hs : (a.put (some n) v).tmps.size = N := by simp [Act.put, h.1]
 refine ⟨hs, h.2.1, fun m u hm => ?_⟩
 unfold lk at hm
 cases hb : Nat.beq n m with
 | true =>
  rw [hb] at hm
  obtain rfl := Nat.eq_of_beq_eq_true hb
  obtain rfl := Option.some.inj hm
  refine ⟨hn, ?_⟩
  simp [Act.eval, Act.put, h.1, hn]
 | false =>
  rw [hb] at hm
  have h3 := h.2.2 m u hm
  refine ⟨h3.1, ?_⟩
  rw [← h3.2]
  show (a.tmps.setIfInBounds n v).getD m undef = a.tmps.getD m undef
  rw [Array.getD_eq_getD_getElem?, Array.getD_eq_getD_getElem?, Array.getElem?_setIfInBounds, if_neg (Nat.ne_of_beq_eq_false hb)]
theorem KL.a {N : Nat} {a : Act} {l : List (Nat × Value)} (h : KL N a l) {n : Nat} {v : Value} (hm : lk n l = some v := by rfl) : a.eval (.tmp n) = v := (h.2.2 n v hm).2
/-- Each is known so. -/
def subL (l : List (Nat × Value)) : List (Nat × Value) → Prop
 | [] => True
 | p :: r => lk p.1 l = some p.2 ∧ subL l r
theorem subL_at {l : List (Nat × Value)} : ∀ {l' : List (Nat × Value)}, subL l l' → ∀ p ∈ l', lk p.1 l = some p.2
 | q :: r, h, p, hp => by
  rcases List.mem_cons.1 hp with rfl | hp
  ·exact h.1
  ·exact subL_at h.2 p hp
theorem KL.m {N : Nat} {a : Act} {l l' : List (Nat × Value)} (h : KL N a l) (hs : subL l l' := by repeat' constructor) : KN N a l' := ⟨h.1, h.2.1, fun p hp => h.2.2 p.1 p.2 (subL_at hs p hp)⟩
theorem KL.slot {N : Nat} {a : Act} {l : List (Nat × Value)} (h : KL N a l) {n : Nat} {v : Value} (hm : lk n l = some v) : a.tmps[n]? = some v := by
 have h2 := h.2.2 n v hm
 exact KN.slot (l := [(n, v)]) ⟨h.1, h.2.1, fun p hp => by obtain rfl := List.mem_singleton.1 hp; exact h2⟩ List.mem_cons_self
/-- What operands come to. -/
def evO (l : List (Nat × Value)) : List Operand → Option (List Value)
 | [] => some []
 | .tmp n :: r => match lk n l with
  | some v => match evO l r with
   | some vs => some (v :: vs)
   | none => none
  | none => none
 | .const v :: r => match evO l r with
  | some vs => some (v :: vs)
  | none => none
 | _ => none
theorem evO_at {N : Nat} {a : Act} {l : List (Nat × Value)} (h : KL N a l) : ∀ (xs : List Operand) (vs : List Value), evO l xs = some vs → xs.map a.eval = vs
 | [], vs, e => by obtain rfl := Option.some.inj e; rfl
 | .tmp n :: r, vs, e => by
  unfold evO at e
  cases h1 : lk n l with
  | none => rw [h1] at e; cases e
  | some v =>
   cases h2 : evO l r with
   | none => rw [h1, h2] at e; cases e
   | some us =>
    rw [h1, h2] at e
    obtain rfl := Option.some.inj e
    rw [List.map_cons, evO_at h r us h2, (h.2.2 n v h1).2]
 | .const v :: r, vs, e => by
  unfold evO at e
  cases h2 : evO l r with
  | none => rw [h2] at e; cases e
  | some us =>
   rw [h2] at e
   obtain rfl := Option.some.inj e
   rw [List.map_cons, evO_at h r us h2]
   rfl
/-- Whether the operation is wanted. -/
def gB (ops : Array Oper) (l : List (Nat × Value)) : Option (Nat × Bool) → Option Bool
 | none => some true
 | some (j, c) => match (ops[j]?).bind (·.dst) with
  | none => none
  | some m => match lk m l with
   | some (.bool d) => some (d == c)
   | _ => none
theorem gB_want {ops : Array Oper} {N : Nat} {a : Act} {l : List (Nat × Value)} {g : Option (Nat × Bool)} {b : Bool} (h : KL N a l) (hg : gB ops l g = some b) : want ops a g b := by
 match g, hg with
 | none, hg =>
  obtain rfl : true = b := Option.some.inj hg
  exact want_none
 | some (j, c), hg =>
  unfold gB at hg
  simp only at hg
  intro o ho
  cases h1 : (ops[j]?).bind (·.dst) with
  | none => rw [h1] at hg; cases hg
  | some m =>
   rw [h1] at hg
   simp only at hg
   split at hg
   ·rename_i d hd
    obtain rfl := Option.some.inj hg
    have := h.slot hd
    simp [Region.wanted, ho, yielded, h1, this]
   ·cases hg
theorem ext_a {a : Act} {W : World} {o : Oper} (n : Nat) {vs : Array Value} {v : Value} {x : Operand} (hx : a.eval x = .tuple vs) (ho : o.op = .extract x n) (hv : vs[n]? = some v := by rfl) : (execOp a.eval o).run Tryd.prog W = .ok (.value v) W := by
 unfold execOp
 simp only [ho, hx]
 go_simp
section
variable {a : Act} {W : World} {o : Oper}
theorem lod_26 (g : Nat) (cs : Array Value) {x : Operand} (hx : a.eval x = .pointer (some ⟨g, 0, none⟩)) (hg : W.heap[g]? = some (.cells cs 26 (0, 0))) (hs : cs.size = 24) (ho : o.op = .load 26 x) : (execOp a.eval o).run Tryd.prog W = .ok (.value (.agg cs)) W := by
 unfold execOp
 simp only [ho, hx, Instr.loadAt, Instr.sureAddr, Sem.run_bind, Sem.run_pure, Result.andThen_ok, run_loadVar_row W g 26 26 cs (0, 0) _ hg Tryd.underlying26 rfl (by rw [hs]; exact size26)]
theorem st_22 (q p : Nat) (A : Option Addr) (n c : Nat) (old : Value) {x y : Operand} (hx : a.eval x = .pointer (some ⟨q, p, none⟩)) (hy : a.eval y = .slice A n c) (hc : W.cell? ⟨q, p, none⟩ = some old) (hz : W.frozen? ⟨q, p, none⟩ = false) (ho : o.op = .store 22 x y) :
  (execOp a.eval o).run Tryd.prog W = .ok .skip (W.setCell ⟨q, p, none⟩ (.slice A n c)) := by
 have hu := Tryd.underlying22
 unfold execOp
 simp only [ho, hx, hy]
 go_simp
theorem ls_st {ops : Array Oper} {Q : Exit → Act → World → Prop} {a : Act} {w w1 : World} {i : Nat} {p : Op} (ho : OpAt ops i none p none) (hrun : ∀ o : Oper, o.op = p → (execOp a.eval o).run Tryd.prog w = .ok .skip w1)
  (h : wpList Tryd.prog ops Q (ops.toList.drop (i + 1)) a w1) : wpList Tryd.prog ops Q (ops.toList.drop i) a w := by
 obtain ⟨o, he, hd, hp, hg⟩ := ho.cons
 rw [he]
 refine wpList_step fun K hK => ?_
 rw [if_pos (want_none o hg)]
 unfold Oper.wp
 rw [hrun o hp]
 show K (a.put o.dst undef) w1
 rw [hd]
 exact hK _ _ h
theorem ls_row {ops : Array Oper} {Q : Exit → Act → World → Prop} {a : Act} {w : World} {i : Nat} {x y : Operand} (g : Nat) (cs old : Array Value) (ho : OpAt ops i none (.store 26 x y) none) (hx : a.eval x = .pointer (some ⟨g, 0, none⟩)) (hy : a.eval y = .agg cs)
  (hg : w.heap[g]? = some (.cells old 26 (0, 0))) (hs : cs.size = 24) (h1 : cs.all (·.oneCell') = true) (hold : old.size = 24)
  (h : wpList Tryd.prog ops Q (ops.toList.drop (i + 1)) a (w.setRow g cs)) : wpList Tryd.prog ops Q (ops.toList.drop i) a w := by
 obtain ⟨o, he, hd, hp, hgd⟩ := ho.cons
 rw [he]
 refine wpList_store_row hgd 26 x y hp g cs hx hy 26 old hg (by rw [hs]; exact size26) (by rw [hs, hold]) h1 ?_
 rw [hd]
 exact h
end
section
variable {P : Program} {ops : Array Oper} {Q : Exit → Act → World → Prop} {a : Act} {w w1 : World} {i N n : Nat} {L : List (Nat × Value)} {v : Value} {p : Op} {g : Option (Nat × Bool)}
theorem wr {id : Nat} (h : wpList P ops Q (ops.toList.drop 0) a w) : Code.wp P (.region id ops false) Q a w := wp_region_list h
theorem le_ {k : Nat} (h : Q .normal a w) (hs : ops.size = k := by rfl) : wpList P ops Q (ops.toList.drop k) a w := by
 rw [List.drop_eq_nil_of_le (by rw [Array.length_toList, hs]; exact Nat.le_refl _)]
 exact h
theorem lv (h : KL N a L) (ho : OpAt ops i (some n) p g) (hrun : ∀ o : Oper, o.op = p → (execOp a.eval o).run P w = .ok (.value v) w) (hk : ∀ a', KL N a' ((n, v) :: L) → wpList P ops Q (ops.toList.drop (i + 1)) a' w)
  (hw : gB ops L g = some true := by rfl) (hn : n < N := by decide) : wpList P ops Q (ops.toList.drop i) a w := ls_val v ho (gB_want h hw) hrun (hk _ (h.put n v hn))
theorem lof (h : KL N a L) (ho : OpAt ops i (some n) p g) (hk : ∀ a', KL N a' ((n, undef) :: L) → wpList P ops Q (ops.toList.drop (i + 1)) a' w)
  (hw : gB ops L g = some false := by rfl) (hn : n < N := by decide) : wpList P ops Q (ops.toList.drop i) a w := ls_off ho (gB_want h hw) (hk _ (h.put n undef hn))
theorem ln (h : KL N a L) (ho : OpAt ops i (some n) p none) (hrun : ∀ o : Oper, o.op = p → (execOp a.eval o).run Tryd.prog w = .ok (.value v) w1) (hk : ∀ a', KL N a' ((n, v) :: L) → wpList Tryd.prog ops Q (ops.toList.drop (i + 1)) a' w1)
  (hn : n < N := by decide) : wpList Tryd.prog ops Q (ops.toList.drop i) a w := ls_new v ho hrun (hk _ (h.put n v hn))
theorem lc {f : FuncId} {fn : Func} {xs : Array Operand} {ts : Array TypeId} {args : Array Value} {R : Ending → World → Prop} (h : KL N a L) (hf : P.funcs[f]? = some fn) (ho : OpAt ops i (some n) (.call { callee := .value (.func f), args := xs, argTypes := ts }) g) (hc : Calls P f args w R)
  (hk : ∀ e w', R e w' → ∃ v, e = .returned v ∧ ∀ a', KL N a' ((n, v) :: L) → wpList P ops Q (ops.toList.drop (i + 1)) a' w')
  (hw : gB ops L g = some true := by rfl) (hargs : evO L xs.toList = some args.toList := by rfl) (hname : (fn.name == "runtime.NumGoroutine") = false := by kernel_rfl) (hb : fn.body.isSome = true := by rfl) (hn : n < N := by decide) : wpList P ops Q (ops.toList.drop i) a w := by
 refine ls_call hf hname hb args ho (gB_want h hw) ?_ (hc.mono fun e w' hr => ?_)
 ·have := evO_at h _ _ hargs
  rw [← Array.toList_inj, Array.toList_map, this]
 ·obtain ⟨v, he, hk2⟩ := hk e w' hr
  exact ⟨v, he, hk2 _ (h.put n v hn)⟩
theorem la (h : KL N a L) (ho : OpAt ops i (some n) (.alloc 26) none) (hk : ∀ a', KL N a' ((n, .pointer (some ⟨w.heap.size, 0, none⟩)) :: L) → wpList Tryd.prog ops Q (ops.toList.drop (i + 1)) a' (w.alloc (.cells zA 26)))
  (hn : n < N := by decide) : wpList Tryd.prog ops Q (ops.toList.drop i) a w := by
 obtain ⟨o, he, hd, hp, hg⟩ := ho.cons
 rw [he]
 exact wpList_allocA hg (some n) hd 26 hp zA zA_info _ rfl (hk _ (h.put n _ hn))
theorem lb (h : KL N a L) (ho : OpAt ops i (some n) (.build 26 #[]) none) (hk : ∀ a', KL N a' ((n, .agg zA) :: L) → wpList Tryd.prog ops Q (ops.toList.drop (i + 1)) a' w)
  (hn : n < N := by decide) : wpList Tryd.prog ops Q (ops.toList.drop i) a w := by
 obtain ⟨o, he, hd, hp, hg⟩ := ho.cons
 rw [he]
 exact wpList_buildTo hg (some n) hd 26 _ hp zA (by kernel_rfl) (hk _ (h.put n _ hn))
end
section
variable {P : Program} {ops : Array Oper} {Q : Exit → Act → World → Prop} {S : World → Prop} {ds : List Nat} {fuel N n k m m' : Nat} {a : Act} {w : World} {L : List (Nat × Value)} {v : Value} {p : Op} {g : Option (Nat × Bool)}
/-- A region in any order: an operation that reads what nothing turns. -/
theorem tq (h : KL N a L) (i : Nat) (ho : OpAt ops i (some n) p g) (hS : S w) (hrun : ∀ (o : Oper) (W : World), S W → o.op = p → (execOp a.eval o).run P W = .ok (.value v) W)
  (hk : ∀ a', KL N a' ((n, v) :: L) → wpAnyLast P .any ops Q S [] fuel (bm k (m ||| 1 <<< i)) a' w) (hc : takeB .any ops [] (bm k m) (bm k (m ||| 1 <<< i)) i = true := by kernel_rfl) (hQ : ∀ c a w, Q (.panic c) (a.put (some n) v) w → Q (.panic c) a w := by exact fun _ _ _ h => h)
  (hw : gB ops L g = some true := by rfl) (hn : n < N := by decide) : wpAnyLast P .any ops Q S [] (fuel + 1) (bm k m) a w := by
 obtain ⟨o, hi, hd, hp, hg⟩ := op_at2 ho
 exact take_ _ hi hd hc (by rw [hd]; exact hQ) (.inl ⟨gB_want h hw o hg, fun W hs => hrun o W hs hp⟩) hS rfl (hk _ (h.put n v hn))
theorem pq (h : KL N a L) (i : Nat) (ho : OpAt ops i (some n) p g) (hrun : ∀ (o : Oper) (W : World), o.op = p → (execOp a.eval o).run P W = .ok (.value v) W)
  (hk : ∀ a', KL N a' ((n, v) :: L) → wpAnyLast P .any ops Q S ds fuel (bm k (m ||| 1 <<< i)) a' w) (hc : anyB .any ops (bm k m) (bm k (m ||| 1 <<< i)) i = true := by kernel_rfl) (hQ : ∀ c a w, Q (.panic c) (a.put (some n) v) w → Q (.panic c) a w := by exact fun _ _ _ h => h)
  (hw : gB ops L g = some true := by rfl) (hn : n < N := by decide) : wpAnyLast P .any ops Q S ds (fuel + 1) (bm k m) a w := by
 obtain ⟨o, hi, hd, hp, hg⟩ := op_at2 ho
 exact pure_ _ hi hd hc (by rw [hd]; exact hQ) (.inl ⟨gB_want h hw o hg, fun W => hrun o W hp⟩) rfl (hk _ (h.put n v hn))
/-- A call that is the only thing that may come next. -/
theorem cq {f : FuncId} {fn : Func} {xs : Array Operand} {ts : Array TypeId} {args : Array Value} {R : Ending → World → Prop} (h : KL N a L) (i : Nat) (hf : P.funcs[f]? = some fn) (ho : OpAt ops i (some n) (.call { callee := .value (.func f), args := xs, argTypes := ts }) g) (hcc : Calls P f args w R)
  (hk : ∀ e w', R e w' → ∃ v, e = .returned v ∧ S w' ∧ ∀ a', KL N a' ((n, v) :: L) → S w' → wpAnyLast P .any ops Q S [] fuel (bm k (m ||| 1 <<< i)) a' w')
  (hc : readyB .any ops (bm k m) (bm k (m ||| 1 <<< i)) i = true := by kernel_rfl) (hw : gB ops L g = some true := by rfl) (hargs : evO L xs.toList = some args.toList := by rfl) (hname : (fn.name == "runtime.NumGoroutine") = false := by kernel_rfl) (hb : fn.body.isSome = true := by rfl) (hn : n < N := by decide) :
  wpAnyLast P .any ops Q S [] (fuel + 1) (bm k m) a w := by
 obtain ⟨o, hi, hd, hp, hg⟩ := op_at2 ho
 refine one_ _ hi hd hc (by simp) fun KK hKK => goes_ hf hname hb args (gB_want h hw o hg) hd hp ?_ (hcc.mono fun e w' hr => ?_)
 ·have := evO_at h _ _ hargs
  rw [← Array.toList_inj, Array.toList_map, this]
 ·obtain ⟨v, he, hs, hk2⟩ := hk e w' hr
  exact ⟨v, he, hKK.out _ _ hs fun S1 => hk2 _ (h.put n v hn) S1⟩
/-- A value and a new world, the only thing that may come next. -/
theorem nq {w1 : World} (h : KL N a L) (i : Nat) (ho : OpAt ops i (some n) p g) (hrun : ∀ o : Oper, o.op = p → (execOp a.eval o).run P w = .ok (.value v) w1) (hs : S w1)
  (hk : ∀ a', KL N a' ((n, v) :: L) → S w1 → wpAnyLast P .any ops Q S [] fuel (bm k (m ||| 1 <<< i)) a' w1)
  (hc : readyB .any ops (bm k m) (bm k (m ||| 1 <<< i)) i = true := by kernel_rfl) (hw : gB ops L g = some true := by rfl) (hn : n < N := by decide) : wpAnyLast P .any ops Q S [] (fuel + 1) (bm k m) a w := by
 obtain ⟨o, hi, hd, hp, hg⟩ := op_at2 ho
 exact one_ _ hi hd hc (by simp) fun KK hKK => value_ (gB_want h hw o hg) hd (hrun o hp) (hKK.out _ _ hs fun S1 => hk _ (h.put n v hn) S1)
theorem sq {id : Nat} (k : Nat) (hS : S w.drew) (h : S w.drew → wpAnyLast P .any ops Q S [] k (bm k 0) a w.drew) (hm : P.follows .mixedOrders = true := by rfl) (hz : ops.size = k := by kernel_rfl) (hl : Array.replicate k false = bm k 0 := by kernel_rfl) : (Code.region id ops true).wp P Q a w :=
 start_ (n := k) (bm k 0) hm hz hl hS h
theorem dq (h : Q .normal a w) (hr : (Region.ready .any ops (bm k m) == []) = true := by kernel_rfl) : wpAnyLast P .any ops Q S ds fuel (bm k m) a w := done_ hr h
end
end Go.Proofs.YtjkehapbemjnpaaDoor
