/- Long rows of tests 'x && y && ..' in a large frame: each test is a step, whatever the frame holds elsewhere. -/
import Derived.Test.YtjkehapbemjnpaaDoorVPut
namespace Go.Proofs.YtjkehapbemjnpaaDoor.Chain
open Go.RowKit
set_option linter.unusedVariables false
set_option linter.unusedSimpArgs false
def KN (N : Nat) (a : Act) (l : List (Nat × Value)) : Prop := a.tmps.size = N ∧ a.defers = [] ∧ ∀ p ∈ l, p.1 < N ∧ a.eval (.tmp p.1) = p.2
theorem KN.put {N : Nat} {a : Act} {l : List (Nat × Value)} (h : KN N a l) (n : Nat) (v : Value) (hn : n < N) : KN N (a.put (some n) v) ((n, v) :: l.filter fun p => p.1 != n) := by
 have hs : (a.put (some n) v).tmps.size = N := by simp [Act.put, h.1]
 refine ⟨hs, h.2.1, fun p hp => ?_⟩
 rcases List.mem_cons.1 hp with rfl | hp
 ·refine ⟨hn, ?_⟩
  simp [Act.eval, Act.put, h.1, hn]
 ·obtain ⟨h1, h2⟩ := List.mem_filter.1 hp
  have h2 : p.1 ≠ n := by simpa using h2
  have h3 := h.2.2 p h1
  refine ⟨h3.1, ?_⟩
  rw [← h3.2]
  show (a.tmps.setIfInBounds n v).getD p.1 undef = a.tmps.getD p.1 undef
  rw [Array.getD_eq_getD_getElem?, Array.getD_eq_getD_getElem?, Array.getElem?_setIfInBounds, if_neg (Ne.symm h2)]
theorem KN.mono {N : Nat} {a : Act} {l l' : List (Nat × Value)} (h : KN N a l) (hl : ∀ p ∈ l', p ∈ l) : KN N a l' := ⟨h.1, h.2.1, fun p hp => h.2.2 p (hl p hp)⟩
theorem KN.at {N : Nat} {a : Act} {l : List (Nat × Value)} (h : KN N a l) {n : Nat} {v : Value} (hm : (n, v) ∈ l) : a.eval (.tmp n) = v := (h.2.2 _ hm).2
theorem KN.slot {N : Nat} {a : Act} {l : List (Nat × Value)} (h : KN N a l) {n : Nat} {v : Value} (hm : (n, v) ∈ l) : a.tmps[n]? = some v := by
 obtain ⟨h1, h2⟩ := h.2.2 _ hm
 simp only at h1 h2
 have h3 : n < a.tmps.size := by rw [h.1]; exact h1
 rw [Array.getElem?_eq_getElem h3, ← h2]
 show some a.tmps[n] = some (a.tmps.getD n undef)
 rw [Array.getD_eq_getD_getElem?, Array.getElem?_eq_getElem h3]
 rfl
def OpAt (ops : Array Oper) (i : Nat) (d : Option Tmp) (p : Op) (g : Option (Nat × Bool)) : Prop := ops[i]?.map (fun o => (o.dst, o.op, o.guard)) = some (d, p, g)
theorem oa {ops : Array Oper} {i : Nat} {d : Option Tmp} {p : Op} {g : Option (Nat × Bool)} (h : ops[i]?.map (fun o => (o.dst, o.op, o.guard)) = some (d, p, g)) : OpAt ops i d p g := h
section
variable {P : Program} {ops : Array Oper} {Q : Exit → Act → World → Prop} {a : Act} {w : World} {i : Nat}
theorem OpAt.cons {d : Option Tmp} {p : Op} {g : Option (Nat × Bool)} (h : OpAt ops i d p g) : ∃ o, ops.toList.drop i = o :: ops.toList.drop (i + 1) ∧ o.dst = d ∧ o.op = p ∧ o.guard = g := by
 unfold OpAt at h
 cases hq : ops[i]? with
 | none => rw [hq] at h; cases h
 | some o =>
  rw [hq] at h
  cases h
  obtain ⟨h1, h2⟩ := Array.getElem?_eq_some_iff.1 hq
  refine ⟨o, ?_, rfl, rfl, rfl⟩
  rw [← h2]
  rw [List.drop_eq_getElem_cons (by simpa using h1)]
  simp
def want (ops : Array Oper) (a : Act) (g : Option (Nat × Bool)) (b : Bool) : Prop := ∀ o : Oper, o.guard = g → Region.wanted o (yielded ops a.tmps) = b
theorem want_none : want ops a none true := fun o h => by simp [Region.wanted, h]
theorem want_some {N : Nat} {l : List (Nat × Value)} (h : KN N a l) (j m : Nat) (c d : Bool) (hj : (ops[j]?).bind (·.dst) = some m) (hm : (m, Value.bool d) ∈ l) : want ops a (some (j, c)) (d == c) := fun o ho => by
 have := h.slot hm
 simp [Region.wanted, ho, yielded, hj, this]
theorem ls_val {n : Nat} {p : Op} {g : Option (Nat × Bool)} (v : Value) (ho : OpAt ops i (some n) p g) (hw : want ops a g true) (hrun : ∀ o : Oper, o.op = p → (execOp a.eval o).run P w = .ok (.value v) w)
  (h : wpList P ops Q (ops.toList.drop (i + 1)) (a.put (some n) v) w) : wpList P ops Q (ops.toList.drop i) a w := by
 obtain ⟨o, he, hd, hp, hg⟩ := ho.cons
 rw [he]
 refine wpList_step fun K hK => ?_
 rw [if_pos (hw o hg)]
 unfold Oper.wp
 rw [hrun o hp]
 show K (a.put o.dst v) w
 rw [hd]
 exact hK _ _ h
theorem ls_off {n : Nat} {p : Op} {g : Option (Nat × Bool)} (ho : OpAt ops i (some n) p g) (hw : want ops a g false)
  (h : wpList P ops Q (ops.toList.drop (i + 1)) (a.put (some n) undef) w) : wpList P ops Q (ops.toList.drop i) a w := by
 obtain ⟨o, he, hd, hp, hg⟩ := ho.cons
 rw [he]
 refine wpList_step fun K hK => ?_
 rw [if_neg (by rw [hw o hg]; exact Bool.false_ne_true), hd]
 exact hK _ _ h
theorem ls_call {n : Nat} {f : FuncId} {fn : Func} {xs : Array Operand} {ts : Array TypeId} {g : Option (Nat × Bool)} (hf : P.funcs[f]? = some fn) (hname : (fn.name == "runtime.NumGoroutine") = false) (hb : fn.body.isSome = true) (args : Array Value)
  (ho : OpAt ops i (some n) (.call { callee := .value (.func f), args := xs, argTypes := ts }) g) (hw : want ops a g true) (hargs : xs.map a.eval = args)
  (h : Calls P f args w fun e w' => ∃ v, e = .returned v ∧ wpList P ops Q (ops.toList.drop (i + 1)) (a.put (some n) v) w') : wpList P ops Q (ops.toList.drop i) a w := by
 obtain ⟨o, he, hd, hp, hg⟩ := ho.cons
 rw [he]
 refine wpList_step fun K hK => ?_
 rw [if_pos (hw o hg)]
 have hent := Go.Proofs.YtjkehapbemjnpaaDoorW.PrintLast.enters_ hf hname hb args w
 have hrun : (execOp a.eval o).run P w = .ok (.enter f args) w := by
  unfold execOp
  simp [hp, resolve, Deferred.ofValue, invoke, Act.eval, hargs, hent]
 unfold Oper.wp
 rw [hrun, Oper.upon_enter]
 refine h.mono fun e w'' hh => ?_
 obtain ⟨v, rfl, hk⟩ := hh
 show K (a.put o.dst v) w''
 rw [hd]
 exact hK _ _ hk
theorem KN.to {N : Nat} {a : Act} {l : List (Nat × Value)} (h : KN N a l) (n : Nat) (v : Value) (l' : List (Nat × Value)) (hn : n < N) (hl : ∀ p ∈ l', p ∈ l ∧ p.1 ≠ n) : KN N (a.put (some n) v) ((n, v) :: l') :=
 (h.put n v hn).mono fun p hp => by
  rcases List.mem_cons.1 hp with rfl | hp
  ·exact List.mem_cons_self
  ·exact List.mem_cons_of_mem _ (List.mem_filter.2 ⟨(hl p hp).1, by simpa using (hl p hp).2⟩)
def ptr (g : Nat) : Value := .pointer (some ⟨g, 0, none⟩)
theorem OpAt.dst {d : Option Tmp} {p : Op} {g : Option (Nat × Bool)} (h : OpAt ops i d p g) : (ops[i]?).bind (·.dst) = d := by
 unfold OpAt at h
 cases hq : ops[i]? with
 | none => rw [hq] at h; cases h
 | some o => rw [hq] at h; cases h; rfl
theorem run_mv {o : Oper} {x : Operand} {v : Value} (hv : a.eval x = v) (h : o.op = .move x) : (execOp a.eval o).run P w = .ok (.value v) w := by
 unfold execOp; rw [h, ← hv]; rfl
theorem run_pick {o : Oper} {c x y : Operand} {b : Bool} {v1 v2 : Value} (hc : a.eval c = .bool b) (h1 : a.eval x = v1) (h2 : a.eval y = v2) (h : o.op = .pick c x y) : (execOp a.eval o).run P w = .ok (.value (if b = true then v1 else v2)) w := by
 unfold execOp
 simp only [h, hc, h1, h2]
 cases b <;> rfl
theorem test_or {N m p j : Nat} {ty : TypeId} (ga gb : Nat) (va vb : Value) (d ne : Bool) (h : KN N a [(p, .bool d), (2, ptr ga), (3, ptr gb)])
  (o0 : OpAt ops i (some m) (.move (.tmp p)) none)
  (o1 : OpAt ops (i + 1) (some (m + 1)) (.fieldAddr 26 (.tmp 2) j) (some (i, false)))
  (o2 : OpAt ops (i + 1 + 1) (some (m + 2)) (.load ty (.tmp (m + 1))) (some (i, false)))
  (o3 : OpAt ops (i + 1 + 1 + 1) (some (m + 3)) (.fieldAddr 26 (.tmp 3) j) (some (i, false)))
  (o4 : OpAt ops (i + 1 + 1 + 1 + 1) (some (m + 4)) (.load ty (.tmp (m + 3))) (some (i, false)))
  (o5 : OpAt ops (i + 1 + 1 + 1 + 1 + 1) (some (m + 5)) (.binOp .neq ty (.tmp (m + 2)) (.tmp (m + 4)) ty) (some (i, false)))
  (o6 : OpAt ops (i + 1 + 1 + 1 + 1 + 1 + 1) (some (m + 6)) (.pick (.tmp m) (.const (.bool true)) (.tmp (m + 5))) none)
  (hm : 3 < m) (hp : 3 < p) (hN : m + 6 < N)
  (rF : ∀ (a : Act) (q : Operand) (g : Nat) (W : World) (o : Oper), a.eval q = ptr g → o.op = .fieldAddr 26 q j → (execOp a.eval o).run P W = .ok (.value (.pointer (some ⟨g, j, none⟩))) W)
  (rL : ∀ (a : Act) (q : Operand) (A : Addr) (v : Value) (W : World) (o : Oper), a.eval q = .pointer (some A) → W.cell? A = some v → o.op = .load ty q → (execOp a.eval o).run P W = .ok (.value v) W)
  (rB : ∀ (a : Act) (x y : Operand) (W : World) (o : Oper), a.eval x = va → a.eval y = vb → o.op = .binOp .neq ty x y ty → (execOp a.eval o).run P W = .ok (.value (.bool ne)) W)
  (ca : w.cell? ⟨ga, j, none⟩ = some va) (cb : w.cell? ⟨gb, j, none⟩ = some vb)
  (hk : ∀ a', KN N a' [(m + 6, .bool (d || ne)), (2, ptr ga), (3, ptr gb)] → wpList P ops Q (ops.toList.drop (i + 1 + 1 + 1 + 1 + 1 + 1 + 1)) a' w) : wpList P ops Q (ops.toList.drop i) a w := by
 refine ls_val (.bool d) o0 want_none (fun o ho => run_mv (h.at (by simp)) ho) ?_
 have h1 := h.to m (.bool d) [(2, ptr ga), (3, ptr gb)] (by omega) (by simp <;> omega)
 generalize a.put _ _ = a1 at h1 ⊢
 have hw : ∀ (x : Act) (l : List (Nat × Value)), KN N x l → (m, Value.bool d) ∈ l → want ops x (some (i, false)) (d == false) := fun x l hx hl => want_some hx i m false d o0.dst hl
 cases d with
 | true =>
  refine ls_off o1 (hw _ _ h1 (by simp)) ?_
  have h2 := h1.to (m + 1) undef [(m, .bool true), (2, ptr ga), (3, ptr gb)] (by omega) (by simp <;> omega)
  generalize a1.put _ _ = a2 at h2 ⊢
  refine ls_off o2 (hw _ _ h2 (by simp)) ?_
  have h3 := h2.to (m + 2) undef [(m, .bool true), (2, ptr ga), (3, ptr gb)] (by omega) (by simp <;> omega)
  generalize a2.put _ _ = a3 at h3 ⊢
  refine ls_off o3 (hw _ _ h3 (by simp)) ?_
  have h4 := h3.to (m + 3) undef [(m, .bool true), (2, ptr ga), (3, ptr gb)] (by omega) (by simp <;> omega)
  generalize a3.put _ _ = a4 at h4 ⊢
  refine ls_off o4 (hw _ _ h4 (by simp)) ?_
  have h5 := h4.to (m + 4) undef [(m, .bool true), (2, ptr ga), (3, ptr gb)] (by omega) (by simp <;> omega)
  generalize a4.put _ _ = a5 at h5 ⊢
  refine ls_off o5 (hw _ _ h5 (by simp)) ?_
  have h6 := h5.to (m + 5) undef [(m, .bool true), (2, ptr ga), (3, ptr gb)] (by omega) (by simp <;> omega)
  generalize a5.put _ _ = a6 at h6 ⊢
  refine ls_val (.bool true) o6 want_none (fun o ho => run_pick (b := true) (h6.at (by simp)) rfl rfl ho) ?_
  exact hk _ (h6.to (m + 6) (.bool true) [(2, ptr ga), (3, ptr gb)] (by omega) (by simp <;> omega))
 | false =>
  refine ls_val (.pointer (some ⟨ga, j, none⟩)) o1 (hw _ _ h1 (by simp)) (fun o ho => rF _ _ _ _ _ (h1.at (by simp)) ho) ?_
  have h2 := h1.to (m + 1) (.pointer (some ⟨ga, j, none⟩)) [(m, .bool false), (2, ptr ga), (3, ptr gb)] (by omega) (by simp <;> omega)
  generalize a1.put _ _ = a2 at h2 ⊢
  refine ls_val va o2 (hw _ _ h2 (by simp)) (fun o ho => rL _ _ _ _ _ _ (h2.at (by simp)) ca ho) ?_
  have h3 := h2.to (m + 2) va [(m, .bool false), (2, ptr ga), (3, ptr gb)] (by omega) (by simp <;> omega)
  generalize a2.put _ _ = a3 at h3 ⊢
  refine ls_val (.pointer (some ⟨gb, j, none⟩)) o3 (hw _ _ h3 (by simp)) (fun o ho => rF _ _ _ _ _ (h3.at (by simp)) ho) ?_
  have h4 := h3.to (m + 3) (.pointer (some ⟨gb, j, none⟩)) [(m + 2, va), (m, .bool false), (2, ptr ga), (3, ptr gb)] (by omega) (by simp <;> omega)
  generalize a3.put _ _ = a4 at h4 ⊢
  refine ls_val vb o4 (hw _ _ h4 (by simp)) (fun o ho => rL _ _ _ _ _ _ (h4.at (by simp)) cb ho) ?_
  have h5 := h4.to (m + 4) vb [(m + 2, va), (m, .bool false), (2, ptr ga), (3, ptr gb)] (by omega) (by simp <;> omega)
  generalize a4.put _ _ = a5 at h5 ⊢
  refine ls_val (.bool ne) o5 (hw _ _ h5 (by simp)) (fun o ho => rB _ _ _ _ _ (h5.at (by simp)) (h5.at (by simp)) ho) ?_
  have h6 := h5.to (m + 5) (.bool ne) [(m, .bool false), (2, ptr ga), (3, ptr gb)] (by omega) (by simp <;> omega)
  generalize a5.put _ _ = a6 at h6 ⊢
  refine ls_val (.bool ne) o6 want_none (fun o ho => run_pick (b := false) (h6.at (by simp)) rfl (h6.at (by simp)) ho) ?_
  exact hk _ (h6.to (m + 6) (.bool ne) [(2, ptr ga), (3, ptr gb)] (by omega) (by simp <;> omega))
theorem tor {N m p j : Nat} {ty : TypeId} {ga gb : Nat} {va vb : Value} {d ne : Bool} (h : KN N a [(p, .bool d), (2, ptr ga), (3, ptr gb)])
  (rF : ∀ (a : Act) (q : Operand) (g : Nat) (W : World) (o : Oper), a.eval q = ptr g → o.op = .fieldAddr 26 q j → (execOp a.eval o).run P W = .ok (.value (.pointer (some ⟨g, j, none⟩))) W)
  (rL : ∀ (a : Act) (q : Operand) (A : Addr) (v : Value) (W : World) (o : Oper), a.eval q = .pointer (some A) → W.cell? A = some v → o.op = .load ty q → (execOp a.eval o).run P W = .ok (.value v) W)
  (rB : ∀ (a : Act) (x y : Operand) (W : World) (o : Oper), a.eval x = va → a.eval y = vb → o.op = .binOp .neq ty x y ty → (execOp a.eval o).run P W = .ok (.value (.bool ne)) W)
  (ca : w.cell? ⟨ga, j, none⟩ = some va) (cb : w.cell? ⟨gb, j, none⟩ = some vb)
  (hk : ∀ a', KN N a' [(m + 6, .bool (d || ne)), (2, ptr ga), (3, ptr gb)] → wpList P ops Q (ops.toList.drop (i + 1 + 1 + 1 + 1 + 1 + 1 + 1)) a' w)
  (o0 : OpAt ops i (some m) (.move (.tmp p)) none := by rfl)
  (o1 : OpAt ops (i + 1) (some (m + 1)) (.fieldAddr 26 (.tmp 2) j) (some (i, false)) := by rfl)
  (o2 : OpAt ops (i + 1 + 1) (some (m + 2)) (.load ty (.tmp (m + 1))) (some (i, false)) := by rfl)
  (o3 : OpAt ops (i + 1 + 1 + 1) (some (m + 3)) (.fieldAddr 26 (.tmp 3) j) (some (i, false)) := by rfl)
  (o4 : OpAt ops (i + 1 + 1 + 1 + 1) (some (m + 4)) (.load ty (.tmp (m + 3))) (some (i, false)) := by rfl)
  (o5 : OpAt ops (i + 1 + 1 + 1 + 1 + 1) (some (m + 5)) (.binOp .neq ty (.tmp (m + 2)) (.tmp (m + 4)) ty) (some (i, false)) := by rfl)
  (o6 : OpAt ops (i + 1 + 1 + 1 + 1 + 1 + 1) (some (m + 6)) (.pick (.tmp m) (.const (.bool true)) (.tmp (m + 5))) none := by rfl)
  (hm : 3 < m := by decide) (hp : 3 < p := by decide) (hN : m + 6 < N := by decide) : wpList P ops Q (ops.toList.drop i) a w := test_or ga gb va vb d ne h o0 o1 o2 o3 o4 o5 o6 hm hp hN rF rL rB ca cb hk
theorem test_and {N m p j : Nat} {ty : TypeId} {f : FuncId} {fn : Func} {ts : Array TypeId} (Inv : World → Prop) (ga gb : Nat) (va vb : Value) (d ne : Bool) (h : KN N a [(p, .bool d), (2, ptr ga), (3, ptr gb)])
  (hf : P.funcs[f]? = some fn) (hname : (fn.name == "runtime.NumGoroutine") = false) (hb : fn.body.isSome = true)
  (o0 : OpAt ops i (some m) (.move (.tmp p)) none)
  (o1 : OpAt ops (i + 1) (some (m + 1)) (.fieldAddr 26 (.tmp 2) j) (some (i, true)))
  (o2 : OpAt ops (i + 1 + 1) (some (m + 2)) (.load ty (.tmp (m + 1))) (some (i, true)))
  (o3 : OpAt ops (i + 1 + 1 + 1) (some (m + 3)) (.fieldAddr 26 (.tmp 3) j) (some (i, true)))
  (o4 : OpAt ops (i + 1 + 1 + 1 + 1) (some (m + 4)) (.load ty (.tmp (m + 3))) (some (i, true)))
  (o5 : OpAt ops (i + 1 + 1 + 1 + 1 + 1) (some (m + 5)) (.call { callee := .value (.func f), args := #[.tmp (m + 2), .tmp (m + 4)], argTypes := ts }) (some (i, true)))
  (o6 : OpAt ops (i + 1 + 1 + 1 + 1 + 1 + 1) (some (m + 6)) (.pick (.tmp m) (.tmp (m + 5)) (.const (.bool false))) none)
  (hm : 3 < m) (hp : 3 < p) (hN : m + 6 < N)
  (rF : ∀ (a : Act) (q : Operand) (g : Nat) (W : World) (o : Oper), a.eval q = ptr g → o.op = .fieldAddr 26 q j → (execOp a.eval o).run P W = .ok (.value (.pointer (some ⟨g, j, none⟩))) W)
  (rL : ∀ (a : Act) (q : Operand) (A : Addr) (v : Value) (W : World) (o : Oper), a.eval q = .pointer (some A) → W.cell? A = some v → o.op = .load ty q → (execOp a.eval o).run P W = .ok (.value v) W)
  (hC : Calls P f #[va, vb] w fun e w' => e = .returned (.bool ne) ∧ Inv w') (hI : Inv w)
  (ca : w.cell? ⟨ga, j, none⟩ = some va) (cb : w.cell? ⟨gb, j, none⟩ = some vb)
  (hk : ∀ a' w', Inv w' → KN N a' [(m + 6, .bool (d && ne)), (2, ptr ga), (3, ptr gb)] → wpList P ops Q (ops.toList.drop (i + 1 + 1 + 1 + 1 + 1 + 1 + 1)) a' w') : wpList P ops Q (ops.toList.drop i) a w := by
 refine ls_val (.bool d) o0 want_none (fun o ho => run_mv (h.at (by simp)) ho) ?_
 have h1 := h.to m (.bool d) [(2, ptr ga), (3, ptr gb)] (by omega) (by simp <;> omega)
 generalize a.put _ _ = a1 at h1 ⊢
 have hw : ∀ (x : Act) (l : List (Nat × Value)), KN N x l → (m, Value.bool d) ∈ l → want ops x (some (i, true)) (d == true) := fun x l hx hl => want_some hx i m true d o0.dst hl
 cases d with
 | false =>
  refine ls_off o1 (hw _ _ h1 (by simp)) ?_
  have h2 := h1.to (m + 1) undef [(m, .bool false), (2, ptr ga), (3, ptr gb)] (by omega) (by simp <;> omega)
  generalize a1.put _ _ = a2 at h2 ⊢
  refine ls_off o2 (hw _ _ h2 (by simp)) ?_
  have h3 := h2.to (m + 2) undef [(m, .bool false), (2, ptr ga), (3, ptr gb)] (by omega) (by simp <;> omega)
  generalize a2.put _ _ = a3 at h3 ⊢
  refine ls_off o3 (hw _ _ h3 (by simp)) ?_
  have h4 := h3.to (m + 3) undef [(m, .bool false), (2, ptr ga), (3, ptr gb)] (by omega) (by simp <;> omega)
  generalize a3.put _ _ = a4 at h4 ⊢
  refine ls_off o4 (hw _ _ h4 (by simp)) ?_
  have h5 := h4.to (m + 4) undef [(m, .bool false), (2, ptr ga), (3, ptr gb)] (by omega) (by simp <;> omega)
  generalize a4.put _ _ = a5 at h5 ⊢
  refine ls_off o5 (hw _ _ h5 (by simp)) ?_
  have h6 := h5.to (m + 5) undef [(m, .bool false), (2, ptr ga), (3, ptr gb)] (by omega) (by simp <;> omega)
  generalize a5.put _ _ = a6 at h6 ⊢
  refine ls_val (.bool false) o6 want_none (fun o ho => run_pick (b := false) (h6.at (by simp)) rfl rfl ho) ?_
  exact hk _ _ hI (h6.to (m + 6) (.bool false) [(2, ptr ga), (3, ptr gb)] (by omega) (by simp <;> omega))
 | true =>
  refine ls_val (.pointer (some ⟨ga, j, none⟩)) o1 (hw _ _ h1 (by simp)) (fun o ho => rF _ _ _ _ _ (h1.at (by simp)) ho) ?_
  have h2 := h1.to (m + 1) (.pointer (some ⟨ga, j, none⟩)) [(m, .bool true), (2, ptr ga), (3, ptr gb)] (by omega) (by simp <;> omega)
  generalize a1.put _ _ = a2 at h2 ⊢
  refine ls_val va o2 (hw _ _ h2 (by simp)) (fun o ho => rL _ _ _ _ _ _ (h2.at (by simp)) ca ho) ?_
  have h3 := h2.to (m + 2) va [(m, .bool true), (2, ptr ga), (3, ptr gb)] (by omega) (by simp <;> omega)
  generalize a2.put _ _ = a3 at h3 ⊢
  refine ls_val (.pointer (some ⟨gb, j, none⟩)) o3 (hw _ _ h3 (by simp)) (fun o ho => rF _ _ _ _ _ (h3.at (by simp)) ho) ?_
  have h4 := h3.to (m + 3) (.pointer (some ⟨gb, j, none⟩)) [(m + 2, va), (m, .bool true), (2, ptr ga), (3, ptr gb)] (by omega) (by simp <;> omega)
  generalize a3.put _ _ = a4 at h4 ⊢
  refine ls_val vb o4 (hw _ _ h4 (by simp)) (fun o ho => rL _ _ _ _ _ _ (h4.at (by simp)) cb ho) ?_
  have h5 := h4.to (m + 4) vb [(m + 2, va), (m, .bool true), (2, ptr ga), (3, ptr gb)] (by omega) (by simp <;> omega)
  generalize a4.put _ _ = a5 at h5 ⊢
  refine ls_call hf hname hb #[va, vb] o5 (hw _ _ h5 (by simp)) (by simp only [List.map_toArray, List.map_cons, List.map_nil, h5.at (n := m + 2) (v := va) (by simp), h5.at (n := m + 4) (v := vb) (by simp)]) (hC.mono ?_)
  rintro e w' ⟨rfl, hI'⟩
  refine ⟨_, rfl, ?_⟩
  have h6 := h5.to (m + 5) (.bool ne) [(m, .bool true), (2, ptr ga), (3, ptr gb)] (by omega) (by simp <;> omega)
  generalize a5.put _ _ = a6 at h6 ⊢
  refine ls_val (.bool ne) o6 want_none (fun o ho => run_pick (b := true) (h6.at (by simp)) (h6.at (by simp)) rfl ho) ?_
  exact hk _ _ hI' (h6.to (m + 6) (.bool ne) [(2, ptr ga), (3, ptr gb)] (by omega) (by simp <;> omega))
end
end Go.Proofs.YtjkehapbemjnpaaDoor.Chain
