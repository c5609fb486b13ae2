/- The last statement of Put, walked by itself; each condition stands in its theorem. -/
import Derived.Test.YtjkehapbemjnpaaDoorVPutP
set_option maxRecDepth 100000
set_option maxHeartbeats 8000000
namespace Go.Proofs.YtjkehapbemjnpaaDoor
open Go.RowKit Go.Proofs.YtjkehapbemjnpaaDoorW.PrintWords Go.Proofs.YtjkehapbemjnpaaDoorW.PrintLast Go.Proofs.YtjkehapbemjnpaaDoorW.PrintMore Lf Kit Cut Pl Num
set_option linter.unusedVariables false
set_option linter.unusedSimpArgs false
def sndC : Code → Code
 | .seq _ b => b
 | c => c
def fstC : Code → Code
 | .seq a _ => a
 | c => c
def nthC : Nat → Code → Code
 | 0, c => c
 | n + 1, c => nthC n (sndC c)
def lastS (c : Option Code) : Code := fstC (nthC 12 (c.getD .skip))
def opsC : Code → Array Oper
 | .region _ ops _ => ops
 | _ => #[]
def QN (K : Act → World → Prop) : Exit → Act → World → Prop
 | .normal, a, w => K a w
 | _, _, _ => False
theorem QN.imp {K : Act → World → Prop} {Q : Exit → Act → World → Prop} (h : ∀ a w, K a w → Q .normal a w) : ∀ (e : Exit) (a : Act) (w : World), QN K e a w → Q e a w := fun e a w hq => by
 cases e <;> first | exact h a w hq | exact (hq : False).elim
def Knows (a : Act) (l : List (Nat × Value)) : Prop := a.tmps.size = 191 ∧ a.defers = [] ∧ ∀ p ∈ l, a.eval (.tmp p.1) = p.2
theorem Knows.put {a : Act} {l : List (Nat × Value)} (h : Knows a l) (n : Nat) (v : Value) (hn : n < 191) (hf : (l.all fun p => p.1 != n) = true) : Knows (a.put (some n) v) ((n, v) :: l) := by
 have hs : (a.put (some n) v).tmps.size = 191 := by simp [Act.put, h.1]
 refine ⟨hs, h.2.1, fun p hp => ?_⟩
 rcases List.mem_cons.1 hp with rfl | hp
 ·simp [Act.eval, Act.put, h.1, hn]
 ·have h2 : p.1 ≠ n := by
   have := List.all_eq_true.1 hf p hp
   simpa using this
  have h3 := h.2.2 p hp
  rw [← h3]
  show (a.tmps.setIfInBounds n v).getD p.1 undef = a.tmps.getD p.1 undef
  rw [Array.getD_eq_getD_getElem?, Array.getD_eq_getD_getElem?, Array.getElem?_setIfInBounds, if_neg (Ne.symm h2)]
theorem ops43_code : lastS Tryd.f13.body = .region 43 (opsC (lastS Tryd.f13.body)) true := by kernel_rfl
section
variable {ops : Array Oper} {o : Oper} {a : Act} {S : World → Prop}
theorem yields_load26 (g : Nat) (ca : Array Value) (hs : ca.size = 24) (x : Operand) (ho : o.op = .load 26 x) (hg : o.guard = none) (hx : a.eval x = .pointer (some ⟨g, 0, none⟩)) (hS : ∀ W, S W → W.heap[g]? = some (.cells ca 26 (0, 0))) : YieldsIf Tryd.prog ops S o (.agg ca) a := by
 refine .inl ⟨by simp [Region.wanted, hg], fun W h => ?_⟩
 unfold execOp
 simp only [ho, hx, Instr.loadAt, Instr.sureAddr, Sem.run_bind, Sem.run_pure, Result.andThen_ok, run_loadVar_row W g 26 26 ca (0, 0) _ (hS W h) Tryd.underlying26 rfl (by rw [hs]; exact size26)]
theorem yields_load22 (g j : Nat) (v : Value) (x : Operand) (ho : o.op = .load 22 x) (hg : o.guard = none) (hx : a.eval x = .pointer (some ⟨g, j, none⟩)) (hS : ∀ W, S W → W.cell? ⟨g, j, none⟩ = some v) : YieldsIf Tryd.prog ops S o v a := by
 refine .inl ⟨by simp [Region.wanted, hg], fun W h => ?_⟩
 have := hS W h
 unfold execOp
 simp only [ho, hx]
 go_simp
theorem yields_move (v : Value) (x : Operand) (ho : o.op = .move x) (hg : o.guard = none) (hx : a.eval x = v) : Yields Tryd.prog ops o v a := by
 refine .inl ⟨by simp [Region.wanted, hg], fun W => ?_⟩
 unfold execOp
 simp only [ho, hx]
 rfl
theorem yields_assign (v : Value) (x : Operand) (ho : o.op = .assign x) (hg : o.guard = none) (hx : a.eval x = v) : Yields Tryd.prog ops o v a := by
 refine .inl ⟨by simp [Region.wanted, hg], fun W => ?_⟩
 unfold execOp
 simp only [ho, hx]
 rfl
theorem yields_field (g : Nat) (x : Operand) (ho : o.op = .fieldAddr 26 x 4) (hg : o.guard = none) (hx : a.eval x = .pointer (some ⟨g, 0, none⟩)) : Yields Tryd.prog ops o (.pointer (some ⟨g, 4, none⟩)) a := by
 refine .inl ⟨by simp [Region.wanted, hg], fun W => ?_⟩
 have hu := Tryd.underlying26
 unfold execOp
 simp only [ho, hx]
 go_simp
theorem yields_add (s t : ByteArray) (x y : Operand) (q : TypeId) (ho : o.op = .binOp .add 9 x y q) (hg : o.guard = none) (hx : a.eval x = .string s) (hy : a.eval y = .string t) (hz : ¬ 9223372036854775807 < s.size + t.size) : Yields Tryd.prog ops o (.string (s ++ t)) a := by
 refine .inl ⟨by simp [Region.wanted, hg], fun W => ?_⟩
 unfold execOp
 simp only [ho, hx, hy]
 go_simp
theorem yields_extract (n : Nat) (vs : Array Value) (v : Value) (x : Operand) (ho : o.op = .extract x n) (hg : o.guard = none) (hx : a.eval x = .tuple vs) (hv : vs[n]? = some v) : Yields Tryd.prog ops o v a := by
 refine .inl ⟨by simp [Region.wanted, hg], fun W => ?_⟩
 unfold execOp
 simp only [ho, hx]
 go_simp
end
theorem op_at {ops : Array Oper} {i : Nat} {d : Option Tmp} {p : Op} {g} (h : ops[i]?.map (fun o => (o.dst, o.op, o.guard)) = some (d, p, g)) : ∃ o, ops[i]? = some o ∧ o.dst = d ∧ o.op = p ∧ o.guard = g := by
 cases hq : ops[i]? with
 | none => rw [hq] at h; cases h
 | some o =>
  rw [hq] at h
  cases h
  exact ⟨o, rfl, rfl, rfl, rfl⟩
theorem Knows.at {a : Act} {l : List (Nat × Value)} (h : Knows a l) {n : Nat} {v : Value} (hm : l.lookup n = some v) : a.eval (.tmp n) = v := by
 refine h.2.2 (n, v) ?_
 induction l with
 | nil => cases hm
 | cons p r ih =>
  rw [List.lookup_cons] at hm
  by_cases hq : (n == p.1) = true
  ·rw [hq] at hm
   obtain rfl := Option.some.inj hm
   rw [eq_of_beq hq]
   exact List.mem_cons_self
  ·rw [Bool.not_eq_true] at hq
   rw [hq] at hm
   exact List.mem_cons_of_mem _ (ih ⟨h.1, h.2.1, fun p hp => h.2.2 p (List.mem_cons_of_mem _ hp)⟩ hm)
theorem put_tail (g : Nat) (ca : Array Value) (hs : ca.size = 24) (A4 : Option Addr) (n4 c4 : Nat) (hv4 : ca[4]? = some (.slice A4 n4 c4)) (sv sx : ByteArray) (z1 : ¬ 9223372036854775807 < sv.size + sx.size) (z2 : ¬ 9223372036854775807 < (sv ++ sx).size + (⟨#[10, 10]⟩ : ByteArray).size)
  (a0 : Act) (h0 : Knows a0 [(1, .pointer (some ⟨g, 0, none⟩)), (4, .string sv)]) (w : World) (Fin : Value → Value → World → Prop) (K : Act → World → Prop)
  (hS : w.drew.heap[g]? = some (.cells ca 26 (0, 0)))
  (HE : Calls Tryd.prog 37 #[.agg ca] w.drew fun e wE => e = .returned (.string sx) ∧ wE.heap[g]? = some (.cells ca 26 (0, 0)) ∧ (Lib.bytesWorld wE 5 (sv ++ sx ++ (⟨#[10, 10]⟩ : ByteArray))).heap[g]? = some (.cells ca 26 (0, 0)) ∧ ((Lib.bytesWorld wE 5 (sv ++ sx ++ (⟨#[10, 10]⟩ : ByteArray))).alloc (.cells #[.slice (some ⟨wE.heap.size, 0, none⟩) (sv ++ sx ++ (⟨#[10, 10]⟩ : ByteArray)).size (grownCap wE (sv ++ sx ++ (⟨#[10, 10]⟩ : ByteArray)).size 0 5), (.slice A4 n4 c4)] 22)).heap[g]? = some (.cells ca 26 (0, 0)) ∧
   Calls Tryd.prog 24 #[.slice (some ⟨(Lib.bytesWorld wE 5 (sv ++ sx ++ (⟨#[10, 10]⟩ : ByteArray))).heap.size, 0, none⟩) 2 2] ((Lib.bytesWorld wE 5 (sv ++ sx ++ (⟨#[10, 10]⟩ : ByteArray))).alloc (.cells #[.slice (some ⟨wE.heap.size, 0, none⟩) (sv ++ sx ++ (⟨#[10, 10]⟩ : ByteArray)).size (grownCap wE (sv ++ sx ++ (⟨#[10, 10]⟩ : ByteArray)).size 0 5), (.slice A4 n4 c4)] 22)) fun e wJ => ∃ v, e = .returned v ∧ wJ.heap[g]? = some (.cells ca 26 (0, 0)) ∧
    Calls Tryd.prog 36 #[.agg ca, v] wJ fun e wK => ∃ x y, e = .returned (.tuple #[x, y]) ∧ wK.heap[g]? = some (.cells ca 26 (0, 0)) ∧ Fin x y wK)
  (hK : ∀ (f : Array Value) (W : World) (x y : Value), f.size = 191 → f.getD 2 undef = x → f.getD 3 undef = y → Fin x y W → K ⟨f, []⟩ W) :
  Code.wp Tryd.prog (lastS Tryd.f13.body) (QN K) a0 w := by
 rw [ops43_code]
 obtain ⟨o0, i0, d0, p0, g0⟩ := op_at (show (opsC (lastS Tryd.f13.body))[0]?.map (fun o => (o.dst, o.op, o.guard)) = some (some 177, .load 26 (.tmp 1), none) by kernel_rfl)
 obtain ⟨o1, i1, d1, p1, g1⟩ := op_at (show (opsC (lastS Tryd.f13.body))[1]?.map (fun o => (o.dst, o.op, o.guard)) = some (some 178, .move (.tmp 4), none) by kernel_rfl)
 obtain ⟨o2, i2, d2, p2, g2⟩ := op_at (show (opsC (lastS Tryd.f13.body))[2]?.map (fun o => (o.dst, o.op, o.guard)) = some (some 179, .load 26 (.tmp 1), none) by kernel_rfl)
 obtain ⟨o3, i3, d3, p3, g3⟩ := op_at (show (opsC (lastS Tryd.f13.body))[3]?.map (fun o => (o.dst, o.op, o.guard)) = some (some 180, .call { callee := .value (.func 37), args := #[.tmp 179], argTypes := #[26] }, none) by kernel_rfl)
 obtain ⟨o4, i4, d4, p4, g4⟩ := op_at (show (opsC (lastS Tryd.f13.body))[4]?.map (fun o => (o.dst, o.op, o.guard)) = some (some 181, .binOp .add 9 (.tmp 178) (.tmp 180) 9, none) by kernel_rfl)
 obtain ⟨o5, i5, d5, p5, g5⟩ := op_at (show (opsC (lastS Tryd.f13.body))[5]?.map (fun o => (o.dst, o.op, o.guard)) = some (some 182, .binOp .add 9 (.tmp 181) (.const (.string ⟨#[10, 10]⟩)) 9, none) by kernel_rfl)
 obtain ⟨o6, i6, d6, p6, g6⟩ := op_at (show (opsC (lastS Tryd.f13.body))[6]?.map (fun o => (o.dst, o.op, o.guard)) = some (some 183, .convert 9 22 (.tmp 182), none) by kernel_rfl)
 obtain ⟨o7, i7, d7, p7, g7⟩ := op_at (show (opsC (lastS Tryd.f13.body))[7]?.map (fun o => (o.dst, o.op, o.guard)) = some (some 184, .fieldAddr 26 (.tmp 1) 4, none) by kernel_rfl)
 obtain ⟨o8, i8, d8, p8, g8⟩ := op_at (show (opsC (lastS Tryd.f13.body))[8]?.map (fun o => (o.dst, o.op, o.guard)) = some (some 185, .load 22 (.tmp 184), none) by kernel_rfl)
 obtain ⟨o9, i9, d9, p9, g9⟩ := op_at (show (opsC (lastS Tryd.f13.body))[9]?.map (fun o => (o.dst, o.op, o.guard)) = some (some 186, .buildSlice 76 2 #[(0, .tmp 183), (1, .tmp 185)], none) by kernel_rfl)
 obtain ⟨o10, i10, d10, p10, g10⟩ := op_at (show (opsC (lastS Tryd.f13.body))[10]?.map (fun o => (o.dst, o.op, o.guard)) = some (some 187, .call { callee := .value (.func 24), args := #[.tmp 186], argTypes := #[76] }, none) by kernel_rfl)
 obtain ⟨o11, i11, d11, p11, g11⟩ := op_at (show (opsC (lastS Tryd.f13.body))[11]?.map (fun o => (o.dst, o.op, o.guard)) = some (some 188, .call { callee := .value (.func 36), args := #[.tmp 177, .tmp 187], argTypes := #[26, 22] }, none) by kernel_rfl)
 obtain ⟨o12, i12, d12, p12, g12⟩ := op_at (show (opsC (lastS Tryd.f13.body))[12]?.map (fun o => (o.dst, o.op, o.guard)) = some (some 189, .extract (.tmp 188) 0, none) by kernel_rfl)
 obtain ⟨o13, i13, d13, p13, g13⟩ := op_at (show (opsC (lastS Tryd.f13.body))[13]?.map (fun o => (o.dst, o.op, o.guard)) = some (some 190, .extract (.tmp 188) 1, none) by kernel_rfl)
 obtain ⟨o14, i14, d14, p14, g14⟩ := op_at (show (opsC (lastS Tryd.f13.body))[14]?.map (fun o => (o.dst, o.op, o.guard)) = some (some 2, .assign (.tmp 189), none) by kernel_rfl)
 obtain ⟨o15, i15, d15, p15, g15⟩ := op_at (show (opsC (lastS Tryd.f13.body))[15]?.map (fun o => (o.dst, o.op, o.guard)) = some (some 3, .assign (.tmp 190), none) by kernel_rfl)
 refine start_ (n := 16) (S := fun W => W.heap[g]? = some (.cells ca 26 (0, 0))) (ds := []) #[false, false, false, false, false, false, false, false, false, false, false, false, false, false, false, false] rfl (by kernel_rfl) (by kernel_rfl) hS fun S0 => ?_
 refine take_ #[true, false, false, false, false, false, false, false, false, false, false, false, false, false, false, false] i0 d0 (by kernel_rfl) (fun _ _ _ h => h) (yields_load26 g ca hs _ p0 g0 (h0.at (n := 1) rfl) fun W h => h) S0 rfl ?_
 have h1 := h0.put 177 (.agg ca) (by decide) (by rfl)
 generalize Act.put _ _ _ = a1 at h1 ⊢
 refine pure_ #[true, true, false, false, false, false, false, false, false, false, false, false, false, false, false, false] i1 d1 (by kernel_rfl) (fun _ _ _ h => h) (yields_move _ _ p1 g1 (h1.at (n := 4) rfl)) rfl ?_
 have h2 := h1.put 178 (.string sv) (by decide) (by rfl)
 generalize Act.put _ _ _ = a2 at h2 ⊢
 refine take_ #[true, true, true, false, false, false, false, false, false, false, false, false, false, false, false, false] i2 d2 (by kernel_rfl) (fun _ _ _ h => h) (yields_load26 g ca hs _ p2 g2 (h2.at (n := 1) rfl) fun W h => h) S0 rfl ?_
 have h3 := h2.put 179 (.agg ca) (by decide) (by rfl)
 generalize Act.put _ _ _ = a3 at h3 ⊢
 refine pure_ #[true, true, true, false, false, false, false, true, false, false, false, false, false, false, false, false] i7 d7 (by kernel_rfl) (fun _ _ _ h => h) (yields_field g _ p7 g7 (h3.at (n := 1) rfl)) rfl ?_
 have h4 := h3.put 184 (.pointer (some ⟨g, 4, none⟩)) (by decide) (by rfl)
 generalize Act.put _ _ _ = a4 at h4 ⊢
 refine take_ #[true, true, true, false, false, false, false, true, true, false, false, false, false, false, false, false] i8 d8 (by kernel_rfl) (fun _ _ _ h => h) (yields_load22 g 4 (.slice A4 n4 c4) _ p8 g8 (h4.at (n := 184) rfl) fun W h => (cell_of_row W g 4 _ 26 (0, 0) h).trans hv4) S0 rfl ?_
 have h5 := h4.put 185 ((.slice A4 n4 c4)) (by decide) (by rfl)
 generalize Act.put _ _ _ = a5 at h5 ⊢
 refine one_ #[true, true, true, true, false, false, false, true, true, false, false, false, false, false, false, false] i3 d3 (by kernel_rfl) (by simp) fun KK hKK => goes_ Tryd.func37 (by kernel_rfl) rfl (#[.agg ca]) (by simp [Region.wanted, g3]) d3 p3 (by simp only [List.map_toArray, List.map_cons, List.map_nil, (h5.at (n := 179) rfl)]) ?_
 refine HE.mono ?_
 rintro e wE ⟨rfl, SE, SB, SA, HJ⟩
 refine ⟨_, rfl, hKK.out _ _ SE fun S0 => ?_⟩
 have h6 := h5.put 180 (.string sx) (by decide) (by rfl)
 generalize Act.put _ _ _ = a6 at h6 ⊢
 refine pure_ #[true, true, true, true, true, false, false, true, true, false, false, false, false, false, false, false] i4 d4 (by kernel_rfl) (fun _ _ _ h => h) (yields_add sv sx _ _ _ p4 g4 (h6.at (n := 178) rfl) (h6.at (n := 180) rfl) z1) rfl ?_
 have h7 := h6.put 181 (.string (sv ++ sx)) (by decide) (by rfl)
 generalize Act.put _ _ _ = a7 at h7 ⊢
 refine pure_ #[true, true, true, true, true, true, false, true, true, false, false, false, false, false, false, false] i5 d5 (by kernel_rfl) (fun _ _ _ h => h) (yields_add (sv ++ sx) (⟨#[10, 10]⟩ : ByteArray) _ _ _ p5 g5 (h7.at (n := 181) rfl) rfl z2) rfl ?_
 have h8 := h7.put 182 (.string (sv ++ sx ++ (⟨#[10, 10]⟩ : ByteArray))) (by decide) (by rfl)
 generalize Act.put _ _ _ = a8 at h8 ⊢
 refine one_ #[true, true, true, true, true, true, true, true, true, false, false, false, false, false, false, false] i6 d6 (by kernel_rfl) (by simp) fun KK hKK => value_ (v := .slice (some ⟨wE.heap.size, 0, none⟩) (sv ++ sx ++ (⟨#[10, 10]⟩ : ByteArray)).size (grownCap wE (sv ++ sx ++ (⟨#[10, 10]⟩ : ByteArray)).size 0 5)) (w1 := Lib.bytesWorld wE 5 (sv ++ sx ++ (⟨#[10, 10]⟩ : ByteArray))) (by simp [Region.wanted, g6]) d6 (by
  have q := print_bytes (P := Tryd.prog) 9 22 5 Tryd.underlying9 Tryd.underlying22 Tryd.underlying5 (sv ++ sx ++ (⟨#[10, 10]⟩ : ByteArray)) wE
  unfold execOp
  simp only [p6, (h8.at (n := 182) rfl), Sem.run_bind, q, Result.andThen_ok]
  rfl) (hKK.out _ _ SB fun S0 => ?_)
 have h9 := h8.put 183 (.slice (some ⟨wE.heap.size, 0, none⟩) (sv ++ sx ++ (⟨#[10, 10]⟩ : ByteArray)).size (grownCap wE (sv ++ sx ++ (⟨#[10, 10]⟩ : ByteArray)).size 0 5)) (by decide) (by rfl)
 generalize Act.put _ _ _ = a9 at h9 ⊢
 refine one_ #[true, true, true, true, true, true, true, true, true, true, false, false, false, false, false, false] i9 d9 (by kernel_rfl) (by simp) fun KK hKK => value_ (v := .slice (some ⟨(Lib.bytesWorld wE 5 (sv ++ sx ++ (⟨#[10, 10]⟩ : ByteArray))).heap.size, 0, none⟩) 2 2) (w1 := (Lib.bytesWorld wE 5 (sv ++ sx ++ (⟨#[10, 10]⟩ : ByteArray))).alloc (.cells #[.slice (some ⟨wE.heap.size, 0, none⟩) (sv ++ sx ++ (⟨#[10, 10]⟩ : ByteArray)).size (grownCap wE (sv ++ sx ++ (⟨#[10, 10]⟩ : ByteArray)).size 0 5), (.slice A4 n4 c4)] 22)) (by simp [Region.wanted, g9]) d9 (by
  have q := run_buildSlice (P := Tryd.prog) (Lib.bytesWorld wE 5 (sv ++ sx ++ (⟨#[10, 10]⟩ : ByteArray))) 76 22 2 #[(0, .slice (some ⟨wE.heap.size, 0, none⟩) (sv ++ sx ++ (⟨#[10, 10]⟩ : ByteArray)).size (grownCap wE (sv ++ sx ++ (⟨#[10, 10]⟩ : ByteArray)).size 0 5)), (1, (.slice A4 n4 c4))] #[.slice (some ⟨wE.heap.size, 0, none⟩) (sv ++ sx ++ (⟨#[10, 10]⟩ : ByteArray)).size (grownCap wE (sv ++ sx ++ (⟨#[10, 10]⟩ : ByteArray)).size 0 5), (.slice A4 n4 c4)] _ _ Tryd.underlying76 rfl rfl (by decide) (by decide) (by first | kernel_rfl | (simp [Instr.fill, Instr.overwrite]; done) | (show _ = _; go_simp))
  unfold execOp
  simp only [p9, (h9.at (n := 183) rfl), (h9.at (n := 185) rfl), List.map_toArray, List.map_cons, List.map_nil, Sem.run_bind, q, Result.andThen_ok]
  rfl) (hKK.out _ _ SA fun S0 => ?_)
 have h10 := h9.put 186 (.slice (some ⟨(Lib.bytesWorld wE 5 (sv ++ sx ++ (⟨#[10, 10]⟩ : ByteArray))).heap.size, 0, none⟩) 2 2) (by decide) (by rfl)
 generalize Act.put _ _ _ = a10 at h10 ⊢
 refine one_ #[true, true, true, true, true, true, true, true, true, true, true, false, false, false, false, false] i10 d10 (by kernel_rfl) (by simp) fun KK hKK => goes_ Tryd.func24 (by kernel_rfl) rfl (#[.slice (some ⟨(Lib.bytesWorld wE 5 (sv ++ sx ++ (⟨#[10, 10]⟩ : ByteArray))).heap.size, 0, none⟩) 2 2]) (by simp [Region.wanted, g10]) d10 p10 (by simp only [List.map_toArray, List.map_cons, List.map_nil, (h10.at (n := 186) rfl)]) ?_
 refine HJ.mono ?_
 rintro e wJ ⟨vJ, rfl, SJ, HB⟩
 refine ⟨_, rfl, hKK.out _ _ SJ fun S0 => ?_⟩
 have h11 := h10.put 187 (vJ) (by decide) (by rfl)
 generalize Act.put _ _ _ = a11 at h11 ⊢
 refine one_ #[true, true, true, true, true, true, true, true, true, true, true, true, false, false, false, false] i11 d11 (by kernel_rfl) (by simp) fun KK hKK => goes_ Tryd.func36 (by kernel_rfl) rfl (#[.agg ca, vJ]) (by simp [Region.wanted, g11]) d11 p11 (by simp only [List.map_toArray, List.map_cons, List.map_nil, (h11.at (n := 177) rfl), (h11.at (n := 187) rfl)]) ?_
 refine HB.mono ?_
 rintro e wK ⟨x, y, rfl, SK, FK⟩
 refine ⟨_, rfl, hKK.out _ _ SK fun S0 => ?_⟩
 have h12 := h11.put 188 (.tuple #[x, y]) (by decide) (by rfl)
 generalize Act.put _ _ _ = a12 at h12 ⊢
 refine pure_ #[true, true, true, true, true, true, true, true, true, true, true, true, true, false, false, false] i12 d12 (by kernel_rfl) (fun _ _ _ h => h) (yields_extract 0 #[x, y] x _ p12 g12 (h12.at (n := 188) rfl) rfl) rfl ?_
 have h13 := h12.put 189 (x) (by decide) (by rfl)
 generalize Act.put _ _ _ = a13 at h13 ⊢
 refine pure_ #[true, true, true, true, true, true, true, true, true, true, true, true, true, true, false, false] i13 d13 (by kernel_rfl) (fun _ _ _ h => h) (yields_extract 1 #[x, y] y _ p13 g13 (h13.at (n := 188) rfl) rfl) rfl ?_
 have h14 := h13.put 190 (y) (by decide) (by rfl)
 generalize Act.put _ _ _ = a14 at h14 ⊢
 refine pure_ #[true, true, true, true, true, true, true, true, true, true, true, true, true, true, true, false] i14 d14 (by kernel_rfl) (fun _ _ _ h => h) (yields_assign _ _ p14 g14 (h14.at (n := 189) rfl)) rfl ?_
 have h15 := h14.put 2 (x) (by decide) (by rfl)
 generalize Act.put _ _ _ = a15 at h15 ⊢
 refine pure_ #[true, true, true, true, true, true, true, true, true, true, true, true, true, true, true, true] i15 d15 (by kernel_rfl) (fun _ _ _ h => h) (yields_assign _ _ p15 g15 (h15.at (n := 190) rfl)) rfl ?_
 have h16 := h15.put 3 (y) (by decide) (by rfl)
 generalize Act.put _ _ _ = a16 at h16 ⊢
 refine done_ (by kernel_rfl) ?_
 have e2 := h16.at (n := 2) rfl
 have e3 := h16.at (n := 3) rfl
 obtain ⟨f, df⟩ := a16
 obtain rfl : df = [] := h16.2.1
 exact hK f wK x y h16.1 e2 e3 FK
theorem put_end (ca : Array Value) (a : AskP) (w wr : World) (TW : Hid (OneAt w w.heap.size ca a wr)) (sa : Hid (AskS a)) (hG : GF w) (sv : ByteArray) (HS : Hid (strOfNums (headS a ++ accR tL a.t 6 ++ accR oL (fun k => Six.enc (a.o k)) 4 ++ accR nL (fun k => told (a.n k) (leastN k)) 6) = sv)) (hz : sv.size ≤ 104600)
  (hw0 : Hid (wordS a.x0 ≠ [])) (hs3 : Hid (0 ≤ a.x23 ∧ a.x23 ≤ 2)) (hok : Hid (∀ k, k < 6 → leastN k ≤ a.n k ∧ a.n k ≤ most)) (hall : Hid (∀ n ∈ a.x22, 0 ≤ n ∧ n ≤ most))
  (a0 : Act) (h0 : Knows a0 [(1, .pointer (some ⟨w.heap.size, 0, none⟩)), (4, .string sv)]) (K : Act → World → Prop)
  (hK : ∀ (f : Array Value) (W : World), f.size = 191 → BytesR w (putS a) (.returned (.tuple #[f.getD 2 undef, f.getD 3 undef])) W → K ⟨f, []⟩ W) :
  Code.wp Tryd.prog (lastS Tryd.f13.body) (QN K) a0 wr := by
 obtain ⟨A4, c4, x4, l4, C4⟩ := TW.out.1.body
 have S0 := TW.out.1.1
 have hv4 := (blk_cell S0 4).symm.trans x4
 have HE := extra_calls _ _ _ a wr.drew TW.out.drew.1.2 sa.out hall.out hs3.out
 have hxl := extraS_len sa.out hall.out
 have hbl := bytesS_len sa.out hok.out hall.out
 have hbb2 := bytesS_byt sa.out.b
 have hck := check_yes hw0.out hs3.out hok.out hall.out
 have hput : putS a = backS a (bytesS a) := by unfold putS; rw [if_neg (fun h => h hck)]
 have hLs : Byt (headS a ++ linesS a ++ [10, 10]) := ((headS_byt sa.out.b).app (lines_byt sa.out.b)).app (by unfold Byt; decide)
 have eL : strOfNums (headS a ++ linesS a ++ [10, 10]) = sv ++ strOfNums (extraS a) ++ (⟨#[10, 10]⟩ : ByteArray) := by
  rw [← HS.out, str_app, show (⟨#[10, 10]⟩ : ByteArray) = strOfNums [10, 10] from rfl, str_app, lines_eq]
  simp only [List.append_assoc]
 have eB : bytesS a = (headS a ++ linesS a ++ [10, 10]) ++ a.x4 := rfl
 have hLl : (headS a ++ linesS a ++ [10, 10]).length ≤ 70000 := by rw [eB, List.length_append] at hbl; omega
 obtain ⟨kj, hkj⟩ := (join_tell [headS a ++ linesS a ++ [10, 10], a.x4] (by simp) (by
  simp only [List.flatten_cons, List.flatten_nil, List.append_nil]
  rw [← eB]
  omega)).rounds
 have ef : [headS a ++ linesS a ++ [10, 10], a.x4].flatten = bytesS a := by simp only [List.flatten_cons, List.flatten_nil, List.append_nil]; exact eB.symm
 rw [ef] at hkj
 have hLne : 0 < (headS a ++ linesS a ++ [10, 10]).length := by simp only [List.length_append, List.length_cons]; omega
 have hbne : 0 < (bytesS a).length := by rw [eB, List.length_append]; omega
 generalize hqx : strOfNums (extraS a) = sx at eL
 have zx : sx.size ≤ 10000 := str_sz hqx 10000 hxl
 have eBy : bytesOf (sv ++ sx ++ (⟨#[10, 10]⟩ : ByteArray)) = headS a ++ linesS a ++ [10, 10] := by rw [← eL, bytesOf_str hLs]
 have eSz : (sv ++ sx ++ (⟨#[10, 10]⟩ : ByteArray)).size = (headS a ++ linesS a ++ [10, 10]).length := by rw [← eL, strOfNums_size]
 generalize headS a ++ linesS a ++ [10, 10] = LL at *
 refine put_tail w.heap.size ca TW.out.1.2.size A4 _ c4 hv4 sv sx (by omega) (by
  rw [ByteArray.size_append]
  show ¬ 9223372036854775807 < sv.size + sx.size + 2
  omega) a0 h0 wr (fun x y W => BytesR w (putS a) (.returned (.tuple #[x, y])) W) K TW.out.drew.1.1 ?_ (fun f W x y hf hx hy hF => hK f W hf (by rw [hx, hy]; exact hF))
 refine HE.mono ?_
 rintro e wE ⟨rfl, BE⟩
 have TE := TW.out.drew.below BE
 have TB := TE.below (bytes_below (Below.refl _ _) (Nat.le_refl _) 5 (sv ++ sx ++ (⟨#[10, 10]⟩ : ByteArray)))
 have CB := bytes_C wE (sv ++ sx ++ (⟨#[10, 10]⟩ : ByteArray)) (by omega)
 rw [eBy] at CB
 have hgc := grownCap_ge wE (sv ++ sx ++ (⟨#[10, 10]⟩ : ByteArray)).size 0 5
 generalize hW : Lib.bytesWorld wE 5 (sv ++ sx ++ (⟨#[10, 10]⟩ : ByteArray)) = WB at *
 have TA := TB.below (below_alloc (Below.refl _ _) (.cells #[.slice (some ⟨wE.heap.size, 0, none⟩) (sv ++ sx ++ (⟨#[10, 10]⟩ : ByteArray)).size (grownCap wE (sv ++ sx ++ (⟨#[10, 10]⟩ : ByteArray)).size 0 5), .slice A4 a.x4.length c4] 22))
 have hC4 : Kd.C (Kd.int .u8) WB A4 a.x4.length a.x4 := by
  rw [← hW]
  exact Kd.C_below (Kd.C_drew C4) (below_step BE (bytes_below (Below.refl _ _) (Nat.le_refl _) 5 (sv ++ sx ++ (⟨#[10, 10]⟩ : ByteArray))))
 have J := two_rows WB (some ⟨wE.heap.size, 0, none⟩) (grownCap wE (sv ++ sx ++ (⟨#[10, 10]⟩ : ByteArray)).size 0 5) LL A4 c4 a.x4 (sv ++ sx ++ (⟨#[10, 10]⟩ : ByteArray)).size eSz (by omega) (by rw [← eSz]; exact CB) l4 hC4
 refine ⟨by rw [hqx], TE.1.1, TB.1.1, TA.1.1, ?_⟩
 refine (octet_Join.calls kj _ 2 [LL, a.x4] (bytesS a) _ J (Nat.le_refl _) hkj).mono ?_
 rintro e wJ ⟨vJ, rfl, RJ, BJ⟩
 obtain ⟨AJ, cJ, rfl, mJ, CJ⟩ := Kd.R_reads RJ
 have TJ := TA.below BJ
 refine ⟨_, rfl, TJ.1.1, ?_⟩
 refine (back_calls _ _ _ a AJ cJ (bytesS a) wJ TJ.1.2 sa.out.b CJ mJ (some_cap cJ CJ hbne) hbb2 (by omega) (hG.of TJ.2)).mono ?_
 rintro e wK ⟨AK, cK, rfl, mK, nK, CK, BK⟩
 refine ⟨_, _, rfl, (TJ.below BK).1.1, ?_⟩
 exact ⟨AK, cK, by rw [hput], by rw [hput]; exact mK, nK, by rw [hput]; exact CK, below_step TJ.2 BK⟩
end Go.Proofs.YtjkehapbemjnpaaDoor
