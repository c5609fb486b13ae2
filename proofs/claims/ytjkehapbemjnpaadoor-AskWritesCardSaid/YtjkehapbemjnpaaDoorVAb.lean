/- Requests in memory, and the lists of their parts, walked by hand; no condition beside those in each theorem. -/
import Derived.Test.YtjkehapbemjnpaaDoorVLx0
import Derived.Lib.Hide
import Derived.Deep.RegionHeldLaw
import Derived.Deep.WholeRow
import Derived.Great.Walk
namespace Go.Proofs.YtjkehapbemjnpaaDoor
open Go.RowKit Go.Proofs.YtjkehapbemjnpaaDoorW.PrintWords Go.Proofs.YtjkehapbemjnpaaDoorW.PrintLast Go.Proofs.YtjkehapbemjnpaaDoorW.PrintMore Lf
set_option linter.unusedVariables false
set_option linter.unusedSimpArgs false
def tW : List ByteArray := [⟨#[114, 97, 110, 103, 101]⟩, ⟨#[109, 97, 116, 99, 104]⟩, ⟨#[110, 111, 110, 101]⟩, ⟨#[112, 114, 101, 102, 105, 120]⟩, ⟨#[115, 105, 103, 110]⟩, ⟨#[97, 102, 116, 101, 114]⟩]
def oW : List ByteArray := [⟨#[111, 119, 110]⟩, ⟨#[109, 101, 116, 97]⟩, ⟨#[116, 97, 103, 115]⟩, ⟨#[107, 101, 121]⟩]
def nW : List ByteArray := [⟨#[105, 100]⟩, ⟨#[117, 110, 116, 105, 108]⟩, ⟨#[109, 111, 115, 116]⟩, ⟨#[102, 114, 111, 109, 45, 105, 100]⟩, ⟨#[117, 112, 108, 111, 97, 100]⟩, ⟨#[110, 111]⟩]
def tP : List Nat := [6, 7, 8, 12, 13, 14]
def oP : List Nat := [5, 9, 10, 19]
def nP : List Nat := [3, 11, 15, 18, 20, 21]
def PtrsP (g : Nat) (ws : List ByteArray) (ps : List Nat) (te : TypeId) (n : Nat) (w : World) (e : Ending) (w' : World) : Prop :=
 ∃ b1 b2, e = .returned (.tuple #[.slice (some ⟨b1, 0, none⟩) n n, .slice (some ⟨b2, 0, none⟩) n n]) ∧ w'.heap[b1]? = some (.cells (ws.map Value.string).toArray 9 (0, 0)) ∧ w'.heap[b2]? = some (.cells (ps.map fun p => Value.pointer (some ⟨g, p, none⟩)).toArray te (0, 0)) ∧ w.heap.size ≤ b1 ∧ w.heap.size ≤ b2 ∧ Below w.heap.size w w'
theorem blk_drew {w : World} {g : Nat} {o : Obj} (h : w.heap[g]? = some o) : w.drew.heap[g]? = some o := h
theorem ptrs_12 (g : Nat) (ws : List ByteArray) (ps : List Nat) (te : TypeId) (n : Nat) (w : World) (A B : Array Value) (hA : A = (ws.map Value.string).toArray) (hB : B = (ps.map fun p => Value.pointer (some ⟨g, p, none⟩)).toArray) :
  PtrsP g ws ps te n w (.returned (.tuple #[.slice (some ⟨w.heap.size, 0, none⟩) n n, .slice (some ⟨w.heap.size + 1, 0, none⟩) n n])) ((w.alloc (.cells A 9)).alloc (.cells B te)).drew := by
 subst hA hB
 refine ⟨_, _, rfl, blk_drew (heap_alloc2_old _ _ _), blk_drew (heap_alloc2_new _ _ _), Nat.le_refl _, Nat.le_succ _, below_drew (below_alloc (below_alloc (Below.refl _ _) _) _)⟩
theorem ptrs_21 (g : Nat) (ws : List ByteArray) (ps : List Nat) (te : TypeId) (n : Nat) (w : World) (A B : Array Value) (hA : A = (ws.map Value.string).toArray) (hB : B = (ps.map fun p => Value.pointer (some ⟨g, p, none⟩)).toArray) :
  PtrsP g ws ps te n w (.returned (.tuple #[.slice (some ⟨w.heap.size + 1, 0, none⟩) n n, .slice (some ⟨w.heap.size, 0, none⟩) n n])) ((w.alloc (.cells B te)).alloc (.cells A 9)).drew := by
 subst hA hB
 refine ⟨_, _, rfl, blk_drew (heap_alloc2_new _ _ _), blk_drew (heap_alloc2_old _ _ _), Nat.le_succ _, Nat.le_refl _, below_drew (below_alloc (below_alloc (Below.refl _ _) _) _)⟩
theorem texts_calls (g : Nat) (w : World) : Calls Tryd.prog 30 #[.pointer (some ⟨g, 0, none⟩)] w (PtrsP g tW tP 57 6 w) := by
 go_enter Tryd.func30, Tryd.ntmps30
 go_wp2
 go_region_held3 (fun _ => True) (trivial) (fail)
 all_goals
  go_wp2
  go_ret2
  first | exact ptrs_12 g tW tP 57 6 w _ _ rfl rfl | exact ptrs_21 g tW tP 57 6 w _ _ rfl rfl
theorem octets_calls (g : Nat) (w : World) : Calls Tryd.prog 32 #[.pointer (some ⟨g, 0, none⟩)] w (PtrsP g oW oP 62 4 w) := by
 go_enter Tryd.func32, Tryd.ntmps32
 go_wp2
 go_region_held3 (fun _ => True) (trivial) (fail)
 all_goals
  go_wp2
  go_ret2
  first | exact ptrs_12 g oW oP 62 4 w _ _ rfl rfl | exact ptrs_21 g oW oP 62 4 w _ _ rfl rfl
theorem numbers_calls (g : Nat) (w : World) : Calls Tryd.prog 34 #[.pointer (some ⟨g, 0, none⟩)] w (PtrsP g nW nP 67 6 w) := by
 go_enter Tryd.func34, Tryd.ntmps34
 go_wp2
 go_region_held3 (fun _ => True) (trivial) (fail)
 all_goals
  go_wp2
  go_ret2
  first | exact ptrs_12 g nW nP 67 6 w _ _ rfl rfl | exact ptrs_21 g nW nP 67 6 w _ _ rfl rfl
end Go.Proofs.YtjkehapbemjnpaaDoor
namespace Go.Proofs.YtjkehapbemjnpaaDoor
open Go.RowKit Go.Proofs.YtjkehapbemjnpaaDoorW.PrintWords Go.Proofs.YtjkehapbemjnpaaDoorW.PrintLast Go.Proofs.YtjkehapbemjnpaaDoorW.PrintMore Lf
set_option linter.unusedVariables false
set_option linter.unusedSimpArgs false
section
variable {P : Program}
theorem wpList_allocA {ops : Array Oper} {rest : List Oper} {o : Oper} {a : Act} {w : World} {Q : Exit → Act → World → Prop} (hg : o.guard = none) (dst : Option Tmp) (hdst : o.dst = dst) (t : TypeId) (ho : o.op = .alloc t) (z : Array Value)
  (hz : (P.info? t).map (·.zero) = some (some (.agg z))) (N : Nat) (hN : w.heap.size = N)
  (h : wpList P ops Q rest (a.put dst (.pointer (some ⟨N, 0, none⟩))) (w.alloc (.cells z t))) : wpList P ops Q (o :: rest) a w := by
 subst hN
 refine Great.wpList_runTo hg dst hdst _ _ ?_ h
 have hzv : (zeroValue t).run P w = .ok (.agg z) w := by
  cases hq : P.info? t with
  | none => simp [hq] at hz
  | some i => simp [hq] at hz; simp [zeroValue, typeInfo, hq, hz]
 unfold execOp
 simp only [ho]
 simp [Instr.alloc, Sem.run_bind, hzv, newVar, newRow, Value.cells]
end
def zA : Array Value := #[.int .i64 0, .string ⟨#[]⟩, .string ⟨#[]⟩, .int .i64 0, .slice none 0 0, .slice none 0 0, .string ⟨#[]⟩, .string ⟨#[]⟩, .string ⟨#[]⟩, .slice none 0 0, .slice none 0 0, .int .i64 0, .string ⟨#[]⟩, .string ⟨#[]⟩, .string ⟨#[]⟩, .int .i64 0, .string ⟨#[]⟩, .string ⟨#[]⟩, .int .i64 0, .slice none 0 0, .int .i64 0, .int .i64 0, .slice none 0 0, .int .i64 0]
theorem zA_info : (Tryd.prog.info? 26).map (·.zero) = some (some (.agg zA)) := by kernel_rfl
theorem zA_size : zA.size = 24 := rfl
theorem zA_one : zA.all (·.oneCell') = true := by kernel_rfl
theorem size26 : (Tryd.prog.info? 26).map (·.size) = some 24 := by kernel_rfl
def wordsL : List ByteArray := [⟨#[]⟩, ⟨#[109, 97, 107, 101]⟩, ⟨#[100, 114, 111, 112]⟩, ⟨#[115, 116, 97, 116, 101]⟩, ⟨#[98, 117, 99, 107, 101, 116, 115]⟩, ⟨#[112, 117, 116]⟩, ⟨#[103, 101, 116]⟩, ⟨#[104, 101, 97, 100]⟩, ⟨#[100, 101, 108, 101, 116, 101]⟩, ⟨#[108, 105, 115, 116]⟩, ⟨#[118, 101, 114, 115, 105, 111, 110, 115]⟩, ⟨#[99, 111, 112, 121]⟩, ⟨#[116, 97, 103]⟩, ⟨#[104, 111, 108, 100]⟩, ⟨#[116, 105, 99, 107]⟩, ⟨#[98, 101, 103, 105, 110]⟩, ⟨#[112, 97, 114, 116]⟩, ⟨#[102, 105, 110, 105, 115, 104]⟩, ⟨#[97, 98, 111, 114, 116]⟩, ⟨#[116, 117, 114, 110]⟩, ⟨#[115, 116, 101, 112]⟩]
def statesL : List ByteArray := [⟨#[111, 102, 102]⟩, ⟨#[111, 110]⟩, ⟨#[115, 117, 115, 112, 101, 110, 100, 101, 100]⟩]
def wordsV : Array Value := (wordsL.map Value.string).toArray
def zW : Array Value := (List.replicate 21 (Value.string ⟨#[]⟩)).toArray
theorem zW_info : (Tryd.prog.info? 52).map (·.zero) = some (some (.agg zW)) := by kernel_rfl
theorem zW_size : zW.size = wordsV.size := rfl
theorem wordsV_one : wordsV.all (·.oneCell') = true := by kernel_rfl
theorem size52 : (Tryd.prog.info? 52).map (·.size) = some wordsV.size := by kernel_rfl
theorem words_calls (w : World) : Calls Tryd.prog 29 #[] w fun e w' => e = .returned (.agg wordsV) ∧ Below w.heap.size w w' := by
 have hu := Tryd.underlying52
 have K0 := Lib.hid (blk_new w (.cells zW 52))
 have K1 := Lib.hid (blk_new w (.cells wordsV 52))
 have B1 := Lib.hid (below_alloc (Below.refl w.heap.size w) (.cells wordsV 52))
 go_enter Tryd.func29, Tryd.ntmps29
 go_wp2_with (first
  | (refine wpList_allocA rfl (some 0) rfl 52 rfl zW zW_info w.heap.size rfl ?_; simp only [Act.put, List.setIfInBounds_toArray, List.set_cons_zero, List.set_cons_succ])
  | (refine Great.wpList_runTo rfl (some 1) rfl (.agg wordsV) _ (by kernel_rfl) ?_; simp only [Act.put, List.setIfInBounds_toArray, List.set_cons_zero, List.set_cons_succ])
  | (refine wpList_store_row rfl 52 (.tmp 0) (.tmp 1) rfl w.heap.size wordsV rfl rfl 52 zW K0.out size52 zW_size wordsV_one ?_; rw [World.setRow_alloc_new]))
 refine bodyPost_ret (results_cell_row rfl _ _ w.heap.size 52 wordsV (0, 0) _ rfl K1.out hu rfl size52) rfl ?_
 exact ⟨rfl, B1.out⟩
def statesV : Array Value := (statesL.map Value.string).toArray
theorem states_calls (w : World) : Calls Tryd.prog 52 #[] w fun e w' => e = .returned (.agg statesV) ∧ Below w.heap.size w w' := by
 have hu := Tryd.underlying82
 have B0 := Lib.hid (below_alloc (Below.refl w.heap.size w) (.cells statesV 82))
 have K0 := Lib.hid (blk_new w (.cells statesV 82))
 go_enter Tryd.func52, Tryd.ntmps52
 go_wp2_with fail
 refine bodyPost_ret (results_cell_row rfl _ _ w.heap.size 82 statesV (0, 0) _ rfl K0.out hu rfl (by kernel_rfl)) rfl ?_
 exact ⟨rfl, B0.out⟩
theorem map_at (l : List ByteArray) (n : Nat) (h : n < l.length) : (l.map Value.string).toArray[n]? = some (.string (l.getD n ⟨#[]⟩)) := by
 rw [List.getElem?_toArray, List.getElem?_map, List.getD_eq_getElem?_getD, List.getElem?_eq_getElem h]
 rfl
theorem words_at (n : Nat) (h : n < 21) : wordsV[n]? = some (.string (wordsL.getD n ⟨#[]⟩)) := map_at wordsL n h
theorem states_at (n : Nat) (h : n < 3) : statesV[n]? = some (.string (statesL.getD n ⟨#[]⟩)) := map_at statesL n h
def wordOf (op : Int) : ByteArray := if op < 0 ∨ 21 ≤ op then ⟨#[]⟩ else wordsL.getD op.toNat ⟨#[]⟩
theorem Word_calls (op : Int) (w : World) : Calls Tryd.prog 10 #[.int .i64 op] w fun e w' => e = .returned (.string (wordOf op)) ∧ Below w.heap.size w w' := by
 have H := Lib.hid (words_calls w)
 unfold wordOf
 by_cases h : op < 0 ∨ 21 ≤ op
 ·rw [if_pos h]
  have hdec : (decide (op < 0) = true) ∨ (decide (op < 0) = false ∧ decide (21 ≤ op) = true) := by
   by_cases h0 : op < 0
   ·exact .inl (decide_eq_true h0)
   ·exact .inr ⟨decide_eq_false h0, decide_eq_true (by omega)⟩
  rcases hdec with t1 | ⟨t1, t2⟩
  all_goals
   go_enter Tryd.func10, Tryd.ntmps10
   go_wp2_with fail
   refine H.out.mono ?_
   rintro e w1 ⟨rfl, B⟩
   have K0 := Lib.hid (blk_new w1 (.cells zW 52))
   have F := Lib.hid (below_alloc B (.cells wordsV 52))
   clear B
   go_wp2_with (first
    | (refine wpList_allocA rfl (some 3) rfl 52 rfl zW zW_info w1.heap.size rfl ?_; simp only [Act.put, List.setIfInBounds_toArray, List.set_cons_zero, List.set_cons_succ])
    | (refine wpList_store_row rfl 52 (.tmp 3) (.tmp 4) rfl w1.heap.size wordsV rfl rfl 52 zW K0.out size52 zW_size wordsV_one ?_; rw [World.setRow_alloc_new]))
   go_ret
   exact ⟨rfl, F.out⟩
 ·rw [if_neg h]
  have t1 : decide (op < 0) = false := decide_eq_false (by omega)
  have t2 : decide (21 ≤ op) = false := decide_eq_false (by omega)
  obtain ⟨n, rfl⟩ := Int.eq_ofNat_of_zero_le (a := op) (by omega)
  have hn : n < 21 := by omega
  have hw : wordsV[n]? = some (.string (wordsL.getD n ⟨#[]⟩)) := by
   exact words_at n hn
  rw [Int.toNat_natCast]
  go_enter Tryd.func10, Tryd.ntmps10
  go_wp2_with fail
  refine H.out.mono ?_
  rintro e w1 ⟨rfl, B⟩
  have K0 := Lib.hid (blk_new w1 (.cells zW 52))
  have c0 : (w1.alloc (.cells wordsV 52)).cell? ⟨w1.heap.size, n, none⟩ = some (.string (wordsL.getD n ⟨#[]⟩)) := (blk_cell (blk_new w1 (.cells wordsV 52)) n).trans hw
  have F := Lib.hid (below_alloc B (.cells wordsV 52))
  have c0 := c0
  clear B hw
  generalize wordsL.getD n ⟨#[]⟩ = s at c0 ⊢
  go_wp2_with (first
   | (refine wpList_allocA rfl (some 3) rfl 52 rfl zW zW_info w1.heap.size rfl ?_; simp only [Act.put, List.setIfInBounds_toArray, List.set_cons_zero, List.set_cons_succ])
   | (refine wpList_store_row rfl 52 (.tmp 3) (.tmp 4) rfl w1.heap.size wordsV rfl rfl 52 zW K0.out size52 zW_size wordsV_one ?_; rw [World.setRow_alloc_new]))
  go_ret
  exact ⟨rfl, F.out⟩
end Go.Proofs.YtjkehapbemjnpaaDoor
