/- The first line of a request, walked by hand; each condition stands in its theorem. -/
import Derived.Test.YtjkehapbemjnpaaDoorVSetC
namespace Go.Proofs.YtjkehapbemjnpaaDoor
open Go.RowKit Go.Proofs.YtjkehapbemjnpaaDoorW.PrintWords Go.Proofs.YtjkehapbemjnpaaDoorW.PrintLast Go.Proofs.YtjkehapbemjnpaaDoorW.PrintMore Lf Kit Cut Pl Num
set_option linter.unusedVariables false
set_option linter.unusedSimpArgs false
section
variable {P : Program}
theorem wpList_buildTo {ops : Array Oper} {rest : List Oper} {o : Oper} {a : Act} {w : World} {Q : Exit → Act → World → Prop} (hg : o.guard = none) (dst : Option Tmp) (hdst : o.dst = dst) (t : TypeId) (parts : Array (Nat × Operand)) (ho : o.op = .build t parts) (cells : Array Value)
  (hf : P.built t (parts.map fun (i, x) => (i, a.eval x)).toList = some cells) (h : wpList P ops Q rest (a.put dst (.agg cells)) w) : wpList P ops Q (o :: rest) a w := by
 subst hdst
 exact wpList_build hg t parts ho (by rw [hf]; rfl) (by rw [hf]; exact h)
end
theorem setRow_other (w : World) (g : Nat) (cs : Array Value) (k : Nat) (h : k ≠ g) : (w.setRow g cs).heap[k]? = w.heap[k]? := by
 simp only [World.setRow]
 rw [Array.getElem?_modify, if_neg (fun e => h e.symm)]
theorem setRow_size (w : World) (g : Nat) (cs : Array Value) : (w.setRow g cs).heap.size = w.heap.size := by simp [World.setRow]
theorem below_row {B : Nat} {w W : World} {g : Nat} (h : Below B w W) (hg : B ≤ g) (cs : Array Value) : Below B w (W.setRow g cs) :=
 h.trans ⟨rfl, rfl, rfl, by rw [setRow_size]; exact Nat.le_refl _, fun k hk => setRow_other W g cs k (by omega)⟩
theorem blk_row {w : World} {g : Nat} {t : TypeId} {old : Array Value} (h : w.heap[g]? = some (.cells old t (0, 0))) (cs : Array Value) : (w.setRow g cs).heap[g]? = some (.cells cs t (0, 0)) := setRow_heap w g old cs t (0, 0) h
theorem sizeA {w : World} {ok : Nat → Prop} {nl : Prop} {cs : Array Value} {a : AskP} (h : AskC w ok nl cs a) : (Tryd.prog.info? 26).map (·.size) = some cs.size := by rw [h.size]; exact size26
theorem sizeAz {w : World} {ok : Nat → Prop} {nl : Prop} {cs : Array Value} {a : AskP} (h : AskC w ok nl cs a) : zA.size = cs.size := by rw [h.size]; rfl
def cOp (n : Int) : Array Value := ((zA.setIfInBounds 0 (.int .i64 n)).setIfInBounds 3 (.int .i64 (-1))).setIfInBounds 18 (.int .i64 (-1))
theorem cOp_ask (w : World) (ok : Nat → Prop) (n : Int) : AskC w ok True (cOp n) { ask0 with x0 := n, x3 := -1, x18 := -1 } := (((zA_ask w ok True).put0 n).put3 (-1)).put18 (-1)
def AskR (ok : Nat → Prop) (w : World) (r : AskP × Int) (e : Ending) (w' : World) : Prop :=
 ∃ cs, e = .returned (.tuple #[.agg cs, .int .i64 r.2]) ∧ AskC w' ok True cs r.1 ∧ Below w.heap.size w w'
theorem wL_test {ws : List Int} (hw : Byt ws) (j : Nat) : ((wordsL.getD j ⟨#[]⟩).toList == (strOfNums ws).toList) = decide (wL.getD j [] = ws) := by
 rw [wW_eq]
 exact word_test wL_byt hw j
theorem tail_at (j : Nat) : wL.tail.getD j [] = wL.getD (j + 1) [] := rfl
set_option maxRecDepth 100000 in
set_option maxHeartbeats 2000000 in
theorem first_calls (line : List Int) (hB : Byt line) (hl : line.length < 1000000) (w : World) (hG : GF w) : Calls Tryd.prog 19 #[.string (strOfNums line)] w (AskR (fun _ => False) w (firstS line)) := by
 have HC := fun W h => Lib.hid (cut_calls [32] ⟨#[32]⟩ rfl (by simp) (fun x hx => by simp at hx; omega) line hB hl W h)
 have hcb := cutL_byt (sep := [32]) hB
 have hcl := cutL_len [32] line
 generalize hr : firstS line = r
 unfold firstS at hr
 generalize cutL [32] line = c at HC hcb hcl hr
 replace hr := Lib.hid hr
 have HD := fun W h => Lib.hid (cut_calls [47] ⟨#[47]⟩ rfl (by simp) (fun x hx => by simp at hx; omega) c.2.1 hcb.2 (by omega) W h)
 have hB0 := below_alloc (Below.refl w.heap.size w) (.cells zA 26)
 have K0 := blk_new w (.cells zA 26)
 have hG0 := hG.of (below_alloc (Below.refl w.heap.size w) (.cells zA 26))
 replace HC := HC _ hG0
 have hu := Tryd.underlying26
 go_enter Tryd.func19, Tryd.ntmps19
 replace hu := Lib.hid hu
 replace hB0 := Lib.hid hB0
 replace K0 := Lib.hid K0
 go_wp2_with (refine wpList_allocA rfl (some 2) rfl 26 rfl zA zA_info _ rfl ?_; simp only [Act.put, List.setIfInBounds_toArray, List.set_cons_zero, List.set_cons_succ])
 refine HC.out.mono ?_
 rintro e w2 ⟨rfl, ⟨nd, rfl⟩⟩
 have HW := Lib.hid (words_calls ((w.alloc (.cells zA 26)).drewN nd))
 go_wp2_with fail
 refine HW.out.mono ?_
 rintro e w3 ⟨rfl, B3⟩
 replace hB0 := Lib.hid (below_step (pw_below_drewN hB0.out nd) B3)
 replace K0 := Lib.hid (blk_below (blk_drewN K0.out nd) B3)
 replace hG0 := (hG0.of (pw_below_drewN (Below.refl _ _) nd)).of B3
 clear HC HW B3
 replace hcb := Lib.hid hcb
 replace hcl := Lib.hid hcl
 go_wp2_with fail
 go_loop [17] (fun s => ∃ j : Nat, j ≤ 21 ∧ s = .int .i64 j ∧ Hid (∀ i, 1 ≤ i → i < j → wL.getD i [] ≠ c.1)) (fun s => 21 - (intOf s).toNat)
 case atStart => exact ⟨0, Nat.zero_le _, rfl, fun i _ h => by omega⟩
 case round =>
  obtain ⟨j, hj, rfl, hno⟩ := hrel
  by_cases hjn : j < 21
  ·have hjl : (j : Int) < 21 := by omega
   have c1 := Lib.hid (words_at j hjn)
   have t0 := wL_test hcb.out.1 j
   by_cases hj0 : j = 0
   ·have t1 : decide (0 < (j : Int)) = false := decide_eq_false (by omega)
    have t2 : decide (0 < j) = false := decide_eq_false (by omega)
    clear t0
    go_wp2_with (refine wpList_index_at rfl (some 20) rfl 52 (.tmp 16) (.tmp 17) rfl wordsV rfl j 21 rfl 9 Tryd.underlying52 (by omega) Tryd.sizeOf9 Tryd.isAgg9 _ c1.out ?_; simp only [Act.put, List.setIfInBounds_toArray, List.set_cons_zero, List.set_cons_succ])
    go_round
    case rel => exact ⟨j + 1, by omega, by go_num, fun i h1 h2 => absurd h2 (by omega)⟩
    case measure => simp [intOf]; omega
   ·have t1 : decide (0 < (j : Int)) = true := decide_eq_true (by omega)
    have t2 : decide (0 < j) = true := decide_eq_true (by omega)
    by_cases hw : wL.getD j [] = c.1
    ·rw [decide_eq_true hw] at t0
     generalize wordsL.getD j ⟨#[]⟩ = s1 at c1 t0
     have hr2 : r = ({ ask0 with x0 := (j : Int), x1 := (cutL [47] c.2.1).1, x2 := (cutL [47] c.2.1).2.1, x3 := -1, x18 := -1 }, 0) := by
      have hf : findW wL.tail c.1 = some (j - 1) := by
       unfold findW
       refine List.findIdx?_eq_some_iff_getElem.2 ⟨by show j - 1 < 20; omega, ?_, fun i hi => ?_⟩
       ·have h3 := tail_at (j - 1)
        rw [show j - 1 + 1 = j by omega, hw, List.getD_eq_getElem?_getD, List.getElem?_eq_getElem (by show j - 1 < 20; omega)] at h3
        simpa using h3
       ·have h3 := tail_at i
        have h4 := hno.out (i + 1) (by omega) (by omega)
        rw [← h3, List.getD_eq_getElem?_getD, List.getElem?_eq_getElem (by show i < 20; omega)] at h4
        simpa using h4
      have := hr.out
      rw [hf] at this
      rw [← this]
      simp only
      rw [show ((j - 1 : Nat) : Int) + 1 = (j : Int) by omega]
     subst hr2
     clear hr
     have hB4 := Lib.hid (below_alloc hB0.out (.cells (cOp j) 26))
     have K4 := Lib.hid (blk_alloc K0.out (.cells (cOp j) 26))
     have K9z := Lib.hid (blk_new w3 (.cells zA 26))
     have K9 := Lib.hid (blk_new w3 (.cells (cOp j) 26))
     have oneO := Lib.hid (cOp_ask w3 (fun _ => False) j)
     have hG4 := hG0.of (below_alloc (Below.refl _ _) (.cells (cOp j) 26))
     have HD2 := HD _ hG4
     have lt0 := blk_lt K0.out
     clear HD
     generalize hd : cutL [47] c.2.1 = d at HD2
     replace hd := Lib.hid hd
     go_wp2_with (first
      | (refine wpList_index_at rfl (some 20) rfl 52 (.tmp 16) (.tmp 17) rfl wordsV rfl j 21 rfl 9 Tryd.underlying52 (by omega) Tryd.sizeOf9 Tryd.isAgg9 _ c1.out ?_; simp only [Act.put, List.setIfInBounds_toArray, List.set_cons_zero, List.set_cons_succ])
      | (refine wpList_buildTo (o := ⟨some 29, _, _, _, _, _⟩) rfl (some 29) rfl 26 _ rfl (cOp j) (by kernel_rfl) ?_; simp only [Act.put, List.setIfInBounds_toArray, List.set_cons_zero, List.set_cons_succ])
      | (refine wpList_allocA rfl (some 9) rfl 26 rfl zA zA_info _ rfl ?_; simp only [Act.put, List.setIfInBounds_toArray, List.set_cons_zero, List.set_cons_succ])
      | (refine wpList_store_row rfl 26 (.tmp 9) (.tmp 29) rfl w3.heap.size (cOp j) rfl rfl 26 zA K9z.out (sizeA oneO.out) (sizeAz oneO.out) oneO.out.one ?_; rw [World.setRow_alloc_new]))
     refine HD2.out.mono ?_
     rintro e w5 ⟨rfl, ⟨nd2, rfl⟩⟩
     replace hB4 := Lib.hid (pw_below_drewN hB4.out nd2)
     replace K4 := Lib.hid (blk_drewN K4.out nd2)
     replace K9 := Lib.hid (blk_drewN K9.out nd2)
     have oneO2 := Lib.hid (cOp_ask ((w3.alloc (.cells (cOp j) 26)).drewN nd2) (fun _ => False) j)
     have ne0 : w.heap.size ≠ w3.heap.size := by omega
     have hle := below_size hB0.out
     clear K9z HD2 oneO
     generalize (w3.alloc (.cells (cOp j) 26)).drewN nd2 = w4 at *
     obtain ⟨v1, h1, _⟩ := oneO2.out.get 1 (by decide)
     obtain ⟨v2, h2, _⟩ := (oneO2.out.put1 d.1).get 2 (by decide)
     obtain ⟨v3, h3, _⟩ := oneO2.out.get 2 (by decide)
     have c11 : w4.cell? ⟨w3.heap.size, 1, none⟩ = some v1 := (blk_cell K9.out 1).trans h1
     have z11 := blk_frozen K9.out 1
     have K9a := blk_put K9.out 1 (.string (strOfNums d.1)) rfl
     have c12 := (blk_cell K9a 2).trans h2
     have z12 := blk_frozen K9a 2
     have c13 := (blk_cell K9.out 2).trans h3
     have z13 := blk_frozen K9.out 2
     have K9b := blk_put K9a 2 (.string (strOfNums d.2.1)) rfl
     have K4b := blk_far (blk_far K4.out (p := ⟨w3.heap.size, 1, none⟩) ne0 (.string (strOfNums d.1))) (p := ⟨w3.heap.size, 2, none⟩) ne0 (.string (strOfNums d.2.1))
     have AB : AskC w4 (fun _ => False) True (((cOp j).setIfInBounds 1 (.string (strOfNums d.1))).setIfInBounds 2 (.string (strOfNums d.2.1))) { ask0 with x0 := (j : Int), x1 := d.1, x2 := d.2.1, x3 := -1, x18 := -1 } := (oneO2.out.put1 d.1).put2 d.2.1
     have hB5 := below_set (below_set hB4.out (g := w3.heap.size) (j := 1) (v := .string (strOfNums d.1)) hle) (g := w3.heap.size) (j := 2) (v := .string (strOfNums d.2.1)) hle
     clear h1 h2 h3 K9a
     generalize ((cOp j).setIfInBounds 1 (.string (strOfNums d.1))).setIfInBounds 2 (.string (strOfNums d.2.1)) = cF at K9b AB
     replace K9b := Lib.hid K9b
     replace K4b := Lib.hid K4b
     replace AB := Lib.hid AB
     replace hB5 := Lib.hid hB5
     go_wp2_with (first
      | (refine wpList_load_row rfl 26 (.tmp 9) rfl w3.heap.size rfl 26 cF (0, 0) _ K9b.out hu.out rfl (sizeA AB.out) ?_; simp only [Act.put, List.setIfInBounds_toArray, List.set_cons_zero, List.set_cons_succ])
      | (refine wpList_store_row rfl 26 (.tmp 2) (.tmp 38) rfl w.heap.size cF rfl rfl 26 zA K4b.out (sizeA AB.out) (sizeAz AB.out) AB.out.one ?_))
     refine bodyPost_ret (results_ct rfl _ _ w.heap.size 26 cF (0, 0) _ rfl (blk_row K4b.out cF) hu.out rfl (sizeA AB.out)) rfl ?_
     obtain rfl := hd.out
     exact ⟨cF, rfl, AB.out.step (fun _ h _ => h.elim), below_row hB5.out (Nat.le_refl _) cF⟩
    ·rw [decide_eq_false hw] at t0
     generalize wordsL.getD j ⟨#[]⟩ = s1 at c1 t0
     go_wp2_with (refine wpList_index_at rfl (some 20) rfl 52 (.tmp 16) (.tmp 17) rfl wordsV rfl j 21 rfl 9 Tryd.underlying52 (by omega) Tryd.sizeOf9 Tryd.isAgg9 _ c1.out ?_; simp only [Act.put, List.setIfInBounds_toArray, List.set_cons_zero, List.set_cons_succ])
     go_round
     case rel => exact ⟨j + 1, by omega, by go_num, fun i h1 h2 => by
      by_cases h3 : i = j
      ·rw [h3]; exact hw
      ·exact hno.out i h1 (by omega)⟩
     case measure => simp [intOf]; omega
  ·have hjl : ¬ (j : Int) < 21 := by omega
   have hr2 : r = (ask0, 19) := by
    have hf : findW wL.tail c.1 = none := by
     unfold findW
     refine List.findIdx?_eq_none_iff.2 (fun x hx => ?_)
     obtain ⟨i, hi, rfl⟩ := List.getElem_of_mem hx
     have hi2 : i < 20 := hi
     have h3 := tail_at i
     have h4 := hno.out (i + 1) (by omega) (by omega)
     rw [← h3, List.getD_eq_getElem?_getD, List.getElem?_eq_getElem hi] at h4
     simpa using h4
    have := hr.out
    rw [hf] at this
    exact this.symm
   subst hr2
   have A0 := Lib.hid (zA_ask w3 (fun _ => False) True)
   clear hr HD
   go_wp2_with (first
    | (refine wpList_buildTo (o := ⟨some 40, _, _, _, _, _⟩) rfl (some 40) rfl 26 _ rfl zA (by kernel_rfl) ?_; simp only [Act.put, List.setIfInBounds_toArray, List.set_cons_zero, List.set_cons_succ])
    | (refine wpList_store_row rfl 26 (.tmp 2) (.tmp 40) rfl w.heap.size zA rfl rfl 26 zA K0.out (sizeA A0.out) (sizeAz A0.out) A0.out.one ?_))
   refine bodyPost_ret (results_ct rfl _ _ w.heap.size 26 zA (0, 0) _ rfl (blk_row K0.out zA) hu.out rfl (sizeA A0.out)) rfl ?_
   exact ⟨zA, rfl, A0.out.step (fun _ h _ => h.elim), below_row hB0.out (Nat.le_refl _) zA⟩
end Go.Proofs.YtjkehapbemjnpaaDoor
