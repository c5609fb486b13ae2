/- The reference's first line, walked by hand; each condition stands in its theorem. -/
import Derived.Test.YtjkehapbemjnpaaDoorVTell33
namespace Go.Proofs.YtjkehapbemjnpaaDoor
open Go.RowKit Go.Proofs.YtjkehapbemjnpaaDoorW.PrintWords Go.Proofs.YtjkehapbemjnpaaDoorW.PrintLast Go.Proofs.YtjkehapbemjnpaaDoorW.PrintMore Lf Kit Cut Pl Num
set_option linter.unusedVariables false
set_option linter.unusedSimpArgs false
def cFi (n : Int) (x y : ByteArray) : Array Value := ((((zA.setIfInBounds 0 (.int .i64 n)).setIfInBounds 1 (.string x)).setIfInBounds 2 (.string y)).setIfInBounds 3 (.int .i64 (-1))).setIfInBounds 18 (.int .i64 (-1))
theorem cFi_built (n : Int) (x y : ByteArray) : Tryd.prog.built 26 [(0, .int .i64 n), (1, .string x), (2, .string y), (3, .int .i64 (-1)), (18, .int .i64 (-1))] = some (cFi n x y) := by kernel_rfl
theorem cFi_ask (w : World) (ok : Nat → Prop) (n : Int) (x y : List Int) : AskC w ok False (cFi n (strOfNums x) (strOfNums y)) { ask0 with x0 := n, x1 := x, x2 := y, x3 := -1, x18 := -1 } := (((((zA_ask w ok False).put0 n).put1 x).put2 y).put3 (-1)).put18 (-1)
theorem wordS_at (j : Nat) (h : j < 21) : wordS (j : Int) = wL.getD j [] := by
 unfold wordS
 rw [if_neg (by omega), Int.toNat_natCast]
structure One1 (w : World) (W : World) : Prop where
 b0 : W.heap[w.heap.size]? = some (.cells zA 26 (0, 0))
 be : Below w.heap.size w W
theorem One1.below {w W W2 : World} (h : One1 w W) (hb : Below W.heap.size W W2) : One1 w W2 := ⟨blk_below h.b0 hb, below_step h.be hb⟩
theorem One1.drewN {w W : World} (h : One1 w W) (n : Nat) : One1 w (W.drewN n) := h.below (pw_below_drewN (Below.refl _ _) n)
theorem One1.start (w : World) : One1 w (w.alloc (.cells zA 26)) := ⟨blk_new w _, below_alloc (Below.refl _ _) _⟩
theorem One1.fin {ok : Nat → Prop} {w W : World} {cF : Array Value} {b : AskP} {c : Int} (h : One1 w W) (hF : AskC W (fun k => ok k ∧ k ≠ w.heap.size) False cF b) : RR ok w (b, c) (.returned (.tuple #[.agg cF, .int .i64 c])) (W.setRow w.heap.size cF) :=
 ⟨cF, rfl, (hF.step fun k hk _ => setRow_other W _ cF k hk.2).mono fun _ hk => hk.1, below_row h.be (Nat.le_refl _) cF⟩
theorem wL_at_byt (j : Nat) : Byt (wL.getD j []) := by
 rw [List.getD_eq_getElem?_getD]
 cases h : wL[j]? with
 | none => exact Byt.nil
 | some x => exact wL_byt x (List.mem_of_getElem? h)
set_option maxRecDepth 100000 in
set_option maxHeartbeats 4000000 in
theorem rfirst_calls (ok : Nat → Prop) (line : List Int) (hB : Byt line) (hl : line.length < 1000000) (w : World) : Calls Tryd.prog 27 #[.string (strOfNums line)] w (RR ok w (firstS line)) := by
 have HC := fun W => Lib.hid (rcut_calls [32] ⟨#[32]⟩ rfl (by simp) (fun x hx => by simp at hx; omega) (by simp) line hB hl W)
 have hcb := cutL_byt (sep := [32]) hB
 have hcl := cutL_len [32] line
 generalize hr : firstS line = r
 unfold firstS at hr
 generalize cutL [32] line = c at HC hcb hcl hr
 replace hr := Lib.hid hr
 have HD := fun W => Lib.hid (rcut_calls [47] ⟨#[47]⟩ rfl (by simp) (fun x hx => by simp at hx; omega) (by simp) c.2.1 hcb.2 (by omega) W)
 have O := Lib.hid (One1.start w)
 have hu := Tryd.underlying26
 go_enter Tryd.func27, Tryd.ntmps27
 replace hu := Lib.hid hu
 go_wp2_with (refine wpList_allocA rfl (some 2) rfl 26 rfl zA zA_info (w.heap.size) rfl ?_; simp only [Act.put, List.setIfInBounds_toArray, List.set_cons_zero, List.set_cons_succ])
 refine (HC _).out.mono ?_
 rintro e w2 ⟨rfl, ⟨nd, rfl⟩⟩
 replace O := Lib.hid (O.out.drewN nd)
 generalize (w.alloc (.cells zA 26)).drewN nd = w2 at *
 clear HC
 replace hcb := Lib.hid hcb
 replace hcl := Lib.hid hcl
 go_wp2_with fail
 go_loopw [7] (fun s wr => ∃ j : Nat, 1 ≤ j ∧ j ≤ 21 ∧ s = .int .i64 j ∧ Hid (∀ i, 1 ≤ i → i < j → wL.getD i [] ≠ c.1) ∧ Hid (One1 w wr)) (fun s _ => 21 - (intOf s).toNat)
 case atStart => exact ⟨1, by omega, by omega, rfl, fun i h h2 => by omega, O.out⟩
 case round =>
  obtain ⟨j, hj1, hj, rfl, hno, hO⟩ := hrel
  by_cases hjn : j < 21
  ·have t1 : decide ((j : Int) ≤ 20) = true := decide_eq_true (by omega)
   have t2 : decide (j ≤ 20) = true := decide_eq_true (by omega)
   have HW := rword_calls j (by omega) (by omega) wr
   rw [wordS_at j hjn] at HW
   replace HW := Lib.hid HW
   have t0 := str_beq (wL_at_byt j) hcb.out.1
   go_wp2_with fail
   refine HW.out.mono ?_
   rintro e w4 ⟨rfl, B4⟩
   replace hO := Lib.hid (hO.out.below B4)
   clear HW B4
   by_cases hw : wL.getD j [] = c.1
   ·rw [decide_eq_true hw] at t0
    obtain rfl : r = ({ ask0 with x0 := (j : Int), x1 := (cutL [47] c.2.1).1, x2 := (cutL [47] c.2.1).2.1, x3 := -1, x18 := -1 }, 0) := by
     have hf : findW wL.tail c.1 = some (j - 1) := by
      unfold findW
      refine List.findIdx?_eq_some_iff_getElem.2 ⟨by show j - 1 < 20; omega, ?_, fun i hi => ?_⟩
      ·have h3 := tail_at (j - 1)
       rw [show j - 1 + 1 = j by omega, hw, List.getD_eq_getElem?_getD, List.getElem?_eq_getElem (by show j - 1 < 20; omega)] at h3
       simpa using h3
      ·have h3 := tail_at i
       have h4 := hno.out (i + 1) (by omega) (by omega)
       rw [← h3, List.getD_eq_getElem?_getD, List.getElem?_eq_getElem (by show i < 20; omega)] at h4
       simpa using h4
     have := hr.out
     rw [hf] at this
     rw [← this]
     simp only
     rw [show ((j - 1 : Nat) : Int) + 1 = (j : Int) by omega]
    clear hr
    have HD2 := HD w4
    clear HD
    replace hw := Lib.hid hw
    generalize hd : cutL [47] c.2.1 = d at HD2
    replace hd := Lib.hid hd
    generalize wL.getD j [] = wj at t0
    go_wp2_with fail
    refine HD2.out.mono ?_
    rintro e w5 ⟨rfl, ⟨nd2, rfl⟩⟩
    replace hO := Lib.hid (hO.out.drewN nd2)
    generalize w4.drewN nd2 = w5 at *
    have AF := Lib.hid (cFi_ask w5 (fun k => ok k ∧ k ≠ w.heap.size) j d.1 d.2.1)
    clear HD2
    go_wp2_with (first
     | (refine wpList_buildTo (o := ⟨some 34, _, _, _, _, _⟩) rfl (some 34) rfl 26 _ rfl (cFi j (strOfNums d.1) (strOfNums d.2.1)) (by kernel_rfl) ?_; simp only [Act.put, List.setIfInBounds_toArray, List.set_cons_zero, List.set_cons_succ])
     | (refine wpList_store_row rfl 26 (.tmp 2) (.tmp 34) rfl (w.heap.size) (cFi j (strOfNums d.1) (strOfNums d.2.1)) rfl rfl 26 zA hO.out.b0 (sizeA AF.out) (sizeAz AF.out) (AF.out).one ?_))
    refine bodyPost_ret (results_ct rfl _ _ w.heap.size 26 (cFi j (strOfNums d.1) (strOfNums d.2.1)) (0, 0) _ rfl (blk_row hO.out.b0 (cFi j (strOfNums d.1) (strOfNums d.2.1))) hu.out rfl (sizeA AF.out)) rfl ?_
    obtain rfl := hd.out
    exact hO.out.fin AF.out
   ·rw [decide_eq_false hw] at t0
    replace hw := Lib.hid hw
    have hwn := hw
    generalize wL.getD j [] = wj at t0
    go_wp2_with fail
    go_roundw
    case rel => exact ⟨j + 1, by omega, by omega, by go_num, fun i h1 h2 => by
     by_cases h3 : i = j
     ·rw [h3]; exact hwn.out
     ·exact hno.out i h1 (by omega), hO.out⟩
    case measure => simp [intOf]; omega
  ·have t1 : decide ((j : Int) ≤ 20) = false := decide_eq_false (by omega)
   have t2 : decide (j ≤ 20) = false := decide_eq_false (by omega)
   obtain rfl : r = (ask0, 19) := by
    have hf : findW wL.tail c.1 = none := by
     unfold findW
     refine List.findIdx?_eq_none_iff.2 (fun x hx => ?_)
     obtain ⟨i, hi, rfl⟩ := List.getElem_of_mem hx
     have hi2 : i < 20 := hi
     have h3 := tail_at i
     have h4 := hno.out (i + 1) (by omega) (by omega)
     rw [← h3, List.getD_eq_getElem?_getD, List.getElem?_eq_getElem hi] at h4
     simpa using h4
    have := hr.out
    rw [hf] at this
    exact this.symm
   have A0 := Lib.hid (zA_ask wr (fun k => ok k ∧ k ≠ w.heap.size) False)
   clear hr HD
   go_wp2_with (first
    | (refine wpList_buildTo (o := ⟨some 35, _, _, _, _, _⟩) rfl (some 35) rfl 26 _ rfl zA (by kernel_rfl) ?_; simp only [Act.put, List.setIfInBounds_toArray, List.set_cons_zero, List.set_cons_succ])
    | (refine wpList_store_row rfl 26 (.tmp 2) (.tmp 35) rfl (w.heap.size) zA rfl rfl 26 zA hO.out.b0 (sizeA A0.out) (sizeAz A0.out) (A0.out).one ?_))
   refine bodyPost_ret (results_ct rfl _ _ w.heap.size 26 zA (0, 0) _ rfl (blk_row hO.out.b0 zA) hu.out rfl (sizeA A0.out)) rfl ?_
   exact hO.out.fin A0.out
end Go.Proofs.YtjkehapbemjnpaaDoor
