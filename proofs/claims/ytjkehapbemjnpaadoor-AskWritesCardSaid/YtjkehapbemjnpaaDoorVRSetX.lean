/- What a line sets, in the reference, walked by hand; each condition stands in its theorem. -/
import Derived.Test.YtjkehapbemjnpaaDoorVRSet
import Derived.Test.YtjkehapbemjnpaaDoorVRList
namespace Go.Proofs.YtjkehapbemjnpaaDoor
open Go.RowKit Go.Proofs.YtjkehapbemjnpaaDoorW.PrintWords Go.Proofs.YtjkehapbemjnpaaDoorW.PrintLast Go.Proofs.YtjkehapbemjnpaaDoorW.PrintMore Lf Kit Cut Pl Num
set_option linter.unusedVariables false
set_option linter.unusedSimpArgs false
set_option maxRecDepth 100000 in
set_option maxHeartbeats 20000000 in
theorem rset_x (ok : Nat → Prop) (cs : Array Value) (a : AskP) (ws value : List Int) (w : World) (hA : AskC w ok False cs a) (hk : ∀ k, w.heap.size ≤ k → ok k) (hw : Byt ws) (hv : Byt value) (hl : value.length ≤ 800000) (hT : findW tL ws = none) (hO : findW oL ws = none) (hN : findW nL ws = none) :
  Calls Tryd.prog 49 #[.agg cs, .string (strOfNums ws), .string (strOfNums value)] w (RR ok w (otherS a ws value)) := by
 have q1 := word_beq hw (ys := [102, 114, 111, 109]) (by unfold Byt; decide)
 have q2 := word_beq hw (ys := [108, 105, 115, 116]) (by unfold Byt; decide)
 have q3 := word_beq hw (ys := [115, 116, 97, 116, 101]) (by unfold Byt; decide)
 rw [show [102, 114, 111, 109].map u8 = ([102, 114, 111, 109] : List UInt8) from rfl] at q1
 rw [show [108, 105, 115, 116].map u8 = ([108, 105, 115, 116] : List UInt8) from rfl] at q2
 rw [show [115, 116, 97, 116, 101].map u8 = ([115, 116, 97, 116, 101] : List UInt8) from rfl] at q3
 generalize hres : otherS a ws value = res
 replace hres := Lib.hid hres
 replace q1 := Lib.hid q1
 replace q2 := Lib.hid q2
 replace q3 := Lib.hid q3
 have hu := Tryd.underlying26
 have R := RAt.start (ok := ok) hA
 have e1 : (w.alloc (.cells cs 26)).heap.size = w.heap.size + 1 := size_alloc _ _
 have HT := Lib.hid (rtext_no cs a ws (fun k => ok k ∧ k ≠ w.heap.size ∧ k ≠ w.heap.size + 1) ((w.alloc (.cells cs 26)).alloc (.cells zA 26)) R.ac value hw hT)
 go_enter Tryd.func49, Tryd.ntmps49
 replace hu := Lib.hid hu
 replace e1 := Lib.hid e1
 replace R := Lib.hid R
 go_wp2_with (first
  | (refine wpList_allocA rfl (some 6) rfl 26 rfl zA zA_info (w.heap.size + 1) e1.out ?_; simp only [Act.put, List.setIfInBounds_toArray, List.set_cons_zero, List.set_cons_succ])
  | (refine wpList_load_row (o := ⟨some 25, _, _, _, _, _⟩) rfl 26 (.tmp 3) rfl (w.heap.size) rfl 26 cs (0, 0) _ R.out.b0 hu.out rfl (sizeA R.out.ac) ?_; simp only [Act.put, List.setIfInBounds_toArray, List.set_cons_zero, List.set_cons_succ]))
 refine HT.out.mono ?_
 rintro e w3 ⟨c3, rfl, A3, B3⟩
 have F3 := below_step B3 (below_alloc (Below.refl w3.heap.size w3) (.cells c3 26))
 replace R := Lib.hid (R.out.below F3)
 have K8z := Lib.hid (blk_new w3 (.cells zA 26))
 have K8 := Lib.hid (blk_new w3 (.cells c3 26))
 replace A3 := Lib.hid (A3.below (below_alloc (Below.refl w3.heap.size w3) (.cells c3 26)))
 clear HT B3 F3
 go_upto_region 4 with (first
  | (refine wpList_allocA rfl (some 8) rfl 26 rfl zA zA_info (w3.heap.size) rfl ?_; simp only [Act.put, List.setIfInBounds_toArray, List.set_cons_zero, List.set_cons_succ])
  | (refine wpList_store_row rfl 26 (.tmp 8) (.tmp 29) rfl (w3.heap.size) c3 rfl rfl 26 zA K8z.out (sizeA A3.out) (sizeAz A3.out) (A3.out).one ?_; rw [World.setRow_alloc_new]))
 clear K8 K8z A3
 generalize w3.alloc (.cells c3 26) = w4 at *
 have HG := Lib.hid (rsix_calls value hv hl w4)
 go_wp2_with fail
 refine HG.out.mono ?_
 rintro e w5 ⟨v, r, c, rfl, hrc, RV, B5⟩
 have RVb := Kd.R_V (base' := 0) (Kd.R_mono (Kd.R_bound RV) (fun q hq => up_ok hk R.out.sz q hq.2.1))
 replace R := Lib.hid (R.out.below B5)
 replace hrc := Lib.hid hrc
 clear HG RV B5
 have HB := Lib.hid (rbytes_no cs a ws (fun k => ok k ∧ k ≠ w.heap.size ∧ k ≠ w.heap.size + 1) w5 R.out.ac v r RVb hw hO)
 clear RVb
 go_wp2_with ((refine wpList_load_row (o := ⟨some 39, _, _, _, _, _⟩) rfl 26 (.tmp 3) rfl (w.heap.size) rfl 26 cs (0, 0) _ R.out.b0 hu.out rfl (sizeA R.out.ac) ?_; simp only [Act.put, List.setIfInBounds_toArray, List.set_cons_zero, List.set_cons_succ]))
 refine HB.out.mono ?_
 rintro e w6 ⟨c6, rfl, A6, B6⟩
 have F6 := below_step B6 (below_alloc (Below.refl w6.heap.size w6) (.cells c6 26))
 replace R := Lib.hid (R.out.below F6)
 have K12z := Lib.hid (blk_new w6 (.cells zA 26))
 have K12 := Lib.hid (blk_new w6 (.cells c6 26))
 replace A6 := Lib.hid (A6.below (below_alloc (Below.refl w6.heap.size w6) (.cells c6 26)))
 clear HB B6 F6
 go_upto_region 10 with (first
  | (refine wpList_allocA rfl (some 12) rfl 26 rfl zA zA_info (w6.heap.size) rfl ?_; simp only [Act.put, List.setIfInBounds_toArray, List.set_cons_zero, List.set_cons_succ])
  | (refine wpList_store_row rfl 26 (.tmp 12) (.tmp 43) rfl (w6.heap.size) c6 rfl rfl 26 zA K12z.out (sizeA A6.out) (sizeAz A6.out) (A6.out).one ?_; rw [World.setRow_alloc_new]))
 clear K12 K12z A6 hrc
 generalize w6.alloc (.cells c6 26) = w7 at *
 have HN := Lib.hid (rnum_calls value hv w7)
 go_wp2_with fail
 refine HN.out.mono ?_
 rintro e w8 ⟨n, rfl, hn, ⟨nd, rfl⟩⟩
 replace R := Lib.hid (R.out.below (pw_below_drewN (Below.refl _ _) nd))
 replace hn := Lib.hid hn
 clear HN
 generalize w7.drewN nd = w8 at *
 have HX := Lib.hid (rnumber_no cs a ws (fun k => ok k ∧ k ≠ w.heap.size ∧ k ≠ w.heap.size + 1) w8 R.out.ac n hw hN)
 go_wp2_with ((refine wpList_load_row (o := ⟨some 56, _, _, _, _, _⟩) rfl 26 (.tmp 3) rfl (w.heap.size) rfl 26 cs (0, 0) _ R.out.b0 hu.out rfl (sizeA R.out.ac) ?_; simp only [Act.put, List.setIfInBounds_toArray, List.set_cons_zero, List.set_cons_succ]))
 refine HX.out.mono ?_
 rintro e w9 ⟨c9, rfl, A9, B9⟩
 have F9 := below_step B9 (below_alloc (Below.refl w9.heap.size w9) (.cells c9 26))
 replace R := Lib.hid (R.out.below F9)
 have K16z := Lib.hid (blk_new w9 (.cells zA 26))
 have K16 := Lib.hid (blk_new w9 (.cells c9 26))
 replace A9 := Lib.hid (A9.below (below_alloc (Below.refl w9.heap.size w9) (.cells c9 26)))
 clear HX B9 F9
 clear hn
 go_upto_region 16 with (first
  | (refine wpList_allocA rfl (some 16) rfl 26 rfl zA zA_info (w9.heap.size) rfl ?_; simp only [Act.put, List.setIfInBounds_toArray, List.set_cons_zero, List.set_cons_succ])
  | (refine wpList_store_row rfl 26 (.tmp 16) (.tmp 60) rfl (w9.heap.size) c9 rfl rfl 26 zA K16z.out (sizeA A9.out) (sizeAz A9.out) (A9.out).one ?_; rw [World.setRow_alloc_new]))
 clear K16 K16z A9
 generalize w9.alloc (.cells c9 26) = v9 at *
 have K18z := Lib.hid (blk_new v9 (.cells zA 26))
 have O := Lib.hid (ROut.start R.out R.out.ac)
 go_upto_region 17 with (first
  | (refine wpList_load_row (o := ⟨some 67, _, _, _, _, _⟩) rfl 26 (.tmp 3) rfl (w.heap.size) rfl 26 cs (0, 0) _ R.out.b0 hu.out rfl (sizeA R.out.ac) ?_; simp only [Act.put, List.setIfInBounds_toArray, List.set_cons_zero, List.set_cons_succ])
  | (refine wpList_allocA rfl (some 18) rfl 26 rfl zA zA_info (v9.heap.size) rfl ?_; simp only [Act.put, List.setIfInBounds_toArray, List.set_cons_zero, List.set_cons_succ])
  | (refine wpList_store_row rfl 26 (.tmp 18) (.tmp 67) rfl (v9.heap.size) cs rfl rfl 26 zA K18z.out (sizeA R.out.ac) (sizeAz R.out.ac) (R.out.ac).one ?_; rw [World.setRow_alloc_new]))
 clear K18z R
 generalize v9.heap.size = g at *
 generalize v9.alloc (.cells cs 26) = w10 at *
 by_cases h1 : ws = [102, 114, 111, 109]
 ·rw [decide_eq_true h1] at q1
  have t1 := q1.out
  obtain rfl : res = ({ a with x16 := (cutL [47] value).1, x17 := (cutL [47] value).2.1 }, 0) := by rw [← hres.out]; unfold otherS; rw [if_pos h1]
  have HC := Lib.hid (rcut_calls [47] ⟨#[47]⟩ rfl (by simp) (fun x hx => by simp at hx; omega) (by simp) value hv (by omega) w10)
  clear hres
  generalize hd : cutL [47] value = d at HC
  replace hd := Lib.hid hd
  replace h1 := Lib.hid h1
  clear q1 q2 q3
  go_wp2_with fail
  refine HC.out.mono ?_
  rintro e w11 ⟨rfl, ⟨nd, rfl⟩⟩
  replace O := Lib.hid (O.out.drewN nd)
  clear HC
  generalize w10.drewN nd = w12 at *
  have O1 := O.out.setc 16 (.string (strOfNums d.1)) (O.out.ao.put16 d.1)
  have O2 := O1.setc 17 (.string (strOfNums d.2.1)) (O1.ao.put17 d.2.1)
  obtain ⟨v1, k1, _⟩ := O.out.ao.get 16 (by decide)
  obtain ⟨v2, k2, _⟩ := O1.ao.get 17 (by decide)
  obtain ⟨v3, k3, _⟩ := O.out.ao.get 17 (by decide)
  have c11 : w12.cell? ⟨g, 16, none⟩ = some v1 := (blk_cell O.out.bg 16).trans k1
  have z11 := blk_frozen O.out.bg 16
  have c12 := (blk_cell O1.bg 17).trans k2
  have z12 := blk_frozen O1.bg 17
  have c13 := (blk_cell O.out.bg 17).trans k3
  have z13 := blk_frozen O.out.bg 17
  clear k1 k2 k3 O1
  generalize (cs.setIfInBounds 16 (.string (strOfNums d.1))).setIfInBounds 17 (.string (strOfNums d.2.1)) = cF at O2
  replace O2 := Lib.hid O2
  clear O
  go_wp2_with (first
   | (refine wpList_load_row (o := ⟨some 81, _, _, _, _, _⟩) rfl 26 (.tmp 18) rfl (g) rfl 26 cF (0, 0) _ O2.out.bg hu.out rfl (sizeA O2.out.ao) ?_; simp only [Act.put, List.setIfInBounds_toArray, List.set_cons_zero, List.set_cons_succ])
   | (refine wpList_store_row rfl 26 (.tmp 6) (.tmp 81) rfl (w.heap.size + 1) cF rfl rfl 26 zA O2.out.b1 (sizeA O2.out.ao) (sizeAz O2.out.ao) (O2.out.ao).one ?_))
  refine bodyPost_ret (results_ct rfl _ _ (w.heap.size + 1) 26 cF (0, 0) _ rfl (blk_row O2.out.b1 cF) hu.out rfl (sizeA O2.out.ao)) rfl ?_
  obtain rfl := hd.out
  exact O2.out.fin
 ·rw [decide_eq_false h1] at q1
  by_cases h2 : ws = [108, 105, 115, 116]
  ·rw [decide_eq_true h2] at q2
   have t1 := q1.out
   have t2 := q2.out
   have hr : res = (match numsO (splitC 44 value) with | some l => if l.length ≤ 32 then ({ a with x22 := l }, 0) else (a, 4) | none => (a, 4)) := by rw [← hres.out]; unfold otherS; rw [if_neg h1, if_pos h2]; rfl
   have R := Lib.hid O.out.toR
   have HC : Hid (Calls Tryd.prog 72 #[.agg cs, .string (strOfNums value)] w10 (RR (fun k => ok k ∧ k ≠ w.heap.size ∧ k ≠ w.heap.size + 1) w10 res)) := Lib.hid (by rw [hr]; exact rlist_calls (fun k => ok k ∧ k ≠ w.heap.size ∧ k ≠ w.heap.size + 1) cs a value w10 R.out.ac (up_ok hk R.out.sz) hv hl)
   clear hres O hr
   replace h1 := Lib.hid h1
   replace h2 := Lib.hid h2
   clear q1 q2 q3
   go_wp2_with (first
    | (refine wpList_load_row (o := ⟨some 84, _, _, _, _, _⟩) rfl 26 (.tmp 3) rfl (w.heap.size) rfl 26 cs (0, 0) _ R.out.b0 hu.out rfl (sizeA R.out.ac) ?_; simp only [Act.put, List.setIfInBounds_toArray, List.set_cons_zero, List.set_cons_succ]))
   refine HC.out.mono ?_
   rintro e w11 ⟨c11, rfl, A11, B11⟩
   replace R := Lib.hid (R.out.below B11)
   replace A11 := Lib.hid A11
   clear HC B11
   go_wp2_with (first
    | (refine wpList_store_row rfl 26 (.tmp 6) (.tmp 87) rfl (w.heap.size + 1) c11 rfl rfl 26 zA R.out.b1 (sizeA A11.out) (sizeAz A11.out) (A11.out).one ?_))
   refine bodyPost_ret (results_ct rfl _ _ (w.heap.size + 1) 26 c11 (0, 0) _ rfl (blk_row R.out.b1 c11) hu.out rfl (sizeA A11.out)) rfl ?_
   exact R.out.fin A11.out
  ·rw [decide_eq_false h2] at q2
   by_cases h3 : ws = [115, 116, 97, 116, 101]
   ·rw [decide_eq_true h3] at q3
    have t1 := q1.out
    have t2 := q2.out
    have t3 := q3.out
    have hr : res = (match findW sL value with | some k => ({ a with x23 := k }, 0) | none => (a, 4)) := by rw [← hres.out]; unfold otherS; rw [if_neg h1, if_neg h2, if_pos h3]; rfl
    replace hr := Lib.hid hr
    replace h1 := Lib.hid h1
    replace h2 := Lib.hid h2
    replace h3 := Lib.hid h3
    have K22 : (w10.alloc (.cells #[.string ⟨#[111, 102, 102]⟩, .string ⟨#[111, 110]⟩, .string ⟨#[115, 117, 115, 112, 101, 110, 100, 101, 100]⟩] 9)).heap[w10.heap.size]? = some (.cells (statesL.map Value.string).toArray 9 (0, 0)) := blk_new w10 (.cells (statesL.map Value.string).toArray 9)
    have lt10 := blk_lt O.out.bg
    replace O := Lib.hid (O.out.below (below_alloc (Below.refl w10.heap.size w10) (.cells #[.string ⟨#[111, 102, 102]⟩, .string ⟨#[111, 110]⟩, .string ⟨#[115, 117, 115, 112, 101, 110, 100, 101, 100]⟩] 9)))
    clear hres q1 q2 q3
    go_upto_region 27 with fail
    replace K22 := Lib.hid K22
    generalize w10.heap.size = g2 at *
    generalize w10.alloc (.cells #[.string ⟨#[111, 102, 102]⟩, .string ⟨#[111, 110]⟩, .string ⟨#[115, 117, 115, 112, 101, 110, 100, 101, 100]⟩] 9) = w11 at *
    clear t1 t2 t3
    go_wp2_with fail
    go_loop [23] (fun s => ∃ j : Nat, j ≤ 3 ∧ s = .int .i64 j ∧ Hid (∀ i, i < j → sL.getD i [] ≠ value)) (fun s => 3 - (intOf s).toNat)
    case atStart => exact ⟨0, Nat.zero_le _, rfl, fun i h => by omega⟩
    case round =>
     obtain ⟨j, hj, rfl, hno⟩ := hrel
     by_cases hjn : j < 3
     ·have hjl : (j : Int) < 3 := by omega
      have c1 : w11.cell? ⟨g2, j, none⟩ = some (.string (statesL.getD j ⟨#[]⟩)) := (blk_cell K22.out j).trans (map_at statesL j hjn)
      have t0 : ((statesL.getD j ⟨#[]⟩).toList == (strOfNums value).toList) = decide (sL.getD j [] = value) := by rw [sW_eq, word_test sL_byt hv]
      generalize statesL.getD j ⟨#[]⟩ = s1 at c1 t0
      by_cases hw2 : sL.getD j [] = value
      ·rw [decide_eq_true hw2] at t0
       obtain rfl : res = ({ a with x23 := j }, 0) := by
        have hf : findW sL value = some j := by
         unfold findW
         refine List.findIdx?_eq_some_iff_getElem.2 ⟨hjn, ?_, fun i hi => ?_⟩
         ·rw [List.getD_eq_getElem?_getD, List.getElem?_eq_getElem (by exact hjn)] at hw2
          simpa using hw2
         ·have h4 := hno.out i hi
          rw [List.getD_eq_getElem?_getD, List.getElem?_eq_getElem (by show i < 3; omega)] at h4
          simpa using h4
        exact hr.out.trans (by rw [hf])
       replace hw2 := Lib.hid hw2
       have O2 := O.out.setc 23 (.int .i64 j) (O.out.ao.put23 j)
       obtain ⟨v1, k1, _⟩ := O.out.ao.get 23 (by decide)
       have c11 : w11.cell? ⟨g, 23, none⟩ = some v1 := (blk_cell O.out.bg 23).trans k1
       have z11 := blk_frozen O.out.bg 23
       generalize cs.setIfInBounds 23 (.int .i64 j) = cF at O2
       replace O2 := Lib.hid O2
       clear O k1 hr
       go_wp2_with (first
        | (refine wpList_load_row (o := ⟨some 104, _, _, _, _, _⟩) rfl 26 (.tmp 18) rfl (g) rfl 26 cF (0, 0) _ O2.out.bg hu.out rfl (sizeA O2.out.ao) ?_; simp only [Act.put, List.setIfInBounds_toArray, List.set_cons_zero, List.set_cons_succ])
        | (refine wpList_store_row rfl 26 (.tmp 6) (.tmp 104) rfl (w.heap.size + 1) cF rfl rfl 26 zA O2.out.b1 (sizeA O2.out.ao) (sizeAz O2.out.ao) (O2.out.ao).one ?_))
       refine bodyPost_ret (results_ct rfl _ _ (w.heap.size + 1) 26 cF (0, 0) _ rfl (blk_row O2.out.b1 cF) hu.out rfl (sizeA O2.out.ao)) rfl ?_
       exact O2.out.fin
      ·rw [decide_eq_false hw2] at t0
       replace hw2 := Lib.hid hw2
       go_wp2_with fail
       go_round
       case rel => exact ⟨j + 1, by omega, by go_num, fun i hi => by
        by_cases h5 : i = j
        ·rw [h5]; exact hw2.out
        ·exact hno.out i (by omega)⟩
       case measure => simp [intOf]; omega
     ·have hjl : ¬ (j : Int) < 3 := by omega
      obtain rfl : res = (a, 4) := by
       have hf : findW sL value = none := by
        unfold findW
        refine List.findIdx?_eq_none_iff.2 (fun x hx => ?_)
        obtain ⟨i, hi, rfl⟩ := List.getElem_of_mem hx
        have hi2 : i < 3 := hi
        have h4 := hno.out i (by omega)
        rw [List.getD_eq_getElem?_getD, List.getElem?_eq_getElem hi] at h4
        simpa using h4
       exact hr.out.trans (by rw [hf])
      have R := Lib.hid O.out.toR
      clear O hr
      go_wp2_with (first
       | (refine wpList_load_row (o := ⟨some 105, _, _, _, _, _⟩) rfl 26 (.tmp 3) rfl (w.heap.size) rfl 26 cs (0, 0) _ R.out.b0 hu.out rfl (sizeA R.out.ac) ?_; simp only [Act.put, List.setIfInBounds_toArray, List.set_cons_zero, List.set_cons_succ])
       | (refine wpList_store_row rfl 26 (.tmp 6) (.tmp 105) rfl (w.heap.size + 1) cs rfl rfl 26 zA R.out.b1 (sizeA R.out.ac) (sizeAz R.out.ac) (R.out.ac).one ?_))
      refine bodyPost_ret (results_ct rfl _ _ (w.heap.size + 1) 26 cs (0, 0) _ rfl (blk_row R.out.b1 cs) hu.out rfl (sizeA R.out.ac)) rfl ?_
      exact R.out.fin R.out.ac
   ·rw [decide_eq_false h3] at q3
    have t1 := q1.out
    have t2 := q2.out
    have t3 := q3.out
    obtain rfl : res = (a, 19) := by rw [← hres.out]; unfold otherS; rw [if_neg h1, if_neg h2, if_neg h3]
    have R := Lib.hid O.out.toR
    replace h1 := Lib.hid h1
    replace h2 := Lib.hid h2
    replace h3 := Lib.hid h3
    clear hres q1 q2 q3 O
    go_wp2_with (first
     | (refine wpList_load_row (o := ⟨some 106, _, _, _, _, _⟩) rfl 26 (.tmp 3) rfl (w.heap.size) rfl 26 cs (0, 0) _ R.out.b0 hu.out rfl (sizeA R.out.ac) ?_; simp only [Act.put, List.setIfInBounds_toArray, List.set_cons_zero, List.set_cons_succ])
     | (refine wpList_store_row rfl 26 (.tmp 6) (.tmp 106) rfl (w.heap.size + 1) cs rfl rfl 26 zA R.out.b1 (sizeA R.out.ac) (sizeAz R.out.ac) (R.out.ac).one ?_))
    refine bodyPost_ret (results_ct rfl _ _ (w.heap.size + 1) 26 cs (0, 0) _ rfl (blk_row R.out.b1 cs) hu.out rfl (sizeA R.out.ac)) rfl ?_
    exact R.out.fin R.out.ac
theorem rset_calls (ok : Nat → Prop) (cs : Array Value) (a : AskP) (ws value : List Int) (w : World) (hA : AskC w ok False cs a) (hk : ∀ k, w.heap.size ≤ k → ok k) (hw : Byt ws) (hv : Byt value) (hl : value.length ≤ 800000) :
  Calls Tryd.prog 49 #[.agg cs, .string (strOfNums ws), .string (strOfNums value)] w (RR ok w (setS a ws value)) := by
 unfold setS
 cases hT : findW tL ws with
 | some k => exact rset_t ok cs a ws value w hA hk hw hv hl k hT
 | none =>
  cases hO : findW oL ws with
  | some k => exact rset_o ok cs a ws value w hA hk hw hv hl hT k hO
  | none =>
   cases hN : findW nL ws with
   | some k => exact rset_n ok cs a ws value w hA hk hw hv hl hT hO k hN
   | none => exact rset_x ok cs a ws value w hA hk hw hv hl hT hO hN
end Go.Proofs.YtjkehapbemjnpaaDoor
