/- What a line sets, in the reference, walked by hand; each condition stands in its theorem. -/
import Derived.Test.YtjkehapbemjnpaaDoorVRText
import Derived.Test.YtjkehapbemjnpaaDoorVTell33
set_option maxRecDepth 100000
set_option maxHeartbeats 4000000
namespace Go.Proofs.YtjkehapbemjnpaaDoor
open Go.RowKit Go.Proofs.YtjkehapbemjnpaaDoorW.PrintWords Go.Proofs.YtjkehapbemjnpaaDoorW.PrintLast Go.Proofs.YtjkehapbemjnpaaDoorW.PrintMore Lf Kit Cut Pl Num
set_option linter.unusedVariables false
set_option linter.unusedSimpArgs false
theorem blk_old {w : World} {g : Nat} {o : Obj} (h : w.heap[g]? = some o) (p : Obj) : (w.alloc p).heap[g]? = some o := blk_alloc h p
theorem rset_t (ok : Nat → Prop) (cs : Array Value) (a : AskP) (ws value : List Int) (w : World) (hA : AskC w ok False cs a) (hk : ∀ k, w.heap.size ≤ k → ok k) (hw : Byt ws) (hv : Byt value) (hl : value.length ≤ 800000) (k : Nat) (hT : findW tL ws = some k) :
  Calls Tryd.prog 49 #[.agg cs, .string (strOfNums ws), .string (strOfNums value)] w (RR ok w (a.tSet k value, 0)) := by
 have hu := Tryd.underlying26
 have R := RAt.start (ok := ok) hA
 have e1 : (w.alloc (.cells cs 26)).heap.size = w.heap.size + 1 := size_alloc _ _
 have HT := Lib.hid (rtext_some k cs a ws (fun k => ok k ∧ k ≠ w.heap.size ∧ k ≠ w.heap.size + 1) ((w.alloc (.cells cs 26)).alloc (.cells zA 26)) R.ac value hw hT)
 go_enter Tryd.func49, Tryd.ntmps49
 replace hu := Lib.hid hu
 replace e1 := Lib.hid e1
 replace R := Lib.hid R
 go_wp2_with (first
  | (refine wpList_allocA rfl (some 6) rfl 26 rfl zA zA_info (w.heap.size + 1) e1.out ?_; simp only [Act.put, List.setIfInBounds_toArray, List.set_cons_zero, List.set_cons_succ])
  | (refine wpList_load_row (o := ⟨some 25, _, _, _, _, _⟩) rfl 26 (.tmp 3) rfl (w.heap.size) rfl 26 cs (0, 0) _ R.out.b0 hu.out rfl (sizeA R.out.ac) ?_; simp only [Act.put, List.setIfInBounds_toArray, List.set_cons_zero, List.set_cons_succ]))
 refine HT.out.mono ?_
 rintro e w3 ⟨c3, rfl, A3, B3⟩
 have F3 := below_step B3 (below_alloc (Below.refl w3.heap.size w3) (.cells c3 26))
 replace R := Lib.hid (R.out.below F3)
 have K8z := Lib.hid (blk_new w3 (.cells zA 26))
 have K8 := Lib.hid (blk_new w3 (.cells c3 26))
 replace A3 := Lib.hid (A3.below (below_alloc (Below.refl w3.heap.size w3) (.cells c3 26)))
 clear HT B3 F3
 go_wp2_with (first
  | (refine wpList_allocA rfl (some 8) rfl 26 rfl zA zA_info (w3.heap.size) rfl ?_; simp only [Act.put, List.setIfInBounds_toArray, List.set_cons_zero, List.set_cons_succ])
  | (refine wpList_store_row rfl 26 (.tmp 8) (.tmp 29) rfl (w3.heap.size) c3 rfl rfl 26 zA K8z.out (sizeA A3.out) (sizeAz A3.out) (A3.out).one ?_; rw [World.setRow_alloc_new])
  | (refine wpList_load_row (o := ⟨some 32, _, _, _, _, _⟩) rfl 26 (.tmp 8) rfl (w3.heap.size) rfl 26 c3 (0, 0) _ K8.out hu.out rfl (sizeA A3.out) ?_; simp only [Act.put, List.setIfInBounds_toArray, List.set_cons_zero, List.set_cons_succ])
  | (refine wpList_store_row rfl 26 (.tmp 6) (.tmp 32) rfl (w.heap.size + 1) c3 rfl rfl 26 zA R.out.b1 (sizeA A3.out) (sizeAz A3.out) (A3.out).one ?_))
 refine bodyPost_ret (results_ct rfl _ _ (w.heap.size + 1) 26 c3 (0, 0) _ rfl (blk_row R.out.b1 c3) hu.out rfl (sizeA A3.out)) rfl ?_
 exact R.out.fin A3.out
theorem rset_o (ok : Nat → Prop) (cs : Array Value) (a : AskP) (ws value : List Int) (w : World) (hA : AskC w ok False cs a) (hk : ∀ k, w.heap.size ≤ k → ok k) (hw : Byt ws) (hv : Byt value) (hl : value.length ≤ 800000) (hT : findW tL ws = none) (k : Nat) (hO : findW oL ws = some k) :
  Calls Tryd.prog 49 #[.agg cs, .string (strOfNums ws), .string (strOfNums value)] w (RR ok w (match Six.dec value with | some b => (a.oSet k b, 0) | none => (a, 4))) := by
 generalize hres : (match Six.dec value with | some b => ((a.oSet k b, 0) : AskP × Int) | none => (a, 4)) = res
 replace hres := Lib.hid hres
 have hu := Tryd.underlying26
 have R := RAt.start (ok := ok) hA
 have e1 : (w.alloc (.cells cs 26)).heap.size = w.heap.size + 1 := size_alloc _ _
 have HT := Lib.hid (rtext_no cs a ws (fun k => ok k ∧ k ≠ w.heap.size ∧ k ≠ w.heap.size + 1) ((w.alloc (.cells cs 26)).alloc (.cells zA 26)) R.ac value hw hT)
 go_enter Tryd.func49, Tryd.ntmps49
 replace hu := Lib.hid hu
 replace e1 := Lib.hid e1
 replace R := Lib.hid R
 go_wp2_with (first
  | (refine wpList_allocA rfl (some 6) rfl 26 rfl zA zA_info (w.heap.size + 1) e1.out ?_; simp only [Act.put, List.setIfInBounds_toArray, List.set_cons_zero, List.set_cons_succ])
  | (refine wpList_load_row (o := ⟨some 25, _, _, _, _, _⟩) rfl 26 (.tmp 3) rfl (w.heap.size) rfl 26 cs (0, 0) _ R.out.b0 hu.out rfl (sizeA R.out.ac) ?_; simp only [Act.put, List.setIfInBounds_toArray, List.set_cons_zero, List.set_cons_succ]))
 refine HT.out.mono ?_
 rintro e w3 ⟨c3, rfl, A3, B3⟩
 have F3 := below_step B3 (below_alloc (Below.refl w3.heap.size w3) (.cells c3 26))
 replace R := Lib.hid (R.out.below F3)
 have K8z := Lib.hid (blk_new w3 (.cells zA 26))
 have K8 := Lib.hid (blk_new w3 (.cells c3 26))
 replace A3 := Lib.hid (A3.below (below_alloc (Below.refl w3.heap.size w3) (.cells c3 26)))
 clear HT B3 F3
 go_upto_region 4 with (first
  | (refine wpList_allocA rfl (some 8) rfl 26 rfl zA zA_info (w3.heap.size) rfl ?_; simp only [Act.put, List.setIfInBounds_toArray, List.set_cons_zero, List.set_cons_succ])
  | (refine wpList_store_row rfl 26 (.tmp 8) (.tmp 29) rfl (w3.heap.size) c3 rfl rfl 26 zA K8z.out (sizeA A3.out) (sizeAz A3.out) (A3.out).one ?_; rw [World.setRow_alloc_new]))
 clear K8 K8z A3
 generalize w3.alloc (.cells c3 26) = w4 at *
 have HG := Lib.hid (rsix_calls value hv hl w4)
 go_wp2_with fail
 refine HG.out.mono ?_
 rintro e w5 ⟨v, r, c, rfl, hrc, RV, B5⟩
 have RVb := Kd.R_V (base' := 0) (Kd.R_mono (Kd.R_bound RV) (fun q hq => up_ok hk R.out.sz q hq.2.1))
 replace R := Lib.hid (R.out.below B5)
 replace hrc := Lib.hid hrc
 clear HG RV B5
 have HB := Lib.hid (rbytes_some k cs a ws (fun k => ok k ∧ k ≠ w.heap.size ∧ k ≠ w.heap.size + 1) w5 R.out.ac v r RVb hw hO)
 clear RVb
 go_wp2_with ((refine wpList_load_row (o := ⟨some 39, _, _, _, _, _⟩) rfl 26 (.tmp 3) rfl (w.heap.size) rfl 26 cs (0, 0) _ R.out.b0 hu.out rfl (sizeA R.out.ac) ?_; simp only [Act.put, List.setIfInBounds_toArray, List.set_cons_zero, List.set_cons_succ]))
 refine HB.out.mono ?_
 rintro e w6 ⟨c6, rfl, A6, B6⟩
 have F6 := below_step B6 (below_alloc (Below.refl w6.heap.size w6) (.cells c6 26))
 replace R := Lib.hid (R.out.below F6)
 have K12z := Lib.hid (blk_new w6 (.cells zA 26))
 have K12 := Lib.hid (blk_new w6 (.cells c6 26))
 replace A6 := Lib.hid (A6.below (below_alloc (Below.refl w6.heap.size w6) (.cells c6 26)))
 clear HB B6 F6
 have hc : c = 0 ∧ res = (a.oSet k r, 0) ∨ c ≠ 0 ∧ res = (a, 4) := by
  have h1 := hrc.out
  have h2 := hres.out
  cases hd : Six.dec value with
  | some o => rw [hd] at h1 h2; obtain ⟨rfl, rfl⟩ := h1; exact .inl ⟨rfl, h2.symm⟩
  | none => rw [hd] at h1 h2; exact .inr ⟨h1, h2.symm⟩
 clear hrc hres
 rcases hc with ⟨rfl, rfl⟩ | ⟨h0, rfl⟩
 ·go_wp2_with (first
   | (refine wpList_allocA rfl (some 12) rfl 26 rfl zA zA_info (w6.heap.size) rfl ?_; simp only [Act.put, List.setIfInBounds_toArray, List.set_cons_zero, List.set_cons_succ])
   | (refine wpList_store_row rfl 26 (.tmp 12) (.tmp 43) rfl (w6.heap.size) c6 rfl rfl 26 zA K12z.out (sizeA A6.out) (sizeAz A6.out) (A6.out).one ?_; rw [World.setRow_alloc_new])
   | (refine wpList_load_row (o := ⟨some 49, _, _, _, _, _⟩) rfl 26 (.tmp 12) rfl (w6.heap.size) rfl 26 c6 (0, 0) _ K12.out hu.out rfl (sizeA A6.out) ?_; simp only [Act.put, List.setIfInBounds_toArray, List.set_cons_zero, List.set_cons_succ])
   | (refine wpList_store_row rfl 26 (.tmp 6) (.tmp 49) rfl (w.heap.size + 1) c6 rfl rfl 26 zA R.out.b1 (sizeA A6.out) (sizeAz A6.out) (A6.out).one ?_))
  refine bodyPost_ret (results_ct rfl _ _ (w.heap.size + 1) 26 c6 (0, 0) _ rfl (blk_row R.out.b1 c6) hu.out rfl (sizeA A6.out)) rfl ?_
  exact R.out.fin A6.out
 ·have t1 : (c == 0) = false := by simpa using h0
  have t2 : (c != 0) = true := by simpa using h0
  go_wp2_with (first
   | (refine wpList_allocA rfl (some 12) rfl 26 rfl zA zA_info (w6.heap.size) rfl ?_; simp only [Act.put, List.setIfInBounds_toArray, List.set_cons_zero, List.set_cons_succ])
   | (refine wpList_store_row rfl 26 (.tmp 12) (.tmp 43) rfl (w6.heap.size) c6 rfl rfl 26 zA K12z.out (sizeA A6.out) (sizeAz A6.out) (A6.out).one ?_; rw [World.setRow_alloc_new])
   | (refine wpList_load_row (o := ⟨some 48, _, _, _, _, _⟩) rfl 26 (.tmp 3) rfl (w.heap.size) rfl 26 cs (0, 0) _ R.out.b0 hu.out rfl (sizeA R.out.ac) ?_; simp only [Act.put, List.setIfInBounds_toArray, List.set_cons_zero, List.set_cons_succ])
   | (refine wpList_store_row rfl 26 (.tmp 6) (.tmp 48) rfl (w.heap.size + 1) cs rfl rfl 26 zA R.out.b1 (sizeA R.out.ac) (sizeAz R.out.ac) (R.out.ac).one ?_))
  refine bodyPost_ret (results_ct rfl _ _ (w.heap.size + 1) 26 cs (0, 0) _ rfl (blk_row R.out.b1 cs) hu.out rfl (sizeA R.out.ac)) rfl ?_
  exact R.out.fin R.out.ac
theorem rset_n (ok : Nat → Prop) (cs : Array Value) (a : AskP) (ws value : List Int) (w : World) (hA : AskC w ok False cs a) (hk : ∀ k, w.heap.size ≤ k → ok k) (hw : Byt ws) (hv : Byt value) (hl : value.length ≤ 800000) (hT : findW tL ws = none) (hO : findW oL ws = none) (k : Nat) (hN : findW nL ws = some k) :
  Calls Tryd.prog 49 #[.agg cs, .string (strOfNums ws), .string (strOfNums value)] w (RR ok w (match numO value with | some n => (a.nSet k n, 0) | none => (a, 4))) := by
 generalize hres : (match numO value with | some n => ((a.nSet k n, 0) : AskP × Int) | none => (a, 4)) = res
 replace hres := Lib.hid hres
 have hu := Tryd.underlying26
 have R := RAt.start (ok := ok) hA
 have e1 : (w.alloc (.cells cs 26)).heap.size = w.heap.size + 1 := size_alloc _ _
 have HT := Lib.hid (rtext_no cs a ws (fun k => ok k ∧ k ≠ w.heap.size ∧ k ≠ w.heap.size + 1) ((w.alloc (.cells cs 26)).alloc (.cells zA 26)) R.ac value hw hT)
 go_enter Tryd.func49, Tryd.ntmps49
 replace hu := Lib.hid hu
 replace e1 := Lib.hid e1
 replace R := Lib.hid R
 go_wp2_with (first
  | (refine wpList_allocA rfl (some 6) rfl 26 rfl zA zA_info (w.heap.size + 1) e1.out ?_; simp only [Act.put, List.setIfInBounds_toArray, List.set_cons_zero, List.set_cons_succ])
  | (refine wpList_load_row (o := ⟨some 25, _, _, _, _, _⟩) rfl 26 (.tmp 3) rfl (w.heap.size) rfl 26 cs (0, 0) _ R.out.b0 hu.out rfl (sizeA R.out.ac) ?_; simp only [Act.put, List.setIfInBounds_toArray, List.set_cons_zero, List.set_cons_succ]))
 refine HT.out.mono ?_
 rintro e w3 ⟨c3, rfl, A3, B3⟩
 have F3 := below_step B3 (below_alloc (Below.refl w3.heap.size w3) (.cells c3 26))
 replace R := Lib.hid (R.out.below F3)
 have K8z := Lib.hid (blk_new w3 (.cells zA 26))
 have K8 := Lib.hid (blk_new w3 (.cells c3 26))
 replace A3 := Lib.hid (A3.below (below_alloc (Below.refl w3.heap.size w3) (.cells c3 26)))
 clear HT B3 F3
 go_upto_region 4 with (first
  | (refine wpList_allocA rfl (some 8) rfl 26 rfl zA zA_info (w3.heap.size) rfl ?_; simp only [Act.put, List.setIfInBounds_toArray, List.set_cons_zero, List.set_cons_succ])
  | (refine wpList_store_row rfl 26 (.tmp 8) (.tmp 29) rfl (w3.heap.size) c3 rfl rfl 26 zA K8z.out (sizeA A3.out) (sizeAz A3.out) (A3.out).one ?_; rw [World.setRow_alloc_new]))
 clear K8 K8z A3
 generalize w3.alloc (.cells c3 26) = w4 at *
 have HG := Lib.hid (rsix_calls value hv hl w4)
 go_wp2_with fail
 refine HG.out.mono ?_
 rintro e w5 ⟨v, r, c, rfl, hrc, RV, B5⟩
 have RVb := Kd.R_V (base' := 0) (Kd.R_mono (Kd.R_bound RV) (fun q hq => up_ok hk R.out.sz q hq.2.1))
 replace R := Lib.hid (R.out.below B5)
 replace hrc := Lib.hid hrc
 clear HG RV B5
 have HB := Lib.hid (rbytes_no cs a ws (fun k => ok k ∧ k ≠ w.heap.size ∧ k ≠ w.heap.size + 1) w5 R.out.ac v r RVb hw hO)
 clear RVb
 go_wp2_with ((refine wpList_load_row (o := ⟨some 39, _, _, _, _, _⟩) rfl 26 (.tmp 3) rfl (w.heap.size) rfl 26 cs (0, 0) _ R.out.b0 hu.out rfl (sizeA R.out.ac) ?_; simp only [Act.put, List.setIfInBounds_toArray, List.set_cons_zero, List.set_cons_succ]))
 refine HB.out.mono ?_
 rintro e w6 ⟨c6, rfl, A6, B6⟩
 have F6 := below_step B6 (below_alloc (Below.refl w6.heap.size w6) (.cells c6 26))
 replace R := Lib.hid (R.out.below F6)
 have K12z := Lib.hid (blk_new w6 (.cells zA 26))
 have K12 := Lib.hid (blk_new w6 (.cells c6 26))
 replace A6 := Lib.hid (A6.below (below_alloc (Below.refl w6.heap.size w6) (.cells c6 26)))
 clear HB B6 F6
 go_upto_region 10 with (first
  | (refine wpList_allocA rfl (some 12) rfl 26 rfl zA zA_info (w6.heap.size) rfl ?_; simp only [Act.put, List.setIfInBounds_toArray, List.set_cons_zero, List.set_cons_succ])
  | (refine wpList_store_row rfl 26 (.tmp 12) (.tmp 43) rfl (w6.heap.size) c6 rfl rfl 26 zA K12z.out (sizeA A6.out) (sizeAz A6.out) (A6.out).one ?_; rw [World.setRow_alloc_new]))
 clear K12 K12z A6 hrc
 generalize w6.alloc (.cells c6 26) = w7 at *
 have HN := Lib.hid (rnum_calls value hv w7)
 go_wp2_with fail
 refine HN.out.mono ?_
 rintro e w8 ⟨n, rfl, hn, ⟨nd, rfl⟩⟩
 replace R := Lib.hid (R.out.below (pw_below_drewN (Below.refl _ _) nd))
 replace hn := Lib.hid hn
 clear HN
 generalize w7.drewN nd = w8 at *
 have HX := Lib.hid (rnumber_some k cs a ws (fun k => ok k ∧ k ≠ w.heap.size ∧ k ≠ w.heap.size + 1) w8 R.out.ac n hw hN)
 go_wp2_with ((refine wpList_load_row (o := ⟨some 56, _, _, _, _, _⟩) rfl 26 (.tmp 3) rfl (w.heap.size) rfl 26 cs (0, 0) _ R.out.b0 hu.out rfl (sizeA R.out.ac) ?_; simp only [Act.put, List.setIfInBounds_toArray, List.set_cons_zero, List.set_cons_succ]))
 refine HX.out.mono ?_
 rintro e w9 ⟨c9, rfl, A9, B9⟩
 have F9 := below_step B9 (below_alloc (Below.refl w9.heap.size w9) (.cells c9 26))
 replace R := Lib.hid (R.out.below F9)
 have K16z := Lib.hid (blk_new w9 (.cells zA 26))
 have K16 := Lib.hid (blk_new w9 (.cells c9 26))
 replace A9 := Lib.hid (A9.below (below_alloc (Below.refl w9.heap.size w9) (.cells c9 26)))
 clear HX B9 F9
 cases hno : numO value with
 | some m =>
  obtain rfl := hn.out m hno
  obtain rfl : res = (a.nSet k n, 0) := by have h2 := hres.out; rw [hno] at h2; exact h2.symm
  have t1 : (some n : Option Int).isSome = true := rfl
  go_wp2_with (first
   | (refine wpList_allocA rfl (some 16) rfl 26 rfl zA zA_info (w9.heap.size) rfl ?_; simp only [Act.put, List.setIfInBounds_toArray, List.set_cons_zero, List.set_cons_succ])
   | (refine wpList_store_row rfl 26 (.tmp 16) (.tmp 60) rfl (w9.heap.size) c9 rfl rfl 26 zA K16z.out (sizeA A9.out) (sizeAz A9.out) (A9.out).one ?_; rw [World.setRow_alloc_new])
   | (refine wpList_load_row (o := ⟨some 66, _, _, _, _, _⟩) rfl 26 (.tmp 16) rfl (w9.heap.size) rfl 26 c9 (0, 0) _ K16.out hu.out rfl (sizeA A9.out) ?_; simp only [Act.put, List.setIfInBounds_toArray, List.set_cons_zero, List.set_cons_succ])
   | (refine wpList_store_row rfl 26 (.tmp 6) (.tmp 66) rfl (w.heap.size + 1) c9 rfl rfl 26 zA R.out.b1 (sizeA A9.out) (sizeAz A9.out) (A9.out).one ?_))
  refine bodyPost_ret (results_ct rfl _ _ (w.heap.size + 1) 26 c9 (0, 0) _ rfl (blk_row R.out.b1 c9) hu.out rfl (sizeA A9.out)) rfl ?_
  exact R.out.fin A9.out
 | none =>
  obtain rfl : res = (a, 4) := by have h2 := hres.out; rw [hno] at h2; exact h2.symm
  have t1 : (none : Option Int).isSome = false := rfl
  go_wp2_with (first
   | (refine wpList_allocA rfl (some 16) rfl 26 rfl zA zA_info (w9.heap.size) rfl ?_; simp only [Act.put, List.setIfInBounds_toArray, List.set_cons_zero, List.set_cons_succ])
   | (refine wpList_store_row rfl 26 (.tmp 16) (.tmp 60) rfl (w9.heap.size) c9 rfl rfl 26 zA K16z.out (sizeA A9.out) (sizeAz A9.out) (A9.out).one ?_; rw [World.setRow_alloc_new])
   | (refine wpList_load_row (o := ⟨some 65, _, _, _, _, _⟩) rfl 26 (.tmp 3) rfl (w.heap.size) rfl 26 cs (0, 0) _ R.out.b0 hu.out rfl (sizeA R.out.ac) ?_; simp only [Act.put, List.setIfInBounds_toArray, List.set_cons_zero, List.set_cons_succ])
   | (refine wpList_store_row rfl 26 (.tmp 6) (.tmp 65) rfl (w.heap.size + 1) cs rfl rfl 26 zA R.out.b1 (sizeA R.out.ac) (sizeAz R.out.ac) (R.out.ac).one ?_))
  refine bodyPost_ret (results_ct rfl _ _ (w.heap.size + 1) 26 cs (0, 0) _ rfl (blk_row R.out.b1 cs) hu.out rfl (sizeA R.out.ac)) rfl ?_
  exact R.out.fin R.out.ac
end Go.Proofs.YtjkehapbemjnpaaDoor
