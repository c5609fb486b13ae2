/- The reference's rows, walked by hand; each condition stands in its theorem. -/
import Derived.Test.YtjkehapbemjnpaaDoorVRSetX
namespace Go.Proofs.YtjkehapbemjnpaaDoor
open Go.RowKit Go.Proofs.YtjkehapbemjnpaaDoorW.PrintWords Go.Proofs.YtjkehapbemjnpaaDoorW.PrintLast Go.Proofs.YtjkehapbemjnpaaDoorW.PrintMore Lf Kit Cut Pl Num
set_option linter.unusedVariables false
set_option linter.unusedSimpArgs false
def okS (ok : Nat → Prop) (w : World) (g : Nat) (sv : Value) (k : Nat) : Prop := ((ok k ∧ k ≠ w.heap.size ∧ k ≠ w.heap.size + 1) ∧ k ≠ g) ∧ some k ≠ sv.ownBlock
structure RowsAt (ok : Nat → Prop) (w : World) (cs : Array Value) (a : AskP) (g : Nat) (cx : Array Value) (x : AskP) (sv : Value) (seen : List (List Int)) (W : World) : Prop where
 b0 : W.heap[w.heap.size]? = some (.cells cs 26 (0, 0))
 b1 : W.heap[w.heap.size + 1]? = some (.cells zA 26 (0, 0))
 bg : W.heap[g]? = some (.cells cx 26 (0, 0))
 be : Below w.heap.size w W
 hg : w.heap.size + 2 ≤ g
 ac : AskC W (okS ok w g sv) False cs a
 ao : AskC W (okS ok w g sv) False cx x
 rs : Kd.R Kd.string 9 W (g + 1) (fun _ => True) sv (seen.map strOfNums)
section
variable {ok : Nat → Prop} {w W W2 : World} {cs cx : Array Value} {a x : AskP} {g : Nat} {sv : Value} {seen : List (List Int)}
theorem RowsAt.start (h : ROut ok w cs a g cx x W) : RowsAt ok w cs a g cx x (.slice none 0 0) [] W :=
 ⟨h.b0, h.b1, h.bg, h.be, h.hg, h.ac.mono fun k hk => ⟨hk, by simp [Value.ownBlock]⟩, h.ao.mono fun k hk => ⟨hk, by simp [Value.ownBlock]⟩, Kd.R_nil _ _ _ _ _⟩
theorem RowsAt.below (h : RowsAt ok w cs a g cx x sv seen W) (hb : Below W.heap.size W W2) : RowsAt ok w cs a g cx x sv seen W2 :=
 ⟨blk_below h.b0 hb, blk_below h.b1 hb, blk_below h.bg hb, below_step h.be hb, h.hg, h.ac.below hb, h.ao.below hb, Kd.R_below h.rs hb⟩
theorem RowsAt.drewN (h : RowsAt ok w cs a g cx x sv seen W) (n : Nat) : RowsAt ok w cs a g cx x sv seen (W.drewN n) := h.below (pw_below_drewN (Below.refl _ _) n)
theorem RowsAt.toR (h : RowsAt ok w cs a g cx x sv seen W) : RAt ok w cs a W := ⟨h.b0, h.b1, h.be, h.ac.mono fun _ hk => hk.1.1, by have := blk_lt h.bg; have := h.hg; omega⟩
theorem RowsAt.up (h : RowsAt ok w cs a g cx x sv seen W) (hk : ∀ k, w.heap.size ≤ k → ok k) : ∀ k, W.heap.size ≤ k → okS ok w g sv k := fun k h1 => by
 have h2 := blk_lt h.bg
 have h3 := h.hg
 refine ⟨⟨⟨hk k (by omega), by omega, by omega⟩, by omega⟩, fun e => ?_⟩
 have := Kd.R_lt h.rs k e.symm
 omega
theorem RowsAt.grown (h : RowsAt ok w cs a g cx x sv seen W) {word : List Int} {sv1 : Value} (ho : Kd.R Kd.string 9 W2 (g + 1) (fun _ => True) sv1 (seen.map strOfNums ++ [strOfNums word])) (hb : Below (g + 1) W W2) (hg2 : W.grownBy W2 sv.ownBlock)
  (hat : sv1.ownBlock = sv.ownBlock ∨ ∃ b, sv1.ownBlock = some b ∧ W.heap.size ≤ b) : RowsAt ok w cs a g cx x sv1 (seen ++ [word]) W2 := by
 have lt := blk_lt h.bg
 have hg := h.hg
 have mv : ∀ {co : Array Value} {b : AskP}, AskC W (okS ok w g sv) False co b → AskC W2 (okS ok w g sv1) False co b := fun hc =>
  (hc.bound.step fun k hk hlt => hg2.block k hlt hk.1.2).mono fun k hk => ⟨hk.1.1, fun e => by
   rcases hat with h1 | ⟨b, h1, h2⟩
   ·exact hk.1.2 (e.trans h1)
   ·rw [h1] at e
    obtain rfl := Option.some.inj e
    have := hk.2
    omega⟩
 exact ⟨(hb.block _ (by omega)).trans h.b0, (hb.block _ (by omega)).trans h.b1, (hb.block _ (by omega)).trans h.bg, h.be.trans (hb.mono (by omega)), hg, mv h.ac, mv h.ao, by rw [List.map_append]; exact ho⟩
theorem RowsAt.setr (h : RowsAt ok w cs a g cx x sv seen W) {cn : Array Value} {y : AskP} (hp : AskC W (okS ok w g sv) False cn y) : RowsAt ok w cs a g cn y sv seen (W.setRow g cn) where
 b0 := (setRow_other W g cn _ (by have := h.hg; omega)).trans h.b0
 b1 := (setRow_other W g cn _ (by have := h.hg; omega)).trans h.b1
 bg := blk_row h.bg cn
 be := below_row h.be (by have := h.hg; omega) cn
 hg := h.hg
 ac := h.ac.step fun k hk _ => setRow_other W g cn k hk.1.2
 ao := hp.step fun k hk _ => setRow_other W g cn k hk.1.2
 rs := Kd.R_mono (Kd.R_step (Kd.R_mono (Kd.R_bound h.rs) (fun k hk => show k ≠ g from by have := hk.2.1; omega)) (fun k hk _ => setRow_other W g cn k hk)) (fun _ _ => trivial)
end
def rowsR (a : AskP) (r : AskP × Int) : AskP × Int := if r.2 = 0 then r else (a, r.2)
theorem rowsR_bad {a : AskP} {r : AskP × Int} {c : Int} (h : r.2 = c) (hc : c ≠ 0) : rowsR a r = (a, c) := by unfold rowsR; rw [h, if_neg hc]
set_option maxRecDepth 100000 in
set_option maxHeartbeats 20000000 in
theorem rrows_calls (ok : Nat → Prop) (cs : Array Value) (a : AskP) (A : Option Addr) (cap : Nat) (l : List (List Int)) (w : World) (hA : AskC w ok False cs a) (hk : ∀ k, w.heap.size ≤ k → ok k) (hC : Kd.C Kd.string w A l.length (l.map strOfNums)) (hB : ∀ p ∈ l, Byt p) (hL : ∀ p ∈ l, p.length ≤ 800000) (hn : l.length ≤ 1000) :
  Calls Tryd.prog 28 #[.agg cs, .slice A l.length cap] w (RR ok w (rowsR a (rowsS [] a l))) := by
 have hu := Tryd.underlying26
 have R := RAt.start (ok := ok) hA
 have e1 : (w.alloc (.cells cs 26)).heap.size = w.heap.size + 1 := size_alloc _ _
 generalize hr : rowsS [] a l = r
 generalize hf : rowsR a r = fr
 replace hf := Lib.hid hf
 replace hr := Lib.hid hr
 go_enter Tryd.func28, Tryd.ntmps28
 replace hu := Lib.hid hu
 replace e1 := Lib.hid e1
 replace R := Lib.hid R
 replace hC := Lib.hid hC
 have K6z := Lib.hid (blk_new ((w.alloc (.cells cs 26)).alloc (.cells zA 26)) (.cells zA 26))
 have O := Lib.hid (ROut.start R.out R.out.ac)
 go_upto_region 2 with (first
  | (refine wpList_allocA rfl (some 4) rfl 26 rfl zA zA_info (w.heap.size + 1) e1.out ?_; simp only [Act.put, List.setIfInBounds_toArray, List.set_cons_zero, List.set_cons_succ])
  | (refine wpList_load_row (o := ⟨some 15, _, _, _, _, _⟩) rfl 26 (.tmp 2) rfl (w.heap.size) rfl 26 cs (0, 0) _ R.out.b0 hu.out rfl (sizeA R.out.ac) ?_; simp only [Act.put, List.setIfInBounds_toArray, List.set_cons_zero, List.set_cons_succ])
  | (refine wpList_allocA rfl (some 6) rfl 26 rfl zA zA_info (((w.alloc (.cells cs 26)).alloc (.cells zA 26)).heap.size) rfl ?_; simp only [Act.put, List.setIfInBounds_toArray, List.set_cons_zero, List.set_cons_succ])
  | (refine wpList_store_row rfl 26 (.tmp 6) (.tmp 15) rfl (((w.alloc (.cells cs 26)).alloc (.cells zA 26)).heap.size) cs rfl rfl 26 zA K6z.out (sizeA R.out.ac) (sizeAz R.out.ac) (R.out.ac).one ?_; rw [World.setRow_alloc_new]))
 clear K6z R
 generalize (((w.alloc (.cells cs 26)).alloc (.cells zA 26))).heap.size = g at *
 generalize (((w.alloc (.cells cs 26)).alloc (.cells zA 26))).alloc (.cells cs 26) = w3 at *
 have S0 := Lib.hid (RowsAt.start O.out)
 clear O e1
 go_wp2_with fail
 go_loopw [8, 7] (fun s v wr => ∃ (j : Nat) (x : AskP) (cx : Array Value) (seen : List (List Int)), j ≤ l.length ∧ s = .int .i64 j ∧ Hid (seen.length = j) ∧ Hid (rowsS seen x (l.drop j) = r) ∧ Hid (RowsAt ok w cs a g cx x v seen wr) ∧ Hid (∀ p ∈ seen, Byt p)) (fun s _ _ => l.length - (intOf s).toNat)
 case atStart => exact ⟨0, a, cs, [], Nat.zero_le _, rfl, rfl, hr.out, S0.out, fun p hp => by simp at hp⟩
 case round =>
  obtain ⟨j, x, cx, seen, hj, rfl, hsl, hrem, hS, hsb⟩ := hrel
  by_cases hjn : j < l.length
  ·have hjl : (j : Int) < (l.length : Int) := by omega
   have hCr : Kd.C Kd.string wr A l.length (l.map strOfNums) := Kd.C_below hC.out hS.out.be
   obtain ⟨row, hrow⟩ : ∃ row, l[j]? = some row := ⟨_, List.getElem?_eq_getElem hjn⟩
   have hrd : rdOf ByteArray.empty (l.map strOfNums) (j : Int) = strOfNums row := by
    unfold rdOf
    rw [Int.toNat_natCast, List.getD_eq_getElem?_getD, List.getElem?_map, hrow]
    rfl
   obtain ⟨ad, rfl, c1⟩ := Kd.at_string hCr (j : Int) (by omega) hjl
   rw [hrd] at c1
   have c2 := c1
   rw [Int.toNat_natCast] at c2
   have hrb := hB row (List.mem_of_getElem? hrow)
   have hrl := hL row (List.mem_of_getElem? hrow)
   have hstep : rowsS seen x (row :: l.drop (j + 1)) = r := by
    rw [← hrem.out, List.drop_eq_getElem_cons hjn]
    rw [← Option.some.inj ((List.getElem?_eq_getElem hjn).symm.trans hrow).symm]
   clear hCr hrd
   simp only [rowsS] at hstep
   have HC := Lib.hid (rcut_calls [58, 32] ⟨#[58, 32]⟩ rfl (by simp) (fun x hx => by simp at hx; omega) (by simp) row hrb (by omega) wr)
   have hcb := cutL_byt (sep := [58, 32]) hrb
   have hcl := cutL_len [58, 32] row
   generalize cutL [58, 32] row = c at HC hcb hcl hstep
   replace hstep := Lib.hid hstep
   replace hcb := Lib.hid hcb
   replace hcl := Lib.hid hcl
   replace hrow := Lib.hid hrow
   clear hrem hrb
   obtain ⟨A2, cl, hvl⟩ := Kd.R_slice hS.out.rs
   rw [List.length_map, hsl.out] at hvl
   subst hvl
   go_wp2_with fail
   refine HC.out.mono ?_
   rintro e w4 ⟨rfl, ⟨nd, rfl⟩⟩
   replace hS := Lib.hid (hS.out.drewN nd)
   clear HC c1 c2
   generalize wr.drewN nd = w4 at *
   cases hok : c.2.2 with
   | false =>
    have hs := hstep.out
    rw [if_pos hok] at hs
    obtain rfl : fr = (a, 4) := by rw [← hf.out, ← hs]; exact rowsR_bad rfl (by decide)
    have R := Lib.hid hS.out.toR
    clear hS hstep hs hf hr
    go_wp2_with (first
     | (refine wpList_load_row (o := ⟨some 33, _, _, _, _, _⟩) rfl 26 (.tmp 2) rfl (w.heap.size) rfl 26 cs (0, 0) _ R.out.b0 hu.out rfl (sizeA R.out.ac) ?_; simp only [Act.put, List.setIfInBounds_toArray, List.set_cons_zero, List.set_cons_succ])
     | (refine wpList_store_row rfl 26 (.tmp 4) (.tmp 33) rfl (w.heap.size + 1) cs rfl rfl 26 zA R.out.b1 (sizeA R.out.ac) (sizeAz R.out.ac) (R.out.ac).one ?_))
    refine bodyPost_ret (results_ct rfl _ _ (w.heap.size + 1) 26 cs (0, 0) _ rfl (blk_row R.out.b1 cs) hu.out rfl (sizeA R.out.ac)) rfl ?_
    exact R.out.fin R.out.ac
   | true =>
    have hs := hstep.out
    rw [if_neg (by rw [hok]; simp)] at hs
    replace hstep := Lib.hid hs
    clear hs
    go_upto_region 9 with fail
    go_wp2_with fail
    go_loop [12] (fun s => ∃ k : Nat, k ≤ j ∧ s = .int .i64 k ∧ Hid (∀ i p, i < k → seen[i]? = some p → p ≠ c.1)) (fun s => j - (intOf s).toNat)
    case atStart => exact ⟨0, Nat.zero_le _, rfl, fun i p h => by omega⟩
    case round =>
     obtain ⟨k, hkj, rfl, hno⟩ := hrel
     by_cases hkn : k < j
     ·have hkl : (k : Int) < (j : Int) := by omega
      have t3 : decide ((k : Int) < (j : Int)) = true := decide_eq_true hkl
      obtain ⟨p, hp⟩ : ∃ p, seen[k]? = some p := ⟨_, List.getElem?_eq_getElem (by rw [hsl.out]; exact hkn)⟩
      have hrd : rdOf ByteArray.empty (seen.map strOfNums) (k : Int) = strOfNums p := by
       unfold rdOf
       rw [Int.toNat_natCast, List.getD_eq_getElem?_getD, List.getElem?_map, hp]
       rfl
      obtain ⟨ad2, rfl, c3⟩ := Kd.at_string (Kd.R_reads' hS.out.rs).2.2 (k : Int) (by omega) (by rw [List.length_map, hsl.out]; exact hkl)
      rw [hrd] at c3
      have c4 := c3
      rw [Int.toNat_natCast] at c4
      have hpb := hsb.out p (List.mem_of_getElem? hp)
      have t0 := str_beq hpb hcb.out.1
      clear hrd hpb
      by_cases hw : p = c.1
      ·rw [decide_eq_true hw] at t0
       have hs := hstep.out
       rw [if_pos (by rw [← hw]; exact List.mem_of_getElem? hp)] at hs
       obtain rfl : fr = (a, 10) := by rw [← hf.out, ← hs]; exact rowsR_bad rfl (by decide)
       have R := Lib.hid hS.out.toR
       clear hS hstep hs hf hr
       replace hw := Lib.hid hw
       replace hp := Lib.hid hp
       go_wp2_with (first
        | (refine wpList_load_row (o := ⟨some 46, _, _, _, _, _⟩) rfl 26 (.tmp 2) rfl (w.heap.size) rfl 26 cs (0, 0) _ R.out.b0 hu.out rfl (sizeA R.out.ac) ?_; simp only [Act.put, List.setIfInBounds_toArray, List.set_cons_zero, List.set_cons_succ])
        | (refine wpList_store_row rfl 26 (.tmp 4) (.tmp 46) rfl (w.heap.size + 1) cs rfl rfl 26 zA R.out.b1 (sizeA R.out.ac) (sizeAz R.out.ac) (R.out.ac).one ?_))
       refine bodyPost_ret (results_ct rfl _ _ (w.heap.size + 1) 26 cs (0, 0) _ rfl (blk_row R.out.b1 cs) hu.out rfl (sizeA R.out.ac)) rfl ?_
       exact R.out.fin R.out.ac
      ·rw [decide_eq_false hw] at t0
       replace hw := Lib.hid hw
       replace hp := Lib.hid hp
       go_wp2_with fail
       go_round
       case rel => exact ⟨k + 1, by omega, by go_num, fun i q h3 h4 => by
        by_cases h5 : i = k
        ·subst h5
         rw [hp.out] at h4
         obtain rfl := Option.some.inj h4
         exact hw.out
        ·exact hno.out i q (by omega) h4⟩
       case measure => simp [intOf]; omega
     ·have hkl : ¬ (k : Int) < (j : Int) := by omega
      have t3 : decide ((k : Int) < (j : Int)) = false := decide_eq_false hkl
      have hnm : c.1 ∉ seen := fun h => by
       obtain ⟨i, hi, he⟩ := List.getElem_of_mem h
       exact hno.out i _ (by have := hsl.out; omega) (List.getElem?_eq_getElem hi) he
      have hs := hstep.out
      rw [if_neg hnm] at hs
      replace hstep := Lib.hid hs
      clear hs hno
      have lt4 := blk_lt hS.out.bg
      go_wp2_with (first
       | ((with_reducible refine gate_builtin (b := .append) (xs := #[.tmp 47, .tmp 49]) rfl ?_); at_builtin; refine Kd.R_append Kd.string (w0 := w4) (g + 1) rfl (.tmp 47) (.tmp 49) 40 9 (.string ⟨#[]⟩) 16 rfl Tryd.underlying40 info9 rfl (by decide) (by omega) (.slice A2 j cl) (seen.map strOfNums) (strOfNums c.1) [.string (strOfNums c.1)] (fun _ => True) (fun _ => False) rfl rfl ?aP (fun _ hk => hk.elim) ?aF ?aO ?aB ?aS ?aL ?_; (case aP => exact rfl); (case aB => exact Below.refl _ _); (case aF => exact (fun _ _ => trivial)); (case aO => exact hS.out.rs); (case aS => exact lt4); (case aL => rw [List.length_map, hsl.out]; omega); intro v1 w5 ho hb2 hg2 hat; have S2 := Lib.hid (hS.out.grown ho hb2 hg2 hat); have HX := Lib.hid (rset_calls _ cx x c.1 c.2.1 w5 S2.out.ao (S2.out.up hk) hcb.out.1 hcb.out.2 (by have := hcl.out; omega)); clear ho hb2 hg2 hat)
       | (refine wpList_load_row (o := ⟨some 52, _, _, _, _, _⟩) rfl 26 (.tmp 6) rfl (g) rfl 26 cx (0, 0) _ S2.out.bg hu.out rfl (sizeA S2.out.ao) ?_; simp only [Act.put, List.setIfInBounds_toArray, List.set_cons_zero, List.set_cons_succ]))
      refine HX.out.mono ?_
      rintro e w6 ⟨c13, rfl, A6, B6⟩
      have F6 := below_step B6 (below_alloc (Below.refl w6.heap.size w6) (.cells c13 26))
      replace S2 := Lib.hid (S2.out.below F6)
      have K13z := Lib.hid (blk_new w6 (.cells zA 26))
      have K13 := Lib.hid (blk_new w6 (.cells c13 26))
      replace A6 := Lib.hid (A6.below (below_alloc (Below.refl w6.heap.size w6) (.cells c13 26)))
      clear HX B6 F6 hS
      generalize setS x c.1 c.2.1 = q at A6 hstep ⊢
      obtain ⟨y, qc⟩ := q
      simp only at A6 hstep
      by_cases hq : qc = 0
      ·subst hq
       have t4 : ((0 : Int) != 0) = false := rfl
       have hs := hstep.out
       rw [if_neg (by simp)] at hs
       replace hstep := Lib.hid hs
       clear hs
       go_upto_region 18 with (first
        | (refine wpList_allocA rfl (some 13) rfl 26 rfl zA zA_info (w6.heap.size) rfl ?_; simp only [Act.put, List.setIfInBounds_toArray, List.set_cons_zero, List.set_cons_succ])
        | (refine wpList_store_row rfl 26 (.tmp 13) (.tmp 56) rfl (w6.heap.size) c13 rfl rfl 26 zA K13z.out (sizeA A6.out) (sizeAz A6.out) (A6.out).one ?_; rw [World.setRow_alloc_new]))
       generalize w6.alloc (.cells c13 26) = w7 at *
       have S3 := Lib.hid (S2.out.setr A6.out)
       go_wp2_with (first
        | (refine wpList_load_row (o := ⟨some 62, _, _, _, _, _⟩) rfl 26 (.tmp 13) rfl (w6.heap.size) rfl 26 c13 (0, 0) _ K13.out hu.out rfl (sizeA A6.out) ?_; simp only [Act.put, List.setIfInBounds_toArray, List.set_cons_zero, List.set_cons_succ])
        | (refine wpList_store_row rfl 26 (.tmp 6) (.tmp 62) rfl (g) c13 rfl rfl 26 cx S2.out.bg (sizeA A6.out) (by rw [(S2.out.ao).size, (A6.out).size]) (A6.out).one ?_))
       go_roundw
       case rel => exact ⟨j + 1, y, c13, seen ++ [c.1], by omega, by go_num, by rw [List.length_append, hsl.out]; rfl, hstep.out, S3.out, fun p hp => by
        rcases List.mem_append.1 hp with h | h
        ·exact hsb.out p h
        ·rw [List.mem_singleton.1 h]; exact hcb.out.1⟩
       case measure => simp [intOf]; omega
      ·have t4 : (qc != 0) = true := by simpa using hq
       have t5 : (qc == 0) = false := by simpa using hq
       have hs := hstep.out
       rw [if_pos hq] at hs
       obtain rfl : fr = (a, qc) := by rw [← hf.out, ← hs]; exact rowsR_bad rfl hq
       have R := Lib.hid S2.out.toR
       clear S2 hstep hs hf hr
       replace hq := Lib.hid hq
       go_wp2_with (first
        | (refine wpList_allocA rfl (some 13) rfl 26 rfl zA zA_info (w6.heap.size) rfl ?_; simp only [Act.put, List.setIfInBounds_toArray, List.set_cons_zero, List.set_cons_succ])
        | (refine wpList_store_row rfl 26 (.tmp 13) (.tmp 56) rfl (w6.heap.size) c13 rfl rfl 26 zA K13z.out (sizeA A6.out) (sizeAz A6.out) (A6.out).one ?_; rw [World.setRow_alloc_new])
        | (refine wpList_load_row (o := ⟨some 60, _, _, _, _, _⟩) rfl 26 (.tmp 2) rfl (w.heap.size) rfl 26 cs (0, 0) _ R.out.b0 hu.out rfl (sizeA R.out.ac) ?_; simp only [Act.put, List.setIfInBounds_toArray, List.set_cons_zero, List.set_cons_succ])
        | (refine wpList_store_row rfl 26 (.tmp 4) (.tmp 60) rfl (w.heap.size + 1) cs rfl rfl 26 zA R.out.b1 (sizeA R.out.ac) (sizeAz R.out.ac) (R.out.ac).one ?_))
       refine bodyPost_ret (results_ct rfl _ _ (w.heap.size + 1) 26 cs (0, 0) _ rfl (blk_row R.out.b1 cs) hu.out rfl (sizeA R.out.ac)) rfl ?_
       exact R.out.fin R.out.ac
  ·have hjl : ¬ (j : Int) < (l.length : Int) := by omega
   have hs := hrem.out
   rw [List.drop_eq_nil_of_le (by omega)] at hs
   simp only [rowsS] at hs
   obtain rfl : fr = (x, 0) := by rw [← hf.out, ← hs]; rfl
   have R := Lib.hid hS.out.toR
   have AX := Lib.hid (hS.out.ao.mono (ok' := fun k => ok k ∧ k ≠ w.heap.size ∧ k ≠ w.heap.size + 1) fun _ hk => hk.1.1)
   have KG := Lib.hid hS.out.bg
   obtain ⟨A2, cl, hvl⟩ := Kd.R_slice hS.out.rs
   clear hS hrem hs hf hr
   go_wp2_with (first
    | (refine wpList_load_row (o := ⟨some 63, _, _, _, _, _⟩) rfl 26 (.tmp 6) rfl (g) rfl 26 cx (0, 0) _ KG.out hu.out rfl (sizeA AX.out) ?_; simp only [Act.put, List.setIfInBounds_toArray, List.set_cons_zero, List.set_cons_succ])
    | (refine wpList_store_row rfl 26 (.tmp 4) (.tmp 63) rfl (w.heap.size + 1) cx rfl rfl 26 zA R.out.b1 (sizeA AX.out) (sizeAz AX.out) (AX.out).one ?_))
   refine bodyPost_ret (results_ct rfl _ _ (w.heap.size + 1) 26 cx (0, 0) _ rfl (blk_row R.out.b1 cx) hu.out rfl (sizeA AX.out)) rfl ?_
   exact R.out.fin AX.out
end Go.Proofs.YtjkehapbemjnpaaDoor
