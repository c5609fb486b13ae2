/- The reference's list of numbers, walked by hand; each condition stands in its theorem. -/
import Derived.Test.YtjkehapbemjnpaaDoorVRBase
import Derived.Test.YtjkehapbemjnpaaDoorVTell33
namespace Go.Proofs.YtjkehapbemjnpaaDoor
open Go.RowKit Go.Proofs.YtjkehapbemjnpaaDoorW.PrintWords Go.Proofs.YtjkehapbemjnpaaDoorW.PrintLast Go.Proofs.YtjkehapbemjnpaaDoorW.PrintMore Lf Kit Cut Pl Num
set_option linter.unusedVariables false
set_option linter.unusedSimpArgs false
theorem own_str {W : World} {base : Nat} {ok : Nat → Prop} {v : Value} {xs : List ByteArray} (h : Kd.R Kd.string 9 W base ok v xs) (hne : xs ≠ []) :
  ∃ g c cur, v = .slice (some ⟨g, 0, none⟩) xs.length c ∧ base ≤ g ∧ W.heap[g]? = some (.cells cur 9 (0, 0)) ∧ xs.length ≤ c ∧ ∀ (j : Nat) (x : ByteArray), xs[j]? = some x → cur[j]? = some (Value.string x) := by
 obtain ⟨inner, _, ho⟩ := Kd.R_own h
 rcases ho with ⟨_, h0⟩ | ⟨g, c, cur, rfl, hb, hg, hc, _, _, _⟩
 ·exact absurd (List.length_eq_zero_iff.1 h0) hne
 ·obtain ⟨_, _, _, _, h3⟩ := Kd.R_reads' h
  refine ⟨g, c, cur, rfl, hb, hg, hc, fun j x hx => ?_⟩
  obtain ⟨ad, had, hcell⟩ := h3 (List.length_pos_iff.2 hne)
  obtain rfl := Option.some.inj had
  obtain ⟨cs, _, h5, h6⟩ := hcell j x hx
  obtain rfl : cs = [.string x] := h5
  have h7 := h6 0 _ rfl
  rw [Nat.add_zero, show j * Kd.string.sz = j from Nat.mul_one j] at h7
  have e : (⟨g, 0, none⟩ : Addr).add j = ⟨g, j, none⟩ := by
   unfold Addr.add
   split
   ·rename_i h0; rw [h0]
   ·simp
  rw [e, blk_cell hg] at h7
  exact h7
theorem ROut.keep {ok : Nat → Prop} {w w5 W : World} {cs co : Array Value} {a b : AskP} {g : Nat} (h : ROut ok w cs a g co b w5) (hk : KeepBut w5 W g none) (hB : Below w.heap.size w W) : RAt ok w cs a W where
 b0 := hk.blk h.b0 (by have := h.hg; omega) (by simp)
 b1 := hk.blk h.b1 (by have := h.hg; omega) (by simp)
 be := hB
 ac := (h.ac.bound.step fun k hk2 hlt => hk.2 k hk2.2 hk2.1.2 (by simp)).mono fun k hk2 => hk2.1.1
 sz := by have := blk_lt h.bg; have := h.hg; have := hk.1; omega
theorem ListAt.fin2 {ok : Nat → Prop} {w w5 W : World} {cs co : Array Value} {a b : AskP} {g : Nat} {l : List Int} (h : ROut ok w cs a g co b w5) (hL : ListAt co w w5 g W l) (hok : ∀ k, w.heap.size ≤ k → ok k) :
  ∃ v, W.heap[g]? = some (.cells (co.setIfInBounds 22 v) 26 (0, 0)) ∧ AskC W (fun k => ok k ∧ k ≠ w.heap.size ∧ k ≠ w.heap.size + 1) False (co.setIfInBounds 22 v) { b with x22 := l } := by
 obtain ⟨v, hb, hR, hn, hk, hB⟩ := hL
 refine ⟨v, hb, ?_⟩
 have h1 : AskC W (fun k => ok k ∧ k ≠ w.heap.size ∧ k ≠ w.heap.size + 1) False co b := (h.ao.bound.step fun k hk2 hlt => hk.2 k hk2.2 hk2.1.2 (by simp)).mono fun k hk2 => hk2.1.1
 have hlt := blk_lt h.bg
 have hg := h.hg
 exact h1.put22 v l ⟨Kd.R_V (base' := 0) (Kd.R_mono (Kd.R_bound hR) (fun q hq => ⟨hok q (by have := hq.2.1; omega), by have := hq.2.1; omega, by have := hq.2.1; omega⟩)), fun q => q.elim⟩
set_option maxRecDepth 100000 in
set_option maxHeartbeats 4000000 in
theorem rlist_calls (ok : Nat → Prop) (cs : Array Value) (a : AskP) (value : List Int) (w : World) (hA : AskC w ok False cs a) (hk : ∀ k, w.heap.size ≤ k → ok k) (hv : Byt value) (hl : value.length ≤ 800000) :
  Calls Tryd.prog 72 #[.agg cs, .string (strOfNums value)] w (RR ok w (match numsO (splitC 44 value) with
  | some l => if l.length ≤ 32 then ({ a with x22 := l }, 0) else (a, 4)
  | none => (a, 4))) := by
 have hu := Tryd.underlying26
 have R := RAt.start (ok := ok) hA
 have e1 : (w.alloc (.cells cs 26)).heap.size = w.heap.size + 1 := size_alloc _ _
 have HS := Lib.hid (rsplit_calls 44 (by omega) ⟨#[44]⟩ rfl value hv (by omega) ((w.alloc (.cells cs 26)).alloc (.cells zA 26)))
 have hbyt := Lib.hid (fun p hp => split_byt value.length (Nat.le_refl _) hv p hp : ∀ p ∈ splitC 44 value, Byt p)
 have hcnt := split_len 44 value.length value (Nat.le_refl _)
 have hne := split_ne 44 value
 generalize splitC 44 value = ps at HS hbyt hcnt hne ⊢
 generalize hr : (match numsO ps with
  | some l => if l.length ≤ 32 then (({ a with x22 := l }, 0) : AskP × Int) else (a, 4)
  | none => (a, 4)) = r
 replace hr := Lib.hid hr
 go_enter Tryd.func72, Tryd.ntmps72
 replace hu := Lib.hid hu
 replace e1 := Lib.hid e1
 replace R := Lib.hid R
 go_wp2_with (refine wpList_allocA rfl (some 4) rfl 26 rfl zA zA_info (w.heap.size + 1) e1.out ?_; simp only [Act.put, List.setIfInBounds_toArray, List.set_cons_zero, List.set_cons_succ])
 refine HS.out.mono ?_
 rintro e w3 ⟨v, rfl, RS, B3⟩
 obtain ⟨g1, c1, cur, hv1, _, K1, hlc, hcur⟩ := own_str RS (by intro h; have := congrArg List.length h; simp at this; rw [this] at hne; simp at hne)
 rw [List.length_map] at hv1 hlc
 subst hv1
 replace R := Lib.hid (R.out.below B3)
 have hcur2 := Lib.hid (fun j x hx => hcur j (strOfNums x) (by rw [List.getElem?_map, hx]; rfl) : ∀ (j : Nat) (x : List Int), ps[j]? = some x → cur[j]? = some (Value.string (strOfNums x)))
 replace K1 := Lib.hid K1
 clear HS B3 RS hcur
 by_cases h32 : 32 < ps.length
 ·have t1 : decide (32 < (ps.length : Int)) = true := decide_eq_true (by omega)
  have t2 : decide (32 < ps.length) = true := decide_eq_true h32
  obtain rfl : r = (a, 4) := by
   rw [← hr.out]
   cases hps : numsO ps with
   | none => rfl
   | some q => have := (numsO_at hps).1; simp only; rw [if_neg (by omega)]
  go_wp2_with (first
   | (refine wpList_load_row (o := ⟨some 16, _, _, _, _, _⟩) rfl 26 (.tmp 2) rfl (w.heap.size) rfl 26 cs (0, 0) _ R.out.b0 hu.out rfl (sizeA R.out.ac) ?_; simp only [Act.put, List.setIfInBounds_toArray, List.set_cons_zero, List.set_cons_succ])
   | (refine wpList_store_row rfl 26 (.tmp 4) (.tmp 16) rfl (w.heap.size + 1) cs rfl rfl 26 zA R.out.b1 (sizeA R.out.ac) (sizeAz R.out.ac) (R.out.ac).one ?_))
  refine bodyPost_ret (results_ct rfl _ _ (w.heap.size + 1) 26 cs (0, 0) _ rfl (blk_row R.out.b1 cs) hu.out rfl (sizeA R.out.ac)) rfl ?_
  exact R.out.fin R.out.ac
 ·have t1 : decide (32 < (ps.length : Int)) = false := decide_eq_false (by omega)
  have t2 : decide (32 < ps.length) = false := decide_eq_false h32
  have K7z := Lib.hid (blk_new w3 (.cells zA 26))
  have O := Lib.hid (ROut.start R.out R.out.ac)
  have K1a := Lib.hid (blk_alloc K1.out (.cells cs 26))
  have lt1 := blk_lt K1.out
  clear K1
  go_upto_region 5 with (first
   | (refine wpList_load_row (o := ⟨some 17, _, _, _, _, _⟩) rfl 26 (.tmp 2) rfl (w.heap.size) rfl 26 cs (0, 0) _ R.out.b0 hu.out rfl (sizeA R.out.ac) ?_; simp only [Act.put, List.setIfInBounds_toArray, List.set_cons_zero, List.set_cons_succ])
   | (refine wpList_allocA rfl (some 7) rfl 26 rfl zA zA_info (w3.heap.size) rfl ?_; simp only [Act.put, List.setIfInBounds_toArray, List.set_cons_zero, List.set_cons_succ])
   | (refine wpList_store_row rfl 26 (.tmp 7) (.tmp 17) rfl (w3.heap.size) cs rfl rfl 26 zA K7z.out (sizeA R.out.ac) (sizeAz R.out.ac) (R.out.ac).one ?_; rw [World.setRow_alloc_new]))
  clear K7z R
  have ne1 : g1 ≠ w3.heap.size := by omega
  clear lt1
  generalize w3.heap.size = g at *
  generalize w3.alloc (.cells cs 26) = w4 at *
  obtain ⟨old, k0, _⟩ := O.out.ac.get 22 (by decide)
  have c0 : w4.cell? ⟨g, 22, none⟩ = some old := (blk_cell O.out.bg 22).trans k0
  have z0 := blk_frozen O.out.bg 22
  replace O := Lib.hid (O.out.setc 22 (.slice none 0 0) (O.out.ao.put22 (.slice none 0 0) [] ⟨Kd.V_nil (Kd.int .i64) 3 w4 0 _, fun _ _ => rfl⟩))
  have K1 := Lib.hid (blk_far K1a.out (p := ⟨g, 22, none⟩) ne1 (.slice none 0 0))
  have k5 : (cs.setIfInBounds 22 (.slice none 0 0))[22]? = some (.slice none 0 0) := by
   rw [Array.getElem?_setIfInBounds, if_pos rfl, if_pos (Array.getElem?_eq_some_iff.1 k0).1]
  clear K1a k0
  go_upto_region 6 with fail
  clear c0 z0
  generalize w4.setCell ⟨g, 22, none⟩ (.slice none 0 0) = w5 at *
  generalize cs.setIfInBounds 22 (.slice none 0 0) = co at *
  have L0 : ListAt co w w5 g w5 [] := ⟨.slice none 0 0, by rw [setIf_self k5]; exact O.out.bg, Kd.R_nil _ _ _ _ _, fun _ => rfl, KeepBut.refl _ _ _, O.out.be⟩
  have lt1 := blk_lt O.out.bg
  have hgs := O.out.hg
  replace L0 := Lib.hid L0
  have sz0 := O.out.ao.size
  go_wp2_with fail
  go_loopw [8] (fun s wr => ∃ (j : Nat) (l : List Int), j ≤ ps.length ∧ s = .int .i64 j ∧ Hid (numsO (ps.take j) = some l) ∧ Hid (l.length = j) ∧ Hid (ListAt co w w5 g wr l)) (fun s _ => ps.length - (intOf s).toNat)
  case atStart => exact ⟨0, [], Nat.zero_le _, rfl, rfl, rfl, L0.out⟩
  case round =>
   obtain ⟨j, l, hj, rfl, hn, hlj, hL⟩ := hrel
   by_cases hjn : j < ps.length
   ·have hjl : (j : Int) < (ps.length : Int) := by omega
    obtain ⟨x, hx⟩ : ∃ x, ps[j]? = some x := ⟨_, List.getElem?_eq_getElem hjn⟩
    have hkb : wr.heap[g1]? = some (.cells cur 9 (0, 0)) := by
     obtain ⟨_, _, _, _, hk2, _⟩ := hL.out
     exact hk2.blk K1.out ne1 (by simp)
    have c1 : wr.cell? ⟨g1, j, none⟩ = some (.string (strOfNums x)) := (blk_cell hkb j).trans (hcur2.out j x hx)
    have hxb := hbyt.out x (List.mem_of_getElem? hx)
    have HN := Lib.hid (rnum_calls x hxb wr)
    clear hkb
    cases hnx : numO x with
    | none =>
     rw [hnx] at HN
     obtain rfl : r = (a, 4) := by rw [← hr.out, numsO_take j ⟨l, hn.out⟩ (fun y hy => by rw [hx] at hy; obtain rfl := Option.some.inj hy; exact hnx) hjn]
     replace hx := Lib.hid hx
     have t3 : (none : Option Int).isSome = false := rfl
     go_wp2_with fail
     refine HN.out.mono ?_
     rintro e w6 ⟨n, rfl, _, ⟨nd, rfl⟩⟩
     have R := Lib.hid (by obtain ⟨_, _, _, _, hk2, hB2⟩ := hL.out.drewN nd; exact O.out.keep hk2 hB2 : RAt ok w cs a (wr.drewN nd))
     clear HN hL hr hnx hxb c1
     go_wp2_with (first
      | (refine wpList_load_row (o := ⟨some 35, _, _, _, _, _⟩) rfl 26 (.tmp 2) rfl (w.heap.size) rfl 26 cs (0, 0) _ R.out.b0 hu.out rfl (sizeA R.out.ac) ?_; simp only [Act.put, List.setIfInBounds_toArray, List.set_cons_zero, List.set_cons_succ])
      | (refine wpList_store_row rfl 26 (.tmp 4) (.tmp 35) rfl (w.heap.size + 1) cs rfl rfl 26 zA R.out.b1 (sizeA R.out.ac) (sizeAz R.out.ac) (R.out.ac).one ?_))
     refine bodyPost_ret (results_ct rfl _ _ (w.heap.size + 1) 26 cs (0, 0) _ rfl (blk_row R.out.b1 cs) hu.out rfl (sizeA R.out.ac)) rfl ?_
     exact R.out.fin R.out.ac
    | some n =>
     rw [hnx] at HN
     have hsn := Lib.hid (numsO_snoc hn.out hnx)
     have hsn2 : Hid (numsO (ps.take (j + 1)) = some (l ++ [n])) := by
      rw [List.take_succ_eq_append_getElem hjn, ← Option.some.inj ((List.getElem?_eq_getElem hjn).symm.trans hx).symm]
      exact hsn.out
     clear hsn hnx hxb
     replace hx := Lib.hid hx
     have t3 : (some n : Option Int).isSome = true := rfl
     go_wp2_with fail
     refine HN.out.mono ?_
     rintro e w6 ⟨n', rfl, hn', ⟨nd, rfl⟩⟩
     obtain rfl := hn' n rfl
     obtain ⟨v, hb, hR, hnl, hk2, hB2⟩ := hL.out.drewN nd
     obtain ⟨A, c, hvs⟩ := Kd.R_slice hR
     rw [hlj.out] at hvs
     have ltg := blk_lt hb
     have k0 : (wr.drewN nd).cell? ⟨g, 22, none⟩ = some (.slice A j c) := (blk_cell hb 22).trans (by rw [← hvs, Array.getElem?_setIfInBounds]; simp [sz0])
     subst hvs
     replace hR := Lib.hid hR
     replace hk2 := Lib.hid hk2
     replace hB2 := Lib.hid hB2
     replace hb := Lib.hid hb
     have hle := keep_size hk2.out
     clear HN hL hnl hn' c1
     generalize wr.drewN nd = W at *
     have fin : ∀ v1 w7, Kd.R (Kd.int .i64) 3 w7 w5.heap.size (fun _ => True) v1 (l ++ [n']) → Below w5.heap.size W w7 → ListAt co w w5 g (w7.setCell ⟨g, 22, none⟩ v1) (l ++ [n']) := by
      intro v1 w7 h3 h4
      have hb3 := (h4.block g lt1).trans hb.out
      have hk3 : KeepBut w5 w7 g none := ⟨Nat.le_trans hk2.out.1 h4.size, fun i hi h5 h6 => (h4.block i hi).trans (hk2.out.2 i hi h5 h6)⟩
      refine ⟨v1, blk_put hb3 22 v1 setIf_again, Kd.R_far (Kd.R_mono (Kd.R_bound h3) (fun k hk => show k ≠ g from by have := hk.2.1; omega)) (fun k hk => hk) v1 |> fun q => Kd.R_mono q (fun _ _ => trivial), fun h5 => by simp at h5, hk3.set_ _ _, ?_⟩
      exact below_set (hB2.out.trans (h4.mono O.out.be.size)) (by omega)
     replace fin := Lib.hid fin
     go_wp2_with (first | ((with_reducible refine gate_builtin (b := .append) (xs := #[.tmp 37, .tmp 39]) rfl ?_); at_builtin; refine Kd.R_append (Kd.int .i64) (w0 := W) w5.heap.size rfl (.tmp 37) (.tmp 39) 24 3 (.int .i64 0) 8 rfl Tryd.underlying24 info3 rfl (by decide) (by omega) (.slice A j c) l n' [.int .i64 n'] (fun _ => True) (fun _ => False) rfl rfl ?aP (fun _ hk => hk.elim) ?aF ?aO ?aB ?aS ?aL ?_; (case aP => exact rfl); (case aB => exact Below.refl _ _); (case aF => exact (fun _ _ => trivial)); (case aO => exact hR.out); (case aS => exact hle); (case aL => have := hlj.out; omega); intro v1 w7 ho hb2 hg2 hat; obtain ⟨A1, cA, rfl⟩ := Kd.R_slice ho; have L1 := Lib.hid (fin.out _ w7 ho hb2); have z1 : w7.frozen? ⟨g, 22, none⟩ = false := (hb2.frozen (p := ⟨g, 22, none⟩) lt1).trans (blk_frozen hb.out 22); have k1 : w7.cell? ⟨g, 22, none⟩ = some (.slice A j c) := (hb2.cell (p := ⟨g, 22, none⟩) lt1).trans k0; clear ho hb2 hg2 hat))
     go_roundw
     case rel => exact ⟨j + 1, l ++ [n'], by omega, by go_num, hsn2, by rw [List.length_append, hlj.out]; rfl, by have q := L1.out; rw [List.length_append, List.length_singleton] at q; exact q⟩
     case measure => simp [intOf]; omega
   ·have hjl : ¬ (j : Int) < (ps.length : Int) := by omega
    obtain rfl : r = ({ a with x22 := l }, 0) := by
     rw [← hr.out, ← List.take_of_length_le (l := ps) (i := j) (by omega), hn.out]
     simp only
     rw [if_pos (by have := hlj.out; omega)]
    have R := Lib.hid (by obtain ⟨_, _, _, _, hk2, hB2⟩ := hL.out; exact O.out.keep hk2 hB2 : RAt ok w cs a wr)
    obtain ⟨v, hb, hAF⟩ := ListAt.fin2 O.out hL.out hk
    generalize co.setIfInBounds 22 v = cF at *
    replace hb := Lib.hid hb
    replace hAF := Lib.hid hAF
    clear hL hr
    go_wp2_with (first
     | (refine wpList_load_row (o := ⟨some 42, _, _, _, _, _⟩) rfl 26 (.tmp 7) rfl (g) rfl 26 cF (0, 0) _ hb.out hu.out rfl (sizeA hAF.out) ?_; simp only [Act.put, List.setIfInBounds_toArray, List.set_cons_zero, List.set_cons_succ])
     | (refine wpList_store_row rfl 26 (.tmp 4) (.tmp 42) rfl (w.heap.size + 1) cF rfl rfl 26 zA R.out.b1 (sizeA hAF.out) (sizeAz hAF.out) (hAF.out).one ?_))
    refine bodyPost_ret (results_ct rfl _ _ (w.heap.size + 1) 26 cF (0, 0) _ rfl (blk_row R.out.b1 cF) hu.out rfl (sizeA hAF.out)) rfl ?_
    exact R.out.fin hAF.out
end Go.Proofs.YtjkehapbemjnpaaDoor
