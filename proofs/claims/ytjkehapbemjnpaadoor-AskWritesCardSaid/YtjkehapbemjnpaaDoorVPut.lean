/- A request as bytes, or why it can't be, walked by hand: it comes to what putS tells; each condition stands in its theorem. -/
import Derived.Test.YtjkehapbemjnpaaDoorVPutT
import Derived.Deep.DeepCutAuto
namespace Go.Proofs.YtjkehapbemjnpaaDoor
open Go.RowKit Go.Proofs.YtjkehapbemjnpaaDoorW.PrintWords Go.Proofs.YtjkehapbemjnpaaDoorW.PrintLast Go.Proofs.YtjkehapbemjnpaaDoorW.PrintMore Lf Kit Cut Pl Num
set_option linter.unusedVariables false
set_option linter.unusedSimpArgs false
set_option maxRecDepth 100000 in
set_option maxHeartbeats 8000000 in
theorem put_calls (ca : Array Value) (ok : Nat → Prop) (nl : Prop) (a : AskP) (w : World) (hA : AskC w ok nl ca a) (sa : AskS a) (hG : GF w) :
  Calls Tryd.prog 13 #[.agg ca] w (BytesR w (putS a)) := by
 have hu := Tryd.underlying26
 have TW := Lib.hid (OneAt.start hA)
 have HW : ∀ W, Hid (Calls Tryd.prog 10 #[.int .i64 a.x0] W fun e w' => e = .returned (.string (strOfNums (wordS a.x0))) ∧ Below W.heap.size W w') := fun W => by
  have := Word_calls a.x0 W
  rw [wordOf_eq] at this
  exact this
 have hwl := wordS_len a.x0
 generalize hR : putS a = r
 replace hR := Lib.hid hR
 have c0 : (w.alloc (.cells ca 26)).cell? ⟨w.heap.size, 0, none⟩ = some (.int .i64 a.x0) := TW.out.str 0 (.int .i64 a.x0) (fun cs hc => by obtain ⟨v, hv, rfl⟩ := hc.get 0 (by decide); exact hv)
 generalize hx0 : a.x0 = x0 at c0
 go_enter Tryd.func13, Tryd.ntmps13
 replace hu := Lib.hid hu
 subst hx0
 go_wp2_with fail
 refine (HW _).out.mono ?_
 rintro e w2 ⟨rfl, B2⟩
 replace TW := Lib.hid (TW.out.below B2)
 clear B2 c0 hA
 by_cases hw0 : wordS a.x0 = []
 ·obtain rfl : r = ([], 19) := hR.out.symm.trans (put_no (by unfold checkS; rw [if_pos hw0]) (by decide))
  generalize hsw : strOfNums (wordS a.x0) = sw
  have t1 := str_no hsw hw0
  replace hsw := Lib.hid hsw
  replace hw0 := Lib.hid hw0
  go_wp2_with fail
  go_ret2
  exact bytesR_no 19 TW.out.2
 ·have c23 : w2.cell? ⟨w.heap.size, 23, none⟩ = some (.int .i64 a.x23) := TW.out.str 23 (.int .i64 a.x23) (fun cs hc => by obtain ⟨v, hv, rfl⟩ := hc.get 23 (by decide); exact hv)
  have c0 : w2.cell? ⟨w.heap.size, 0, none⟩ = some (.int .i64 a.x0) := TW.out.str 0 (.int .i64 a.x0) (fun cs hc => by obtain ⟨v, hv, rfl⟩ := hc.get 0 (by decide); exact hv)
  generalize hsw : strOfNums (wordS a.x0) = sw at HW
  have t1 := str_yes hsw hw0
  replace hw0 := Lib.hid hw0
  by_cases hst : a.x23 < 0 ∨ 2 < a.x23
  ·obtain rfl : r = ([], 4) := hR.out.symm.trans (put_no (by unfold checkS; rw [if_neg hw0.out, if_pos hst]) (by decide))
   have ht : decide (a.x23 < 0) = true ∨ (decide (a.x23 < 0) = false ∧ decide (2 < a.x23) = true) := by
    by_cases h : a.x23 < 0
    ·exact .inl (decide_eq_true h)
    ·exact .inr ⟨decide_eq_false h, decide_eq_true (by omega)⟩
   replace hsw := Lib.hid hsw
   generalize a.x23 = m23 at c23 ht
   rcases ht with t2 | ⟨t2, t3⟩
   all_goals
    go_wp2_with fail
    go_ret2
    exact bytesR_no 4 TW.out.2
  ·have hs3 : 0 ≤ a.x23 ∧ a.x23 ≤ 2 := by omega
   have t2 : decide (a.x23 < 0) = false := decide_eq_false (by omega)
   have t3 : decide (2 < a.x23) = false := decide_eq_false (by omega)
   replace hs3 := Lib.hid hs3
   replace hsw := Lib.hid hsw
   generalize hm23 : a.x23 = m23 at c23 t2 t3
   replace hm23 := Lib.hid hm23
   replace hst := Lib.hid hst
   go_wp2_with fail
   refine (HW _).out.mono ?_
   rintro e w3 ⟨rfl, B3⟩
   replace TW := Lib.hid (TW.out.below B3)
   clear B3 c0 c23 HW
   have c1 : w3.cell? ⟨w.heap.size, 1, none⟩ = some (.string (strOfNums a.x1)) := TW.out.str 1 _ (fun cs hc => by obtain ⟨v, hv, rfl⟩ := hc.get 1 (by decide); exact hv)
   have c2 : w3.cell? ⟨w.heap.size, 2, none⟩ = some (.string (strOfNums a.x2)) := TW.out.str 2 _ (fun cs hc => by obtain ⟨v, hv, rfl⟩ := hc.get 2 (by decide); exact hv)
   have hz1 := sa.l1
   have hz2 := sa.l2
   generalize hq1 : strOfNums a.x1 = s1 at c1
   generalize hq2 : strOfNums a.x2 = s2 at c2
   have z1 : s1.size ≤ 3000 := str_sz hq1 3000 hz1
   have z2 : s2.size ≤ 3000 := str_sz hq2 3000 hz2
   have z0 : sw.size ≤ 20 := str_sz hsw.out 20 hwl
   have n1 := fun h => str_no hq1 h
   have y1 := fun h => str_yes hq1 h
   have n2 := fun h => str_no hq2 h
   have y2 := fun h => str_yes hq2 h
   replace n1 := Lib.hid n1
   replace y1 := Lib.hid y1
   replace n2 := Lib.hid n2
   replace y2 := Lib.hid y2
   replace hq1 := Lib.hid hq1
   replace hq2 := Lib.hid hq2
   replace sa := Lib.hid sa
   generalize hbb : (!(decide (a.x1 = []) && decide (a.x2 = []))) = bb
   replace hbb := Lib.hid hbb
   go_upto_region 6 with fail
   go_cut [38] (fun s38 wx => s38 = .bool bb ∧ Hid (OneAt w w.heap.size ca a wx))
   case first =>
    by_cases h1 : a.x1 = []
    ·have t4 := n1.out h1
     by_cases h2 : a.x2 = []
     ·have t5 := n2.out h2
      obtain rfl : bb = false := by rw [← hbb.out, decide_eq_true h1, decide_eq_true h2]; rfl
      replace h1 := Lib.hid h1
      replace h2 := Lib.hid h2
      go_wp2_with fail
      go_meet
      exact ⟨rfl, TW⟩
     ·have t5 := y2.out h2
      obtain rfl : bb = true := by rw [← hbb.out, decide_eq_true h1, decide_eq_false h2]; rfl
      replace h1 := Lib.hid h1
      replace h2 := Lib.hid h2
      go_wp2_with fail
      go_meet
      exact ⟨rfl, TW⟩
    ·have t4 := y1.out h1
     obtain rfl : bb = true := by rw [← hbb.out, decide_eq_false h1]; rfl
     replace h1 := Lib.hid h1
     go_wp2_with fail
     go_meet
     exact ⟨rfl, TW⟩
   case rest =>
    clear TW c1 c2
    obtain ⟨rfl, TW⟩ := hcut
    have c1 : wc.cell? ⟨w.heap.size, 1, none⟩ = some (.string s1) := TW.out.str 1 _ (fun cs hc => by obtain ⟨v, hv, rfl⟩ := hc.get 1 (by decide); rw [← hq1.out]; exact hv)
    have c2 : wc.cell? ⟨w.heap.size, 2, none⟩ = some (.string s2) := TW.out.str 2 _ (fun cs hc => by obtain ⟨v, hv, rfl⟩ := hc.get 2 (by decide); rw [← hq2.out]; exact hv)
    go_upto_if 38 with fail
    generalize hsh : strOfNums (headS a) = sh
    have zh : sh.size ≤ 7000 := str_sz hsh 7000 (by
     unfold headS
     simp only [List.length_append]
     have h5 : (if a.x1 = [] ∧ a.x2 = [] then [] else 32 :: a.x1).length ≤ 3001 := by split <;> simp <;> omega
     have h6 : (if a.x2 = [] then [] else 47 :: a.x2).length ≤ 3001 := by split <;> simp <;> omega
     omega)
    replace hsh := Lib.hid hsh
    go_cut [4] (fun s4 wx => s4 = .string sh ∧ Hid (OneAt w w.heap.size ca a wx))
    case first =>
     cases bb with
     | false =>
      obtain rfl : sh = sw := by
       have h1 := hbb.out
       simp only [Bool.not_eq_false', Bool.and_eq_true, decide_eq_true_eq] at h1
       rw [← hsh.out, ← hsw.out]
       unfold headS
       rw [if_pos h1, if_pos h1.2, List.append_nil, List.append_nil]
      go_wp2_with fail
      go_meet
      exact ⟨rfl, TW⟩
     | true =>
      have h1 : ¬ (a.x1 = [] ∧ a.x2 = []) := fun h => by
       have := hbb.out
       rw [decide_eq_true h.1, decide_eq_true h.2] at this
       cases this
      by_cases h2 : a.x2 = []
      ·have t5 := n2.out h2
       obtain rfl : sh = sw ++ ((⟨#[32]⟩ : ByteArray) ++ s1) := by
        rw [← hsh.out, ← hsw.out, ← hq1.out, show (⟨#[32]⟩ : ByteArray) = strOfNums [32] from rfl, str_app, str_app]
        unfold headS
        rw [if_neg h1, if_pos h2, List.append_nil]
        rfl
       replace h1 := Lib.hid h1
       replace h2 := Lib.hid h2
       go_wp2_with fail
       go_meet
       exact ⟨rfl, TW⟩
      ·have t5 := y2.out h2
       obtain rfl : sh = sw ++ ((⟨#[32]⟩ : ByteArray) ++ s1) ++ ((⟨#[47]⟩ : ByteArray) ++ s2) := by
        rw [← hsh.out, ← hsw.out, ← hq1.out, ← hq2.out, show (⟨#[32]⟩ : ByteArray) = strOfNums [32] from rfl, show (⟨#[47]⟩ : ByteArray) = strOfNums [47] from rfl, str_app, str_app, str_app, str_app]
        unfold headS
        rw [if_neg h1, if_neg h2]
        rfl
       replace h1 := Lib.hid h1
       replace h2 := Lib.hid h2
       go_wp2_with fail
       go_meet
       exact ⟨rfl, TW⟩
    case rest =>
     clear TW c1 c2 n1 n2 y1 y2 t1 t2 t3
     obtain ⟨rfl, TW⟩ := hcut
     go_wp2_with fail
     have HSP := hsh
     refine (texts_calls w.heap.size _).mono ?_
     rintro e w1 ⟨p1, q1, rfl, K1, M1, -, -, B1⟩
     replace TW := Lib.hid (TW.out.below B1)
     replace K1 := Lib.hid K1
     replace M1 := Lib.hid M1
     clear B1
     go_wp2_with fail
     go_loopw [58, 4] (fun s v wr => ∃ (j : Nat) (sv : ByteArray), j ≤ 6 ∧ s = .int .i64 j ∧ v = .string sv ∧ Hid (strOfNums (headS a ++ accR tL a.t j) = sv) ∧ sv.size ≤ 7000 + 6100 * j ∧ Hid (OneAt w w.heap.size ca a wr) ∧ Hid (wr.heap[p1]? = some (.cells (tW.map Value.string).toArray 9 (0, 0))) ∧ Hid (wr.heap[q1]? = some (.cells (tP.map fun p => Value.pointer (some ⟨w.heap.size, p, none⟩)).toArray 57 (0, 0)))) (fun s _ _ => 6 - (intOf s).toNat)
     case atStart => exact ⟨0, _, Nat.zero_le _, rfl, rfl, (by rw [accR, List.append_nil]; exact HSP.out), by omega, TW.out, K1.out, M1.out⟩
     case round =>
      clear TW K1 M1
      obtain ⟨j, sv, hj, rfl, rfl, HS, hz, TW, K1, M1⟩ := hrel
      by_cases hjn : j < 6
      ·have hjl : (j : Int) < 6 := by omega
       have x1 : wr.cell? ⟨p1, j, none⟩ = some (.string (tW.getD j ⟨#[]⟩)) := (blk_cell K1.out j).trans (map_at tW j hjn)
       have x2 : wr.cell? ⟨q1, j, none⟩ = some (.pointer (some ⟨w.heap.size, tP.getD j 0, none⟩)) := (blk_cell M1.out j).trans (ptr_at w.heap.size tP j hjn)
       have hgw : tW.getD j ⟨#[]⟩ = strOfNums (tL.getD j []) := by rw [tW_eq]; exact getD_str tL j
       have hwl2 := getD_len (L := tL) (m := 20) (by decide) j
       have hacc : strOfNums (headS a ++ accR tL a.t (j + 1)) = sv ++ strOfNums (rowL (tL.getD j []) (a.t j)) := by
        rw [← HS.out, str_app]
        exact congrArg strOfNums (List.append_assoc _ _ _).symm
       have hrl := rowL_len (tL.getD j []) (a.t j) hwl2
       rw [hgw] at x1
       have x3 : wr.cell? ⟨w.heap.size, tP.getD j 0, none⟩ = some (.string (strOfNums (a.t j))) := TW.out.1.cellS _ _ (TW.out.1.2.tGet j hjn)
       have hal := sa.out.t j
       generalize tP.getD j 0 = p at x2 x3
       by_cases hv : a.t j = []
       ·generalize hq3 : strOfNums (a.t j) = s3 at x3
        have t4 := str_no hq3 hv
        have hn2 : Hid (strOfNums (headS a ++ accR tL a.t (j + 1)) = sv) := by rw [hacc, hv, rowL_nil]; exact ByteArray.append_empty
        replace hq3 := Lib.hid hq3
        replace hv := Lib.hid hv
        clear hacc hgw
        generalize strOfNums (tL.getD j []) = sw1 at *
        go_wp2_with fail
        go_roundw
        case rel => exact ⟨j + 1, sv, by omega, by go_num, rfl, hn2, by omega, TW.out, K1.out, M1.out⟩
        case measure => simp [intOf]; omega
       ·have HRo := fun W => Lib.hid (row_calls (tL.getD j []) (a.t j) hv (by omega) (by omega) W)
        generalize hq3 : strOfNums (a.t j) = s3 at x3 HRo
        have t4 := str_yes hq3 hv
        generalize hq4 : strOfNums (rowL (tL.getD j []) (a.t j)) = rv at HRo hacc
        have z4 : rv.size ≤ 3100 := str_sz hq4 3100 (by omega)
        have hzz : ¬ 9223372036854775807 < sv.size + rv.size := by omega
        have z5 : (sv ++ rv).size ≤ 7000 + 6100 * (j + 1) := by rw [ByteArray.size_append]; omega
        replace hacc := Lib.hid hacc
        replace hq3 := Lib.hid hq3
        replace hq4 := Lib.hid hq4
        replace hv := Lib.hid hv
        clear hgw
        generalize strOfNums (tL.getD j []) = sw1 at *
        go_wp2_with fail
        go_region_held3 (fun W' => W'.cell? ⟨p1, j, none⟩ = some (.string sw1) ∧ W'.cell? ⟨q1, j, none⟩ = some (.pointer (some ⟨w.heap.size, p, none⟩)) ∧ W'.cell? ⟨w.heap.size, p, none⟩ = some (.string s3)) (exact ⟨x1, x2, x3⟩) (((with_reducible refine (HRo _).out.mono ?_); rintro e wS ⟨rfl, ⟨nS, rfl⟩⟩))
        go_wp2_with fail
        go_roundw
        case rel => exact ⟨j + 1, sv ++ rv, by omega, by go_num, rfl, hacc.out, z5, TW.out.drewN _, K1.out, M1.out⟩
        case measure => simp [intOf]; omega
      ·have hjl : ¬ (j : Int) < 6 := by omega
       obtain rfl : j = 6 := by omega
       clear K1 M1
       have HSP := HS
       clear HS
       go_wp2_with fail
       refine (octets_calls w.heap.size _).mono ?_
       rintro e w2 ⟨p2, q2, rfl, K2, M2, -, -, B2⟩
       replace TW := Lib.hid (TW.out.below B2)
       replace K2 := Lib.hid K2
       replace M2 := Lib.hid M2
       clear B2
       go_wp2_with fail
       go_loopw [88, 4] (fun s v wr => ∃ (j : Nat) (sv : ByteArray), j ≤ 4 ∧ s = .int .i64 j ∧ v = .string sv ∧ Hid (strOfNums ((headS a ++ accR tL a.t 6) ++ accR oL (fun k => Six.enc (a.o k)) j) = sv) ∧ sv.size ≤ 43600 + 6100 * j ∧ Hid (OneAt w w.heap.size ca a wr) ∧ Hid (wr.heap[p2]? = some (.cells (oW.map Value.string).toArray 9 (0, 0))) ∧ Hid (wr.heap[q2]? = some (.cells (oP.map fun p => Value.pointer (some ⟨w.heap.size, p, none⟩)).toArray 62 (0, 0)))) (fun s _ _ => 4 - (intOf s).toNat)
       case atStart => exact ⟨0, _, Nat.zero_le _, rfl, rfl, (by rw [accR, List.append_nil]; exact HSP.out), by omega, TW.out, K2.out, M2.out⟩
       case round =>
        clear TW K2 M2
        obtain ⟨j, sv, hj, rfl, rfl, HS, hz, TW, K2, M2⟩ := hrel
        by_cases hjn : j < 4
        ·have hjl : (j : Int) < 4 := by omega
         have x1 : wr.cell? ⟨p2, j, none⟩ = some (.string (oW.getD j ⟨#[]⟩)) := (blk_cell K2.out j).trans (map_at oW j hjn)
         have x2 : wr.cell? ⟨q2, j, none⟩ = some (.pointer (some ⟨w.heap.size, oP.getD j 0, none⟩)) := (blk_cell M2.out j).trans (ptr_at w.heap.size oP j hjn)
         have hgw : oW.getD j ⟨#[]⟩ = strOfNums (oL.getD j []) := by rw [oW_eq]; exact getD_str oL j
         have hwl2 := getD_len (L := oL) (m := 20) (by decide) j
         have hacc : strOfNums ((headS a ++ accR tL a.t 6) ++ accR oL (fun k => Six.enc (a.o k)) (j + 1)) = sv ++ strOfNums (rowL (oL.getD j []) ((fun k => Six.enc (a.o k)) j)) := by
          rw [← HS.out, str_app]
          exact congrArg strOfNums (List.append_assoc _ _ _).symm
         have hrl := rowL_len (oL.getD j []) ((fun k => Six.enc (a.o k)) j) hwl2
         rw [hgw] at x1
         obtain ⟨A, c, x3, lc, C⟩ := TW.out.1.oct j hjn
         have hal := sa.out.o j
         generalize oP.getD j 0 = p at x2 x3
         by_cases hv : a.o j = []
         ·have t4 : decide (0 < (a.o j).length) = false := by rw [hv]; rfl
          have t5 : decide (0 < ((a.o j).length : Int)) = false := by rw [hv]; rfl
          have hn2 : Hid (strOfNums ((headS a ++ accR tL a.t 6) ++ accR oL (fun k => Six.enc (a.o k)) (j + 1)) = sv) := by rw [hacc]; show sv ++ strOfNums (rowL _ (Six.enc (a.o j))) = sv; rw [hv]; exact ByteArray.append_empty
          replace hv := Lib.hid hv
          clear hacc hgw C
          generalize strOfNums (oL.getD j []) = sw1 at *
          go_wp2_with fail
          go_roundw
          case rel => exact ⟨j + 1, sv, by omega, by go_num, rfl, hn2, by omega, TW.out, K2.out, M2.out⟩
          case measure => simp [intOf]; omega
         ·have hlp := List.length_pos_iff.2 hv
          have t4 : decide (0 < (a.o j).length) = true := decide_eq_true hlp
          have t5 : decide (0 < ((a.o j).length : Int)) = true := decide_eq_true (by omega)
          have hel := (Six.enc_len (a.o j)).2
          have H6 := put6_calls A c (a.o j) wr.drew (Kd.C_drew C) lc (sa.out.b.o j).1 (by omega)
          have hacc2 : strOfNums ((headS a ++ accR tL a.t 6) ++ accR oL (fun k => Six.enc (a.o k)) (j + 1)) = sv ++ strOfNums (rowL (oL.getD j []) (Six.enc (a.o j))) := hacc
          have hrl2 : (rowL (oL.getD j []) (Six.enc (a.o j))).length ≤ (Six.enc (a.o j)).length + 30 := hrl
          have HRo := fun W => Lib.hid (row_calls (oL.getD j []) (Six.enc (a.o j)) (Six.enc_ne hv) (by omega) (by omega) W)
          generalize hq3 : strOfNums (Six.enc (a.o j)) = s3 at H6 HRo
          generalize hq4 : strOfNums (rowL (oL.getD j []) (Six.enc (a.o j))) = rv at HRo hacc2
          have z4 : rv.size ≤ 6100 := str_sz hq4 6100 (by omega)
          have hzz : ¬ 9223372036854775807 < sv.size + rv.size := by omega
          have z5 : (sv ++ rv).size ≤ 43600 + 6100 * (j + 1) := by rw [ByteArray.size_append]; omega
          have lt1 := blk_lt K2.out
          have lt2 := blk_lt M2.out
          have lt3 := blk_lt TW.out.1.1
          replace hacc2 := Lib.hid hacc2
          replace H6 := Lib.hid H6
          replace hq3 := Lib.hid hq3
          replace hq4 := Lib.hid hq4
          replace hv := Lib.hid hv
          clear hgw C hacc hrl
          generalize strOfNums (oL.getD j []) = sw1 at *
          go_wp2_with fail
          go_region_held3 (fun W' => W'.cell? ⟨p2, j, none⟩ = some (.string sw1) ∧ W'.cell? ⟨q2, j, none⟩ = some (.pointer (some ⟨w.heap.size, p, none⟩)) ∧ W'.cell? ⟨w.heap.size, p, none⟩ = some (.slice A (a.o j).length c)) (first | exact ⟨x1, x2, x3⟩ | exact ⟨y1, y2, y3⟩) ((first
           | ((with_reducible refine H6.out.mono ?_); rintro e wS ⟨rfl, BS⟩; have y1 : wS.cell? ⟨p2, j, none⟩ = some (.string sw1) := (BS.cell (p := ⟨p2, j, none⟩) lt1).trans x1; have y2 : wS.cell? ⟨q2, j, none⟩ = some (.pointer (some ⟨w.heap.size, p, none⟩)) := (BS.cell (p := ⟨q2, j, none⟩) lt2).trans x2; have y3 : wS.cell? ⟨w.heap.size, p, none⟩ = some (.slice A (a.o j).length c) := (BS.cell (p := ⟨w.heap.size, p, none⟩) lt3).trans x3; have TW2 := Lib.hid (TW.out.drew.below BS); have K3 := Lib.hid (blk_below (blk_drew K2.out) BS); have M3 := Lib.hid (blk_below (blk_drew M2.out) BS); clear BS)
           | ((with_reducible refine (HRo _).out.mono ?_); rintro e wS2 ⟨rfl, ⟨nS, rfl⟩⟩)))
          go_wp2_with fail
          go_roundw
          case rel => exact ⟨j + 1, sv ++ rv, by omega, by go_num, rfl, hacc2.out, z5, TW2.out.drewN _, K3.out, M3.out⟩
          case measure => simp [intOf]; omega
        ·have hjl : ¬ (j : Int) < 4 := by omega
         obtain rfl : j = 4 := by omega
         clear K2 M2
         have HSP := HS
         clear HS
         go_wp2_with fail
         refine (numbers_calls w.heap.size _).mono ?_
         rintro e w3 ⟨p3, q3, rfl, K3, M3, -, -, B3⟩
         replace TW := Lib.hid (TW.out.below B3)
         replace K3 := Lib.hid K3
         replace M3 := Lib.hid M3
         clear B3
         go_wp2_with fail
         go_loopw [120, 4] (fun s v wr => ∃ (j : Nat) (sv : ByteArray), j ≤ 6 ∧ s = .int .i64 j ∧ v = .string sv ∧ Hid (strOfNums ((headS a ++ accR tL a.t 6 ++ accR oL (fun k => Six.enc (a.o k)) 4) ++ accR nL (fun k => told (a.n k) (leastN k)) j) = sv) ∧ sv.size ≤ 68000 + 6100 * j ∧ Hid (OneAt w w.heap.size ca a wr) ∧ Hid (wr.heap[p3]? = some (.cells (nW.map Value.string).toArray 9 (0, 0))) ∧ Hid (wr.heap[q3]? = some (.cells (nP.map fun p => Value.pointer (some ⟨w.heap.size, p, none⟩)).toArray 67 (0, 0))) ∧ Hid (∀ k, k < j → leastN k ≤ a.n k ∧ a.n k ≤ most)) (fun s _ _ => 6 - (intOf s).toNat)
         case atStart => exact ⟨0, _, Nat.zero_le _, rfl, rfl, (by rw [accR, List.append_nil]; exact HSP.out), by omega, TW.out, K3.out, M3.out, fun k hk => by omega⟩
         case round =>
          clear TW K3 M3
          obtain ⟨j, sv, hj, rfl, rfl, HS, hz, TW, K3, M3, hok⟩ := hrel
          by_cases hjn : j < 6
          ·have hjl : (j : Int) < 6 := by omega
           have x1 : wr.cell? ⟨p3, j, none⟩ = some (.string (nW.getD j ⟨#[]⟩)) := (blk_cell K3.out j).trans (map_at nW j hjn)
           have x2 : wr.cell? ⟨q3, j, none⟩ = some (.pointer (some ⟨w.heap.size, nP.getD j 0, none⟩)) := (blk_cell M3.out j).trans (ptr_at w.heap.size nP j hjn)
           have hgw : nW.getD j ⟨#[]⟩ = strOfNums (nL.getD j []) := by rw [nW_eq]; exact getD_str nL j
           have hwl2 := getD_len (L := nL) (m := 20) (by decide) j
           have hacc : strOfNums ((headS a ++ accR tL a.t 6 ++ accR oL (fun k => Six.enc (a.o k)) 4) ++ accR nL (fun k => told (a.n k) (leastN k)) (j + 1)) = sv ++ strOfNums (rowL (nL.getD j []) ((fun k => told (a.n k) (leastN k)) j)) := by
            rw [← HS.out, str_app]
            exact congrArg strOfNums (List.append_assoc _ _ _).symm
           have hrl := rowL_len (nL.getD j []) ((fun k => told (a.n k) (leastN k)) j) hwl2
           have x3 : wr.cell? ⟨w.heap.size, nP.getD j 0, none⟩ = some (.int .i64 (a.n j)) := TW.out.1.cellS _ _ (TW.out.1.2.nGet j hjn)
           have e1 := nW_id j hjn
           have e2 := nW_from j hjn
           generalize nW.getD j ⟨#[]⟩ = sw1 at x1 e1 e2 hgw
           replace hgw := Lib.hid hgw
           generalize nP.getD j 0 = p at x2 x3
           by_cases hj0 : j = 0
           ·rw [decide_eq_true hj0] at e1
            have hL : leastN j = -1 := by unfold leastN; rw [if_pos (.inl hj0)]
            clear e2
            replace hj0 := Lib.hid hj0
            by_cases hrg : leastN j ≤ a.n j ∧ a.n j ≤ most
            ·have hnew : Hid (∀ k, k < j + 1 → leastN k ≤ a.n k ∧ a.n k ≤ most) := fun k hk => by
              by_cases h : k = j
              ·rw [h]; exact hrg
              ·exact hok.out k (by omega)
             unfold most at hrg
             rw [hL] at hrg
             have t6 : decide (a.n j < (-1)) = false := decide_eq_false (by omega)
             have t7 : decide (1099511627776 < a.n j) = false := decide_eq_false (by omega)
             by_cases he : a.n j = (-1)
             ·have t8 : (a.n j == (-1)) = true := by simpa using he
              have t9 : (a.n j != (-1)) = false := by simpa using he
              have hn2 : Hid (strOfNums ((headS a ++ accR tL a.t 6 ++ accR oL (fun k => Six.enc (a.o k)) 4) ++ accR nL (fun k => told (a.n k) (leastN k)) (j + 1)) = sv) := by
               rw [hacc]
               show sv ++ strOfNums (rowL _ (told (a.n j) (leastN j))) = sv
               rw [show told (a.n j) (leastN j) = [] from by unfold told; rw [hL, if_pos he]]
               exact ByteArray.append_empty
              rw [he] at x3
              replace he := Lib.hid he
              replace hL := Lib.hid hL
              clear hacc hrg t6 t7 t8 t9
              go_wp2_with fail
              go_roundw
              case rel => exact ⟨j + 1, sv, by omega, by go_num, rfl, hn2, by omega, TW.out, K3.out, M3.out, hnew⟩
              case measure => simp [intOf]; omega
             ·have t8 : (a.n j == (-1)) = false := by simpa using he
              have t9 : (a.n j != (-1)) = true := by simpa using he
              have h0 : 0 ≤ a.n j := by omega
              have hm : a.n j ≤ most := by unfold most; omega
              have hds := digits_short (a.n j) h0 hm
              have etd : told (a.n j) (leastN j) = digits (a.n j).toNat := by unfold told; rw [hL, if_neg he]
              have hacc2 : strOfNums ((headS a ++ accR tL a.t 6 ++ accR oL (fun k => Six.enc (a.o k)) 4) ++ accR nL (fun k => told (a.n k) (leastN k)) (j + 1)) = sv ++ strOfNums (rowL (nL.getD j []) (digits (a.n j).toNat)) := by rw [← etd]; exact hacc
              have hrl2 : (rowL (nL.getD j []) (digits (a.n j).toNat)).length ≤ 50 := by
               have := hrl
               simp only [etd] at this
               omega
              have HD := fun W => Lib.hid (digits_calls (a.n j) h0 hm W)
              have HRo := fun W => Lib.hid (row_calls (nL.getD j []) (digits (a.n j).toNat) (digits_ne _) (by omega) (by omega) W)
              generalize hq3 : strOfNums (digits (a.n j).toNat) = s3 at HD HRo
              generalize hq4 : strOfNums (rowL (nL.getD j []) (digits (a.n j).toNat)) = rv at HRo hacc2
              have z4 : rv.size ≤ 50 := str_sz hq4 50 hrl2
              have hzz : ¬ 9223372036854775807 < sv.size + rv.size := by omega
              have z5 : (sv ++ rv).size ≤ 68000 + 6100 * (j + 1) := by rw [ByteArray.size_append]; omega
              rw [← hgw.out] at HRo
              replace hacc2 := Lib.hid hacc2
              replace hq3 := Lib.hid hq3
              replace hq4 := Lib.hid hq4
              replace he := Lib.hid he
              replace hL := Lib.hid hL
              replace etd := Lib.hid etd
              clear hacc hrl
              have hne : ¬ a.n j = (-1) := he.out
              generalize a.n j = m at x3 t6 t7 t8 t9 HD hne hrg h0
              go_wp2_with fail
              go_region_held3 (fun W' => W'.cell? ⟨p3, j, none⟩ = some (.string sw1)) (exact x1) ((first
               | ((with_reducible refine (HD _).out.mono ?_); rintro e wS ⟨rfl, ⟨nS, rfl⟩⟩)
               | ((with_reducible refine (HRo _).out.mono ?_); rintro e wS2 ⟨rfl, ⟨nS2, rfl⟩⟩)))
              go_wp2_with fail
              go_roundw
              case rel => exact ⟨j + 1, sv ++ rv, by omega, by go_num, rfl, hacc2.out, z5, TW.out.drewN _, K3.out, M3.out, hnew⟩
              case measure => simp [intOf]; omega
            ·obtain rfl : r = ([], 2) := hR.out.symm.trans (put_no (check_num hw0.out (by rw [hm23.out]; rw [← hm23.out]; exact hs3.out) j hjn hrg) (by decide))
             unfold most at hrg
             rw [hL] at hrg
             have ht : decide (a.n j < (-1)) = true ∨ (decide (a.n j < (-1)) = false ∧ decide (1099511627776 < a.n j) = true) := by
              by_cases h : a.n j < (-1)
              ·exact .inl (decide_eq_true h)
              ·exact .inr ⟨decide_eq_false h, decide_eq_true (by omega)⟩
             have ht2 : a.n j < (-1) ∨ (¬ a.n j < (-1) ∧ 1099511627776 < a.n j) := by omega
             replace hL := Lib.hid hL
             clear hacc hrg ht
             generalize a.n j = m at x3 ht2
             rcases ht2 with t6 | ⟨t6, t7⟩
             all_goals
              go_wp2_with fail
              go_ret2
              exact bytesR_no 2 TW.out.2
           ·rw [decide_eq_false hj0] at e1
            by_cases hj3 : j = 3
            ·rw [decide_eq_true hj3] at e2
             have hL : leastN j = -1 := by unfold leastN; rw [if_pos (.inr hj3)]
             replace hj0 := Lib.hid hj0
             replace hj3 := Lib.hid hj3
             by_cases hrg : leastN j ≤ a.n j ∧ a.n j ≤ most
             ·have hnew : Hid (∀ k, k < j + 1 → leastN k ≤ a.n k ∧ a.n k ≤ most) := fun k hk => by
               by_cases h : k = j
               ·rw [h]; exact hrg
               ·exact hok.out k (by omega)
              unfold most at hrg
              rw [hL] at hrg
              have t6 : decide (a.n j < (-1)) = false := decide_eq_false (by omega)
              have t7 : decide (1099511627776 < a.n j) = false := decide_eq_false (by omega)
              by_cases he : a.n j = (-1)
              ·have t8 : (a.n j == (-1)) = true := by simpa using he
               have t9 : (a.n j != (-1)) = false := by simpa using he
               have hn2 : Hid (strOfNums ((headS a ++ accR tL a.t 6 ++ accR oL (fun k => Six.enc (a.o k)) 4) ++ accR nL (fun k => told (a.n k) (leastN k)) (j + 1)) = sv) := by
                rw [hacc]
                show sv ++ strOfNums (rowL _ (told (a.n j) (leastN j))) = sv
                rw [show told (a.n j) (leastN j) = [] from by unfold told; rw [hL, if_pos he]]
                exact ByteArray.append_empty
               rw [he] at x3
               replace he := Lib.hid he
               replace hL := Lib.hid hL
               clear hacc hrg t6 t7 t8 t9
               go_wp2_with fail
               go_roundw
               case rel => exact ⟨j + 1, sv, by omega, by go_num, rfl, hn2, by omega, TW.out, K3.out, M3.out, hnew⟩
               case measure => simp [intOf]; omega
              ·have t8 : (a.n j == (-1)) = false := by simpa using he
               have t9 : (a.n j != (-1)) = true := by simpa using he
               have h0 : 0 ≤ a.n j := by omega
               have hm : a.n j ≤ most := by unfold most; omega
               have hds := digits_short (a.n j) h0 hm
               have etd : told (a.n j) (leastN j) = digits (a.n j).toNat := by unfold told; rw [hL, if_neg he]
               have hacc2 : strOfNums ((headS a ++ accR tL a.t 6 ++ accR oL (fun k => Six.enc (a.o k)) 4) ++ accR nL (fun k => told (a.n k) (leastN k)) (j + 1)) = sv ++ strOfNums (rowL (nL.getD j []) (digits (a.n j).toNat)) := by rw [← etd]; exact hacc
               have hrl2 : (rowL (nL.getD j []) (digits (a.n j).toNat)).length ≤ 50 := by
                have := hrl
                simp only [etd] at this
                omega
               have HD := fun W => Lib.hid (digits_calls (a.n j) h0 hm W)
               have HRo := fun W => Lib.hid (row_calls (nL.getD j []) (digits (a.n j).toNat) (digits_ne _) (by omega) (by omega) W)
               generalize hq3 : strOfNums (digits (a.n j).toNat) = s3 at HD HRo
               generalize hq4 : strOfNums (rowL (nL.getD j []) (digits (a.n j).toNat)) = rv at HRo hacc2
               have z4 : rv.size ≤ 50 := str_sz hq4 50 hrl2
               have hzz : ¬ 9223372036854775807 < sv.size + rv.size := by omega
               have z5 : (sv ++ rv).size ≤ 68000 + 6100 * (j + 1) := by rw [ByteArray.size_append]; omega
               rw [← hgw.out] at HRo
               replace hacc2 := Lib.hid hacc2
               replace hq3 := Lib.hid hq3
               replace hq4 := Lib.hid hq4
               replace he := Lib.hid he
               replace hL := Lib.hid hL
               replace etd := Lib.hid etd
               clear hacc hrl
               have hne : ¬ a.n j = (-1) := he.out
               generalize a.n j = m at x3 t6 t7 t8 t9 HD hne hrg h0
               go_wp2_with fail
               go_region_held3 (fun W' => W'.cell? ⟨p3, j, none⟩ = some (.string sw1)) (exact x1) ((first
                | ((with_reducible refine (HD _).out.mono ?_); rintro e wS ⟨rfl, ⟨nS, rfl⟩⟩)
                | ((with_reducible refine (HRo _).out.mono ?_); rintro e wS2 ⟨rfl, ⟨nS2, rfl⟩⟩)))
               go_wp2_with fail
               go_roundw
               case rel => exact ⟨j + 1, sv ++ rv, by omega, by go_num, rfl, hacc2.out, z5, TW.out.drewN _, K3.out, M3.out, hnew⟩
               case measure => simp [intOf]; omega
             ·obtain rfl : r = ([], 2) := hR.out.symm.trans (put_no (check_num hw0.out (by rw [hm23.out]; rw [← hm23.out]; exact hs3.out) j hjn hrg) (by decide))
              unfold most at hrg
              rw [hL] at hrg
              have ht : decide (a.n j < (-1)) = true ∨ (decide (a.n j < (-1)) = false ∧ decide (1099511627776 < a.n j) = true) := by
               by_cases h : a.n j < (-1)
               ·exact .inl (decide_eq_true h)
               ·exact .inr ⟨decide_eq_false h, decide_eq_true (by omega)⟩
              have ht2 : a.n j < (-1) ∨ (¬ a.n j < (-1) ∧ 1099511627776 < a.n j) := by omega
              replace hL := Lib.hid hL
              clear hacc hrg ht
              generalize a.n j = m at x3 ht2
              rcases ht2 with t6 | ⟨t6, t7⟩
              all_goals
               go_wp2_with fail
               go_ret2
               exact bytesR_no 2 TW.out.2
            ·rw [decide_eq_false hj3] at e2
             have hL : leastN j = 0 := by unfold leastN; rw [if_neg (by omega)]
             replace hj0 := Lib.hid hj0
             replace hj3 := Lib.hid hj3
             by_cases hrg : leastN j ≤ a.n j ∧ a.n j ≤ most
             ·have hnew : Hid (∀ k, k < j + 1 → leastN k ≤ a.n k ∧ a.n k ≤ most) := fun k hk => by
               by_cases h : k = j
               ·rw [h]; exact hrg
               ·exact hok.out k (by omega)
              unfold most at hrg
              rw [hL] at hrg
              have t6 : decide (a.n j < 0) = false := decide_eq_false (by omega)
              have t7 : decide (1099511627776 < a.n j) = false := decide_eq_false (by omega)
              by_cases he : a.n j = 0
              ·have t8 : (a.n j == 0) = true := by simpa using he
               have t9 : (a.n j != 0) = false := by simpa using he
               have hn2 : Hid (strOfNums ((headS a ++ accR tL a.t 6 ++ accR oL (fun k => Six.enc (a.o k)) 4) ++ accR nL (fun k => told (a.n k) (leastN k)) (j + 1)) = sv) := by
                rw [hacc]
                show sv ++ strOfNums (rowL _ (told (a.n j) (leastN j))) = sv
                rw [show told (a.n j) (leastN j) = [] from by unfold told; rw [hL, if_pos he]]
                exact ByteArray.append_empty
               rw [he] at x3
               replace he := Lib.hid he
               replace hL := Lib.hid hL
               clear hacc hrg t6 t7 t8 t9
               go_wp2_with fail
               go_roundw
               case rel => exact ⟨j + 1, sv, by omega, by go_num, rfl, hn2, by omega, TW.out, K3.out, M3.out, hnew⟩
               case measure => simp [intOf]; omega
              ·have t8 : (a.n j == 0) = false := by simpa using he
               have t9 : (a.n j != 0) = true := by simpa using he
               have h0 : 0 ≤ a.n j := by omega
               have hm : a.n j ≤ most := by unfold most; omega
               have hds := digits_short (a.n j) h0 hm
               have etd : told (a.n j) (leastN j) = digits (a.n j).toNat := by unfold told; rw [hL, if_neg he]
               have hacc2 : strOfNums ((headS a ++ accR tL a.t 6 ++ accR oL (fun k => Six.enc (a.o k)) 4) ++ accR nL (fun k => told (a.n k) (leastN k)) (j + 1)) = sv ++ strOfNums (rowL (nL.getD j []) (digits (a.n j).toNat)) := by rw [← etd]; exact hacc
               have hrl2 : (rowL (nL.getD j []) (digits (a.n j).toNat)).length ≤ 50 := by
                have := hrl
                simp only [etd] at this
                omega
               have HD := fun W => Lib.hid (digits_calls (a.n j) h0 hm W)
               have HRo := fun W => Lib.hid (row_calls (nL.getD j []) (digits (a.n j).toNat) (digits_ne _) (by omega) (by omega) W)
               generalize hq3 : strOfNums (digits (a.n j).toNat) = s3 at HD HRo
               generalize hq4 : strOfNums (rowL (nL.getD j []) (digits (a.n j).toNat)) = rv at HRo hacc2
               have z4 : rv.size ≤ 50 := str_sz hq4 50 hrl2
               have hzz : ¬ 9223372036854775807 < sv.size + rv.size := by omega
               have z5 : (sv ++ rv).size ≤ 68000 + 6100 * (j + 1) := by rw [ByteArray.size_append]; omega
               rw [← hgw.out] at HRo
               replace hacc2 := Lib.hid hacc2
               replace hq3 := Lib.hid hq3
               replace hq4 := Lib.hid hq4
               replace he := Lib.hid he
               replace hL := Lib.hid hL
               replace etd := Lib.hid etd
               clear hacc hrl
               have hne : ¬ a.n j = 0 := he.out
               generalize a.n j = m at x3 t6 t7 t8 t9 HD hne hrg h0
               go_wp2_with fail
               go_region_held3 (fun W' => W'.cell? ⟨p3, j, none⟩ = some (.string sw1)) (exact x1) ((first
                | ((with_reducible refine (HD _).out.mono ?_); rintro e wS ⟨rfl, ⟨nS, rfl⟩⟩)
                | ((with_reducible refine (HRo _).out.mono ?_); rintro e wS2 ⟨rfl, ⟨nS2, rfl⟩⟩)))
               go_wp2_with fail
               go_roundw
               case rel => exact ⟨j + 1, sv ++ rv, by omega, by go_num, rfl, hacc2.out, z5, TW.out.drewN _, K3.out, M3.out, hnew⟩
               case measure => simp [intOf]; omega
             ·obtain rfl : r = ([], 2) := hR.out.symm.trans (put_no (check_num hw0.out (by rw [hm23.out]; rw [← hm23.out]; exact hs3.out) j hjn hrg) (by decide))
              unfold most at hrg
              rw [hL] at hrg
              have ht : decide (a.n j < 0) = true ∨ (decide (a.n j < 0) = false ∧ decide (1099511627776 < a.n j) = true) := by
               by_cases h : a.n j < 0
               ·exact .inl (decide_eq_true h)
               ·exact .inr ⟨decide_eq_false h, decide_eq_true (by omega)⟩
              have ht2 : a.n j < 0 ∨ (¬ a.n j < 0 ∧ 1099511627776 < a.n j) := by omega
              replace hL := Lib.hid hL
              clear hacc hrg ht
              generalize a.n j = m at x3 ht2
              rcases ht2 with t6 | ⟨t6, t7⟩
              all_goals
               go_wp2_with fail
               go_ret2
               exact bytesR_no 2 TW.out.2
          ·have hjl : ¬ (j : Int) < 6 := by omega
           obtain rfl : j = 6 := by omega
           clear K3 M3
           obtain ⟨A1, k1c, hca, l22⟩ := TW.out.1.lstc
           have c22 := TW.out.1.cellS 22 _ hca
           replace hca := Lib.hid hca
           go_wp2_with fail
           go_loop [166] (fun s => ∃ j : Nat, j ≤ a.x22.length ∧ s = .int .i64 j ∧ Hid (∀ n ∈ a.x22.take j, 0 ≤ n ∧ n ≤ most)) (fun s => a.x22.length - (intOf s).toNat)
           case atStart => exact ⟨0, Nat.zero_le _, rfl, fun n hn => by simp at hn⟩
           case round =>
            obtain ⟨j, hj, rfl, hls⟩ := hrel
            by_cases hjn : j < a.x22.length
            ·have hjl : (j : Int) < (a.x22.length : Int) := by omega
             obtain ⟨ad, rfl, x3⟩ := Kd.at_int (TW.out.1.lstAt hca.out) (j : Int) (by omega) hjl
             rw [Int.toNat_natCast] at x3
             have hrd : a.x22[j]? = some (rd a.x22 (j : Int)) := by unfold rd; rw [Int.toNat_natCast, List.getD_eq_getElem?_getD, List.getElem?_eq_getElem hjn]; rfl
             generalize rd a.x22 (j : Int) = n at x3 hrd
             have hj1 := sa.out.l22
             by_cases hn : 0 ≤ n ∧ n ≤ most
             ·have hls2 : Hid (∀ n ∈ a.x22.take (j + 1), 0 ≤ n ∧ n ≤ most) := fun m hm => by
               rw [List.take_succ_eq_append_getElem hjn] at hm
               rcases List.mem_append.1 hm with hm | hm
               ·exact hls.out m hm
               ·rw [List.getElem?_eq_getElem hjn] at hrd
                rw [List.mem_singleton.1 hm, Option.some.inj hrd]
                exact hn
              unfold most at hn
              replace hrd := Lib.hid hrd
              go_wp2_with fail
              go_round
              case rel => exact ⟨j + 1, by omega, by go_num, hls2⟩
              case measure => simp [intOf]; omega
             ·obtain rfl : r = ([], 2) := hR.out.symm.trans (put_no (check_list hw0.out (by rw [hm23.out]; rw [← hm23.out]; exact hs3.out) n (List.mem_of_getElem? hrd) hn) (by decide))
              unfold most at hn
              have ht2 : n < 0 ∨ (¬ n < 0 ∧ 1099511627776 < n) := by omega
              replace hrd := Lib.hid hrd
              clear hn
              rcases ht2 with t6 | ⟨t6, t7⟩
              all_goals
               go_wp2_with fail
               go_ret2
               exact bytesR_no 2 TW.out.2
            ·have hjl : ¬ (j : Int) < (a.x22.length : Int) := by omega
             have hall := Lib.hid (fun n hn => hls.out n (by rw [List.take_of_length_le (by omega)]; exact hn) : ∀ n ∈ a.x22, 0 ≤ n ∧ n ≤ most)
             clear hls c22
             go_upto_region 43 with fail
             refine Code.wp_mono (QN.imp fun _ _ h => h) (put_end _ a w _ TW sa hG _ HS (by omega) hw0 hs3 hok hall _ ⟨by rfl, rfl, List.forall_mem_cons.2 ⟨rfl, List.forall_mem_cons.2 ⟨rfl, fun _ h => nomatch h⟩⟩⟩ _ fun f W hf hB => ?_)
             rw [hR.out] at hB
             replace hB := Lib.hid hB
             clear HS hok hall TW
             go_wp2_with fail
             go_ret2
             exact hB.out
end Go.Proofs.YtjkehapbemjnpaaDoor
