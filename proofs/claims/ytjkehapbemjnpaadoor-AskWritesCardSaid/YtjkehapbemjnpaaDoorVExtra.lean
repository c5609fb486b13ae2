/- What else there is of a request as lines, walked by hand; each condition stands in its theorem. -/
import Derived.Test.YtjkehapbemjnpaaDoorVLines
namespace Go.Proofs.YtjkehapbemjnpaaDoor
open Go.RowKit Go.Proofs.YtjkehapbemjnpaaDoorW.PrintWords Go.Proofs.YtjkehapbemjnpaaDoorW.PrintLast Go.Proofs.YtjkehapbemjnpaaDoorW.PrintMore Lf Kit Cut Pl Num
set_option linter.unusedVariables false
set_option linter.unusedSimpArgs false
def fromV (a : AskP) : List Int := if a.x16 = [] ∧ a.x17 = [] then [] else a.x16 ++ 47 :: a.x17
def listV (a : AskP) : List Int := joinL (a.x22.map fun n => digits n.toNat)
def stateV (a : AskP) : List Int := if a.x23 = 0 then [] else sL.getD a.x23.toNat []
def extraS (a : AskP) : List Int := rowL [102, 114, 111, 109] (fromV a) ++ rowL [108, 105, 115, 116] (listV a) ++ rowL [115, 116, 97, 116, 101] (stateV a)
theorem str_no {s : ByteArray} {x : List Int} (h : strOfNums x = s) (hx : x = []) : s.toList = [] ∧ (!s.toList.isEmpty) = false := by
 subst hx h
 have e : (strOfNums []).toList = [] := by rw [toList_str]; rfl
 exact ⟨e, by rw [e]; rfl⟩
theorem str_yes {s : ByteArray} {x : List Int} (h : strOfNums x = s) (hx : x ≠ []) : ¬ s.toList = [] ∧ (!s.toList.isEmpty) = true ∧ s.toList.isEmpty = false := by
 subst h
 have h1 : ¬ (strOfNums x).toList = [] := fun e => hx (toList_nil e)
 have h2 : (strOfNums x).toList.isEmpty = false := by
  cases e : (strOfNums x).toList with
  | nil => exact absurd e h1
  | cons _ _ => rfl
 exact ⟨h1, by rw [h2]; rfl, h2⟩
theorem str_sz {s : ByteArray} {x : List Int} (h : strOfNums x = s) (n : Nat) (hx : x.length ≤ n) : s.size ≤ n := by
 subst h
 rw [strOfNums_size]
 exact hx
theorem run_index_at {P : Program} (t : TypeId) (cs : Array Value) (j n : Nat) (e : TypeId) (ht : P.underlying t = some (.array n e)) (hj : j < n) (he : ∀ w, (sizeOf e).run P w = .ok 1 w) (ha : ∀ w, (isAgg e).run P w = .ok false w) (v : Value) (hv : cs[j]? = some v) (w : World) :
  (Instr.index t (.agg cs) (.int .i64 (j : Int))).run P w = .ok v w := by
 have h0 : (0 : Int) ≤ (j : Int) ∧ (j : Int) < (n : Int) := by omega
 simp [Instr.index, asIntOf, Sem.run_bind, run_underlying ht w, part, he, ha, hv, h0]
 exact fun hc => absurd hj (by omega)
def OneAt (w : World) (g : Nat) (ca : Array Value) (a : AskP) (W : World) : Prop := AskIn W g ca a ∧ Below w.heap.size w W
theorem OneAt.below {w : World} {g : Nat} {ca : Array Value} {a : AskP} {W W2 : World} (h : OneAt w g ca a W) (hb : Below W.heap.size W W2) : OneAt w g ca a W2 := ⟨h.1.below hb, below_step h.2 hb⟩
theorem OneAt.drew {w : World} {g : Nat} {ca : Array Value} {a : AskP} {W : World} (h : OneAt w g ca a W) : OneAt w g ca a W.drew := h.below (below_drew (Below.refl _ _))
theorem OneAt.drewN {w : World} {g : Nat} {ca : Array Value} {a : AskP} {W : World} (h : OneAt w g ca a W) (n : Nat) : OneAt w g ca a (W.drewN n) := h.below (pw_below_drewN (Below.refl _ _) n)
theorem OneAt.start {w : World} {ca : Array Value} {a : AskP} {ok : Nat → Prop} {nl : Prop} (hA : AskC w ok nl ca a) : OneAt w w.heap.size ca a (w.alloc (.cells ca 26)) :=
 ⟨⟨blk_new w _, ((hA.step (fun k _ hlt => (below_alloc (Below.refl _ _) (.cells ca 26)).block k hlt)).mono (fun _ _ => trivial)).weak (fun h => h.elim)⟩, below_alloc (Below.refl _ _) _⟩
theorem OneAt.str {w : World} {g : Nat} {ca : Array Value} {a : AskP} {W : World} (h : OneAt w g ca a W) (j : Nat) (v : Value) (hv : ∀ cs, AskC W (fun _ => True) False cs a → cs[j]? = some v) : W.cell? ⟨g, j, none⟩ = some v := h.1.cellS _ _ (hv _ h.1.2)
theorem AskIn.lstc {W : World} {g : Nat} {cs : Array Value} {a : AskP} (h : AskIn W g cs a) : ∃ A c, cs[22]? = some (.slice A a.x22.length c) ∧ a.x22.length ≤ c := by
 obtain ⟨v, hv, ⟨A, c, rfl, hl, hf⟩, _⟩ := h.2.get 22 (by decide)
 exact ⟨A, c, hv, hl⟩
theorem AskIn.lstAt {W : World} {g : Nat} {cs : Array Value} {a : AskP} (h : AskIn W g cs a) {A : Option Addr} {c : Nat} (hc : cs[22]? = some (.slice A a.x22.length c)) : Kd.C (Kd.int .i64) W A a.x22.length a.x22 := by
 obtain ⟨v, hv, ⟨A2, c2, rfl, hl, hf⟩, _⟩ := h.2.get 22 (by decide)
 rw [hc] at hv
 simp only [Option.some.injEq, Value.slice.injEq] at hv
 obtain ⟨rfl, _, rfl⟩ := hv
 exact Kd.F_now hf
def StrP (w : World) (r : List Int) (e : Ending) (w' : World) : Prop := e = .returned (.string (strOfNums r)) ∧ Below w.heap.size w w'
set_option maxRecDepth 100000 in
set_option maxHeartbeats 8000000 in
theorem extra_calls (ca : Array Value) (ok : Nat → Prop) (nl : Prop) (a : AskP) (w : World) (hA : AskC w ok nl ca a) (sa : AskS a) (hl : ∀ n ∈ a.x22, 0 ≤ n ∧ n ≤ most) (hs : 0 ≤ a.x23 ∧ a.x23 ≤ 2) :
  Calls Tryd.prog 37 #[.agg ca] w (StrP w (extraS a)) := by
 have TW := Lib.hid (OneAt.start hA)
 have CX := Lib.hid (fun W (hb : Below w.heap.size w W) => ((hA.step (fun k _ hlt => hb.block k hlt)).mono (fun _ _ => trivial)).weak (fun h => h.elim) : ∀ W, Below w.heap.size w W → AskC W (fun _ => True) False ca a)
 have HR := Lib.hid (show extraS a = rowL [102, 114, 111, 109] (fromV a) ++ rowL [108, 105, 115, 116] (listV a) ++ rowL [115, 116, 97, 116, 101] (stateV a) from rfl)
 have c16 : (w.alloc (.cells ca 26)).cell? ⟨w.heap.size, 16, none⟩ = some (.string (strOfNums a.x16)) := TW.out.str 16 (.string (strOfNums a.x16)) (fun cs hc => by obtain ⟨v, hv, rfl⟩ := hc.get 16 (by decide); exact hv)
 have c17 : (w.alloc (.cells ca 26)).cell? ⟨w.heap.size, 17, none⟩ = some (.string (strOfNums a.x17)) := TW.out.str 17 (.string (strOfNums a.x17)) (fun cs hc => by obtain ⟨v, hv, rfl⟩ := hc.get 17 (by decide); exact hv)
 have hz16 := sa.l16
 have hz17 := sa.l17
 replace hl := Lib.hid hl
 replace sa := Lib.hid sa
 go_enter Tryd.func37, Tryd.ntmps37
 by_cases h16 : a.x16 = []
 ·by_cases h17 : a.x17 = []
  ·generalize hq6 : strOfNums a.x16 = s16 at c16
   generalize hq7 : strOfNums a.x17 = s17 at c17
   have t1 := str_no hq6 h16
   have t2 := str_no hq7 h17
   have HS3 : Hid (strOfNums [] = (⟨#[]⟩ : ByteArray)) := rfl
   have z3 : (⟨#[]⟩ : ByteArray).size ≤ 7100 := Nat.zero_le _
   replace HR := Lib.hid (show extraS a = [] ++ rowL [108, 105, 115, 116] (listV a) ++ rowL [115, 116, 97, 116, 101] (stateV a) from by rw [HR.out, show fromV a = [] from by unfold fromV; rw [if_pos ⟨h16, h17⟩]]; rfl)
   replace hq6 := Lib.hid hq6
   replace hq7 := Lib.hid hq7
   replace h16 := Lib.hid h16
   replace h17 := Lib.hid h17
   obtain ⟨A1, k1c, hca, l22⟩ := TW.out.1.lstc
   have c22 := TW.out.1.cellS 22 _ hca
   have C22 := TW.out.1.lstAt hca
   by_cases hle : a.x22 = []
   ·have t5 : decide (0 < a.x22.length) = false := by rw [hle]; rfl
    have t6 : decide (0 < (a.x22.length : Int)) = false := by rw [hle]; rfl
    replace HR := Lib.hid (show extraS a = [] ++ rowL [115, 116, 97, 116, 101] (stateV a) from by
     have h1 := HR.out
     rw [h1, show listV a = [] from by unfold listV; rw [hle]; rfl, rowL_nil]
     simp)
    replace hle := Lib.hid hle
    clear C22 hca
    have c23 : (w.alloc (.cells ca 26)).cell? ⟨w.heap.size, 23, none⟩ = some (.int .i64 a.x23) := TW.out.str 23 (.int .i64 a.x23) (fun cs hc => by obtain ⟨v, hv, rfl⟩ := hc.get 23 (by decide); exact hv)
    by_cases hs0 : a.x23 = 0
    ·have t7 : (a.x23 == 0) = true := by simpa using hs0
     have t8 : (a.x23 != 0) = false := by simpa using hs0
     have hr : Hid (extraS a = []) := by
      have h1 := HR.out
      show extraS a = _
      rw [h1, show stateV a = [] from by unfold stateV; rw [if_pos hs0], rowL_nil]
      simp
     replace hs0 := Lib.hid hs0
     generalize a.x23 = m23 at c23 t7 t8
     clear HR
     go_wp2_with fail
     go_ret
     exact (show StrP w (extraS a) (.returned (.string (⟨#[]⟩ : ByteArray))) _ from ⟨by rw [hr.out, HS3.out], TW.out.2⟩)
    ·have t7 : (a.x23 == 0) = false := by simpa using hs0
     have t8 : (a.x23 != 0) = true := by simpa using hs0
     obtain ⟨n23, hn23⟩ := Int.eq_ofNat_of_zero_le hs.1
     have hn3 : n23 < 3 := by omega
     have hn1 : 1 ≤ n23 := by omega
     have hsv := states_at n23 hn3
     have hgd : statesL.getD n23 ⟨#[]⟩ = strOfNums (sL.getD n23 []) := by rw [sW_eq]; exact getD_str sL n23
     rw [hgd] at hsv
     have hne : sL.getD n23 [] ≠ [] := by
      have : ∀ n : Fin 3, sL.getD n.1 [] ≠ [] := by decide
      exact this ⟨n23, hn3⟩
     have hsl : (sL.getD n23 []).length ≤ 20 := by
      have : ∀ n : Fin 3, (sL.getD n.1 []).length ≤ 20 := by decide
      exact this ⟨n23, hn3⟩
     have hr : Hid (extraS a = [] ++ rowL [115, 116, 97, 116, 101] (sL.getD n23 [])) := by
      have h1 := HR.out
      show extraS a = _
      rw [h1, show stateV a = sL.getD n23 [] from by unfold stateV; rw [if_neg hs0, hn23, Int.toNat_natCast]]
     have hrl : (rowL [115, 116, 97, 116, 101] (sL.getD n23 [])).length ≤ 100 := by
      rw [rowL_eq _ _ hne]
      simp only [List.length_append, List.length_cons, List.length_nil]
      omega
     have HSt := Lib.hid (states_calls (w.alloc (.cells ca 26)).drew)
     have HRo := fun W => Lib.hid (row_calls [115, 116, 97, 116, 101] (sL.getD n23 []) hne (by simp) (by omega) W)
     have ltg := blk_lt TW.out.1.1
     rw [hn23] at c23 t7 t8
     replace hn23 := Lib.hid hn23
     replace hs0 := Lib.hid hs0
     generalize hq1 : strOfNums (sL.getD n23 []) = sv at hsv HRo
     generalize hq2 : strOfNums (rowL [115, 116, 97, 116, 101] (sL.getD n23 [])) = rv at HRo
     have z4 : rv.size ≤ 100 := str_sz hq2 100 hrl
     generalize statesV = sV at hsv HSt
     have hidx := fun W => run_index_at (P := Tryd.prog) 82 sV n23 3 9 Tryd.underlying82 hn3 Tryd.sizeOf9 Tryd.isAgg9 _ hsv W
     clear hsv
     have kw : (⟨#[115, 116, 97, 116, 101]⟩ : ByteArray) = strOfNums [115, 116, 97, 116, 101] := rfl
     rw [← kw] at HRo
     clear HR hgd hne hsl hrl kw hq1
     replace hq2 := Lib.hid hq2
     have hz7 : ¬ 9223372036854775807 < ((⟨#[]⟩ : ByteArray)).size + rv.size := by omega
     have hz8 : ¬ 9223372036854775807 < rv.size := by omega
     go_wp2_with fail
     go_region_held3 (fun W' => W'.cell? ⟨w.heap.size, 23, none⟩ = some (.int .i64 n23)) (first | exact c23 | exact k1 | assumption) ((first
      | ((with_reducible refine HSt.out.mono ?_); rintro e wS ⟨rfl, BS⟩; have k1 : wS.cell? ⟨w.heap.size, 23, none⟩ = some (.int .i64 n23) := (BS.cell (p := ⟨w.heap.size, 23, none⟩) ltg).trans c23; have TW2 := Lib.hid (TW.out.drew.below BS); clear BS)
      | ((with_reducible refine (HRo _).out.mono ?_); rintro e wS2 ⟨rfl, ⟨nS, rfl⟩⟩)))
     go_wp2_with fail
     go_ret
     exact (show StrP w (extraS a) (.returned (.string ((⟨#[]⟩ : ByteArray) ++ rv))) _ from ⟨by rw [hr.out, ← str_app, HS3.out, hq2.out], (TW2.out.drewN _).2⟩)
   ·have hlp := List.length_pos_iff.2 hle
    have t5 : decide (0 < a.x22.length) = true := decide_eq_true hlp
    have t6 : decide (0 < (a.x22.length : Int)) = true := decide_eq_true (by omega)
    have hll := sa.l22
    replace hle := Lib.hid hle
    obtain ⟨ad, rfl, hcz⟩ := Kd.at_int C22 0 (by omega) (by omega)
    clear hcz
    replace hca := Lib.hid hca
    clear C22
    go_wp2_with fail
    go_loopw [31, 4] (fun s v wr => ∃ j : Nat, j ≤ a.x22.length ∧ s = .int .i64 j ∧ Hid (Kd.R Kd.string 9 wr (w.heap.size + 1) (fun _ => True) v (((a.x22.take j).map fun n => digits n.toNat).map strOfNums)) ∧ Hid (OneAt w w.heap.size ca a wr) ∧ w.heap.size + 1 ≤ wr.heap.size) (fun s _ _ => a.x22.length - (intOf s).toNat)
    case atStart => exact ⟨0, Nat.zero_le _, rfl, Kd.R_nil _ _ _ _ _, TW.out, by have := blk_lt TW.out.1.1; omega⟩
    case round =>
     clear TW c22
     obtain ⟨j, hj, rfl, HL, TW, hwr⟩ := hrel
     obtain ⟨A2, cl, hvl⟩ := Kd.R_slice HL.out
     have hlen : ((((a.x22.take j).map fun n => digits n.toNat).map strOfNums)).length = j := by simp; omega
     rw [hlen] at hvl
     subst hvl
     by_cases hjn : j < a.x22.length
     ·have hjl : (j : Int) < (a.x22.length : Int) := by omega
      obtain ⟨n, hn⟩ : ∃ n, a.x22[j]? = some n := ⟨_, List.getElem?_eq_getElem hjn⟩
      have hn2 := hl n (List.mem_of_getElem? hn)
      have hrd : rd a.x22 (j : Int) = n := by unfold rd; rw [Int.toNat_natCast, List.getD_eq_getElem?_getD, hn]; rfl
      have x3 : wr.cell? (ad.add j) = some (.int .i64 n) := by
       have hbw := TW.out.1.lstAt hca.out
       obtain ⟨ad', he, hc⟩ := Kd.at_int hbw (j : Int) (by omega) hjl
       obtain rfl := Option.some.inj he
       rw [Int.toNat_natCast, hrd] at hc
       exact hc
      have HD := Lib.hid (digits_calls n hn2.1 hn2.2 wr)
      have hds := digits_short n hn2.1 hn2.2
      generalize hdg : strOfNums (digits n.toNat) = sd at HD
      have hnx : ((a.x22.take (j + 1)).map fun n => digits n.toNat).map strOfNums = ((a.x22.take j).map fun n => digits n.toNat).map strOfNums ++ [sd] := by
       rw [List.take_succ_eq_append_getElem hjn, ← Option.some.inj ((List.getElem?_eq_getElem hjn).symm.trans hn).symm, List.map_append, List.map_append, ← hdg]
       rfl
      replace hnx := Lib.hid hnx
      replace hn := Lib.hid hn
      replace hdg := Lib.hid hdg
      replace hrd := Lib.hid hrd
      go_wp2_with fail
      refine HD.out.mono ?_
      rintro e w5 ⟨rfl, ⟨nd, rfl⟩⟩
      replace HL := Lib.hid (Kd.R_drewN HL.out nd)
      replace TW := Lib.hid (TW.out.drewN nd)
      replace hwr : w.heap.size + 1 ≤ (wr.drewN nd).heap.size := hwr
      generalize wr.drewN nd = W5 at *
      replace hlen := Lib.hid hlen
      clear HD x3
      go_wp2_with (first | ((with_reducible refine gate_builtin (b := .append) (xs := #[.tmp 35, .tmp 38]) rfl ?_); at_builtin; refine Kd.R_append Kd.string (w0 := W5) (w.heap.size + 1) rfl (.tmp 35) (.tmp 38) 40 9 (.string ⟨#[]⟩) 16 rfl Tryd.underlying40 info9 rfl (by decide) (by omega) (.slice A2 j cl) (((a.x22.take j).map fun n => digits n.toNat).map strOfNums) sd [.string sd] (fun _ => True) (fun _ => False) rfl rfl ?aP (fun _ hk => hk.elim) ?aF ?aO ?aB ?aS ?aL ?_; (case aP => exact rfl); (case aB => exact Below.refl _ _); (case aF => exact (fun _ _ => trivial)); (case aO => exact HL.out); (case aS => exact hwr); (case aL => have := hlen.out; omega); intro v1 w6 ho hb2 hg2 hat; rw [← hnx.out] at ho; have L1 := Lib.hid ho; have B6 := Lib.hid hb2; clear ho hb2 hg2 hat))
      have TW6 := Lib.hid (show OneAt w w.heap.size ca a w6 from ⟨⟨(B6.out.block _ (by omega)).trans TW.out.1.1, (CX.out w6 (TW.out.2.trans (B6.out.mono (by omega))))⟩, TW.out.2.trans (B6.out.mono (by omega))⟩)
      have hw6 : w.heap.size + 1 ≤ w6.heap.size := Nat.le_trans hwr B6.out.size
      go_roundw
      case rel => exact ⟨j + 1, by omega, by go_num, L1.out, TW6.out, hw6⟩
      case measure => simp [intOf]; omega
     ·have hjl : ¬ (j : Int) < (a.x22.length : Int) := by omega
      obtain rfl : j = a.x22.length := by omega
      have HLf := HL.out
      rw [List.take_of_length_le (Nat.le_refl _)] at HLf
      obtain ⟨g9, cp9, hv9, h91, h92, _⟩ := Kd.R_form HLf (by simp; omega)
      have hlm : (((a.x22.map fun n => digits n.toNat).map strOfNums)).length = a.x22.length := by simp
      rw [hlm] at hv9
      simp only [Value.slice.injEq] at hv9
      obtain ⟨rfl, _, rfl⟩ := hv9
      have hRr := Kd.R_reads' HLf
      have hlx : ((a.x22.map fun n => digits n.toNat)).length = a.x22.length := by simp
      have HJ := join_calls g9 cl (a.x22.map fun n => digits n.toNat) wr (by have := hRr.2.2; rw [hlm] at this; rw [hlx]; exact this) h92 (by rw [hlx]; exact hRr.2.1) (by rw [hlx]; omega) (fun x hx => by
       obtain ⟨n, hn, rfl⟩ := List.mem_map.1 hx
       have := hl n hn
       have := digits_short n this.1 this.2
       omega)
      rw [hlx] at HJ
      have hvn : listV a ≠ [] := joinL_ne _ (by simp; exact hle.out) (fun x hx => by
       obtain ⟨n, hn, rfl⟩ := List.mem_map.1 hx
       exact digits_ne _)
      have hvl : (listV a).length ≤ 1000 := by
       have h1 := joinL_len (a.x22.map fun n => digits n.toNat) 13 (fun x hx => by
        obtain ⟨n, hn, rfl⟩ := List.mem_map.1 hx
        have := hl n hn
        exact digits_short n this.1 this.2)
       rw [hlx] at h1
       have h2 := Nat.mul_le_mul_right (13 + 1) sa.l22
       unfold listV
       omega
      have HRo := fun W => Lib.hid (row_calls [108, 105, 115, 116] (listV a) hvn (by simp) (by omega) W)
      have hrl : (rowL [108, 105, 115, 116] (listV a)).length ≤ 1100 := by
       rw [rowL_eq _ _ hvn]
       simp only [List.length_append, List.length_cons, List.length_nil]
       omega
      have e9 : strOfNums (joinL (a.x22.map fun n => digits n.toNat)) = strOfNums (listV a) := rfl
      rw [e9] at HJ
      replace HJ := Lib.hid HJ
      generalize hq1 : strOfNums (listV a) = svL at HJ HRo
      generalize hq3 : strOfNums (rowL [108, 105, 115, 116] (listV a)) = rvL at HRo
      have z5 : rvL.size ≤ 1100 := str_sz hq3 1100 hrl
      have kw : (⟨#[108, 105, 115, 116]⟩ : ByteArray) = strOfNums [108, 105, 115, 116] := rfl
      rw [← kw] at HRo
      clear HL HLf hRr hlm hlx hvn hvl hrl kw e9 hq1
      replace hq3 := Lib.hid hq3
      replace hlen := Lib.hid hlen
      go_wp2_with fail
      refine HJ.out.mono ?_
      rintro e w7 ⟨rfl, B7⟩
      replace TW := Lib.hid (TW.out.below B7)
      clear HJ B7
      go_wp2_with fail
      refine (HRo _).out.mono ?_
      rintro e w8 ⟨rfl, ⟨n8, rfl⟩⟩
      replace TW := Lib.hid (TW.out.drewN n8)
      clear HRo
      generalize w7.drewN n8 = W8 at *
      have HS4 := Lib.hid (show strOfNums ([] ++ rowL [108, 105, 115, 116] (listV a)) = (⟨#[]⟩ : ByteArray) ++ rvL from by rw [← str_app, HS3.out, hq3.out])
      have z6 : ((⟨#[]⟩ : ByteArray) ++ rvL).size ≤ 20000 := by rw [ByteArray.size_append]; omega
      have z6b : ((⟨#[]⟩ : ByteArray)).size + rvL.size ≤ 20000 := by omega
      have c23 : W8.cell? ⟨w.heap.size, 23, none⟩ = some (.int .i64 a.x23) := TW.out.str 23 (.int .i64 a.x23) (fun cs hc => by obtain ⟨v, hv, rfl⟩ := hc.get 23 (by decide); exact hv)
      by_cases hs0 : a.x23 = 0
      ·have t7 : (a.x23 == 0) = true := by simpa using hs0
       have t8 : (a.x23 != 0) = false := by simpa using hs0
       have hr : Hid (extraS a = ([] ++ rowL [108, 105, 115, 116] (listV a))) := by
        have h1 := HR.out
        show extraS a = _
        rw [h1, show stateV a = [] from by unfold stateV; rw [if_pos hs0], rowL_nil]
        simp
       replace hs0 := Lib.hid hs0
       generalize a.x23 = m23 at c23 t7 t8
       clear HR
       go_wp2_with fail
       go_ret
       exact (show StrP w (extraS a) (.returned (.string ((⟨#[]⟩ : ByteArray) ++ rvL))) _ from ⟨by rw [hr.out, HS4.out], TW.out.2⟩)
      ·have t7 : (a.x23 == 0) = false := by simpa using hs0
       have t8 : (a.x23 != 0) = true := by simpa using hs0
       obtain ⟨n23, hn23⟩ := Int.eq_ofNat_of_zero_le hs.1
       have hn3 : n23 < 3 := by omega
       have hn1 : 1 ≤ n23 := by omega
       have hsv := states_at n23 hn3
       have hgd : statesL.getD n23 ⟨#[]⟩ = strOfNums (sL.getD n23 []) := by rw [sW_eq]; exact getD_str sL n23
       rw [hgd] at hsv
       have hne : sL.getD n23 [] ≠ [] := by
        have : ∀ n : Fin 3, sL.getD n.1 [] ≠ [] := by decide
        exact this ⟨n23, hn3⟩
       have hsl : (sL.getD n23 []).length ≤ 20 := by
        have : ∀ n : Fin 3, (sL.getD n.1 []).length ≤ 20 := by decide
        exact this ⟨n23, hn3⟩
       have hr : Hid (extraS a = ([] ++ rowL [108, 105, 115, 116] (listV a)) ++ rowL [115, 116, 97, 116, 101] (sL.getD n23 [])) := by
        have h1 := HR.out
        show extraS a = _
        rw [h1, show stateV a = sL.getD n23 [] from by unfold stateV; rw [if_neg hs0, hn23, Int.toNat_natCast]]
       have hrl : (rowL [115, 116, 97, 116, 101] (sL.getD n23 [])).length ≤ 100 := by
        rw [rowL_eq _ _ hne]
        simp only [List.length_append, List.length_cons, List.length_nil]
        omega
       have HSt := Lib.hid (states_calls W8.drew)
       have HRo := fun W => Lib.hid (row_calls [115, 116, 97, 116, 101] (sL.getD n23 []) hne (by simp) (by omega) W)
       have ltg := blk_lt TW.out.1.1
       rw [hn23] at c23 t7 t8
       replace hn23 := Lib.hid hn23
       replace hs0 := Lib.hid hs0
       generalize hq1 : strOfNums (sL.getD n23 []) = sv at hsv HRo
       generalize hq2 : strOfNums (rowL [115, 116, 97, 116, 101] (sL.getD n23 [])) = rv at HRo
       have z4 : rv.size ≤ 100 := str_sz hq2 100 hrl
       generalize statesV = sV at hsv HSt
       have hidx := fun W => run_index_at (P := Tryd.prog) 82 sV n23 3 9 Tryd.underlying82 hn3 Tryd.sizeOf9 Tryd.isAgg9 _ hsv W
       clear hsv
       have kw : (⟨#[115, 116, 97, 116, 101]⟩ : ByteArray) = strOfNums [115, 116, 97, 116, 101] := rfl
       rw [← kw] at HRo
       clear HR hgd hne hsl hrl kw hq1
       replace hq2 := Lib.hid hq2
       have hz7 : ¬ 9223372036854775807 < (((⟨#[]⟩ : ByteArray) ++ rvL)).size + rv.size := by omega
       have hz8 : ¬ 9223372036854775807 < rvL.size + rv.size := by omega
       go_wp2_with fail
       go_region_held3 (fun W' => W'.cell? ⟨w.heap.size, 23, none⟩ = some (.int .i64 n23)) (first | exact c23 | exact k1 | assumption) ((first
        | ((with_reducible refine HSt.out.mono ?_); rintro e wS ⟨rfl, BS⟩; have k1 : wS.cell? ⟨w.heap.size, 23, none⟩ = some (.int .i64 n23) := (BS.cell (p := ⟨w.heap.size, 23, none⟩) ltg).trans c23; have TW2 := Lib.hid (TW.out.drew.below BS); clear BS)
        | ((with_reducible refine (HRo _).out.mono ?_); rintro e wS2 ⟨rfl, ⟨nS, rfl⟩⟩)))
       go_wp2_with fail
       go_ret
       exact (show StrP w (extraS a) (.returned (.string (((⟨#[]⟩ : ByteArray) ++ rvL) ++ rv))) _ from ⟨by rw [hr.out, ← str_app, HS4.out, hq2.out], (TW2.out.drewN _).2⟩)
  ·have hfv : fromV a = a.x16 ++ 47 :: a.x17 := by unfold fromV; rw [if_neg (fun h => h17 h.2)]
   have hfn : a.x16 ++ 47 :: a.x17 ≠ [] := by simp
   have hfl : (a.x16 ++ 47 :: a.x17).length ≤ 7000 := by simp only [List.length_append, List.length_cons]; omega
   have HRo := fun W => Lib.hid (row_calls [102, 114, 111, 109] (a.x16 ++ 47 :: a.x17) hfn (by simp) (by omega) W)
   have hrl : (rowL [102, 114, 111, 109] (a.x16 ++ 47 :: a.x17)).length ≤ 7100 := by
    rw [rowL_eq _ _ hfn]
    simp only [List.length_append, List.length_cons, List.length_nil]
    omega
   have e1 : strOfNums (a.x16 ++ 47 :: a.x17) = (strOfNums a.x16 ++ (⟨#[47]⟩ : ByteArray)) ++ strOfNums a.x17 := by
    rw [show (⟨#[47]⟩ : ByteArray) = strOfNums [47] from rfl, str_app, str_app]
    simp
   rw [e1] at HRo
   have kw : (⟨#[102, 114, 111, 109]⟩ : ByteArray) = strOfNums [102, 114, 111, 109] := rfl
   rw [← kw] at HRo
   generalize hq6 : strOfNums a.x16 = s16 at c16 HRo
   generalize hq7 : strOfNums a.x17 = s17 at c17 HRo
   have t1 := str_no hq6 h16
   have t2 := str_yes hq7 h17
   have z16 : s16.size ≤ 3000 := str_sz hq6 3000 hz16
   have z17 : s17.size ≤ 3000 := str_sz hq7 3000 hz17
   generalize hq8 : strOfNums (rowL [102, 114, 111, 109] (a.x16 ++ 47 :: a.x17)) = rv16 at HRo
   have z18 : rv16.size ≤ 7100 := str_sz hq8 7100 hrl
   replace HR := Lib.hid (show extraS a = rowL [102, 114, 111, 109] (a.x16 ++ 47 :: a.x17) ++ rowL [108, 105, 115, 116] (listV a) ++ rowL [115, 116, 97, 116, 101] (stateV a) from by rw [HR.out, hfv])
   clear hfv hfn hfl hrl e1 kw
   replace hq6 := Lib.hid hq6
   replace hq7 := Lib.hid hq7
   replace hq8 := Lib.hid hq8
   replace h16 := Lib.hid h16
   replace h17 := Lib.hid h17
   go_wp2_with fail
   refine (HRo _).out.mono ?_
   rintro e w2 ⟨rfl, ⟨n2, rfl⟩⟩
   replace TW := Lib.hid (TW.out.drewN n2)
   clear HRo
   generalize (w.alloc (.cells ca 26)).drewN n2 = W2 at *
   have z3 : ((⟨#[]⟩ : ByteArray) ++ rv16).size ≤ 7100 := by rw [ByteArray.size_append]; show 0 + rv16.size ≤ 7100; omega
   have HS3 : Hid (strOfNums (rowL [102, 114, 111, 109] (a.x16 ++ 47 :: a.x17)) = (⟨#[]⟩ : ByteArray) ++ rv16) := by rw [hq8.out]; exact (ByteArray.empty_append).symm
   obtain ⟨A1, k1c, hca, l22⟩ := TW.out.1.lstc
   have c22 := TW.out.1.cellS 22 _ hca
   have C22 := TW.out.1.lstAt hca
   by_cases hle : a.x22 = []
   ·have t5 : decide (0 < a.x22.length) = false := by rw [hle]; rfl
    have t6 : decide (0 < (a.x22.length : Int)) = false := by rw [hle]; rfl
    replace HR := Lib.hid (show extraS a = rowL [102, 114, 111, 109] (a.x16 ++ 47 :: a.x17) ++ rowL [115, 116, 97, 116, 101] (stateV a) from by
     have h1 := HR.out
     rw [h1, show listV a = [] from by unfold listV; rw [hle]; rfl, rowL_nil]
     simp)
    replace hle := Lib.hid hle
    clear C22 hca
    have c23 : W2.cell? ⟨w.heap.size, 23, none⟩ = some (.int .i64 a.x23) := TW.out.str 23 (.int .i64 a.x23) (fun cs hc => by obtain ⟨v, hv, rfl⟩ := hc.get 23 (by decide); exact hv)
    by_cases hs0 : a.x23 = 0
    ·have t7 : (a.x23 == 0) = true := by simpa using hs0
     have t8 : (a.x23 != 0) = false := by simpa using hs0
     have hr : Hid (extraS a = rowL [102, 114, 111, 109] (a.x16 ++ 47 :: a.x17)) := by
      have h1 := HR.out
      show extraS a = _
      rw [h1, show stateV a = [] from by unfold stateV; rw [if_pos hs0], rowL_nil]
      simp
     replace hs0 := Lib.hid hs0
     generalize a.x23 = m23 at c23 t7 t8
     clear HR
     go_wp2_with fail
     go_ret
     exact (show StrP w (extraS a) (.returned (.string ((⟨#[]⟩ : ByteArray) ++ rv16))) _ from ⟨by rw [hr.out, HS3.out], TW.out.2⟩)
    ·have t7 : (a.x23 == 0) = false := by simpa using hs0
     have t8 : (a.x23 != 0) = true := by simpa using hs0
     obtain ⟨n23, hn23⟩ := Int.eq_ofNat_of_zero_le hs.1
     have hn3 : n23 < 3 := by omega
     have hn1 : 1 ≤ n23 := by omega
     have hsv := states_at n23 hn3
     have hgd : statesL.getD n23 ⟨#[]⟩ = strOfNums (sL.getD n23 []) := by rw [sW_eq]; exact getD_str sL n23
     rw [hgd] at hsv
     have hne : sL.getD n23 [] ≠ [] := by
      have : ∀ n : Fin 3, sL.getD n.1 [] ≠ [] := by decide
      exact this ⟨n23, hn3⟩
     have hsl : (sL.getD n23 []).length ≤ 20 := by
      have : ∀ n : Fin 3, (sL.getD n.1 []).length ≤ 20 := by decide
      exact this ⟨n23, hn3⟩
     have hr : Hid (extraS a = rowL [102, 114, 111, 109] (a.x16 ++ 47 :: a.x17) ++ rowL [115, 116, 97, 116, 101] (sL.getD n23 [])) := by
      have h1 := HR.out
      show extraS a = _
      rw [h1, show stateV a = sL.getD n23 [] from by unfold stateV; rw [if_neg hs0, hn23, Int.toNat_natCast]]
     have hrl : (rowL [115, 116, 97, 116, 101] (sL.getD n23 [])).length ≤ 100 := by
      rw [rowL_eq _ _ hne]
      simp only [List.length_append, List.length_cons, List.length_nil]
      omega
     have HSt := Lib.hid (states_calls W2.drew)
     have HRo := fun W => Lib.hid (row_calls [115, 116, 97, 116, 101] (sL.getD n23 []) hne (by simp) (by omega) W)
     have ltg := blk_lt TW.out.1.1
     rw [hn23] at c23 t7 t8
     replace hn23 := Lib.hid hn23
     replace hs0 := Lib.hid hs0
     generalize hq1 : strOfNums (sL.getD n23 []) = sv at hsv HRo
     generalize hq2 : strOfNums (rowL [115, 116, 97, 116, 101] (sL.getD n23 [])) = rv at HRo
     have z4 : rv.size ≤ 100 := str_sz hq2 100 hrl
     generalize statesV = sV at hsv HSt
     have hidx := fun W => run_index_at (P := Tryd.prog) 82 sV n23 3 9 Tryd.underlying82 hn3 Tryd.sizeOf9 Tryd.isAgg9 _ hsv W
     clear hsv
     have kw : (⟨#[115, 116, 97, 116, 101]⟩ : ByteArray) = strOfNums [115, 116, 97, 116, 101] := rfl
     rw [← kw] at HRo
     clear HR hgd hne hsl hrl kw hq1
     replace hq2 := Lib.hid hq2
     have hz7 : ¬ 9223372036854775807 < (((⟨#[]⟩ : ByteArray) ++ rv16)).size + rv.size := by omega
     have hz8 : ¬ 9223372036854775807 < rv16.size + rv.size := by omega
     go_wp2_with fail
     go_region_held3 (fun W' => W'.cell? ⟨w.heap.size, 23, none⟩ = some (.int .i64 n23)) (first | exact c23 | exact k1 | assumption) ((first
      | ((with_reducible refine HSt.out.mono ?_); rintro e wS ⟨rfl, BS⟩; have k1 : wS.cell? ⟨w.heap.size, 23, none⟩ = some (.int .i64 n23) := (BS.cell (p := ⟨w.heap.size, 23, none⟩) ltg).trans c23; have TW2 := Lib.hid (TW.out.drew.below BS); clear BS)
      | ((with_reducible refine (HRo _).out.mono ?_); rintro e wS2 ⟨rfl, ⟨nS, rfl⟩⟩)))
     go_wp2_with fail
     go_ret
     exact (show StrP w (extraS a) (.returned (.string (((⟨#[]⟩ : ByteArray) ++ rv16) ++ rv))) _ from ⟨by rw [hr.out, ← str_app, HS3.out, hq2.out], (TW2.out.drewN _).2⟩)
   ·have hlp := List.length_pos_iff.2 hle
    have t5 : decide (0 < a.x22.length) = true := decide_eq_true hlp
    have t6 : decide (0 < (a.x22.length : Int)) = true := decide_eq_true (by omega)
    have hll := sa.l22
    replace hle := Lib.hid hle
    obtain ⟨ad, rfl, hcz⟩ := Kd.at_int C22 0 (by omega) (by omega)
    clear hcz
    replace hca := Lib.hid hca
    clear C22
    go_wp2_with fail
    go_loopw [31, 4] (fun s v wr => ∃ j : Nat, j ≤ a.x22.length ∧ s = .int .i64 j ∧ Hid (Kd.R Kd.string 9 wr (w.heap.size + 1) (fun _ => True) v (((a.x22.take j).map fun n => digits n.toNat).map strOfNums)) ∧ Hid (OneAt w w.heap.size ca a wr) ∧ w.heap.size + 1 ≤ wr.heap.size) (fun s _ _ => a.x22.length - (intOf s).toNat)
    case atStart => exact ⟨0, Nat.zero_le _, rfl, Kd.R_nil _ _ _ _ _, TW.out, by have := blk_lt TW.out.1.1; omega⟩
    case round =>
     clear TW c22
     obtain ⟨j, hj, rfl, HL, TW, hwr⟩ := hrel
     obtain ⟨A2, cl, hvl⟩ := Kd.R_slice HL.out
     have hlen : ((((a.x22.take j).map fun n => digits n.toNat).map strOfNums)).length = j := by simp; omega
     rw [hlen] at hvl
     subst hvl
     by_cases hjn : j < a.x22.length
     ·have hjl : (j : Int) < (a.x22.length : Int) := by omega
      obtain ⟨n, hn⟩ : ∃ n, a.x22[j]? = some n := ⟨_, List.getElem?_eq_getElem hjn⟩
      have hn2 := hl n (List.mem_of_getElem? hn)
      have hrd : rd a.x22 (j : Int) = n := by unfold rd; rw [Int.toNat_natCast, List.getD_eq_getElem?_getD, hn]; rfl
      have x3 : wr.cell? (ad.add j) = some (.int .i64 n) := by
       have hbw := TW.out.1.lstAt hca.out
       obtain ⟨ad', he, hc⟩ := Kd.at_int hbw (j : Int) (by omega) hjl
       obtain rfl := Option.some.inj he
       rw [Int.toNat_natCast, hrd] at hc
       exact hc
      have HD := Lib.hid (digits_calls n hn2.1 hn2.2 wr)
      have hds := digits_short n hn2.1 hn2.2
      generalize hdg : strOfNums (digits n.toNat) = sd at HD
      have hnx : ((a.x22.take (j + 1)).map fun n => digits n.toNat).map strOfNums = ((a.x22.take j).map fun n => digits n.toNat).map strOfNums ++ [sd] := by
       rw [List.take_succ_eq_append_getElem hjn, ← Option.some.inj ((List.getElem?_eq_getElem hjn).symm.trans hn).symm, List.map_append, List.map_append, ← hdg]
       rfl
      replace hnx := Lib.hid hnx
      replace hn := Lib.hid hn
      replace hdg := Lib.hid hdg
      replace hrd := Lib.hid hrd
      go_wp2_with fail
      refine HD.out.mono ?_
      rintro e w5 ⟨rfl, ⟨nd, rfl⟩⟩
      replace HL := Lib.hid (Kd.R_drewN HL.out nd)
      replace TW := Lib.hid (TW.out.drewN nd)
      replace hwr : w.heap.size + 1 ≤ (wr.drewN nd).heap.size := hwr
      generalize wr.drewN nd = W5 at *
      replace hlen := Lib.hid hlen
      clear HD x3
      go_wp2_with (first | ((with_reducible refine gate_builtin (b := .append) (xs := #[.tmp 35, .tmp 38]) rfl ?_); at_builtin; refine Kd.R_append Kd.string (w0 := W5) (w.heap.size + 1) rfl (.tmp 35) (.tmp 38) 40 9 (.string ⟨#[]⟩) 16 rfl Tryd.underlying40 info9 rfl (by decide) (by omega) (.slice A2 j cl) (((a.x22.take j).map fun n => digits n.toNat).map strOfNums) sd [.string sd] (fun _ => True) (fun _ => False) rfl rfl ?aP (fun _ hk => hk.elim) ?aF ?aO ?aB ?aS ?aL ?_; (case aP => exact rfl); (case aB => exact Below.refl _ _); (case aF => exact (fun _ _ => trivial)); (case aO => exact HL.out); (case aS => exact hwr); (case aL => have := hlen.out; omega); intro v1 w6 ho hb2 hg2 hat; rw [← hnx.out] at ho; have L1 := Lib.hid ho; have B6 := Lib.hid hb2; clear ho hb2 hg2 hat))
      have TW6 := Lib.hid (show OneAt w w.heap.size ca a w6 from ⟨⟨(B6.out.block _ (by omega)).trans TW.out.1.1, (CX.out w6 (TW.out.2.trans (B6.out.mono (by omega))))⟩, TW.out.2.trans (B6.out.mono (by omega))⟩)
      have hw6 : w.heap.size + 1 ≤ w6.heap.size := Nat.le_trans hwr B6.out.size
      go_roundw
      case rel => exact ⟨j + 1, by omega, by go_num, L1.out, TW6.out, hw6⟩
      case measure => simp [intOf]; omega
     ·have hjl : ¬ (j : Int) < (a.x22.length : Int) := by omega
      obtain rfl : j = a.x22.length := by omega
      have HLf := HL.out
      rw [List.take_of_length_le (Nat.le_refl _)] at HLf
      obtain ⟨g9, cp9, hv9, h91, h92, _⟩ := Kd.R_form HLf (by simp; omega)
      have hlm : (((a.x22.map fun n => digits n.toNat).map strOfNums)).length = a.x22.length := by simp
      rw [hlm] at hv9
      simp only [Value.slice.injEq] at hv9
      obtain ⟨rfl, _, rfl⟩ := hv9
      have hRr := Kd.R_reads' HLf
      have hlx : ((a.x22.map fun n => digits n.toNat)).length = a.x22.length := by simp
      have HJ := join_calls g9 cl (a.x22.map fun n => digits n.toNat) wr (by have := hRr.2.2; rw [hlm] at this; rw [hlx]; exact this) h92 (by rw [hlx]; exact hRr.2.1) (by rw [hlx]; omega) (fun x hx => by
       obtain ⟨n, hn, rfl⟩ := List.mem_map.1 hx
       have := hl n hn
       have := digits_short n this.1 this.2
       omega)
      rw [hlx] at HJ
      have hvn : listV a ≠ [] := joinL_ne _ (by simp; exact hle.out) (fun x hx => by
       obtain ⟨n, hn, rfl⟩ := List.mem_map.1 hx
       exact digits_ne _)
      have hvl : (listV a).length ≤ 1000 := by
       have h1 := joinL_len (a.x22.map fun n => digits n.toNat) 13 (fun x hx => by
        obtain ⟨n, hn, rfl⟩ := List.mem_map.1 hx
        have := hl n hn
        exact digits_short n this.1 this.2)
       rw [hlx] at h1
       have h2 := Nat.mul_le_mul_right (13 + 1) sa.l22
       unfold listV
       omega
      have HRo := fun W => Lib.hid (row_calls [108, 105, 115, 116] (listV a) hvn (by simp) (by omega) W)
      have hrl : (rowL [108, 105, 115, 116] (listV a)).length ≤ 1100 := by
       rw [rowL_eq _ _ hvn]
       simp only [List.length_append, List.length_cons, List.length_nil]
       omega
      have e9 : strOfNums (joinL (a.x22.map fun n => digits n.toNat)) = strOfNums (listV a) := rfl
      rw [e9] at HJ
      replace HJ := Lib.hid HJ
      generalize hq1 : strOfNums (listV a) = svL at HJ HRo
      generalize hq3 : strOfNums (rowL [108, 105, 115, 116] (listV a)) = rvL at HRo
      have z5 : rvL.size ≤ 1100 := str_sz hq3 1100 hrl
      have kw : (⟨#[108, 105, 115, 116]⟩ : ByteArray) = strOfNums [108, 105, 115, 116] := rfl
      rw [← kw] at HRo
      clear HL HLf hRr hlm hlx hvn hvl hrl kw e9 hq1
      replace hq3 := Lib.hid hq3
      replace hlen := Lib.hid hlen
      go_wp2_with fail
      refine HJ.out.mono ?_
      rintro e w7 ⟨rfl, B7⟩
      replace TW := Lib.hid (TW.out.below B7)
      clear HJ B7
      go_wp2_with fail
      refine (HRo _).out.mono ?_
      rintro e w8 ⟨rfl, ⟨n8, rfl⟩⟩
      replace TW := Lib.hid (TW.out.drewN n8)
      clear HRo
      generalize w7.drewN n8 = W8 at *
      have HS4 := Lib.hid (show strOfNums (rowL [102, 114, 111, 109] (a.x16 ++ 47 :: a.x17) ++ rowL [108, 105, 115, 116] (listV a)) = ((⟨#[]⟩ : ByteArray) ++ rv16) ++ rvL from by rw [← str_app, HS3.out, hq3.out])
      have z6 : (((⟨#[]⟩ : ByteArray) ++ rv16) ++ rvL).size ≤ 20000 := by rw [ByteArray.size_append]; omega
      have z6b : (((⟨#[]⟩ : ByteArray) ++ rv16)).size + rvL.size ≤ 20000 := by omega
      have c23 : W8.cell? ⟨w.heap.size, 23, none⟩ = some (.int .i64 a.x23) := TW.out.str 23 (.int .i64 a.x23) (fun cs hc => by obtain ⟨v, hv, rfl⟩ := hc.get 23 (by decide); exact hv)
      by_cases hs0 : a.x23 = 0
      ·have t7 : (a.x23 == 0) = true := by simpa using hs0
       have t8 : (a.x23 != 0) = false := by simpa using hs0
       have hr : Hid (extraS a = (rowL [102, 114, 111, 109] (a.x16 ++ 47 :: a.x17) ++ rowL [108, 105, 115, 116] (listV a))) := by
        have h1 := HR.out
        show extraS a = _
        rw [h1, show stateV a = [] from by unfold stateV; rw [if_pos hs0], rowL_nil]
        simp
       replace hs0 := Lib.hid hs0
       generalize a.x23 = m23 at c23 t7 t8
       clear HR
       go_wp2_with fail
       go_ret
       exact (show StrP w (extraS a) (.returned (.string (((⟨#[]⟩ : ByteArray) ++ rv16) ++ rvL))) _ from ⟨by rw [hr.out, HS4.out], TW.out.2⟩)
      ·have t7 : (a.x23 == 0) = false := by simpa using hs0
       have t8 : (a.x23 != 0) = true := by simpa using hs0
       obtain ⟨n23, hn23⟩ := Int.eq_ofNat_of_zero_le hs.1
       have hn3 : n23 < 3 := by omega
       have hn1 : 1 ≤ n23 := by omega
       have hsv := states_at n23 hn3
       have hgd : statesL.getD n23 ⟨#[]⟩ = strOfNums (sL.getD n23 []) := by rw [sW_eq]; exact getD_str sL n23
       rw [hgd] at hsv
       have hne : sL.getD n23 [] ≠ [] := by
        have : ∀ n : Fin 3, sL.getD n.1 [] ≠ [] := by decide
        exact this ⟨n23, hn3⟩
       have hsl : (sL.getD n23 []).length ≤ 20 := by
        have : ∀ n : Fin 3, (sL.getD n.1 []).length ≤ 20 := by decide
        exact this ⟨n23, hn3⟩
       have hr : Hid (extraS a = (rowL [102, 114, 111, 109] (a.x16 ++ 47 :: a.x17) ++ rowL [108, 105, 115, 116] (listV a)) ++ rowL [115, 116, 97, 116, 101] (sL.getD n23 [])) := by
        have h1 := HR.out
        show extraS a = _
        rw [h1, show stateV a = sL.getD n23 [] from by unfold stateV; rw [if_neg hs0, hn23, Int.toNat_natCast]]
       have hrl : (rowL [115, 116, 97, 116, 101] (sL.getD n23 [])).length ≤ 100 := by
        rw [rowL_eq _ _ hne]
        simp only [List.length_append, List.length_cons, List.length_nil]
        omega
       have HSt := Lib.hid (states_calls W8.drew)
       have HRo := fun W => Lib.hid (row_calls [115, 116, 97, 116, 101] (sL.getD n23 []) hne (by simp) (by omega) W)
       have ltg := blk_lt TW.out.1.1
       rw [hn23] at c23 t7 t8
       replace hn23 := Lib.hid hn23
       replace hs0 := Lib.hid hs0
       generalize hq1 : strOfNums (sL.getD n23 []) = sv at hsv HRo
       generalize hq2 : strOfNums (rowL [115, 116, 97, 116, 101] (sL.getD n23 [])) = rv at HRo
       have z4 : rv.size ≤ 100 := str_sz hq2 100 hrl
       generalize statesV = sV at hsv HSt
       have hidx := fun W => run_index_at (P := Tryd.prog) 82 sV n23 3 9 Tryd.underlying82 hn3 Tryd.sizeOf9 Tryd.isAgg9 _ hsv W
       clear hsv
       have kw : (⟨#[115, 116, 97, 116, 101]⟩ : ByteArray) = strOfNums [115, 116, 97, 116, 101] := rfl
       rw [← kw] at HRo
       clear HR hgd hne hsl hrl kw hq1
       replace hq2 := Lib.hid hq2
       have hz7 : ¬ 9223372036854775807 < ((((⟨#[]⟩ : ByteArray) ++ rv16) ++ rvL)).size + rv.size := by omega
       have hz8 : ¬ 9223372036854775807 < rv16.size + rvL.size + rv.size := by omega
       go_wp2_with fail
       go_region_held3 (fun W' => W'.cell? ⟨w.heap.size, 23, none⟩ = some (.int .i64 n23)) (first | exact c23 | exact k1 | assumption) ((first
        | ((with_reducible refine HSt.out.mono ?_); rintro e wS ⟨rfl, BS⟩; have k1 : wS.cell? ⟨w.heap.size, 23, none⟩ = some (.int .i64 n23) := (BS.cell (p := ⟨w.heap.size, 23, none⟩) ltg).trans c23; have TW2 := Lib.hid (TW.out.drew.below BS); clear BS)
        | ((with_reducible refine (HRo _).out.mono ?_); rintro e wS2 ⟨rfl, ⟨nS, rfl⟩⟩)))
       go_wp2_with fail
       go_ret
       exact (show StrP w (extraS a) (.returned (.string ((((⟨#[]⟩ : ByteArray) ++ rv16) ++ rvL) ++ rv))) _ from ⟨by rw [hr.out, ← str_app, HS4.out, hq2.out], (TW2.out.drewN _).2⟩)
 ·have hfv : fromV a = a.x16 ++ 47 :: a.x17 := by unfold fromV; rw [if_neg (fun h => h16 h.1)]
  have hfn : a.x16 ++ 47 :: a.x17 ≠ [] := by simp
  have hfl : (a.x16 ++ 47 :: a.x17).length ≤ 7000 := by simp only [List.length_append, List.length_cons]; omega
  have HRo := fun W => Lib.hid (row_calls [102, 114, 111, 109] (a.x16 ++ 47 :: a.x17) hfn (by simp) (by omega) W)
  have hrl : (rowL [102, 114, 111, 109] (a.x16 ++ 47 :: a.x17)).length ≤ 7100 := by
   rw [rowL_eq _ _ hfn]
   simp only [List.length_append, List.length_cons, List.length_nil]
   omega
  have e1 : strOfNums (a.x16 ++ 47 :: a.x17) = (strOfNums a.x16 ++ (⟨#[47]⟩ : ByteArray)) ++ strOfNums a.x17 := by
   rw [show (⟨#[47]⟩ : ByteArray) = strOfNums [47] from rfl, str_app, str_app]
   simp
  rw [e1] at HRo
  have kw : (⟨#[102, 114, 111, 109]⟩ : ByteArray) = strOfNums [102, 114, 111, 109] := rfl
  rw [← kw] at HRo
  generalize hq6 : strOfNums a.x16 = s16 at c16 HRo
  generalize hq7 : strOfNums a.x17 = s17 at c17 HRo
  have t1 := str_yes hq6 h16
  have t2 := str_sz hq7 3000 hz17
  have z16 : s16.size ≤ 3000 := str_sz hq6 3000 hz16
  have z17 : s17.size ≤ 3000 := str_sz hq7 3000 hz17
  generalize hq8 : strOfNums (rowL [102, 114, 111, 109] (a.x16 ++ 47 :: a.x17)) = rv16 at HRo
  have z18 : rv16.size ≤ 7100 := str_sz hq8 7100 hrl
  replace HR := Lib.hid (show extraS a = rowL [102, 114, 111, 109] (a.x16 ++ 47 :: a.x17) ++ rowL [108, 105, 115, 116] (listV a) ++ rowL [115, 116, 97, 116, 101] (stateV a) from by rw [HR.out, hfv])
  clear hfv hfn hfl hrl e1 kw
  replace hq6 := Lib.hid hq6
  replace hq7 := Lib.hid hq7
  replace hq8 := Lib.hid hq8
  replace h16 := Lib.hid h16
  go_wp2_with fail
  refine (HRo _).out.mono ?_
  rintro e w2 ⟨rfl, ⟨n2, rfl⟩⟩
  replace TW := Lib.hid (TW.out.drewN n2)
  clear HRo
  generalize (w.alloc (.cells ca 26)).drewN n2 = W2 at *
  have z3 : ((⟨#[]⟩ : ByteArray) ++ rv16).size ≤ 7100 := by rw [ByteArray.size_append]; show 0 + rv16.size ≤ 7100; omega
  have HS3 : Hid (strOfNums (rowL [102, 114, 111, 109] (a.x16 ++ 47 :: a.x17)) = (⟨#[]⟩ : ByteArray) ++ rv16) := by rw [hq8.out]; exact (ByteArray.empty_append).symm
  obtain ⟨A1, k1c, hca, l22⟩ := TW.out.1.lstc
  have c22 := TW.out.1.cellS 22 _ hca
  have C22 := TW.out.1.lstAt hca
  by_cases hle : a.x22 = []
  ·have t5 : decide (0 < a.x22.length) = false := by rw [hle]; rfl
   have t6 : decide (0 < (a.x22.length : Int)) = false := by rw [hle]; rfl
   replace HR := Lib.hid (show extraS a = rowL [102, 114, 111, 109] (a.x16 ++ 47 :: a.x17) ++ rowL [115, 116, 97, 116, 101] (stateV a) from by
    have h1 := HR.out
    rw [h1, show listV a = [] from by unfold listV; rw [hle]; rfl, rowL_nil]
    simp)
   replace hle := Lib.hid hle
   clear C22 hca
   have c23 : W2.cell? ⟨w.heap.size, 23, none⟩ = some (.int .i64 a.x23) := TW.out.str 23 (.int .i64 a.x23) (fun cs hc => by obtain ⟨v, hv, rfl⟩ := hc.get 23 (by decide); exact hv)
   by_cases hs0 : a.x23 = 0
   ·have t7 : (a.x23 == 0) = true := by simpa using hs0
    have t8 : (a.x23 != 0) = false := by simpa using hs0
    have hr : Hid (extraS a = rowL [102, 114, 111, 109] (a.x16 ++ 47 :: a.x17)) := by
     have h1 := HR.out
     show extraS a = _
     rw [h1, show stateV a = [] from by unfold stateV; rw [if_pos hs0], rowL_nil]
     simp
    replace hs0 := Lib.hid hs0
    generalize a.x23 = m23 at c23 t7 t8
    clear HR
    go_wp2_with fail
    go_ret
    exact (show StrP w (extraS a) (.returned (.string ((⟨#[]⟩ : ByteArray) ++ rv16))) _ from ⟨by rw [hr.out, HS3.out], TW.out.2⟩)
   ·have t7 : (a.x23 == 0) = false := by simpa using hs0
    have t8 : (a.x23 != 0) = true := by simpa using hs0
    obtain ⟨n23, hn23⟩ := Int.eq_ofNat_of_zero_le hs.1
    have hn3 : n23 < 3 := by omega
    have hn1 : 1 ≤ n23 := by omega
    have hsv := states_at n23 hn3
    have hgd : statesL.getD n23 ⟨#[]⟩ = strOfNums (sL.getD n23 []) := by rw [sW_eq]; exact getD_str sL n23
    rw [hgd] at hsv
    have hne : sL.getD n23 [] ≠ [] := by
     have : ∀ n : Fin 3, sL.getD n.1 [] ≠ [] := by decide
     exact this ⟨n23, hn3⟩
    have hsl : (sL.getD n23 []).length ≤ 20 := by
     have : ∀ n : Fin 3, (sL.getD n.1 []).length ≤ 20 := by decide
     exact this ⟨n23, hn3⟩
    have hr : Hid (extraS a = rowL [102, 114, 111, 109] (a.x16 ++ 47 :: a.x17) ++ rowL [115, 116, 97, 116, 101] (sL.getD n23 [])) := by
     have h1 := HR.out
     show extraS a = _
     rw [h1, show stateV a = sL.getD n23 [] from by unfold stateV; rw [if_neg hs0, hn23, Int.toNat_natCast]]
    have hrl : (rowL [115, 116, 97, 116, 101] (sL.getD n23 [])).length ≤ 100 := by
     rw [rowL_eq _ _ hne]
     simp only [List.length_append, List.length_cons, List.length_nil]
     omega
    have HSt := Lib.hid (states_calls W2.drew)
    have HRo := fun W => Lib.hid (row_calls [115, 116, 97, 116, 101] (sL.getD n23 []) hne (by simp) (by omega) W)
    have ltg := blk_lt TW.out.1.1
    rw [hn23] at c23 t7 t8
    replace hn23 := Lib.hid hn23
    replace hs0 := Lib.hid hs0
    generalize hq1 : strOfNums (sL.getD n23 []) = sv at hsv HRo
    generalize hq2 : strOfNums (rowL [115, 116, 97, 116, 101] (sL.getD n23 [])) = rv at HRo
    have z4 : rv.size ≤ 100 := str_sz hq2 100 hrl
    generalize statesV = sV at hsv HSt
    have hidx := fun W => run_index_at (P := Tryd.prog) 82 sV n23 3 9 Tryd.underlying82 hn3 Tryd.sizeOf9 Tryd.isAgg9 _ hsv W
    clear hsv
    have kw : (⟨#[115, 116, 97, 116, 101]⟩ : ByteArray) = strOfNums [115, 116, 97, 116, 101] := rfl
    rw [← kw] at HRo
    clear HR hgd hne hsl hrl kw hq1
    replace hq2 := Lib.hid hq2
    have hz7 : ¬ 9223372036854775807 < (((⟨#[]⟩ : ByteArray) ++ rv16)).size + rv.size := by omega
    have hz8 : ¬ 9223372036854775807 < rv16.size + rv.size := by omega
    go_wp2_with fail
    go_region_held3 (fun W' => W'.cell? ⟨w.heap.size, 23, none⟩ = some (.int .i64 n23)) (first | exact c23 | exact k1 | assumption) ((first
     | ((with_reducible refine HSt.out.mono ?_); rintro e wS ⟨rfl, BS⟩; have k1 : wS.cell? ⟨w.heap.size, 23, none⟩ = some (.int .i64 n23) := (BS.cell (p := ⟨w.heap.size, 23, none⟩) ltg).trans c23; have TW2 := Lib.hid (TW.out.drew.below BS); clear BS)
     | ((with_reducible refine (HRo _).out.mono ?_); rintro e wS2 ⟨rfl, ⟨nS, rfl⟩⟩)))
    go_wp2_with fail
    go_ret
    exact (show StrP w (extraS a) (.returned (.string (((⟨#[]⟩ : ByteArray) ++ rv16) ++ rv))) _ from ⟨by rw [hr.out, ← str_app, HS3.out, hq2.out], (TW2.out.drewN _).2⟩)
  ·have hlp := List.length_pos_iff.2 hle
   have t5 : decide (0 < a.x22.length) = true := decide_eq_true hlp
   have t6 : decide (0 < (a.x22.length : Int)) = true := decide_eq_true (by omega)
   have hll := sa.l22
   replace hle := Lib.hid hle
   obtain ⟨ad, rfl, hcz⟩ := Kd.at_int C22 0 (by omega) (by omega)
   clear hcz
   replace hca := Lib.hid hca
   clear C22
   go_wp2_with fail
   go_loopw [31, 4] (fun s v wr => ∃ j : Nat, j ≤ a.x22.length ∧ s = .int .i64 j ∧ Hid (Kd.R Kd.string 9 wr (w.heap.size + 1) (fun _ => True) v (((a.x22.take j).map fun n => digits n.toNat).map strOfNums)) ∧ Hid (OneAt w w.heap.size ca a wr) ∧ w.heap.size + 1 ≤ wr.heap.size) (fun s _ _ => a.x22.length - (intOf s).toNat)
   case atStart => exact ⟨0, Nat.zero_le _, rfl, Kd.R_nil _ _ _ _ _, TW.out, by have := blk_lt TW.out.1.1; omega⟩
   case round =>
    clear TW c22
    obtain ⟨j, hj, rfl, HL, TW, hwr⟩ := hrel
    obtain ⟨A2, cl, hvl⟩ := Kd.R_slice HL.out
    have hlen : ((((a.x22.take j).map fun n => digits n.toNat).map strOfNums)).length = j := by simp; omega
    rw [hlen] at hvl
    subst hvl
    by_cases hjn : j < a.x22.length
    ·have hjl : (j : Int) < (a.x22.length : Int) := by omega
     obtain ⟨n, hn⟩ : ∃ n, a.x22[j]? = some n := ⟨_, List.getElem?_eq_getElem hjn⟩
     have hn2 := hl n (List.mem_of_getElem? hn)
     have hrd : rd a.x22 (j : Int) = n := by unfold rd; rw [Int.toNat_natCast, List.getD_eq_getElem?_getD, hn]; rfl
     have x3 : wr.cell? (ad.add j) = some (.int .i64 n) := by
      have hbw := TW.out.1.lstAt hca.out
      obtain ⟨ad', he, hc⟩ := Kd.at_int hbw (j : Int) (by omega) hjl
      obtain rfl := Option.some.inj he
      rw [Int.toNat_natCast, hrd] at hc
      exact hc
     have HD := Lib.hid (digits_calls n hn2.1 hn2.2 wr)
     have hds := digits_short n hn2.1 hn2.2
     generalize hdg : strOfNums (digits n.toNat) = sd at HD
     have hnx : ((a.x22.take (j + 1)).map fun n => digits n.toNat).map strOfNums = ((a.x22.take j).map fun n => digits n.toNat).map strOfNums ++ [sd] := by
      rw [List.take_succ_eq_append_getElem hjn, ← Option.some.inj ((List.getElem?_eq_getElem hjn).symm.trans hn).symm, List.map_append, List.map_append, ← hdg]
      rfl
     replace hnx := Lib.hid hnx
     replace hn := Lib.hid hn
     replace hdg := Lib.hid hdg
     replace hrd := Lib.hid hrd
     go_wp2_with fail
     refine HD.out.mono ?_
     rintro e w5 ⟨rfl, ⟨nd, rfl⟩⟩
     replace HL := Lib.hid (Kd.R_drewN HL.out nd)
     replace TW := Lib.hid (TW.out.drewN nd)
     replace hwr : w.heap.size + 1 ≤ (wr.drewN nd).heap.size := hwr
     generalize wr.drewN nd = W5 at *
     replace hlen := Lib.hid hlen
     clear HD x3
     go_wp2_with (first | ((with_reducible refine gate_builtin (b := .append) (xs := #[.tmp 35, .tmp 38]) rfl ?_); at_builtin; refine Kd.R_append Kd.string (w0 := W5) (w.heap.size + 1) rfl (.tmp 35) (.tmp 38) 40 9 (.string ⟨#[]⟩) 16 rfl Tryd.underlying40 info9 rfl (by decide) (by omega) (.slice A2 j cl) (((a.x22.take j).map fun n => digits n.toNat).map strOfNums) sd [.string sd] (fun _ => True) (fun _ => False) rfl rfl ?aP (fun _ hk => hk.elim) ?aF ?aO ?aB ?aS ?aL ?_; (case aP => exact rfl); (case aB => exact Below.refl _ _); (case aF => exact (fun _ _ => trivial)); (case aO => exact HL.out); (case aS => exact hwr); (case aL => have := hlen.out; omega); intro v1 w6 ho hb2 hg2 hat; rw [← hnx.out] at ho; have L1 := Lib.hid ho; have B6 := Lib.hid hb2; clear ho hb2 hg2 hat))
     have TW6 := Lib.hid (show OneAt w w.heap.size ca a w6 from ⟨⟨(B6.out.block _ (by omega)).trans TW.out.1.1, (CX.out w6 (TW.out.2.trans (B6.out.mono (by omega))))⟩, TW.out.2.trans (B6.out.mono (by omega))⟩)
     have hw6 : w.heap.size + 1 ≤ w6.heap.size := Nat.le_trans hwr B6.out.size
     go_roundw
     case rel => exact ⟨j + 1, by omega, by go_num, L1.out, TW6.out, hw6⟩
     case measure => simp [intOf]; omega
    ·have hjl : ¬ (j : Int) < (a.x22.length : Int) := by omega
     obtain rfl : j = a.x22.length := by omega
     have HLf := HL.out
     rw [List.take_of_length_le (Nat.le_refl _)] at HLf
     obtain ⟨g9, cp9, hv9, h91, h92, _⟩ := Kd.R_form HLf (by simp; omega)
     have hlm : (((a.x22.map fun n => digits n.toNat).map strOfNums)).length = a.x22.length := by simp
     rw [hlm] at hv9
     simp only [Value.slice.injEq] at hv9
     obtain ⟨rfl, _, rfl⟩ := hv9
     have hRr := Kd.R_reads' HLf
     have hlx : ((a.x22.map fun n => digits n.toNat)).length = a.x22.length := by simp
     have HJ := join_calls g9 cl (a.x22.map fun n => digits n.toNat) wr (by have := hRr.2.2; rw [hlm] at this; rw [hlx]; exact this) h92 (by rw [hlx]; exact hRr.2.1) (by rw [hlx]; omega) (fun x hx => by
      obtain ⟨n, hn, rfl⟩ := List.mem_map.1 hx
      have := hl n hn
      have := digits_short n this.1 this.2
      omega)
     rw [hlx] at HJ
     have hvn : listV a ≠ [] := joinL_ne _ (by simp; exact hle.out) (fun x hx => by
      obtain ⟨n, hn, rfl⟩ := List.mem_map.1 hx
      exact digits_ne _)
     have hvl : (listV a).length ≤ 1000 := by
      have h1 := joinL_len (a.x22.map fun n => digits n.toNat) 13 (fun x hx => by
       obtain ⟨n, hn, rfl⟩ := List.mem_map.1 hx
       have := hl n hn
       exact digits_short n this.1 this.2)
      rw [hlx] at h1
      have h2 := Nat.mul_le_mul_right (13 + 1) sa.l22
      unfold listV
      omega
     have HRo := fun W => Lib.hid (row_calls [108, 105, 115, 116] (listV a) hvn (by simp) (by omega) W)
     have hrl : (rowL [108, 105, 115, 116] (listV a)).length ≤ 1100 := by
      rw [rowL_eq _ _ hvn]
      simp only [List.length_append, List.length_cons, List.length_nil]
      omega
     have e9 : strOfNums (joinL (a.x22.map fun n => digits n.toNat)) = strOfNums (listV a) := rfl
     rw [e9] at HJ
     replace HJ := Lib.hid HJ
     generalize hq1 : strOfNums (listV a) = svL at HJ HRo
     generalize hq3 : strOfNums (rowL [108, 105, 115, 116] (listV a)) = rvL at HRo
     have z5 : rvL.size ≤ 1100 := str_sz hq3 1100 hrl
     have kw : (⟨#[108, 105, 115, 116]⟩ : ByteArray) = strOfNums [108, 105, 115, 116] := rfl
     rw [← kw] at HRo
     clear HL HLf hRr hlm hlx hvn hvl hrl kw e9 hq1
     replace hq3 := Lib.hid hq3
     replace hlen := Lib.hid hlen
     go_wp2_with fail
     refine HJ.out.mono ?_
     rintro e w7 ⟨rfl, B7⟩
     replace TW := Lib.hid (TW.out.below B7)
     clear HJ B7
     go_wp2_with fail
     refine (HRo _).out.mono ?_
     rintro e w8 ⟨rfl, ⟨n8, rfl⟩⟩
     replace TW := Lib.hid (TW.out.drewN n8)
     clear HRo
     generalize w7.drewN n8 = W8 at *
     have HS4 := Lib.hid (show strOfNums (rowL [102, 114, 111, 109] (a.x16 ++ 47 :: a.x17) ++ rowL [108, 105, 115, 116] (listV a)) = ((⟨#[]⟩ : ByteArray) ++ rv16) ++ rvL from by rw [← str_app, HS3.out, hq3.out])
     have z6 : (((⟨#[]⟩ : ByteArray) ++ rv16) ++ rvL).size ≤ 20000 := by rw [ByteArray.size_append]; omega
     have z6b : (((⟨#[]⟩ : ByteArray) ++ rv16)).size + rvL.size ≤ 20000 := by omega
     have c23 : W8.cell? ⟨w.heap.size, 23, none⟩ = some (.int .i64 a.x23) := TW.out.str 23 (.int .i64 a.x23) (fun cs hc => by obtain ⟨v, hv, rfl⟩ := hc.get 23 (by decide); exact hv)
     by_cases hs0 : a.x23 = 0
     ·have t7 : (a.x23 == 0) = true := by simpa using hs0
      have t8 : (a.x23 != 0) = false := by simpa using hs0
      have hr : Hid (extraS a = (rowL [102, 114, 111, 109] (a.x16 ++ 47 :: a.x17) ++ rowL [108, 105, 115, 116] (listV a))) := by
       have h1 := HR.out
       show extraS a = _
       rw [h1, show stateV a = [] from by unfold stateV; rw [if_pos hs0], rowL_nil]
       simp
      replace hs0 := Lib.hid hs0
      generalize a.x23 = m23 at c23 t7 t8
      clear HR
      go_wp2_with fail
      go_ret
      exact (show StrP w (extraS a) (.returned (.string (((⟨#[]⟩ : ByteArray) ++ rv16) ++ rvL))) _ from ⟨by rw [hr.out, HS4.out], TW.out.2⟩)
     ·have t7 : (a.x23 == 0) = false := by simpa using hs0
      have t8 : (a.x23 != 0) = true := by simpa using hs0
      obtain ⟨n23, hn23⟩ := Int.eq_ofNat_of_zero_le hs.1
      have hn3 : n23 < 3 := by omega
      have hn1 : 1 ≤ n23 := by omega
      have hsv := states_at n23 hn3
      have hgd : statesL.getD n23 ⟨#[]⟩ = strOfNums (sL.getD n23 []) := by rw [sW_eq]; exact getD_str sL n23
      rw [hgd] at hsv
      have hne : sL.getD n23 [] ≠ [] := by
       have : ∀ n : Fin 3, sL.getD n.1 [] ≠ [] := by decide
       exact this ⟨n23, hn3⟩
      have hsl : (sL.getD n23 []).length ≤ 20 := by
       have : ∀ n : Fin 3, (sL.getD n.1 []).length ≤ 20 := by decide
       exact this ⟨n23, hn3⟩
      have hr : Hid (extraS a = (rowL [102, 114, 111, 109] (a.x16 ++ 47 :: a.x17) ++ rowL [108, 105, 115, 116] (listV a)) ++ rowL [115, 116, 97, 116, 101] (sL.getD n23 [])) := by
       have h1 := HR.out
       show extraS a = _
       rw [h1, show stateV a = sL.getD n23 [] from by unfold stateV; rw [if_neg hs0, hn23, Int.toNat_natCast]]
      have hrl : (rowL [115, 116, 97, 116, 101] (sL.getD n23 [])).length ≤ 100 := by
       rw [rowL_eq _ _ hne]
       simp only [List.length_append, List.length_cons, List.length_nil]
       omega
      have HSt := Lib.hid (states_calls W8.drew)
      have HRo := fun W => Lib.hid (row_calls [115, 116, 97, 116, 101] (sL.getD n23 []) hne (by simp) (by omega) W)
      have ltg := blk_lt TW.out.1.1
      rw [hn23] at c23 t7 t8
      replace hn23 := Lib.hid hn23
      replace hs0 := Lib.hid hs0
      generalize hq1 : strOfNums (sL.getD n23 []) = sv at hsv HRo
      generalize hq2 : strOfNums (rowL [115, 116, 97, 116, 101] (sL.getD n23 [])) = rv at HRo
      have z4 : rv.size ≤ 100 := str_sz hq2 100 hrl
      generalize statesV = sV at hsv HSt
      have hidx := fun W => run_index_at (P := Tryd.prog) 82 sV n23 3 9 Tryd.underlying82 hn3 Tryd.sizeOf9 Tryd.isAgg9 _ hsv W
      clear hsv
      have kw : (⟨#[115, 116, 97, 116, 101]⟩ : ByteArray) = strOfNums [115, 116, 97, 116, 101] := rfl
      rw [← kw] at HRo
      clear HR hgd hne hsl hrl kw hq1
      replace hq2 := Lib.hid hq2
      have hz7 : ¬ 9223372036854775807 < ((((⟨#[]⟩ : ByteArray) ++ rv16) ++ rvL)).size + rv.size := by omega
      have hz8 : ¬ 9223372036854775807 < rv16.size + rvL.size + rv.size := by omega
      go_wp2_with fail
      go_region_held3 (fun W' => W'.cell? ⟨w.heap.size, 23, none⟩ = some (.int .i64 n23)) (first | exact c23 | exact k1 | assumption) ((first
       | ((with_reducible refine HSt.out.mono ?_); rintro e wS ⟨rfl, BS⟩; have k1 : wS.cell? ⟨w.heap.size, 23, none⟩ = some (.int .i64 n23) := (BS.cell (p := ⟨w.heap.size, 23, none⟩) ltg).trans c23; have TW2 := Lib.hid (TW.out.drew.below BS); clear BS)
       | ((with_reducible refine (HRo _).out.mono ?_); rintro e wS2 ⟨rfl, ⟨nS, rfl⟩⟩)))
      go_wp2_with fail
      go_ret
      exact (show StrP w (extraS a) (.returned (.string ((((⟨#[]⟩ : ByteArray) ++ rv16) ++ rvL) ++ rv))) _ from ⟨by rw [hr.out, ← str_app, HS4.out, hq2.out], (TW2.out.drewN _).2⟩)
end Go.Proofs.YtjkehapbemjnpaaDoor
