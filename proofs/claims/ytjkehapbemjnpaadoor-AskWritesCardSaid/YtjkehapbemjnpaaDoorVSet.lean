/- What a line sets, walked by hand: each way; no condition beside those in each theorem. -/
import Derived.Test.YtjkehapbemjnpaaDoorVRec
set_option maxHeartbeats 2000000
namespace Go.Proofs.YtjkehapbemjnpaaDoor
open Go.RowKit Go.Proofs.YtjkehapbemjnpaaDoorW.PrintWords Go.Proofs.YtjkehapbemjnpaaDoorW.PrintLast Go.Proofs.YtjkehapbemjnpaaDoorW.PrintMore Lf
set_option linter.unusedVariables false
set_option linter.unusedSimpArgs false
def SetP (g : Nat) (w0 w : World) (r : AskP × Int) (e : Ending) (w' : World) : Prop :=
 ∃ b, e = .returned (.tuple #[.bool b, .int .i64 r.2]) ∧ (r.2 = 0 → AskAt w' g r.1) ∧ Below w0.heap.size w0 w' ∧ KeepBut w w' g none
theorem ptr_at (g : Nat) (ps : List Nat) (k : Nat) (h : k < ps.length) : (ps.map fun p => Value.pointer (some ⟨g, p, none⟩)).toArray[k]? = some (.pointer (some ⟨g, ps.getD k 0, none⟩)) := by
 rw [List.getElem?_toArray, List.getElem?_map, List.getD_eq_getElem?_getD, List.getElem?_eq_getElem h]
 rfl
def NoW (ws : List ByteArray) (word : ByteArray) : Prop := ∀ j, j < ws.length → ((ws.getD j ⟨#[]⟩).toList == word.toList) = false
theorem set_t (g k : Nat) (hk : k < 6) (word : ByteArray) (value : List Int) (a : AskP) (w0 w : World) (hA : AskAt w g a) (hB : Below w0.heap.size w0 w) (hg : w0.heap.size ≤ g) (hno : ∀ j, j < k → ((tW.getD j ⟨#[]⟩).toList == word.toList) = false) (hyes : ((tW.getD k ⟨#[]⟩).toList == word.toList) = true) :
  Calls Tryd.prog 22 #[.pointer (some ⟨g, 0, none⟩), .string word, .string (strOfNums value)] w (SetP g w0 w (a.tSet k value, 0)) := by
 have hno := Lib.hid hno
 have hyes := Lib.hid hyes
 have H1 := Lib.hid (texts_calls g w)
 go_enter Tryd.func22, Tryd.ntmps22
 go_wp2_with fail
 refine H1.out.mono ?_
 rintro e w1 ⟨b1, b2, rfl, K1, K2, L1, L2, B1⟩
 have lA := hA.lt
 replace hA := hA.below B1
 have K1 := Lib.hid K1
 have K2 := Lib.hid K2
 clear H1
 go_wp2_with fail
 go_loop [26] (fun s => ∃ j : Nat, j ≤ k ∧ s = .int .i64 j) (fun s => 6 - (intOf s).toNat)
 case atStart => exact ⟨0, Nat.zero_le _, rfl⟩
 case round =>
  obtain ⟨j, hj, rfl⟩ := hrel
  have hj6 : (j : Int) < 6 := by omega
  have c1 : w1.cell? ⟨b1, j, none⟩ = some (.string (tW.getD j ⟨#[]⟩)) := (blk_cell K1.out j).trans (map_at tW j (by show j < 6; omega))
  by_cases hjk : j < k
  ·have t1 := hno.out j hjk
   generalize tW.getD j ⟨#[]⟩ = s1 at c1 t1
   go_wp2
   go_round
   case rel => exact ⟨j + 1, by omega, by go_num⟩
   case measure => simp [intOf]; omega
  ·obtain rfl : j = k := by omega
   have t1 := hyes.out
   have c2 : w1.cell? ⟨b2, j, none⟩ = some (.pointer (some ⟨g, tP.getD j 0, none⟩)) := (blk_cell K2.out j).trans (ptr_at g tP j hk)
   have z : w1.frozen? ⟨g, tP.getD j 0, none⟩ = false := hA.frozen _
   have c3 : w1.cell? ⟨g, tP.getD j 0, none⟩ = some (.string (strOfNums (a.t j))) := hA.mem fun cs hc => hc.tGet j hk
   have F := Lib.hid (show SetP g w0 w (a.tSet j value, 0) (.returned (.tuple #[.bool true, .int .i64 0])) (w1.setCell ⟨g, tP.getD j 0, none⟩ (.string (strOfNums value))) from
    ⟨true, rfl, fun _ => hA.setc fun cs hc => hc.tPut j hk value, below_set (below_step hB B1) hg, (KeepBut.of_below B1 _ _).set_ _ _⟩)
   generalize tW.getD j ⟨#[]⟩ = s1 at c1 t1
   generalize tP.getD j 0 = p at c2 c3 z F
   clear K1 K2
   go_wp2
   go_ret2
   exact F.out
theorem set_o_good (g k q : Nat) (hk : k < 4) (word : ByteArray) (value : List Int) (a : AskP) (w0 w : World) (hA : AskAt w g a) (hB : Below w0.heap.size w0 w) (hg : w0.heap.size ≤ g) (hnotW : NoW tW word) (hnok : ∀ j, j < k → ((oW.getD j ⟨#[]⟩).toList == word.toList) = false) (hyes : ((oW.getD k ⟨#[]⟩).toList == word.toList) = true) (r1 : List Int) (hG : sixty_Get.f q (strOfNums value) = some (r1, 0)) :
  Calls Tryd.prog 22 #[.pointer (some ⟨g, 0, none⟩), .string word, .string (strOfNums value)] w (SetP g w0 w (a.oSet k r1, 0)) := by
 have hnotW := Lib.hid hnotW
 have hnok := Lib.hid hnok
 have hyes := Lib.hid hyes
 have HG := fun W => Lib.hid (sixty_Get.calls q (strOfNums value) _ _ W hG)
 clear hG
 have HT := Lib.hid (texts_calls g w)
 go_enter Tryd.func22, Tryd.ntmps22
 go_wp2_with fail
 refine HT.out.mono ?_
 rintro e w1 ⟨b1, b2, rfl, K1, K2, L1, L2, B1⟩
 have lA := hA.lt
 replace hA := hA.below B1
 replace hB := Lib.hid (below_step hB B1)
 have Q := Lib.hid (KeepBut.of_below B1 g none)
 have K1 := Lib.hid K1
 clear HT K2 B1
 go_wp2_with fail
 go_loop [26] (fun s => ∃ j : Nat, j ≤ 6 ∧ s = .int .i64 j) (fun s => 6 - (intOf s).toNat)
 case atStart => exact ⟨0, Nat.zero_le _, rfl⟩
 case round =>
  obtain ⟨j, hj, rfl⟩ := hrel
  by_cases hjn : j < 6
  ·have hjl : (j : Int) < 6 := by omega
   have t1 := hnotW.out j hjn
   have c1 : w1.cell? ⟨b1, j, none⟩ = some (.string (tW.getD j ⟨#[]⟩)) := (blk_cell K1.out j).trans (map_at tW j hjn)
   generalize tW.getD j ⟨#[]⟩ = s1 at c1 t1
   go_wp2
   go_round
   case rel => exact ⟨j + 1, by omega, by go_num⟩
   case measure => simp [intOf]; omega
  ·have hjl : ¬ (j : Int) < 6 := by omega
   clear hnotW K1
   have HO := Lib.hid (octets_calls g w1)
   go_wp2_with fail
   refine HO.out.mono ?_
   rintro e w2 ⟨b3, b4, rfl, K3, K4, L3, L4, B2⟩
   replace hA := hA.below B2
   replace hB := Lib.hid (below_step hB.out B2)
   replace Q := Lib.hid (Q.out.trans (KeepBut.of_below B2 g none) (.inl rfl))
   have K3 := Lib.hid K3
   have K4 := Lib.hid K4
   clear HO B2
   go_wp2_with fail
   go_loop [49] (fun s => ∃ j : Nat, j ≤ k ∧ s = .int .i64 j) (fun s => 4 - (intOf s).toNat)
   case atStart => exact ⟨0, Nat.zero_le _, rfl⟩
   case round =>
    obtain ⟨j, hj, rfl⟩ := hrel
    have hjl : (j : Int) < 4 := by omega
    have c1 : w2.cell? ⟨b3, j, none⟩ = some (.string (oW.getD j ⟨#[]⟩)) := (blk_cell K3.out j).trans (map_at oW j (by show j < 4; omega))
    by_cases hjk : j < k
    ·have t1 := hnok.out j hjk
     generalize oW.getD j ⟨#[]⟩ = s1 at c1 t1
     go_wp2
     go_round
     case rel => exact ⟨j + 1, by omega, by go_num⟩
     case measure => simp [intOf]; omega
    ·obtain rfl : j = k := by omega
     have t1 := hyes.out
     generalize oW.getD j ⟨#[]⟩ = s1 at c1 t1
     go_wp2_with fail
     refine (HG w2).out.mono ?_
     rintro e w3 ⟨v, rfl, R, B3⟩
     obtain ⟨A, c, hv⟩ := Kd.R_slice R
     subst hv
     replace R := Kd.R_V (base' := 0) (Kd.R_mono (Kd.R_bound R) (fun q hq => show g < q from by have := hq.2.1; have := hA.lt; omega))
     replace hA := hA.below B3
     replace hB := Lib.hid (below_step hB.out B3)
     replace Q := Lib.hid (Q.out.trans (KeepBut.of_below B3 g none) (.inl rfl))
     have c2 : w3.cell? ⟨b4, j, none⟩ = some (.pointer (some ⟨g, oP.getD j 0, none⟩)) := (blk_cell (blk_below K4.out B3) j).trans (ptr_at g oP j hk)
     have z : w3.frozen? ⟨g, oP.getD j 0, none⟩ = false := hA.frozen _
     obtain ⟨old, c3⟩ : ∃ old, w3.cell? ⟨g, oP.getD j 0, none⟩ = some old := by
      obtain ⟨cs, hg, hc⟩ := hA
      obtain ⟨old, ho, _⟩ := hc.oGet j hk
      exact ⟨old, (blk_cell hg _).trans ho⟩
     have F := Lib.hid (show SetP g w0 w (a.oSet j r1, 0) (.returned (.tuple #[.bool true, .int .i64 0])) (w3.setCell ⟨g, oP.getD j 0, none⟩ (.slice A r1.length c)) from
      ⟨true, rfl, fun _ => hA.setc fun cs hc => hc.oPut j hk _ r1 R, below_set hB.out hg, Q.out.set_ _ _⟩)
     generalize oP.getD j 0 = p at c2 c3 z F
     clear K3 K4 R B3
     go_wp2
     go_ret2
     exact F.out
theorem set_o_bad (g k q : Nat) (hk : k < 4) (word : ByteArray) (value : List Int) (a : AskP) (w0 w : World) (hA : AskAt w g a) (hB : Below w0.heap.size w0 w) (hg : w0.heap.size ≤ g) (hnotW : NoW tW word) (hnok : ∀ j, j < k → ((oW.getD j ⟨#[]⟩).toList == word.toList) = false) (hyes : ((oW.getD k ⟨#[]⟩).toList == word.toList) = true) (r1 : List Int) (r2 : Int) (hr2 : r2 ≠ 0) (hG : sixty_Get.f q (strOfNums value) = some (r1, r2)) :
  Calls Tryd.prog 22 #[.pointer (some ⟨g, 0, none⟩), .string word, .string (strOfNums value)] w (SetP g w0 w (a, 4)) := by
 have hnotW := Lib.hid hnotW
 have hnok := Lib.hid hnok
 have hyes := Lib.hid hyes
 have HG := fun W => Lib.hid (sixty_Get.calls q (strOfNums value) _ _ W hG)
 clear hG
 have HT := Lib.hid (texts_calls g w)
 go_enter Tryd.func22, Tryd.ntmps22
 go_wp2_with fail
 refine HT.out.mono ?_
 rintro e w1 ⟨b1, b2, rfl, K1, K2, L1, L2, B1⟩
 have lA := hA.lt
 replace hA := hA.below B1
 replace hB := Lib.hid (below_step hB B1)
 have Q := Lib.hid (KeepBut.of_below B1 g none)
 have K1 := Lib.hid K1
 clear HT K2 B1
 go_wp2_with fail
 go_loop [26] (fun s => ∃ j : Nat, j ≤ 6 ∧ s = .int .i64 j) (fun s => 6 - (intOf s).toNat)
 case atStart => exact ⟨0, Nat.zero_le _, rfl⟩
 case round =>
  obtain ⟨j, hj, rfl⟩ := hrel
  by_cases hjn : j < 6
  ·have hjl : (j : Int) < 6 := by omega
   have t1 := hnotW.out j hjn
   have c1 : w1.cell? ⟨b1, j, none⟩ = some (.string (tW.getD j ⟨#[]⟩)) := (blk_cell K1.out j).trans (map_at tW j hjn)
   generalize tW.getD j ⟨#[]⟩ = s1 at c1 t1
   go_wp2
   go_round
   case rel => exact ⟨j + 1, by omega, by go_num⟩
   case measure => simp [intOf]; omega
  ·have hjl : ¬ (j : Int) < 6 := by omega
   clear hnotW K1
   have HO := Lib.hid (octets_calls g w1)
   go_wp2_with fail
   refine HO.out.mono ?_
   rintro e w2 ⟨b3, b4, rfl, K3, K4, L3, L4, B2⟩
   replace hA := hA.below B2
   replace hB := Lib.hid (below_step hB.out B2)
   replace Q := Lib.hid (Q.out.trans (KeepBut.of_below B2 g none) (.inl rfl))
   have K3 := Lib.hid K3
   have K4 := Lib.hid K4
   clear HO B2
   go_wp2_with fail
   go_loop [49] (fun s => ∃ j : Nat, j ≤ k ∧ s = .int .i64 j) (fun s => 4 - (intOf s).toNat)
   case atStart => exact ⟨0, Nat.zero_le _, rfl⟩
   case round =>
    obtain ⟨j, hj, rfl⟩ := hrel
    have hjl : (j : Int) < 4 := by omega
    have c1 : w2.cell? ⟨b3, j, none⟩ = some (.string (oW.getD j ⟨#[]⟩)) := (blk_cell K3.out j).trans (map_at oW j (by show j < 4; omega))
    by_cases hjk : j < k
    ·have t1 := hnok.out j hjk
     generalize oW.getD j ⟨#[]⟩ = s1 at c1 t1
     go_wp2
     go_round
     case rel => exact ⟨j + 1, by omega, by go_num⟩
     case measure => simp [intOf]; omega
    ·obtain rfl : j = k := by omega
     have t1 := hyes.out
     generalize oW.getD j ⟨#[]⟩ = s1 at c1 t1
     go_wp2_with fail
     refine (HG w2).out.mono ?_
     rintro e w3 ⟨v, rfl, R, B3⟩
     obtain ⟨A, c, hv⟩ := Kd.R_slice R
     subst hv
     replace R := Kd.R_V (base' := 0) (Kd.R_mono (Kd.R_bound R) (fun q hq => show g < q from by have := hq.2.1; have := hA.lt; omega))
     replace hA := hA.below B3
     replace hB := Lib.hid (below_step hB.out B3)
     replace Q := Lib.hid (Q.out.trans (KeepBut.of_below B3 g none) (.inl rfl))
     have F := Lib.hid (show SetP g w0 w (a, 4) (.returned (.tuple #[.bool true, .int .i64 4])) w3 from ⟨true, rfl, fun h => by simp at h, hB.out, Q.out⟩)
     have t2 : (r2 == 0) = false := by simpa using hr2
     have t3 : (r2 != 0) = true := by simpa using hr2
     clear K3 K4 R B3
     go_wp2
     go_ret2
     exact F.out
theorem set_n_good (g k q : Nat) (hk : k < 6) (word : ByteArray) (value : List Int) (a : AskP) (w0 w : World) (hA : AskAt w g a) (hB : Below w0.heap.size w0 w) (hg : w0.heap.size ≤ g) (hnotW : NoW tW word) (hnooW : NoW oW word) (hnok : ∀ j, j < k → ((nW.getD j ⟨#[]⟩).toList == word.toList) = false) (hyes : ((nW.getD k ⟨#[]⟩).toList == word.toList) = true) (r1 : Int) (hG : name_Number.f q (strOfNums value) 1099511627776 = some (r1, true)) :
  Calls Tryd.prog 22 #[.pointer (some ⟨g, 0, none⟩), .string word, .string (strOfNums value)] w (SetP g w0 w (a.nSet k r1, 0)) := by
 have hnotW := Lib.hid hnotW
 have hnooW := Lib.hid hnooW
 have hnok := Lib.hid hnok
 have hyes := Lib.hid hyes
 have HG := fun W => Lib.hid (name_Number.calls q (strOfNums value) _ _ _ W hG)
 clear hG
 have HT := Lib.hid (texts_calls g w)
 go_enter Tryd.func22, Tryd.ntmps22
 go_wp2_with fail
 refine HT.out.mono ?_
 rintro e w1 ⟨b1, b2, rfl, K1, K2, L1, L2, B1⟩
 have lA := hA.lt
 replace hA := hA.below B1
 replace hB := Lib.hid (below_step hB B1)
 have Q := Lib.hid (KeepBut.of_below B1 g none)
 have K1 := Lib.hid K1
 clear HT K2 B1
 go_wp2_with fail
 go_loop [26] (fun s => ∃ j : Nat, j ≤ 6 ∧ s = .int .i64 j) (fun s => 6 - (intOf s).toNat)
 case atStart => exact ⟨0, Nat.zero_le _, rfl⟩
 case round =>
  obtain ⟨j, hj, rfl⟩ := hrel
  by_cases hjn : j < 6
  ·have hjl : (j : Int) < 6 := by omega
   have t1 := hnotW.out j hjn
   have c1 : w1.cell? ⟨b1, j, none⟩ = some (.string (tW.getD j ⟨#[]⟩)) := (blk_cell K1.out j).trans (map_at tW j hjn)
   generalize tW.getD j ⟨#[]⟩ = s1 at c1 t1
   go_wp2
   go_round
   case rel => exact ⟨j + 1, by omega, by go_num⟩
   case measure => simp [intOf]; omega
  ·have hjl : ¬ (j : Int) < 6 := by omega
   clear hnotW K1
   have HO := Lib.hid (octets_calls g w1)
   go_wp2_with fail
   refine HO.out.mono ?_
   rintro e w2 ⟨b3, b4, rfl, K3, K4, L3, L4, B2⟩
   replace hA := hA.below B2
   replace hB := Lib.hid (below_step hB.out B2)
   replace Q := Lib.hid (Q.out.trans (KeepBut.of_below B2 g none) (.inl rfl))
   have K3 := Lib.hid K3
   have K4 := Lib.hid K4
   clear HO B2
   go_wp2_with fail
   go_loop [49] (fun s => ∃ j : Nat, j ≤ 4 ∧ s = .int .i64 j) (fun s => 4 - (intOf s).toNat)
   case atStart => exact ⟨0, Nat.zero_le _, rfl⟩
   case round =>
    obtain ⟨j, hj, rfl⟩ := hrel
    by_cases hjn : j < 4
    ·have hjl : (j : Int) < 4 := by omega
     have t1 := hnooW.out j hjn
     have c1 : w2.cell? ⟨b3, j, none⟩ = some (.string (oW.getD j ⟨#[]⟩)) := (blk_cell K3.out j).trans (map_at oW j hjn)
     generalize oW.getD j ⟨#[]⟩ = s1 at c1 t1
     go_wp2
     go_round
     case rel => exact ⟨j + 1, by omega, by go_num⟩
     case measure => simp [intOf]; omega
    ·have hjl : ¬ (j : Int) < 4 := by omega
     clear hnooW K3
     have HN := Lib.hid (numbers_calls g w2)
     clear K4
     go_wp2_with fail
     refine HN.out.mono ?_
     rintro e w3 ⟨b5, b6, rfl, K5, K6, L5, L6, B3⟩
     replace hA := hA.below B3
     replace hB := Lib.hid (below_step hB.out B3)
     replace Q := Lib.hid (Q.out.trans (KeepBut.of_below B3 g none) (.inl rfl))
     have K5 := Lib.hid K5
     have K6 := Lib.hid K6
     clear HN B3
     go_wp2_with fail
     go_loop [79] (fun s => ∃ j : Nat, j ≤ k ∧ s = .int .i64 j) (fun s => 6 - (intOf s).toNat)
     case atStart => exact ⟨0, Nat.zero_le _, rfl⟩
     case round =>
      obtain ⟨j, hj, rfl⟩ := hrel
      have hjl : (j : Int) < 6 := by omega
      have c1 : w3.cell? ⟨b5, j, none⟩ = some (.string (nW.getD j ⟨#[]⟩)) := (blk_cell K5.out j).trans (map_at nW j (by show j < 6; omega))
      by_cases hjk : j < k
      ·have t1 := hnok.out j hjk
       generalize nW.getD j ⟨#[]⟩ = s1 at c1 t1
       go_wp2
       go_round
       case rel => exact ⟨j + 1, by omega, by go_num⟩
       case measure => simp [intOf]; omega
      ·obtain rfl : j = k := by omega
       have t1 := hyes.out
       generalize nW.getD j ⟨#[]⟩ = s1 at c1 t1
       go_wp2_with fail
       refine (HG w3).out.mono ?_
       rintro e w4 ⟨rfl, ⟨nd, rfl⟩⟩
       replace hA := hA.below (pw_below_drewN (Below.refl _ _) nd)
       replace hB := Lib.hid (pw_below_drewN hB.out nd)
       replace Q := Lib.hid (keep_drewN Q.out nd)
       have c2 : (w3.drewN nd).cell? ⟨b6, j, none⟩ = some (.pointer (some ⟨g, nP.getD j 0, none⟩)) := (blk_cell (blk_drewN K6.out nd) j).trans (ptr_at g nP j hk)
       have z : (w3.drewN nd).frozen? ⟨g, nP.getD j 0, none⟩ = false := hA.frozen _
       have c3 : (w3.drewN nd).cell? ⟨g, nP.getD j 0, none⟩ = some (.int .i64 (a.n j)) := hA.mem fun cs hc => hc.nGet j hk
       have F := Lib.hid (show SetP g w0 w (a.nSet j r1, 0) (.returned (.tuple #[.bool true, .int .i64 0])) ((w3.drewN nd).setCell ⟨g, nP.getD j 0, none⟩ (.int .i64 r1)) from
        ⟨true, rfl, fun _ => hA.setc fun cs hc => hc.nPut j hk r1, below_set hB.out hg, Q.out.set_ _ _⟩)
       generalize nP.getD j 0 = p at c2 c3 z F
       clear K5 K6
       go_wp2
       go_ret2
       exact F.out
theorem set_n_bad (g k q : Nat) (hk : k < 6) (word : ByteArray) (value : List Int) (a : AskP) (w0 w : World) (hA : AskAt w g a) (hB : Below w0.heap.size w0 w) (hg : w0.heap.size ≤ g) (hnotW : NoW tW word) (hnooW : NoW oW word) (hnok : ∀ j, j < k → ((nW.getD j ⟨#[]⟩).toList == word.toList) = false) (hyes : ((nW.getD k ⟨#[]⟩).toList == word.toList) = true) (r1 : Int) (hG : name_Number.f q (strOfNums value) 1099511627776 = some (r1, false)) :
  Calls Tryd.prog 22 #[.pointer (some ⟨g, 0, none⟩), .string word, .string (strOfNums value)] w (SetP g w0 w (a, 4)) := by
 have hnotW := Lib.hid hnotW
 have hnooW := Lib.hid hnooW
 have hnok := Lib.hid hnok
 have hyes := Lib.hid hyes
 have HG := fun W => Lib.hid (name_Number.calls q (strOfNums value) _ _ _ W hG)
 clear hG
 have HT := Lib.hid (texts_calls g w)
 go_enter Tryd.func22, Tryd.ntmps22
 go_wp2_with fail
 refine HT.out.mono ?_
 rintro e w1 ⟨b1, b2, rfl, K1, K2, L1, L2, B1⟩
 have lA := hA.lt
 replace hA := hA.below B1
 replace hB := Lib.hid (below_step hB B1)
 have Q := Lib.hid (KeepBut.of_below B1 g none)
 have K1 := Lib.hid K1
 clear HT K2 B1
 go_wp2_with fail
 go_loop [26] (fun s => ∃ j : Nat, j ≤ 6 ∧ s = .int .i64 j) (fun s => 6 - (intOf s).toNat)
 case atStart => exact ⟨0, Nat.zero_le _, rfl⟩
 case round =>
  obtain ⟨j, hj, rfl⟩ := hrel
  by_cases hjn : j < 6
  ·have hjl : (j : Int) < 6 := by omega
   have t1 := hnotW.out j hjn
   have c1 : w1.cell? ⟨b1, j, none⟩ = some (.string (tW.getD j ⟨#[]⟩)) := (blk_cell K1.out j).trans (map_at tW j hjn)
   generalize tW.getD j ⟨#[]⟩ = s1 at c1 t1
   go_wp2
   go_round
   case rel => exact ⟨j + 1, by omega, by go_num⟩
   case measure => simp [intOf]; omega
  ·have hjl : ¬ (j : Int) < 6 := by omega
   clear hnotW K1
   have HO := Lib.hid (octets_calls g w1)
   go_wp2_with fail
   refine HO.out.mono ?_
   rintro e w2 ⟨b3, b4, rfl, K3, K4, L3, L4, B2⟩
   replace hA := hA.below B2
   replace hB := Lib.hid (below_step hB.out B2)
   replace Q := Lib.hid (Q.out.trans (KeepBut.of_below B2 g none) (.inl rfl))
   have K3 := Lib.hid K3
   have K4 := Lib.hid K4
   clear HO B2
   go_wp2_with fail
   go_loop [49] (fun s => ∃ j : Nat, j ≤ 4 ∧ s = .int .i64 j) (fun s => 4 - (intOf s).toNat)
   case atStart => exact ⟨0, Nat.zero_le _, rfl⟩
   case round =>
    obtain ⟨j, hj, rfl⟩ := hrel
    by_cases hjn : j < 4
    ·have hjl : (j : Int) < 4 := by omega
     have t1 := hnooW.out j hjn
     have c1 : w2.cell? ⟨b3, j, none⟩ = some (.string (oW.getD j ⟨#[]⟩)) := (blk_cell K3.out j).trans (map_at oW j hjn)
     generalize oW.getD j ⟨#[]⟩ = s1 at c1 t1
     go_wp2
     go_round
     case rel => exact ⟨j + 1, by omega, by go_num⟩
     case measure => simp [intOf]; omega
    ·have hjl : ¬ (j : Int) < 4 := by omega
     clear hnooW K3
     have HN := Lib.hid (numbers_calls g w2)
     clear K4
     go_wp2_with fail
     refine HN.out.mono ?_
     rintro e w3 ⟨b5, b6, rfl, K5, K6, L5, L6, B3⟩
     replace hA := hA.below B3
     replace hB := Lib.hid (below_step hB.out B3)
     replace Q := Lib.hid (Q.out.trans (KeepBut.of_below B3 g none) (.inl rfl))
     have K5 := Lib.hid K5
     have K6 := Lib.hid K6
     clear HN B3
     go_wp2_with fail
     go_loop [79] (fun s => ∃ j : Nat, j ≤ k ∧ s = .int .i64 j) (fun s => 6 - (intOf s).toNat)
     case atStart => exact ⟨0, Nat.zero_le _, rfl⟩
     case round =>
      obtain ⟨j, hj, rfl⟩ := hrel
      have hjl : (j : Int) < 6 := by omega
      have c1 : w3.cell? ⟨b5, j, none⟩ = some (.string (nW.getD j ⟨#[]⟩)) := (blk_cell K5.out j).trans (map_at nW j (by show j < 6; omega))
      by_cases hjk : j < k
      ·have t1 := hnok.out j hjk
       generalize nW.getD j ⟨#[]⟩ = s1 at c1 t1
       go_wp2
       go_round
       case rel => exact ⟨j + 1, by omega, by go_num⟩
       case measure => simp [intOf]; omega
      ·obtain rfl : j = k := by omega
       have t1 := hyes.out
       generalize nW.getD j ⟨#[]⟩ = s1 at c1 t1
       go_wp2_with fail
       refine (HG w3).out.mono ?_
       rintro e w4 ⟨rfl, ⟨nd, rfl⟩⟩
       replace hA := hA.below (pw_below_drewN (Below.refl _ _) nd)
       replace hB := Lib.hid (pw_below_drewN hB.out nd)
       replace Q := Lib.hid (keep_drewN Q.out nd)
       have F := Lib.hid (show SetP g w0 w (a, 4) (.returned (.tuple #[.bool true, .int .i64 4])) (w3.drewN nd) from ⟨true, rfl, fun h => by simp at h, hB.out, Q.out⟩)
       clear K5 K6
       go_wp2
       go_ret2
       exact F.out
theorem set_x (g : Nat) (word : ByteArray) (value : List Int) (a : AskP) (w0 w : World) (hA : AskAt w g a) (hB : Below w0.heap.size w0 w) (hg : w0.heap.size ≤ g) (r : AskP × Int) (hnotW : NoW tW word) (hnooW : NoW oW word) (hnonW : NoW nW word)
  (hX : ∀ W, AskAt W g a → Below w0.heap.size w0 W → Calls Tryd.prog 47 #[.pointer (some ⟨g, 0, none⟩), .string word, .string (strOfNums value)] W (SetP g w0 W r)) :
  Calls Tryd.prog 22 #[.pointer (some ⟨g, 0, none⟩), .string word, .string (strOfNums value)] w (SetP g w0 w r) := by
 have hnotW := Lib.hid hnotW
 have hnooW := Lib.hid hnooW
 have hnonW := Lib.hid hnonW
 have HX := fun W h1 h2 => Lib.hid (hX W h1 h2)
 clear hX
 have HT := Lib.hid (texts_calls g w)
 go_enter Tryd.func22, Tryd.ntmps22
 go_wp2_with fail
 refine HT.out.mono ?_
 rintro e w1 ⟨b1, b2, rfl, K1, K2, L1, L2, B1⟩
 have lA := hA.lt
 replace hA := hA.below B1
 replace hB := Lib.hid (below_step hB B1)
 have Q := Lib.hid (KeepBut.of_below B1 g none)
 have K1 := Lib.hid K1
 clear HT K2 B1
 go_wp2_with fail
 go_loop [26] (fun s => ∃ j : Nat, j ≤ 6 ∧ s = .int .i64 j) (fun s => 6 - (intOf s).toNat)
 case atStart => exact ⟨0, Nat.zero_le _, rfl⟩
 case round =>
  obtain ⟨j, hj, rfl⟩ := hrel
  by_cases hjn : j < 6
  ·have hjl : (j : Int) < 6 := by omega
   have t1 := hnotW.out j hjn
   have c1 : w1.cell? ⟨b1, j, none⟩ = some (.string (tW.getD j ⟨#[]⟩)) := (blk_cell K1.out j).trans (map_at tW j hjn)
   generalize tW.getD j ⟨#[]⟩ = s1 at c1 t1
   go_wp2
   go_round
   case rel => exact ⟨j + 1, by omega, by go_num⟩
   case measure => simp [intOf]; omega
  ·have hjl : ¬ (j : Int) < 6 := by omega
   clear hnotW K1
   have HO := Lib.hid (octets_calls g w1)
   go_wp2_with fail
   refine HO.out.mono ?_
   rintro e w2 ⟨b3, b4, rfl, K3, K4, L3, L4, B2⟩
   replace hA := hA.below B2
   replace hB := Lib.hid (below_step hB.out B2)
   replace Q := Lib.hid (Q.out.trans (KeepBut.of_below B2 g none) (.inl rfl))
   have K3 := Lib.hid K3
   have K4 := Lib.hid K4
   clear HO B2
   go_wp2_with fail
   go_loop [49] (fun s => ∃ j : Nat, j ≤ 4 ∧ s = .int .i64 j) (fun s => 4 - (intOf s).toNat)
   case atStart => exact ⟨0, Nat.zero_le _, rfl⟩
   case round =>
    obtain ⟨j, hj, rfl⟩ := hrel
    by_cases hjn : j < 4
    ·have hjl : (j : Int) < 4 := by omega
     have t1 := hnooW.out j hjn
     have c1 : w2.cell? ⟨b3, j, none⟩ = some (.string (oW.getD j ⟨#[]⟩)) := (blk_cell K3.out j).trans (map_at oW j hjn)
     generalize oW.getD j ⟨#[]⟩ = s1 at c1 t1
     go_wp2
     go_round
     case rel => exact ⟨j + 1, by omega, by go_num⟩
     case measure => simp [intOf]; omega
    ·have hjl : ¬ (j : Int) < 4 := by omega
     clear hnooW K3
     have HN := Lib.hid (numbers_calls g w2)
     clear K4
     go_wp2_with fail
     refine HN.out.mono ?_
     rintro e w3 ⟨b5, b6, rfl, K5, K6, L5, L6, B3⟩
     replace hA := hA.below B3
     replace hB := Lib.hid (below_step hB.out B3)
     replace Q := Lib.hid (Q.out.trans (KeepBut.of_below B3 g none) (.inl rfl))
     have K5 := Lib.hid K5
     have K6 := Lib.hid K6
     clear HN B3
     go_wp2_with fail
     go_loop [79] (fun s => ∃ j : Nat, j ≤ 6 ∧ s = .int .i64 j) (fun s => 6 - (intOf s).toNat)
     case atStart => exact ⟨0, Nat.zero_le _, rfl⟩
     case round =>
      obtain ⟨j, hj, rfl⟩ := hrel
      by_cases hjn : j < 6
      ·have hjl : (j : Int) < 6 := by omega
       have t1 := hnonW.out j hjn
       have c1 : w3.cell? ⟨b5, j, none⟩ = some (.string (nW.getD j ⟨#[]⟩)) := (blk_cell K5.out j).trans (map_at nW j hjn)
       generalize nW.getD j ⟨#[]⟩ = s1 at c1 t1
       go_wp2
       go_round
       case rel => exact ⟨j + 1, by omega, by go_num⟩
       case measure => simp [intOf]; omega
      ·have hjl : ¬ (j : Int) < 6 := by omega
       clear hnonW K5
       go_wp2_with fail
       refine (HX w3 hA hB.out).out.mono ?_
       rintro e w4 ⟨b, rfl, h1, h2, h3⟩
       have F := Lib.hid (show SetP g w0 w r (.returned (.tuple #[.bool b, .int .i64 r.2])) w4 from ⟨b, rfl, h1, h2, Q.out.trans h3 (.inl rfl)⟩)
       clear K6 h1 h2 h3
       go_wp2
       go_ret2
       exact F.out
end Go.Proofs.YtjkehapbemjnpaaDoor
