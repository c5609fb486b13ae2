/- What lines of other kinds set, walked by hand; each condition stands in its theorem. -/
import Derived.Test.YtjkehapbemjnpaaDoorVSet
import Derived.Test.YtjkehapbemjnpaaDoorVGl
import Derived.Test.YtjkehapbemjnpaaDoorVTellN
import Derived.Test.YtjkehapbemjnpaaDoorVTellS
namespace Go.Proofs.YtjkehapbemjnpaaDoor
open Go.RowKit Go.Proofs.YtjkehapbemjnpaaDoorW.PrintWords Go.Proofs.YtjkehapbemjnpaaDoorW.PrintLast Go.Proofs.YtjkehapbemjnpaaDoorW.PrintMore Lf Kit Cut Pl Num
set_option linter.unusedVariables false
set_option linter.unusedSimpArgs false
set_option linter.unusedSectionVars false
theorem drawn_ex {w w' : World} (h : Drawn0 w w') : ∃ nd, w' = w.drewN nd := by
 obtain ⟨nd, rfl⟩ := h
 exact ⟨nd, rfl⟩
section
variable {P : Program}
theorem wpList_index_at {ops : Array Oper} {rest : List Oper} {o : Oper} {a : Act} {w : World} {Q : Exit → Act → World → Prop} (hg : o.guard = none) (dst : Option Tmp) (hdst : o.dst = dst) (t : TypeId) (x i : Operand) (ho : o.op = .index t x i)
  (cs : Array Value) (hx : a.eval x = .agg cs) (j n : Nat) (hi : a.eval i = .int .i64 j) (e : TypeId) (ht : P.underlying t = some (.array n e)) (hj : j < n) (he : ∀ w, (sizeOf e).run P w = .ok 1 w) (ha : ∀ w, (isAgg e).run P w = .ok false w)
  (v : Value) (hv : cs[j]? = some v) (h : wpList P ops Q rest (a.put dst v) w) : wpList P ops Q (o :: rest) a w := by
 refine Great.wpList_readTo hg dst hdst v ?_ h
 unfold execOp
 simp only [ho, hx, hi]
 have h0 : (0 : Int) ≤ (j : Int) ∧ (j : Int) < (n : Int) := by omega
 simp [Instr.index, asIntOf, Sem.run_bind, run_underlying ht w, part, he, ha, hv, h0]
 exact fun hc => absurd hj (by omega)
end
theorem number_yes (xs : List Int) (n : Int) (h : numO xs = some n) (hB : Byt xs) (hl : xs.length < 1000000) (w : World) :
  Calls Tryd.prog 46 #[.string (strOfNums xs), .int .i64 1099511627776] w fun e w' => e = .returned (.tuple #[.int .i64 n, .bool true]) ∧ ∃ nd, w' = w.drewN nd := by
 obtain ⟨v, b, hE, hb, hv⟩ := TellN.number_tell 1099511627776 (by decide) (by decide) xs hB (by omega)
 unfold numO most at h
 split at h
 ·rename_i hk
  obtain rfl := Option.some.inj h
  have hb2 := hb.2 hk
  subst hb2
  obtain ⟨k, hk⟩ := hE.rounds
  rw [hv rfl] at hk
  exact (name_Number.calls k _ _ _ _ w hk).mono fun e w' ⟨h1, h2⟩ => ⟨h1, drawn_ex h2⟩
 ·cases h
theorem number_no (xs : List Int) (h : numO xs = none) (hB : Byt xs) (hl : xs.length < 1000000) (w : World) :
  Calls Tryd.prog 46 #[.string (strOfNums xs), .int .i64 1099511627776] w fun e w' => ∃ v, e = .returned (.tuple #[.int .i64 v, .bool false]) ∧ ∃ nd, w' = w.drewN nd := by
 obtain ⟨v, b, hE, hb, hv⟩ := TellN.number_tell 1099511627776 (by decide) (by decide) xs hB (by omega)
 unfold numO most at h
 split at h
 ·cases h
 ·rename_i hk
  have hb2 : b = false := by
   cases b with
   | false => rfl
   | true => exact absurd (hb.1 rfl) hk
  subst hb2
  obtain ⟨k, hk⟩ := hE.rounds
  exact (name_Number.calls k _ _ _ _ w hk).mono fun e w' ⟨h1, h2⟩ => ⟨v, h1, drawn_ex h2⟩
theorem word_beq {xs ys : List Int} (hx : Byt xs) (hy : Byt ys) : ((strOfNums xs).toList == ys.map u8) = decide (xs = ys) := by
 rw [toList_str]
 by_cases h : xs = ys
 ·subst h; simp [u8]
 ·rw [decide_eq_false h, beq_eq_false_iff_ne]
  intro e
  exact h (str_inj hx hy (by rw [toList_str, toList_str]; exact e))
section
variable (g : Nat) (word : ByteArray) (value : List Int) (a : AskP) (w0 w : World) (hA : AskAt w g a) (hB : Below w0.heap.size w0 w) (hg : w0.heap.size ≤ g)
include hA hB hg
theorem other_none (h1 : (word.toList == [102, 114, 111, 109]) = false) (h2 : (word.toList == [108, 105, 115, 116]) = false) (h3 : (word.toList == [115, 116, 97, 116, 101]) = false) :
  Calls Tryd.prog 47 #[.pointer (some ⟨g, 0, none⟩), .string word, .string (strOfNums value)] w (SetP g w0 w (a, 19)) := by
 have F := Lib.hid (show SetP g w0 w (a, 19) (.returned (.tuple #[.bool false, .int .i64 19])) w from ⟨false, rfl, fun h => by simp at h, hB, KeepBut.refl _ _ _⟩)
 go_enter Tryd.func47, Tryd.ntmps47
 go_wp2_with fail
 go_ret2
 exact F.out
theorem other_from (hv : Byt value) (hl : value.length < 1000000) (hG : GF w) (h1 : (word.toList == [102, 114, 111, 109]) = true) :
  Calls Tryd.prog 47 #[.pointer (some ⟨g, 0, none⟩), .string word, .string (strOfNums value)] w (SetP g w0 w ({ a with x16 := (cutL [47] value).1, x17 := (cutL [47] value).2.1 }, 0)) := by
 have H := Lib.hid (cut_calls [47] ⟨#[47]⟩ rfl (by simp) (fun x hx => by simp at hx; omega) value hv hl w hG)
 generalize cutL [47] value = c at H ⊢
 go_enter Tryd.func47, Tryd.ntmps47
 go_wp2_with fail
 refine H.out.mono ?_
 rintro e w1 ⟨rfl, ⟨nd, rfl⟩⟩
 replace hA := hA.below (pw_below_drewN (Below.refl _ _) nd)
 have h2 := hA.setc (p := 16) (u := .string (strOfNums c.1)) fun cs hc => hc.put16 c.1
 have h3 := h2.setc (p := 17) (u := .string (strOfNums c.2.1)) fun cs hc => hc.put17 c.2.1
 have F := Lib.hid (show SetP g w0 w ({ a with x16 := c.1, x17 := c.2.1 }, 0) (.returned (.tuple #[.bool true, .int .i64 0])) _ from
  ⟨true, rfl, fun _ => h3, below_set (below_set (pw_below_drewN hB nd) hg) hg, (((keep_drewN (KeepBut.refl _ _ _) nd).set_ 16 _).set_ 17 _)⟩)
 have z1 := hA.frozen 16
 have z2 := h2.frozen 17
 obtain ⟨v1, c1, _⟩ := hA.cell 16 (by decide)
 obtain ⟨v2, c2, _⟩ := h2.cell 17 (by decide)
 have z3 := hA.frozen 17
 obtain ⟨v3, c3, _⟩ := hA.cell 17 (by decide)
 clear H h2 h3
 go_wp2_with fail
 go_ret2
 exact F.out
theorem other_state (k : Nat) (hk : k < 3) (h1 : (word.toList == [102, 114, 111, 109]) = false) (h2 : (word.toList == [108, 105, 115, 116]) = false) (h3 : (word.toList == [115, 116, 97, 116, 101]) = true)
  (hno : ∀ j, j < k → ((statesL.getD j ⟨#[]⟩).toList == (strOfNums value).toList) = false) (hyes : ((statesL.getD k ⟨#[]⟩).toList == (strOfNums value).toList) = true) :
  Calls Tryd.prog 47 #[.pointer (some ⟨g, 0, none⟩), .string word, .string (strOfNums value)] w (SetP g w0 w ({ a with x23 := k }, 0)) := by
 have hno := Lib.hid hno
 have hyes := Lib.hid hyes
 have H := Lib.hid (states_calls w)
 go_enter Tryd.func47, Tryd.ntmps47
 go_wp2_with fail
 refine H.out.mono ?_
 rintro e w1 ⟨rfl, B1⟩
 replace hA := hA.below B1
 replace hB := Lib.hid (below_step hB B1)
 have Q := Lib.hid (KeepBut.of_below B1 g none)
 clear H B1
 go_wp2_with fail
 go_loop [67] (fun s => ∃ j : Nat, j ≤ k ∧ s = .int .i64 j) (fun s => 3 - (intOf s).toNat)
 case atStart => exact ⟨0, Nat.zero_le _, rfl⟩
 case round =>
  obtain ⟨j, hj, rfl⟩ := hrel
  have hj3 : (j : Int) < 3 := by omega
  have c1 := states_at j (by omega)
  by_cases hjk : j < k
  ·have t1 := hno.out j hjk
   generalize statesL.getD j ⟨#[]⟩ = s1 at c1 t1
   have c1 := Lib.hid c1
   go_wp2_with (refine wpList_index_at rfl (some 70) rfl 82 (.tmp 66) (.tmp 67) rfl statesV rfl j 3 rfl 9 Tryd.underlying82 (by omega) Tryd.sizeOf9 Tryd.isAgg9 _ c1.out ?_; simp only [Act.put, List.setIfInBounds_toArray, List.set_cons_zero, List.set_cons_succ])
   go_round
   case rel => exact ⟨j + 1, by omega, by go_num⟩
   case measure => simp [intOf]; omega
  ·obtain rfl : j = k := by omega
   have t1 := hyes.out
   generalize statesL.getD j ⟨#[]⟩ = s1 at c1 t1
   have z1 := hA.frozen 23
   obtain ⟨v3, c3, _⟩ := hA.cell 23 (by decide)
   have c1 := Lib.hid c1
   have F := Lib.hid (show SetP g w0 w ({ a with x23 := j }, 0) (.returned (.tuple #[.bool true, .int .i64 0])) (w1.setCell ⟨g, 23, none⟩ (.int .i64 j)) from
    ⟨true, rfl, fun _ => hA.setc fun cs hc => hc.put23 j, below_set hB.out hg, Q.out.set_ _ _⟩)
   go_wp2_with (refine wpList_index_at rfl (some 70) rfl 82 (.tmp 66) (.tmp 67) rfl statesV rfl j 3 rfl 9 Tryd.underlying82 (by omega) Tryd.sizeOf9 Tryd.isAgg9 _ c1.out ?_; simp only [Act.put, List.setIfInBounds_toArray, List.set_cons_zero, List.set_cons_succ])
   go_ret2
   exact F.out
theorem other_state_no (h1 : (word.toList == [102, 114, 111, 109]) = false) (h2 : (word.toList == [108, 105, 115, 116]) = false) (h3 : (word.toList == [115, 116, 97, 116, 101]) = true)
  (hno : ∀ j, j < 3 → ((statesL.getD j ⟨#[]⟩).toList == (strOfNums value).toList) = false) :
  Calls Tryd.prog 47 #[.pointer (some ⟨g, 0, none⟩), .string word, .string (strOfNums value)] w (SetP g w0 w (a, 4)) := by
 have hno := Lib.hid hno
 have H := Lib.hid (states_calls w)
 go_enter Tryd.func47, Tryd.ntmps47
 go_wp2_with fail
 refine H.out.mono ?_
 rintro e w1 ⟨rfl, B1⟩
 have F := Lib.hid (show SetP g w0 w (a, 4) (.returned (.tuple #[.bool true, .int .i64 4])) w1 from ⟨true, rfl, fun h => by simp at h, below_step hB B1, KeepBut.of_below B1 g none⟩)
 clear H B1
 go_wp2_with fail
 go_loop [67] (fun s => ∃ j : Nat, j ≤ 3 ∧ s = .int .i64 j) (fun s => 3 - (intOf s).toNat)
 case atStart => exact ⟨0, Nat.zero_le _, rfl⟩
 case round =>
  obtain ⟨j, hj, rfl⟩ := hrel
  by_cases hjk : j < 3
  ·have hj3 : (j : Int) < 3 := by omega
   have c1 := states_at j hjk
   have t1 := hno.out j hjk
   generalize statesL.getD j ⟨#[]⟩ = s1 at c1 t1
   have c1 := Lib.hid c1
   go_wp2_with (refine wpList_index_at rfl (some 70) rfl 82 (.tmp 66) (.tmp 67) rfl statesV rfl j 3 rfl 9 Tryd.underlying82 (by omega) Tryd.sizeOf9 Tryd.isAgg9 _ c1.out ?_; simp only [Act.put, List.setIfInBounds_toArray, List.set_cons_zero, List.set_cons_succ])
   go_round
   case rel => exact ⟨j + 1, by omega, by go_num⟩
   case measure => simp [intOf]; omega
  ·have hj3 : ¬ (j : Int) < 3 := by omega
   go_wp2
   go_ret2
   exact F.out
end
end Go.Proofs.YtjkehapbemjnpaaDoor
