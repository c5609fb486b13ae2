/- What a line sets: it comes to what setS tells; each condition stands in its theorem. -/
import Derived.Test.YtjkehapbemjnpaaDoorVOtherL
namespace Go.Proofs.YtjkehapbemjnpaaDoor
open Go.RowKit Go.Proofs.YtjkehapbemjnpaaDoorW.PrintWords Go.Proofs.YtjkehapbemjnpaaDoorW.PrintLast Go.Proofs.YtjkehapbemjnpaaDoorW.PrintMore Lf Kit Cut Pl Num
set_option linter.unusedVariables false
set_option linter.unusedSimpArgs false
theorem findW_some {ws : List (List Int)} {w : List Int} {k : Nat} (h : findW ws w = some k) : k < ws.length ∧ ws.getD k [] = w ∧ ∀ j, j < k → ws.getD j [] ≠ w := by
 unfold findW at h
 obtain ⟨h1, h2, h3⟩ := List.findIdx?_eq_some_iff_getElem.1 h
 refine ⟨h1, ?_, fun j hj => ?_⟩
 ·rw [List.getD_eq_getElem?_getD, List.getElem?_eq_getElem h1]
  simpa using h2
 ·have := h3 j hj
  rw [List.getD_eq_getElem?_getD, List.getElem?_eq_getElem (by omega)]
  simpa using this
theorem findW_none {ws : List (List Int)} {w : List Int} (h : findW ws w = none) : ∀ j, j < ws.length → ws.getD j [] ≠ w := by
 unfold findW at h
 intro j hj
 have := List.findIdx?_eq_none_iff.1 h ws[j] (List.getElem_mem hj)
 rw [List.getD_eq_getElem?_getD, List.getElem?_eq_getElem hj]
 simpa using this
theorem str_beq {xs ys : List Int} (hx : Byt xs) (hy : Byt ys) : ((strOfNums xs).toList == (strOfNums ys).toList) = decide (xs = ys) := by
 rw [toList_str (xs := ys)]
 exact word_beq hx hy
theorem getD_str (ws : List (List Int)) (j : Nat) : (ws.map strOfNums).getD j ⟨#[]⟩ = strOfNums (ws.getD j []) := by
 rw [List.getD_eq_getElem?_getD, List.getD_eq_getElem?_getD, List.getElem?_map]
 cases ws[j]? <;> rfl
theorem word_test {ws : List (List Int)} (hb : ∀ x ∈ ws, Byt x) {w : List Int} (hw : Byt w) (j : Nat) : (((ws.map strOfNums).getD j ⟨#[]⟩).toList == (strOfNums w).toList) = decide (ws.getD j [] = w) := by
 rw [getD_str]
 refine str_beq ?_ hw
 rw [List.getD_eq_getElem?_getD]
 cases h : ws[j]? with
 | none => exact Byt.nil
 | some x => exact hb x (List.mem_of_getElem? h)
theorem tL_byt : ∀ x ∈ tL, Byt x := by unfold Byt; decide
theorem oL_byt : ∀ x ∈ oL, Byt x := by unfold Byt; decide
theorem nL_byt : ∀ x ∈ nL, Byt x := by unfold Byt; decide
theorem sL_byt : ∀ x ∈ sL, Byt x := by unfold Byt; decide
theorem wL_byt : ∀ x ∈ wL, Byt x := by unfold Byt; decide
theorem dec_four : ∀ {s o : List Int}, Six.dec s = some o → s.length % 4 = 0
 | [], _, _ => rfl
 | a :: b :: c :: d :: r, o, h => by
  simp only [Six.dec] at h
  split at h
  ·rename_i hr; subst hr; simp
  ·split at h
   ·obtain ⟨o', ho', _⟩ := Option.map_eq_some_iff.1 h
    have := dec_four ho'
    simp only [List.length_cons]; omega
   ·cases h
 | [_], _, h => by simp [Six.dec] at h
 | [_, _], _, h => by simp [Six.dec] at h
 | [_, _, _], _, h => by simp [Six.dec] at h
theorem get_yes {xs o : List Int} (h : Six.dec xs = some o) (hB : Byt xs) (hl : xs.length ≤ 800000) : ∃ q, sixty_Get.f q (strOfNums xs) = some (o, 0) := by
 have hE := TellS.get_tells xs hB hl
 rw [if_pos (dec_four h), TellS.told_some h] at hE
 exact hE.rounds
theorem get_no {xs : List Int} (h : Six.dec xs = none) (hB : Byt xs) (hl : xs.length ≤ 800000) : ∃ q r1 r2, r2 ≠ 0 ∧ sixty_Get.f q (strOfNums xs) = some (r1, r2) := by
 have hE := TellS.get_tells xs hB hl
 rw [TellS.told_none h] at hE
 obtain ⟨q, hq⟩ := hE.rounds
 split at hq
 ·exact ⟨q, _, _, by decide, hq⟩
 ·exact ⟨q, _, _, by decide, hq⟩
theorem num_yes {xs : List Int} {n : Int} (h : numO xs = some n) (hB : Byt xs) (hl : xs.length < 1000000) : ∃ q, name_Number.f q (strOfNums xs) 1099511627776 = some (n, true) := by
 obtain ⟨v, b, hE, hb, hv⟩ := TellN.number_tell 1099511627776 (by decide) (by decide) xs hB (by omega)
 unfold numO most at h
 split at h
 ·rename_i hk
  obtain rfl := Option.some.inj h
  obtain rfl := hb.2 hk
  obtain ⟨k, hk⟩ := hE.rounds
  rw [hv rfl] at hk
  exact ⟨k, hk⟩
 ·cases h
theorem num_no {xs : List Int} (h : numO xs = none) (hB : Byt xs) (hl : xs.length < 1000000) : ∃ q v, name_Number.f q (strOfNums xs) 1099511627776 = some (v, false) := by
 obtain ⟨v, b, hE, hb, hv⟩ := TellN.number_tell 1099511627776 (by decide) (by decide) xs hB (by omega)
 unfold numO most at h
 split at h
 ·cases h
 ·rename_i hk
  obtain rfl : b = false := by
   cases b with
   | false => rfl
   | true => exact absurd (hb.1 rfl) hk
  obtain ⟨k, hk⟩ := hE.rounds
  exact ⟨k, v, hk⟩
theorem other_calls (g : Nat) (ws value : List Int) (a : AskP) (w0 w : World) (hA : AskAt w g a) (hB : Below w0.heap.size w0 w) (hg : w0.heap.size ≤ g) (hw : Byt ws) (hv : Byt value) (hl : value.length ≤ 800000) (hG : GF w0) (hnil : ws = [108, 105, 115, 116] → a.x22 = []) :
  Calls Tryd.prog 47 #[.pointer (some ⟨g, 0, none⟩), .string (strOfNums ws), .string (strOfNums value)] w (SetP g w0 w (otherS a ws value)) := by
 have hG2 := hG.of hB
 have e1 := word_beq hw (ys := [102, 114, 111, 109]) (by unfold Byt; decide)
 have e2 := word_beq hw (ys := [108, 105, 115, 116]) (by unfold Byt; decide)
 have e3 := word_beq hw (ys := [115, 116, 97, 116, 101]) (by unfold Byt; decide)
 unfold otherS
 by_cases h1 : ws = [102, 114, 111, 109]
 ·rw [if_pos h1]
  rw [decide_eq_true h1] at e1
  exact other_from g _ value a w0 w hA hB hg hv (by omega) hG2 e1
 ·rw [if_neg h1]
  rw [decide_eq_false h1] at e1
  by_cases h2 : ws = [108, 105, 115, 116]
  ·rw [if_pos h2]
   rw [decide_eq_true h2] at e2
   exact other_list g _ value a w0 w hA hB hg hv (by omega) hG2 (hnil h2) e1 e2
  ·rw [if_neg h2]
   rw [decide_eq_false h2] at e2
   by_cases h3 : ws = [115, 116, 97, 116, 101]
   ·rw [if_pos h3]
    rw [decide_eq_true h3] at e3
    cases hf : findW sL value with
    | some k =>
     obtain ⟨h4, h5, h6⟩ := findW_some hf
     refine other_state g _ value a w0 w hA hB hg k h4 e1 e2 e3 (fun j hj => ?_) ?_
     ·rw [sW_eq, word_test sL_byt hv, decide_eq_false (h6 j hj)]
     ·rw [sW_eq, word_test sL_byt hv, decide_eq_true h5]
    | none =>
     refine other_state_no g _ value a w0 w hA hB hg e1 e2 e3 (fun j hj => ?_)
     rw [sW_eq, word_test sL_byt hv, decide_eq_false (findW_none hf j hj)]
   ·rw [if_neg h3]
    rw [decide_eq_false h3] at e3
    exact other_none g _ value a w0 w hA hB hg e1 e2 e3
theorem noW {L : List (List Int)} (hb : ∀ x ∈ L, Byt x) {ws : List Int} (hw : Byt ws) (h : findW L ws = none) : NoW (L.map strOfNums) (strOfNums ws) := fun j hj => by
 rw [word_test hb hw, decide_eq_false (findW_none h j (by simpa using hj))]
theorem set_calls (g : Nat) (ws value : List Int) (a : AskP) (w0 w : World) (hA : AskAt w g a) (hB : Below w0.heap.size w0 w) (hg : w0.heap.size ≤ g) (hw : Byt ws) (hv : Byt value) (hl : value.length ≤ 800000) (hG : GF w0) (hnil : ws = [108, 105, 115, 116] → a.x22 = []) :
  Calls Tryd.prog 22 #[.pointer (some ⟨g, 0, none⟩), .string (strOfNums ws), .string (strOfNums value)] w (SetP g w0 w (setS a ws value)) := by
 unfold setS
 cases hT : findW tL ws with
 | some k =>
  obtain ⟨h4, h5, h6⟩ := findW_some hT
  refine set_t g k h4 _ value a w0 w hA hB hg (fun j hj => ?_) ?_
  ·rw [tW_eq, word_test tL_byt hw, decide_eq_false (h6 j hj)]
  ·rw [tW_eq, word_test tL_byt hw, decide_eq_true h5]
 | none =>
  have nT := noW tL_byt hw hT
  cases hO : findW oL ws with
  | some k =>
   obtain ⟨h4, h5, h6⟩ := findW_some hO
   have n1 : ∀ j, j < k → ((oW.getD j ⟨#[]⟩).toList == (strOfNums ws).toList) = false := fun j hj => by rw [oW_eq, word_test oL_byt hw, decide_eq_false (h6 j hj)]
   have n2 : ((oW.getD k ⟨#[]⟩).toList == (strOfNums ws).toList) = true := by rw [oW_eq, word_test oL_byt hw, decide_eq_true h5]
   cases hd : Six.dec value with
   | some b =>
    obtain ⟨q, hq⟩ := get_yes hd hv hl
    exact set_o_good g k q h4 _ value a w0 w hA hB hg nT n1 n2 b hq
   | none =>
    obtain ⟨q, r1, r2, h7, hq⟩ := get_no hd hv hl
    exact set_o_bad g k q h4 _ value a w0 w hA hB hg nT n1 n2 r1 r2 h7 hq
  | none =>
   have nO := noW oL_byt hw hO
   cases hN : findW nL ws with
   | some k =>
    obtain ⟨h4, h5, h6⟩ := findW_some hN
    have n1 : ∀ j, j < k → ((nW.getD j ⟨#[]⟩).toList == (strOfNums ws).toList) = false := fun j hj => by rw [nW_eq, word_test nL_byt hw, decide_eq_false (h6 j hj)]
    have n2 : ((nW.getD k ⟨#[]⟩).toList == (strOfNums ws).toList) = true := by rw [nW_eq, word_test nL_byt hw, decide_eq_true h5]
    cases hd : numO value with
    | some n =>
     obtain ⟨q, hq⟩ := num_yes hd hv (by omega)
     exact set_n_good g k q h4 _ value a w0 w hA hB hg nT nO n1 n2 n hq
    | none =>
     obtain ⟨q, r1, hq⟩ := num_no hd hv (by omega)
     exact set_n_bad g k q h4 _ value a w0 w hA hB hg nT nO n1 n2 r1 hq
   | none =>
    exact set_x g _ value a w0 w hA hB hg _ nT nO (noW nL_byt hw hN) (fun W h1 h2 => other_calls g ws value a w0 W h1 h2 hg hw hv hl hG hnil)
end Go.Proofs.YtjkehapbemjnpaaDoor
