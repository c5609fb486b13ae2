/- What a line of numbers sets, walked by hand; each condition stands in its theorem. -/
import Derived.Test.YtjkehapbemjnpaaDoorVOther
namespace Go.Proofs.YtjkehapbemjnpaaDoor
open Go.RowKit Go.Proofs.YtjkehapbemjnpaaDoorW.PrintWords Go.Proofs.YtjkehapbemjnpaaDoorW.PrintLast Go.Proofs.YtjkehapbemjnpaaDoorW.PrintMore Lf Kit Cut Pl Num
set_option linter.unusedVariables false
set_option linter.unusedSimpArgs false
set_option linter.unusedSectionVars false
theorem map_str_at (l : List (List Int)) (n : Nat) (x : List Int) (h : l[n]? = some x) : ((l.map strOfNums).map Value.string).toArray[n]? = some (.string (strOfNums x)) := by
 rw [List.getElem?_toArray, List.getElem?_map, List.getElem?_map, h]
 rfl
theorem numsO_at : ∀ {ps : List (List Int)} {l : List Int}, numsO ps = some l → l.length = ps.length ∧ ∀ (j : Nat) x, ps[j]? = some x → ∃ n, l[j]? = some n ∧ numO x = some n
 | [], l, h => by
  simp only [numsO, Option.some.injEq] at h
  subst h
  exact ⟨rfl, fun j x hx => by simp at hx⟩
 | p :: ps, l, h => by
  simp only [numsO] at h
  cases hp : numO p with
  | none => rw [hp] at h; cases h
  | some n =>
   rw [hp] at h
   obtain ⟨l', hl', rfl⟩ := Option.map_eq_some_iff.1 h
   have ih := numsO_at hl'
   refine ⟨by simp [ih.1], fun j x hx => ?_⟩
   match j, hx with
   | 0, hx =>
    obtain rfl : p = x := by simpa using hx
    exact ⟨n, rfl, hp⟩
   | j + 1, hx => exact ih.2 j x hx
theorem numsO_take : ∀ {ps : List (List Int)} (j : Nat), (∃ l, numsO (ps.take j) = some l) → (∀ x, ps[j]? = some x → numO x = none) → j < ps.length → numsO ps = none
 | [], j, _, _, h => by simp at h
 | p :: ps, 0, _, hn, _ => by
  simp only [numsO]
  rw [hn p rfl]
 | p :: ps, j + 1, hs, hn, h => by
  obtain ⟨l, hl⟩ := hs
  simp only [List.take_succ_cons, numsO] at hl ⊢
  cases hp : numO p with
  | none => rfl
  | some n =>
   rw [hp] at hl
   obtain ⟨l', hl', _⟩ := Option.map_eq_some_iff.1 hl
   have := numsO_take (ps := ps) j ⟨l', hl'⟩ (fun x hx => hn x hx) (by simpa using h)
   simp only
   rw [this]
   rfl
theorem numsO_snoc : ∀ {ps : List (List Int)} {l : List Int} {x : List Int} {n : Int}, numsO ps = some l → numO x = some n → numsO (ps ++ [x]) = some (l ++ [n])
 | [], l, x, n, h, hx => by
  simp only [numsO, Option.some.injEq] at h
  subst h
  simp [numsO, hx]
 | p :: ps, l, x, n, h, hx => by
  simp only [numsO, List.cons_append] at h ⊢
  cases hp : numO p with
  | none => rw [hp] at h; cases h
  | some m =>
   rw [hp] at h
   obtain ⟨l', hl', rfl⟩ := Option.map_eq_some_iff.1 h
   simp only
   rw [numsO_snoc hl' hx]
   rfl
theorem split_part {c : Int} : ∀ (n : Nat) (t : List Int), t.length ≤ n → ∀ p ∈ splitC c t, p.length ≤ t.length
 | n, t, hn, p, hp => by
  rcases first_at c t with k | ⟨a, q, ha, rfl⟩
  ·rw [split_no k] at hp
   rw [List.mem_singleton.1 hp]; exact Nat.le_refl _
  ·rw [split_at q ha] at hp
   simp only [List.length_append, List.length_cons] at hn ⊢
   rcases List.mem_cons.1 hp with rfl | hp
   ·omega
   ·match n, hn with
    | 0, hn => omega
    | n + 1, hn => have := split_part n q (by omega) p hp; omega
theorem setIf_self {cs : Array Value} {i : Nat} {v : Value} (h : cs[i]? = some v) : cs.setIfInBounds i v = cs := by
 apply Array.ext_getElem?
 intro j
 rw [Array.getElem?_setIfInBounds]
 by_cases hj : i = j
 ·subst hj
  rw [if_pos rfl, h, if_pos (Array.getElem?_eq_some_iff.1 h).1]
 ·rw [if_neg hj]
theorem setIf_again {cs : Array Value} {i : Nat} {v u : Value} : (cs.setIfInBounds i v).setIfInBounds i u = cs.setIfInBounds i u := by
 apply Array.ext_getElem?
 intro j
 simp only [Array.getElem?_setIfInBounds, Array.size_setIfInBounds]
 by_cases hj : i = j
 ·simp [hj]
 ·simp [hj]
def ListAt (cs0 : Array Value) (w0 w1 : World) (g : Nat) (W : World) (l : List Int) : Prop :=
 ∃ v, W.heap[g]? = some (.cells (cs0.setIfInBounds 22 v) 26 (0, 0)) ∧ Kd.R (Kd.int .i64) 3 W w1.heap.size (fun _ => True) v l ∧ (l = [] → v = .slice none 0 0) ∧ KeepBut w1 W g none ∧ Below w0.heap.size w0 W
theorem ListAt.fin {cs0 : Array Value} {w0 w1 : World} {g : Nat} {W : World} {l : List Int} {a : AskP} (h : ListAt cs0 w0 w1 g W l) (hc : AskC w1 (g < ·) True cs0 a) (hg : g < w1.heap.size) : AskAt W g { a with x22 := l } := by
 obtain ⟨v, hb, hR, hn, hk, _⟩ := h
 refine ⟨_, hb, ?_⟩
 have h1 : AskC W (g < ·) True cs0 a := (hc.bound.step (fun k hk2 hlt => hk.2 k hlt (show k ≠ g by have := hk2.1; omega) (by simp))).mono (fun k hk2 => hk2.1)
 exact h1.put22 v l ⟨Kd.R_V (base' := 0) (Kd.R_mono (Kd.R_bound hR) (fun q hq => show g < q from by have := hq.2.1; omega)), fun _ => hn⟩
theorem ListAt.drewN {cs0 : Array Value} {w0 w1 : World} {g : Nat} {W : World} {l : List Int} (h : ListAt cs0 w0 w1 g W l) (nd : Nat) : ListAt cs0 w0 w1 g (W.drewN nd) l := by
 obtain ⟨v, hb, hR, hn, hk, hB⟩ := h
 exact ⟨v, blk_drewN hb nd, Kd.R_drewN hR nd, hn, keep_drewN hk nd, pw_below_drewN hB nd⟩
section
variable (g : Nat) (word : ByteArray) (value : List Int) (a : AskP) (w0 w : World) (hA : AskAt w g a) (hB : Below w0.heap.size w0 w) (hg : w0.heap.size ≤ g) (hv : Byt value) (hl : value.length < 1000000) (hG : GF w) (hnil : a.x22 = [])
 (h1 : (word.toList == [102, 114, 111, 109]) = false) (h2 : (word.toList == [108, 105, 115, 116]) = true)
include hA hB hg hv hl hG hnil h1 h2
set_option maxHeartbeats 2000000 in
theorem other_list : Calls Tryd.prog 47 #[.pointer (some ⟨g, 0, none⟩), .string word, .string (strOfNums value)] w (SetP g w0 w (match numsO (splitC 44 value) with
  | some l => if l.length ≤ 32 then ({ a with x22 := l }, 0) else (a, 4)
  | none => (a, 4))) := by
 have H := Lib.hid (split_calls 44 (by omega) ⟨#[44]⟩ rfl value hv hl w hG)
 have hbyt := Lib.hid (fun p hp => split_byt value.length (Nat.le_refl _) hv p hp : ∀ p ∈ splitC 44 value, Byt p)
 have hlen := Lib.hid (fun p hp => split_part value.length value (Nat.le_refl _) p hp : ∀ p ∈ splitC 44 value, p.length ≤ value.length)
 have hcnt := split_len 44 value.length value (Nat.le_refl _)
 generalize splitC 44 value = ps at H hbyt hlen hcnt ⊢
 generalize hr : (match numsO ps with
  | some l => if l.length ≤ 32 then (({ a with x22 := l }, 0) : AskP × Int) else (a, 4)
  | none => (a, 4)) = r
 replace hr := Lib.hid hr
 go_enter Tryd.func47, Tryd.ntmps47
 go_wp2_with fail
 refine H.out.mono ?_
 rintro e w1 ⟨rfl, hw1⟩
 have lA := hA.lt
 have B1 : Below w.heap.size w w1 := hw1 ▸ below_alloc (Below.refl _ _) _
 have K1 : w1.heap[w.heap.size]? = some (.cells ((ps.map strOfNums).map Value.string).toArray 9 (0, 0)) := hw1 ▸ blk_new w _
 replace hA := hA.below B1
 have hk1 := KeepBut.of_below B1 g none
 have hB1 := below_step hB B1
 have lt1 : g < w1.heap.size := hA.lt
 obtain ⟨cs0, hb0, hc0⟩ := hA
 have L0 : ListAt cs0 w0 w1 g w1 [] := by
  obtain ⟨v, hv, h3, h4⟩ := hc0.get 22 (by decide)
  obtain rfl := h4 trivial hnil
  refine ⟨.slice none 0 0, ?_, Kd.R_nil _ _ _ _ _, fun _ => rfl, KeepBut.refl _ _ _, hB1⟩
  rw [hb0]
  congr 2
  rw [setIf_self hv]
 replace L0 := Lib.hid L0
 replace hc0 := Lib.hid hc0
 replace hB1 := Lib.hid hB1
 replace hk1 := Lib.hid hk1
 replace K1 := Lib.hid K1
 clear hw1 H hb0
 go_wp2_with fail
 go_loopw [34] (fun s wr => ∃ (j : Nat) (l : List Int), j ≤ ps.length ∧ s = .int .i64 j ∧ Hid (numsO (ps.take j) = some l) ∧ Hid (l.length = j) ∧ j ≤ 32 ∧ Hid (ListAt cs0 w0 w1 g wr l)) (fun s _ => ps.length - (intOf s).toNat)
 case atStart => exact ⟨0, [], Nat.zero_le _, rfl, rfl, rfl, Nat.zero_le _, L0.out⟩
 case round =>
  obtain ⟨j, l, hj, rfl, hn, hlj, h32, hL⟩ := hrel
  by_cases hjn : j < ps.length
  ·have hjl : (j : Int) < (ps.length : Int) := by omega
   obtain ⟨x, hx⟩ : ∃ x, ps[j]? = some x := ⟨_, List.getElem?_eq_getElem hjn⟩
   have hkb : wr.heap[w.heap.size]? = some (.cells ((ps.map strOfNums).map Value.string).toArray 9 (0, 0)) := by
    obtain ⟨_, _, _, _, hk, _⟩ := hL.out
    exact hk.blk K1.out (by omega) (by simp)
   have c1 : wr.cell? ⟨w.heap.size, j, none⟩ = some (.string (strOfNums x)) := (blk_cell hkb j).trans (map_str_at ps j x hx)
   have hxb := hbyt.out x (List.mem_of_getElem? hx)
   have hxl := hlen.out x (List.mem_of_getElem? hx)
   clear hkb
   cases hnx : numO x with
   | none =>
    have HN := Lib.hid (number_no x hnx hxb (by omega) wr)
    obtain rfl : r = (a, 4) := by rw [← hr.out, numsO_take j ⟨l, hn.out⟩ (fun y hy => by rw [hx] at hy; obtain rfl := Option.some.inj hy; exact hnx) hjn]
    clear hr hnx hxb
    replace hx := Lib.hid hx
    go_wp2_with fail
    refine HN.out.mono ?_
    rintro e w2 ⟨q, rfl, ⟨nd, rfl⟩⟩
    have F := Lib.hid (show SetP g w0 w (a, 4) (.returned (.tuple #[.bool true, .int .i64 4])) (wr.drewN nd) from by
     obtain ⟨v, hb, hR, hn, hk, hB⟩ := (hL.out.drewN nd)
     exact ⟨true, rfl, fun h => by simp at h, hB, hk1.out.trans hk (.inl rfl)⟩)
    clear HN hL
    go_wp2
    go_ret2
    exact F.out
   | some n =>
    have HN := Lib.hid (number_yes x n hnx hxb (by omega) wr)
    by_cases h31 : j < 32
    ·have hsn := Lib.hid (numsO_snoc hn.out hnx)
     have hsn2 : Hid (numsO (ps.take (j + 1)) = some (l ++ [n])) := by
      rw [List.take_succ_eq_append_getElem hjn, ← Option.some.inj ((List.getElem?_eq_getElem hjn).symm.trans hx).symm]
      exact hsn.out
     clear hsn hnx hxb
     replace hx := Lib.hid hx
     go_wp2_with fail
     refine HN.out.mono ?_
     rintro e w2 ⟨rfl, ⟨nd, rfl⟩⟩
     obtain ⟨v, hb, hR, hnl, hk, hB2⟩ := hL.out.drewN nd
     obtain ⟨A, c, hvs⟩ := Kd.R_slice hR
     rw [hlj.out] at hvs
     have ltg := blk_lt hb
     have sz0 := hc0.out.size
     have k0 : (wr.drewN nd).cell? ⟨g, 22, none⟩ = some (.slice A j c) := (blk_cell hb 22).trans (by rw [← hvs, Array.getElem?_setIfInBounds]; simp [sz0])
     have t1 : decide (32 ≤ j) = false := decide_eq_false (by omega)
     have t2 : decide (32 ≤ (j : Int)) = false := decide_eq_false (by omega)
     subst hvs
     replace hR := Lib.hid hR
     replace hk := Lib.hid hk
     replace hB2 := Lib.hid hB2
     replace hb := Lib.hid hb
     have hle := keep_size hk.out
     clear HN hL hnl sz0
     generalize wr.drewN nd = W at *
     have fin : ∀ v1 w3, Kd.R (Kd.int .i64) 3 w3 w1.heap.size (fun _ => True) v1 (l ++ [n]) → Below w1.heap.size W w3 → ListAt cs0 w0 w1 g (w3.setCell ⟨g, 22, none⟩ v1) (l ++ [n]) := by
      intro v1 w3 h3 h4
      have hb3 := (h4.block g lt1).trans hb.out
      have hk3 : KeepBut w1 w3 g none := ⟨Nat.le_trans hk.out.1 h4.size, fun i hi h5 h6 => (h4.block i hi).trans (hk.out.2 i hi h5 h6)⟩
      refine ⟨v1, blk_put hb3 22 v1 setIf_again, Kd.R_far (Kd.R_mono (Kd.R_bound h3) (fun k hk => show k ≠ g from by have := hk.2.1; omega)) (fun k hk => hk) v1 |> fun q => Kd.R_mono q (fun _ _ => trivial), fun h5 => by simp at h5, hk3.set_ _ _, ?_⟩
      exact below_set (hB2.out.trans (h4.mono hB1.out.size)) hg
     replace fin := Lib.hid fin
     go_wp2_with (first | ((with_reducible refine gate_builtin (b := .append) (xs := #[.tmp 57, .tmp 59]) rfl ?_); at_builtin; refine Kd.R_append (Kd.int .i64) (w0 := W) w1.heap.size rfl (.tmp 57) (.tmp 59) 24 3 (.int .i64 0) 8 rfl Tryd.underlying24 info3 rfl (by decide) (by omega) (.slice A j c) l n [.int .i64 n] (fun _ => True) (fun _ => False) rfl rfl ?aP (fun _ hk => hk.elim) ?aF ?aO ?aB ?aS ?aL ?_; (case aP => exact rfl); (case aB => exact Below.refl _ _); (case aF => exact (fun _ _ => trivial)); (case aO => exact hR.out); (case aS => exact hle); (case aL => have := hlj.out; omega); intro v1 w3 ho hb2 hg2 hat; obtain ⟨A1, cA, rfl⟩ := Kd.R_slice ho; have L1 := Lib.hid (fin.out _ w3 ho hb2); have z1 : w3.frozen? ⟨g, 22, none⟩ = false := (hb2.frozen (p := ⟨g, 22, none⟩) lt1).trans (blk_frozen hb.out 22); have k1 : w3.cell? ⟨g, 22, none⟩ = some (.slice A j c) := (hb2.cell (p := ⟨g, 22, none⟩) lt1).trans k0; clear ho hb2 hg2 hat))
     go_roundw
     case rel => exact ⟨j + 1, l ++ [n], by omega, by go_num, hsn2, by rw [List.length_append, hlj.out]; rfl, by omega, by have q := L1.out; rw [List.length_append, List.length_singleton] at q; exact q⟩
     case measure => simp [intOf]; omega
    ·obtain rfl : r = (a, 4) := by
      rw [← hr.out]
      cases hps : numsO ps with
      | none => rfl
      | some q =>
       have := (numsO_at hps).1
       simp only
       rw [if_neg (by omega)]
     clear hr hnx hxb
     replace hx := Lib.hid hx
     go_wp2_with fail
     refine HN.out.mono ?_
     rintro e w2 ⟨rfl, ⟨nd, rfl⟩⟩
     obtain ⟨v, hb, hR, hnl, hk, hB2⟩ := hL.out.drewN nd
     have F := Lib.hid (show SetP g w0 w (a, 4) (.returned (.tuple #[.bool true, .int .i64 4])) (wr.drewN nd) from ⟨true, rfl, fun h => by simp at h, hB2, hk1.out.trans hk (.inl rfl)⟩)
     obtain ⟨A, c, hvs⟩ := Kd.R_slice hR
     rw [hlj.out] at hvs
     have sz0 := hc0.out.size
     have k0 : (wr.drewN nd).cell? ⟨g, 22, none⟩ = some (.slice A j c) := (blk_cell hb 22).trans (by rw [← hvs, Array.getElem?_setIfInBounds]; simp [sz0])
     have t1 : decide (32 ≤ j) = true := decide_eq_true (by omega)
     have t2 : decide (32 ≤ (j : Int)) = true := decide_eq_true (by omega)
     clear HN hL hnl sz0 hR hk hB2 hb hvs
     go_wp2_with fail
     go_ret2
     exact F.out
  ·have hjl : ¬ (j : Int) < (ps.length : Int) := by omega
   obtain rfl : r = ({ a with x22 := l }, 0) := by
    rw [← hr.out, ← List.take_of_length_le (l := ps) (i := j) (by omega), hn.out]
    simp only
    rw [if_pos (by have := hlj.out; omega)]
   have F := Lib.hid (show SetP g w0 w ({ a with x22 := l }, 0) (.returned (.tuple #[.bool true, .int .i64 0])) wr from by
    have h3 := hL.out.fin hc0.out lt1
    obtain ⟨v, hb, hR, hn, hk, hB⟩ := hL.out
    exact ⟨true, rfl, fun _ => h3, hB, hk1.out.trans hk (.inl rfl)⟩)
   clear hL hr
   go_wp2_with fail
   go_ret2
   exact F.out
end
end Go.Proofs.YtjkehapbemjnpaaDoor
