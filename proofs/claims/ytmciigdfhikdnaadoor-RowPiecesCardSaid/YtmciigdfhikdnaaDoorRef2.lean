/- The reference's readers, second part, walked by hand: each function comes to what its plain Lean function beside it tells; no condition beside those in each theorem. -/
import Derived.Test.YtmciigdfhikdnaaDoorRef
namespace Go.Proofs.YtmciigdfhikdnaaDoor
open Go.RowKit Go.Proofs.YtmciigdfhikdnaaDoorW.PrintWords Go.Proofs.YtmciigdfhikdnaaDoorW.PrintLast Go.Proofs.YtmciigdfhikdnaaDoorW.PrintMore Go.Proofs.YtmciigdfhikdnaaDoor.Rw Go.Proofs.YtmciigdfhikdnaaDoor.Rf
set_option linter.unusedVariables false
set_option linter.unusedSimpArgs false
def rtextR (xs : List Int) (c size most : Int) : List Int × List Int × Int :=
  if (rnumR xs c size).2.2 = 0 then (if most < (rnumR xs c size).1 then ([], (rnumR xs c size).2.1, 4) else takeR (rnumR xs c size).2.1 0 (wrap64 (rnumR xs c size).1)) else ([], (rnumR xs c size).2.1, (rnumR xs c size).2.2)
theorem rtextR_len (xs : List Int) (c s m : Int) : (rtextR xs c s m).2.1.length ≤ xs.length := by
  unfold rtextR
  have h1 := rnumR_len xs c s
  split
  · split
    · exact h1
    · exact Nat.le_trans (takeR_len _ _ _).2 h1
  · exact h1
set_option maxHeartbeats 1000000 in
theorem TextF_calls (A : Option Addr) (cap : Nat) (xs : List Int) (c size most : Int) (h0 : 0 ≤ most) (h1 : most ≤ 1000) (w0 w : World) (hC : Kd.C (Kd.int .u8) w0 A xs.length xs) (hB : Below w0.heap.size w0 w) (hcap : xs.length ≤ cap) (hl : xs.length ≤ 1000000000) :
    Calls Tryd.prog 46 #[.agg #[.slice A xs.length cap, .int .i64 c], .int .i64 size, .int .i64 most] w (RBytP w0 w (rtextR xs c size most)) := by
  have hu := Tryd.underlying73
  have B1 := below_alloc (below_alloc (Below.refl w.heap.size w) (.cells #[.slice A xs.length cap, .int .i64 c] 73)) (.cells #[.slice none 0 0, .int .i64 0] 73)
  have hb2 : ((w.alloc (.cells #[.slice A xs.length cap, .int .i64 c] 73)).alloc (.cells #[.slice none 0 0, .int .i64 0] 73)).heap[w.heap.size + 1]? = some (.cells #[.slice none 0 0, .int .i64 0] 73 (0, 0)) := blk_newAt (by simp)
  have H := Lib.hid (NumberF_calls A cap xs c size w0 ((w.alloc (.cells #[.slice A xs.length cap, .int .i64 c] 73)).alloc (.cells #[.slice none 0 0, .int .i64 0] 73)) hC (below_alloc (below_alloc hB _) _) hcap hl)
  unfold rtextR
  generalize rnumR xs c size = r at H
  clear hC
  obtain ⟨v, rest, code⟩ := r
  simp only at H ⊢
  have hlt := blk_lt hb2
  have tl : decide (most < 0) = false := decide_eq_false (by omega)
  have go : ∀ W : World, Below ((w.alloc (.cells #[.slice A xs.length cap, .int .i64 c] 73)).alloc (.cells #[.slice none 0 0, .int .i64 0] 73)).heap.size ((w.alloc (.cells #[.slice A xs.length cap, .int .i64 c] 73)).alloc (.cells #[.slice none 0 0, .int .i64 0] 73)) W →
      W.heap[w.heap.size + 1]? = some (.cells #[.slice none 0 0, .int .i64 0] 73 (0, 0)) ∧ Below w.heap.size w W ∧ w.heap.size + 2 ≤ W.heap.size := fun W hW => ⟨blk_below hb2 hW, below_step B1 hW, by have := hW.size; simp at this; omega⟩
  have go := Lib.hid go
  have fin : ∀ (W : World) (A1 : Option Addr) (n1 c1 : Nat) (d : Int), W.heap[w.heap.size + 1]? = some (.cells #[.slice none 0 0, .int .i64 0] 73 (0, 0)) → Below w.heap.size w W →
      ((W.setCell ⟨w.heap.size + 1, 0, none⟩ (.slice A1 n1 c1)).setCell ⟨w.heap.size + 1, 1, none⟩ (.int .i64 d)).heap[w.heap.size + 1]? = some (.cells #[.slice A1 n1 c1, .int .i64 d] 73 (0, 0)) ∧ Below w.heap.size w ((W.setCell ⟨w.heap.size + 1, 0, none⟩ (.slice A1 n1 c1)).setCell ⟨w.heap.size + 1, 1, none⟩ (.int .i64 d)) := fun W A1 n1 c1 d hb hw =>
    ⟨blk_put (cs := #[.slice A1 n1 c1, .int .i64 0]) (blk_put hb 0 _ rfl) 1 _ rfl, below_set (below_set hw (by omega)) (by omega)⟩
  have fin := Lib.hid fin
  clear B1
  by_cases hd : code = 0
  · subst hd
    rw [if_pos rfl]
    by_cases hv : most < v
    · rw [if_pos hv]
      have t1 : decide (most < v) = true := decide_eq_true hv
      go_enter Tryd.func46, Tryd.ntmps46
      go_wp2_with fail
      refine H.out.mono ?_
      rintro e W ⟨A1, c1, rfl, hl1, C1, hW⟩
      simp only at hl1 C1
      obtain ⟨hb3, hw, hws⟩ := go.out W hW
      have HF := failF_calls A1 c1 rest 0 4 (W.alloc (.cells #[.slice A1 rest.length c1, .int .i64 0] 73))
      rw [if_pos rfl] at HF
      have HF := Lib.hid HF
      have hb4 := blk_alloc hb3 (.cells #[.slice A1 rest.length c1, .int .i64 0] 73)
      have hw4 := below_alloc hw (.cells #[.slice A1 rest.length c1, .int .i64 0] 73)
      clear H go hb2 hlt hW hb3 hw
      go_wp2_with fail
      refine HF.out.mono ?_
      rintro e W5 ⟨rfl, hW5⟩
      have hb5 := blk_below hb4 hW5
      have hF := Lib.hid (fin.out W5 A1 rest.length c1 4 hb5 (below_step hw4 hW5))
      have lt5 := blk_lt hb5
      have k0 : W5.cell? ⟨w.heap.size + 1, 0, none⟩ = some (.slice none 0 0) := (blk_cell hb5 0).trans rfl
      have k1 : W5.cell? ⟨w.heap.size + 1, 1, none⟩ = some (.int .i64 0) := (blk_cell hb5 1).trans rfl
      have z0 := blk_frozen hb5 0
      have z1 := blk_frozen hb5 1
      clear HF hb4 hw4 hW5 hb5
      go_wp2_with fail
      refine bodyPost_ret (results_ct rfl _ _ (w.heap.size + 1) 73 #[.slice A1 rest.length c1, .int .i64 4] (0, 0) _ rfl hF.out.1 Tryd.underlying73 rfl (by kernel_rfl)) rfl ?_
      exact ⟨A1, c1, none, 0, rfl, hl1, C1, Nat.le_refl _, Kd.C_nil _ _, hF.out.2⟩
    · rw [if_neg hv]
      have t1 : decide (most < v) = false := decide_eq_false hv
      have G := fun (A1 : Option Addr) (c1 : Nat) (W : World) (h1 : rest.length ≤ c1) (h2 : Kd.C (Kd.int .u8) w0 A1 rest.length rest) => BytesF_calls A1 c1 rest 0 (wrap64 v) w0 W h2 h1
      generalize takeR rest 0 (wrap64 v) = t at G ⊢
      obtain ⟨out, rst, cd⟩ := t
      have G := Lib.hid G
      go_enter Tryd.func46, Tryd.ntmps46
      go_wp2_with fail
      refine H.out.mono ?_
      rintro e W ⟨A1, c1, rfl, hl1, C1, hW⟩
      simp only at hl1 C1
      obtain ⟨hb3, hw, hws⟩ := go.out W hW
      have HG := Lib.hid (G.out A1 c1 (W.alloc (.cells #[.slice A1 rest.length c1, .int .i64 0] 73)) hl1 C1)
      have hb4 := blk_alloc hb3 (.cells #[.slice A1 rest.length c1, .int .i64 0] 73)
      have hw4 := below_alloc hw (.cells #[.slice A1 rest.length c1, .int .i64 0] 73)
      clear H G go hb2 hlt hW hb3 hw
      go_wp2_with fail
      refine HG.out.mono ?_
      rintro e W5 ⟨A2, c2, A3, c3, rfl, hl2, C2, hl3, C3, hW5⟩
      simp only at hl2 C2 hl3 C3
      have hb5 := blk_below hb4 hW5
      have hF := Lib.hid (fin.out W5 A2 rst.length c2 cd hb5 (below_step hw4 hW5))
      have lt5 := blk_lt hb5
      have k0 : W5.cell? ⟨w.heap.size + 1, 0, none⟩ = some (.slice none 0 0) := (blk_cell hb5 0).trans rfl
      have k1 : W5.cell? ⟨w.heap.size + 1, 1, none⟩ = some (.int .i64 0) := (blk_cell hb5 1).trans rfl
      have z0 := blk_frozen hb5 0
      have z1 := blk_frozen hb5 1
      clear HG hb4 hw4 hW5 hb5
      go_wp2_with fail
      refine bodyPost_ret (results_ct rfl _ _ (w.heap.size + 1) 73 #[.slice A2 rst.length c2, .int .i64 cd] (0, 0) _ rfl hF.out.1 Tryd.underlying73 rfl (by kernel_rfl)) rfl ?_
      exact ⟨A2, c2, A3, c3, rfl, hl2, C2, hl3, C3, hF.out.2⟩
  · rw [if_neg hd]
    have t1 : (code == 0) = false := by simpa using hd
    have t2 : (code != 0) = true := by simpa using hd
    go_enter Tryd.func46, Tryd.ntmps46
    go_wp2_with fail
    refine H.out.mono ?_
    rintro e W ⟨A1, c1, rfl, hl1, C1, hW⟩
    simp only at hl1 C1
    obtain ⟨hb3, hw, hws⟩ := go.out W hW
    have hb4 := blk_alloc hb3 (.cells #[.slice A1 rest.length c1, .int .i64 code] 73)
    have hw4 := below_alloc hw (.cells #[.slice A1 rest.length c1, .int .i64 code] 73)
    have hF := Lib.hid (fin.out _ A1 rest.length c1 code hb4 hw4)
    have lt4 := blk_lt hb4
    have k0 : (W.alloc (.cells #[.slice A1 rest.length c1, .int .i64 code] 73)).cell? ⟨w.heap.size + 1, 0, none⟩ = some (.slice none 0 0) := (blk_cell hb4 0).trans rfl
    have k1 : (W.alloc (.cells #[.slice A1 rest.length c1, .int .i64 code] 73)).cell? ⟨w.heap.size + 1, 1, none⟩ = some (.int .i64 0) := (blk_cell hb4 1).trans rfl
    have z0 := blk_frozen hb4 0
    have z1 := blk_frozen hb4 1
    clear H go hb2 hlt hW hb3 hw hb4 hw4
    go_wp2_with fail
    refine bodyPost_ret (results_ct rfl _ _ (w.heap.size + 1) 73 #[.slice A1 rest.length c1, .int .i64 code] (0, 0) _ rfl hF.out.1 Tryd.underlying73 rfl (by kernel_rfl)) rfl ?_
    exact ⟨A1, c1, none, 0, rfl, hl1, C1, Nat.le_refl _, Kd.C_nil _ _, hF.out.2⟩
/-! ### a sealed key -/
def rlockR (xs : List Int) (c : Int) : Int × List Int × List Int × List Int × Int :=
  (wrap64 (wrap64 (rnumR xs c 2).1 - 1), (takeR (rnumR xs c 2).2.1 (rnumR xs c 2).2.2 12).1, (takeR (takeR (rnumR xs c 2).2.1 (rnumR xs c 2).2.2 12).2.1 (takeR (rnumR xs c 2).2.1 (rnumR xs c 2).2.2 12).2.2 48).1,
    (takeR (takeR (rnumR xs c 2).2.1 (rnumR xs c 2).2.2 12).2.1 (takeR (rnumR xs c 2).2.1 (rnumR xs c 2).2.2 12).2.2 48).2)
theorem rlockR_len (xs : List Int) (c : Int) : (rlockR xs c).2.2.2.1.length ≤ xs.length := by
  have h1 := rnumR_len xs c 2
  have h2 := (takeR_len (rnumR xs c 2).2.1 (rnumR xs c 2).2.2 12).2
  have h3 := (takeR_len (takeR (rnumR xs c 2).2.1 (rnumR xs c 2).2.2 12).2.1 (takeR (rnumR xs c 2).2.1 (rnumR xs c 2).2.2 12).2.2 48).2
  unfold rlockR
  simp only
  omega
def RLkP (w0 w : World) (r : Int × List Int × List Int × List Int × Int) (e : Ending) (w' : World) : Prop :=
  ∃ A0 c0 A1 c1 A2 c2, e = .returned (.tuple #[.agg #[.slice A0 r.2.2.2.1.length c0, .int .i64 r.2.2.2.2], .agg #[.int .i64 r.1, .slice A1 r.2.1.length c1, .slice A2 r.2.2.1.length c2]]) ∧ r.2.2.2.1.length ≤ c0 ∧ Kd.C (Kd.int .u8) w0 A0 r.2.2.2.1.length r.2.2.2.1 ∧
    r.2.1.length ≤ c1 ∧ Kd.C (Kd.int .u8) w0 A1 r.2.1.length r.2.1 ∧ r.2.2.1.length ≤ c2 ∧ Kd.C (Kd.int .u8) w0 A2 r.2.2.1.length r.2.2.1 ∧ Below w.heap.size w w'
set_option maxHeartbeats 2000000 in
theorem LockF_calls (A : Option Addr) (cap : Nat) (xs : List Int) (c : Int) (w0 w : World) (hC : Kd.C (Kd.int .u8) w0 A xs.length xs) (hB : Below w0.heap.size w0 w) (hcap : xs.length ≤ cap) (hl : xs.length ≤ 1000000000) :
    Calls Tryd.prog 47 #[.agg #[.slice A xs.length cap, .int .i64 c]] w (RLkP w0 w (rlockR xs c)) := by
  have hu := Tryd.underlying73
  have hu24 := Tryd.underlying24
  have B1 : Below w.heap.size w (((w.alloc (.cells #[.slice A xs.length cap, .int .i64 c] 73)).alloc (.cells #[.slice none 0 0, .int .i64 0] 73)).alloc (.cells #[.int .i64 0, .slice none 0 0, .slice none 0 0] 24)) := below_alloc (below_alloc (below_alloc (Below.refl w.heap.size w) _) _) _
  have hb2 : (((w.alloc (.cells #[.slice A xs.length cap, .int .i64 c] 73)).alloc (.cells #[.slice none 0 0, .int .i64 0] 73)).alloc (.cells #[.int .i64 0, .slice none 0 0, .slice none 0 0] 24)).heap[w.heap.size + 1]? = some (.cells #[.slice none 0 0, .int .i64 0] 73 (0, 0)) := blk_alloc (blk_newAt (by simp)) _
  have hb3 : (((w.alloc (.cells #[.slice A xs.length cap, .int .i64 c] 73)).alloc (.cells #[.slice none 0 0, .int .i64 0] 73)).alloc (.cells #[.int .i64 0, .slice none 0 0, .slice none 0 0] 24)).heap[w.heap.size + 2]? = some (.cells #[.int .i64 0, .slice none 0 0, .slice none 0 0] 24 (0, 0)) := blk_newAt (by simp)
  have H := Lib.hid (NumberF_calls A cap xs c 2 w0 (((w.alloc (.cells #[.slice A xs.length cap, .int .i64 c] 73)).alloc (.cells #[.slice none 0 0, .int .i64 0] 73)).alloc (.cells #[.int .i64 0, .slice none 0 0, .slice none 0 0] 24)) hC (below_alloc (below_alloc (below_alloc hB _) _) _) hcap hl)
  unfold rlockR
  generalize rnumR xs c 2 = r at H ⊢
  obtain ⟨v, rest, code⟩ := r
  simp only at H ⊢
  have G1 := fun (A1 : Option Addr) (c1 : Nat) (W : World) (h1 : rest.length ≤ c1) (h2 : Kd.C (Kd.int .u8) w0 A1 rest.length rest) => BytesF_calls A1 c1 rest code 12 w0 W h2 h1
  generalize takeR rest code 12 = t at G1 ⊢
  obtain ⟨bs, zs, f⟩ := t
  simp only at G1 ⊢
  have G2 := fun (A1 : Option Addr) (c1 : Nat) (W : World) (h1 : zs.length ≤ c1) (h2 : Kd.C (Kd.int .u8) w0 A1 zs.length zs) => BytesF_calls A1 c1 zs f 48 w0 W h2 h1
  generalize takeR zs f 48 = t2 at G2 ⊢
  obtain ⟨cs, qs, h⟩ := t2
  have G1 := Lib.hid G1
  have G2 := Lib.hid G2
  have hlt := blk_lt hb2
  have hlt2 := blk_lt hb3
  clear hC hB
  go_enter Tryd.func47, Tryd.ntmps47
  go_wp2_with fail
  refine H.out.mono ?_
  rintro e W ⟨A1, c1, rfl, hl1, C1, hW⟩
  simp only at hl1 C1
  have hc2 := blk_below hb2 hW
  have hc3 := blk_below hb3 hW
  have hw := below_step B1 hW
  clear H hb2 hb3 hlt hlt2 B1 hW
  have T := Lib.hid (G1.out A1 c1 (W.alloc (.cells #[.slice A1 rest.length c1, .int .i64 code] 73)) hl1 C1)
  have hd2 := blk_alloc hc2 (.cells #[.slice A1 rest.length c1, .int .i64 code] 73)
  have hd3 := blk_alloc hc3 (.cells #[.slice A1 rest.length c1, .int .i64 code] 73)
  have hw2 := below_alloc hw (.cells #[.slice A1 rest.length c1, .int .i64 code] 73)
  clear G1 hc2 hc3 hw
  go_wp2_with fail
  refine T.out.mono ?_
  rintro e X ⟨A2, c2, A3, c3, rfl, hl2, C2, hl3, C3, hX⟩
  simp only at hl2 C2 hl3 C3
  have he2 := blk_below hd2 hX
  have he3 := blk_below hd3 hX
  have hw3 := below_step hw2 hX
  clear T hd2 hd3 hw2 hX hl1 C1
  have T := Lib.hid (G2.out A2 c2 (X.alloc (.cells #[.slice A2 zs.length c2, .int .i64 f] 73)) hl2 C2)
  have hf2 := blk_alloc he2 (.cells #[.slice A2 zs.length c2, .int .i64 f] 73)
  have hf3 := blk_alloc he3 (.cells #[.slice A2 zs.length c2, .int .i64 f] 73)
  have hw4 := below_alloc hw3 (.cells #[.slice A2 zs.length c2, .int .i64 f] 73)
  clear G2 he2 he3 hw3
  go_wp2_with fail
  refine T.out.mono ?_
  rintro e Y ⟨A4, c4, A5, c5, rfl, hl4, C4, hl5, C5, hY⟩
  simp only at hl4 C4 hl5 C5
  have hg2 := blk_alloc (blk_below hf2 hY) (.cells #[.slice A4 qs.length c4, .int .i64 h] 73)
  have hg3 := blk_alloc (blk_below hf3 hY) (.cells #[.slice A4 qs.length c4, .int .i64 h] 73)
  have hw5 := below_alloc (below_step hw4 hY) (.cells #[.slice A4 qs.length c4, .int .i64 h] 73)
  clear T hf2 hf3 hw4 hY hl2 C2
  have lt2 := blk_lt hg2
  have lt3 := blk_lt hg3
  have k0 : (Y.alloc (.cells #[.slice A4 qs.length c4, .int .i64 h] 73)).cell? ⟨w.heap.size + 1, 0, none⟩ = some (.slice none 0 0) := (blk_cell hg2 0).trans rfl
  have k1 : (Y.alloc (.cells #[.slice A4 qs.length c4, .int .i64 h] 73)).cell? ⟨w.heap.size + 1, 1, none⟩ = some (.int .i64 0) := (blk_cell hg2 1).trans rfl
  have z0 := blk_frozen hg2 0
  have z1 := blk_frozen hg2 1
  have m0 : (Y.alloc (.cells #[.slice A4 qs.length c4, .int .i64 h] 73)).cell? ⟨w.heap.size + 2, 0, none⟩ = some (.int .i64 0) := (blk_cell hg3 0).trans rfl
  have m1 : (Y.alloc (.cells #[.slice A4 qs.length c4, .int .i64 h] 73)).cell? ⟨w.heap.size + 2, 1, none⟩ = some (.slice none 0 0) := (blk_cell hg3 1).trans rfl
  have m2 : (Y.alloc (.cells #[.slice A4 qs.length c4, .int .i64 h] 73)).cell? ⟨w.heap.size + 2, 2, none⟩ = some (.slice none 0 0) := (blk_cell hg3 2).trans rfl
  have y0 := blk_frozen hg3 0
  have y1 := blk_frozen hg3 1
  have y2 := blk_frozen hg3 2
  have HG2 := Lib.hid hg2
  have HG3 := Lib.hid hg3
  have HW5 := Lib.hid hw5
  clear hg2 hg3 hw5
  go_wp2_with fail
  have r2 := blk_put (cs' := #[.slice A4 qs.length c4, .int .i64 h]) (blk_put (cs' := #[.slice A4 qs.length c4, .int .i64 0]) HG2.out 0 (.slice A4 qs.length c4) rfl) 1 (.int .i64 h) rfl
  have r2' := blk_far (p := ⟨w.heap.size + 2, 2, none⟩) (blk_far (p := ⟨w.heap.size + 2, 1, none⟩) (blk_far (p := ⟨w.heap.size + 2, 0, none⟩) r2 (by show _ ≠ w.heap.size + 2; omega) (.int .i64 (wrap64 (wrap64 v - 1)))) (by show _ ≠ w.heap.size + 2; omega) (.slice A3 bs.length c3)) (by show _ ≠ w.heap.size + 2; omega) (.slice A5 cs.length c5)
  have r3' := blk_far (p := ⟨w.heap.size + 1, 1, none⟩) (blk_far (p := ⟨w.heap.size + 1, 0, none⟩) HG3.out (by show _ ≠ w.heap.size + 1; omega) (.slice A4 qs.length c4)) (by show _ ≠ w.heap.size + 1; omega) (.int .i64 h)
  have r3 := blk_put (cs' := #[.int .i64 (wrap64 (wrap64 v - 1)), .slice A3 bs.length c3, .slice A5 cs.length c5]) (blk_put (cs' := #[.int .i64 (wrap64 (wrap64 v - 1)), .slice A3 bs.length c3, .slice none 0 0]) (blk_put (cs' := #[.int .i64 (wrap64 (wrap64 v - 1)), .slice none 0 0, .slice none 0 0]) r3' 0 (.int .i64 (wrap64 (wrap64 v - 1))) rfl) 1 (.slice A3 bs.length c3) rfl) 2 (.slice A5 cs.length c5) rfl
  refine bodyPost_ret (results_cc rfl _ _ (w.heap.size + 1) (w.heap.size + 2) 73 24 #[.slice A4 qs.length c4, .int .i64 h] #[.int .i64 (wrap64 (wrap64 v - 1)), .slice A3 bs.length c3, .slice A5 cs.length c5] (0, 0) (0, 0) _ _ rfl r2' Tryd.underlying73 rfl (by kernel_rfl) rfl r3 Tryd.underlying24 rfl (by kernel_rfl)) rfl ?_
  exact ⟨A4, c4, A3, c3, A5, c5, rfl, hl4, C4, hl3, C3, hl5, C5, below_set (below_set (below_set (below_set (below_set HW5.out (by omega)) (by omega)) (by omega)) (by omega)) (by omega)⟩
/-! ### what is wrong with what was read -/
def doneR (k : Nat) (xs : List Int) (c : Int) (b again : List Int) (ac : Int) : Option Int :=
  if endC xs c = 0 then (if ac = 0 then (deedboxref01_Same.f k b again).bind fun s => some (if s = true then ac else 4) else some ac) else some (endC xs c)
theorem doneR_mono (k : Nat) (xs : List Int) (c : Int) (b again : List Int) (ac : Int) : LeO (doneR k xs c b again ac) (doneR (k + 1) xs c b again ac) := by
  unfold doneR
  exact LeO.ite (LeO.ite (LeO.bind (deedboxref01_Same.mono _ _ _) fun _ => LeO.refl _) (LeO.refl _)) (LeO.refl _)
theorem doneF_calls (k : Nat) (A : Option Addr) (cap : Nat) (xs : List Int) (c : Int) (A1 : Option Addr) (c1 : Nat) (b : List Int) (A2 : Option Addr) (c2 : Nat) (again : List Int) (ac r : Int) (w : World) (h1 : Kd.C (Kd.int .u8) w A1 b.length b) (hc1 : b.length ≤ c1) (h2 : Kd.C (Kd.int .u8) w A2 again.length again) (hc2 : again.length ≤ c2) (h : doneR k xs c b again ac = some r) :
    Calls Tryd.prog 48 #[.agg #[.slice A xs.length cap, .int .i64 c], .slice A1 b.length c1, .slice A2 again.length c2, .int .i64 ac] w fun e w' => e = .returned (.int .i64 r) ∧ Below w.heap.size w w' := by
  have hu := Tryd.underlying73
  have E := Lib.hid (EndF_calls A cap xs c (w.alloc (.cells #[.slice A xs.length cap, .int .i64 c] 73)))
  have B0 := below_alloc (Below.refl w.heap.size w) (.cells #[.slice A xs.length cap, .int .i64 c] 73)
  unfold doneR at h
  by_cases hc : endC xs c = 0
  · rw [if_pos hc] at h
    rw [hc] at E
    by_cases h0 : ac = 0
    · subst h0
      rw [if_pos rfl] at h
      obtain ⟨s, hs, h⟩ := Option.bind_eq_some_iff.1 h
      have S := fun (W : World) (hW : Below w.heap.size w W) => deedboxref01_Same.calls k A1 c1 b A2 c2 again s W (Kd.C_below h1 hW) hc1 (Kd.C_below h2 hW) hc2 hs
      have S := Lib.hid S
      have B0 := Lib.hid B0
      clear hs h1 h2 hc
      cases s with
      | true =>
        simp only [if_true, Option.some.injEq] at h
        subst h
        go_enter Tryd.func48, Tryd.ntmps48
        go_wp2_with fail
        refine E.out.mono ?_
        rintro e W ⟨rfl, hW⟩
        have hw := Lib.hid (below_step B0.out hW)
        clear hW E
        go_wp2_with fail
        refine (S.out _ hw.out).mono ?_
        rintro e W2 ⟨rfl, ⟨nd, rfl⟩⟩
        go_wp2_with fail
        go_ret
        exact ⟨rfl, pw_below_drewN hw.out _⟩
      | false =>
        simp only [Bool.false_eq_true, if_false, Option.some.injEq] at h
        subst h
        go_enter Tryd.func48, Tryd.ntmps48
        go_wp2_with fail
        refine E.out.mono ?_
        rintro e W ⟨rfl, hW⟩
        have hw := Lib.hid (below_step B0.out hW)
        clear hW E
        go_wp2_with fail
        refine (S.out _ hw.out).mono ?_
        rintro e W2 ⟨rfl, ⟨nd, rfl⟩⟩
        go_wp2_with fail
        go_ret
        exact ⟨rfl, pw_below_drewN hw.out _⟩
    · rw [if_neg h0] at h
      obtain rfl := Option.some.inj h
      have t1 : (ac == 0) = false := by simpa using h0
      clear hc h1 h2
      go_enter Tryd.func48, Tryd.ntmps48
      go_wp2_with fail
      refine E.out.mono ?_
      rintro e W ⟨rfl, hW⟩
      have hw := Lib.hid (below_step B0 hW)
      clear hW E B0
      go_wp2_with fail
      go_ret
      exact ⟨rfl, hw.out⟩
  · rw [if_neg hc] at h
    obtain rfl := Option.some.inj h
    have t1 : (endC xs c != 0) = true := by simpa using hc
    generalize endC xs c = d at E t1
    clear hc h1 h2
    go_enter Tryd.func48, Tryd.ntmps48
    go_wp2_with fail
    refine E.out.mono ?_
    rintro e W ⟨rfl, hW⟩
    have hw := Lib.hid (below_step B0 hW)
    clear hW E B0
    go_wp2_with fail
    go_ret
    exact ⟨rfl, hw.out⟩
end Go.Proofs.YtmciigdfhikdnaaDoor
