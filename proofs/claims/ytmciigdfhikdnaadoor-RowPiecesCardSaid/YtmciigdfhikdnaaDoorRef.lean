/- The reference's readers, walked by hand: each function comes to what its plain Lean function beside it tells; no condition beside those in each theorem. -/
import Derived.Test.YtmciigdfhikdnaaDoorRfx0
import Derived.Test.YtmciigdfhikdnaaDoorRdV
import Derived.Deep.RegionHeldLaw
namespace Go.Proofs.YtmciigdfhikdnaaDoor
open Go.RowKit Go.Proofs.YtmciigdfhikdnaaDoorW.PrintWords Go.Proofs.YtmciigdfhikdnaaDoorW.PrintLast Go.Proofs.YtmciigdfhikdnaaDoorW.PrintMore Go.Proofs.YtmciigdfhikdnaaDoor.Rw Go.Proofs.YtmciigdfhikdnaaDoor.Rf
set_option linter.unusedVariables false
set_option linter.unusedSimpArgs false
theorem failF_calls (A : Option Addr) (cap : Nat) (xs : List Int) (c a : Int) (w : World) :
    Calls Tryd.prog 63 #[.agg #[.slice A xs.length cap, .int .i64 c], .int .i64 a] w fun e w' => e = .returned (.agg #[.slice A xs.length cap, .int .i64 (if c = 0 then a else c)]) ∧ Below w.heap.size w w' := by
  have hu := Tryd.underlying73
  by_cases hc : c = 0
  · subst hc
    rw [if_pos rfl]
    go_enter Tryd.func63, Tryd.ntmps63
    go_wp2_with fail
    refine bodyPost_ret (results_cell_row rfl _ _ (w.heap.size + 1) 73 #[.slice A xs.length cap, .int .i64 a] (0, 0) _ rfl ?_ Tryd.underlying73 rfl (by kernel_rfl)) rfl ⟨rfl, ?_⟩
    · exact blk_alloc (blk_newAt (by simp)) _
    · exact below_alloc (below_alloc (below_alloc (Below.refl _ _) _) _) _
  · rw [if_neg hc]
    have t1 : (c == 0) = false := by simpa using hc
    go_enter Tryd.func63, Tryd.ntmps63
    go_wp2_with fail
    refine bodyPost_ret (results_cell_row rfl _ _ (w.heap.size + 1) 73 #[.slice A xs.length cap, .int .i64 c] (0, 0) _ rfl ?_ Tryd.underlying73 rfl (by kernel_rfl)) rfl ⟨rfl, ?_⟩
    · exact blk_alloc (blk_newAt (by simp)) _
    · exact below_alloc (below_alloc (below_alloc (Below.refl _ _) _) _) _
theorem EndF_calls (A : Option Addr) (cap : Nat) (xs : List Int) (c : Int) (w : World) :
    Calls Tryd.prog 64 #[.agg #[.slice A xs.length cap, .int .i64 c]] w fun e w' => e = .returned (.int .i64 (endC xs c)) ∧ Below w.heap.size w w' := by
  have hu := Tryd.underlying73
  have B0 := Lib.hid (below_alloc (Below.refl w.heap.size w) (.cells #[.slice A xs.length cap, .int .i64 c] 73))
  unfold endC
  by_cases hc : c = 0
  · subst hc
    by_cases hp : 0 < xs.length
    · have t1 : decide (0 < xs.length) = true := decide_eq_true hp
      rw [if_pos hp, if_pos rfl]
      go_enter Tryd.func64, Tryd.ntmps64
      go_wp2_with fail
      go_ret
      exact ⟨rfl, B0.out⟩
    · have t1 : decide (0 < xs.length) = false := decide_eq_false hp
      rw [if_neg hp]
      go_enter Tryd.func64, Tryd.ntmps64
      go_wp2_with fail
      go_ret
      exact ⟨rfl, B0.out⟩
  · have t1 : (c == 0) = false := by simpa using hc
    rw [if_neg hc, show (if 0 < xs.length then c else c) = c from by split <;> rfl]
    go_enter Tryd.func64, Tryd.ntmps64
    go_wp2_with fail
    go_ret
    exact ⟨rfl, B0.out⟩
/-- A reader and bytes that were read of it. -/
def RBytP (w0 w : World) (r : List Int × List Int × Int) (e : Ending) (w' : World) : Prop :=
  ∃ A1 c1 A2 c2, e = .returned (.tuple #[.agg #[.slice A1 r.2.1.length c1, .int .i64 r.2.2], .slice A2 r.1.length c2]) ∧ r.2.1.length ≤ c1 ∧ Kd.C (Kd.int .u8) w0 A1 r.2.1.length r.2.1 ∧ r.1.length ≤ c2 ∧ Kd.C (Kd.int .u8) w0 A2 r.1.length r.1 ∧ Below w.heap.size w w'
theorem BytesF_calls (A : Option Addr) (cap : Nat) (xs : List Int) (c n : Int) (w0 w : World) (hC : Kd.C (Kd.int .u8) w0 A xs.length xs) (hcap : xs.length ≤ cap) :
    Calls Tryd.prog 61 #[.agg #[.slice A xs.length cap, .int .i64 c], .int .i64 n] w (RBytP w0 w (takeR xs c n)) := by
  have hu := Tryd.underlying73
  have B1 := below_alloc (below_alloc (Below.refl w.heap.size w) (.cells #[.slice A xs.length cap, .int .i64 c] 73)) (.cells #[.slice none 0 0, .int .i64 0] 73)
  unfold takeR
  by_cases hc : c = 0
  · subst hc
    rw [if_pos rfl]
    by_cases hn : n < 0 ∨ (xs.length : Int) < n
    · rw [if_pos hn]
      have HF := failF_calls A cap xs 0 3 ((w.alloc (.cells #[.slice A xs.length cap, .int .i64 0] 73)).alloc (.cells #[.slice none 0 0, .int .i64 0] 73))
      rw [if_pos rfl] at HF
      have HF := Lib.hid HF
      have hb2 : ((w.alloc (.cells #[.slice A xs.length cap, .int .i64 0] 73)).alloc (.cells #[.slice none 0 0, .int .i64 0] 73)).heap[w.heap.size + 1]? = some (.cells #[.slice none 0 0, .int .i64 0] 73 (0, 0)) := blk_newAt (by simp)
      have fin : ∀ (W : World), Below ((w.alloc (.cells #[.slice A xs.length cap, .int .i64 0] 73)).alloc (.cells #[.slice none 0 0, .int .i64 0] 73)).heap.size ((w.alloc (.cells #[.slice A xs.length cap, .int .i64 0] 73)).alloc (.cells #[.slice none 0 0, .int .i64 0] 73)) W →
          ((W.setCell ⟨w.heap.size + 1, 0, none⟩ (.slice A xs.length cap)).setCell ⟨w.heap.size + 1, 1, none⟩ (.int .i64 3)).heap[w.heap.size + 1]? = some (.cells #[.slice A xs.length cap, .int .i64 3] 73 (0, 0)) ∧
          RBytP w0 w ([], xs, 3) (.returned (.tuple #[.agg #[.slice A xs.length cap, .int .i64 3], .slice none 0 0])) ((W.setCell ⟨w.heap.size + 1, 0, none⟩ (.slice A xs.length cap)).setCell ⟨w.heap.size + 1, 1, none⟩ (.int .i64 3)) := fun W hW => by
        have hb3 := blk_below hb2 hW
        have h4 := blk_put (cs' := #[.slice A xs.length cap, .int .i64 0]) hb3 0 (.slice A xs.length cap) rfl
        have h5 := blk_put (cs' := #[.slice A xs.length cap, .int .i64 3]) h4 1 (.int .i64 3) rfl
        have hw := below_step B1 hW
        have hw2 := below_set (j := 1) (v := .int .i64 3) (below_set (j := 0) (v := .slice A xs.length cap) hw (show w.heap.size ≤ w.heap.size + 1 by omega)) (show w.heap.size ≤ w.heap.size + 1 by omega)
        exact ⟨h5, _, _, none, 0, rfl, hcap, hC, Nat.le_refl _, Kd.C_nil _ _, hw2⟩
      have fin := Lib.hid fin
      have hlt := blk_lt hb2
      clear B1 hC
      by_cases h0 : n < 0
      · have t1 : decide (n < 0) = true := decide_eq_true h0
        go_enter Tryd.func61, Tryd.ntmps61
        go_wp2_with fail
        refine HF.out.mono ?_
        rintro e W ⟨rfl, hW⟩
        have hb3 := blk_below hb2 hW
        have F := Lib.hid (fin.out W hW)
        have hl3 := blk_lt hb3
        have k0 : W.cell? ⟨w.heap.size + 1, 0, none⟩ = some (.slice none 0 0) := (blk_cell hb3 0).trans rfl
        have k1 : W.cell? ⟨w.heap.size + 1, 1, none⟩ = some (.int .i64 0) := (blk_cell hb3 1).trans rfl
        have z0 := blk_frozen hb3 0
        have z1 := blk_frozen hb3 1
        clear hW hb2 hlt
        go_wp2_with fail
        refine bodyPost_ret (results_ct rfl _ _ (w.heap.size + 1) 73 #[.slice A xs.length cap, .int .i64 3] (0, 0) _ rfl F.out.1 Tryd.underlying73 rfl (by kernel_rfl)) rfl ?_
        exact F.out.2
      · have t1 : decide (n < 0) = false := decide_eq_false h0
        have t2 : decide ((xs.length : Int) < n) = true := decide_eq_true (by omega)
        go_enter Tryd.func61, Tryd.ntmps61
        go_wp2_with fail
        refine HF.out.mono ?_
        rintro e W ⟨rfl, hW⟩
        have hb3 := blk_below hb2 hW
        have F := Lib.hid (fin.out W hW)
        have hl3 := blk_lt hb3
        have k0 : W.cell? ⟨w.heap.size + 1, 0, none⟩ = some (.slice none 0 0) := (blk_cell hb3 0).trans rfl
        have k1 : W.cell? ⟨w.heap.size + 1, 1, none⟩ = some (.int .i64 0) := (blk_cell hb3 1).trans rfl
        have z0 := blk_frozen hb3 0
        have z1 := blk_frozen hb3 1
        clear hW hb2 hlt
        go_wp2_with fail
        refine bodyPost_ret (results_ct rfl _ _ (w.heap.size + 1) 73 #[.slice A xs.length cap, .int .i64 3] (0, 0) _ rfl F.out.1 Tryd.underlying73 rfl (by kernel_rfl)) rfl ?_
        exact F.out.2
    · rw [if_neg hn]
      have h0 : 0 ≤ n := by omega
      have h1 : n ≤ (xs.length : Int) := by omega
      obtain ⟨i0, hi, hz0, hz1, hz2⟩ := info_parts Rw.info5
      have r1 := cut_to (P := Tryd.prog) 22 5 .i64 Tryd.underlying22 hi A xs.length cap n h0 h1 hcap
      have r2 := cut_from (P := Tryd.prog) 22 5 .i64 Tryd.underlying22 hi 1 hz1 A xs.length cap n h0 h1
      have t1 : decide (n < 0) = false := decide_eq_false (by omega)
      have t2 : decide ((xs.length : Int) < n) = false := decide_eq_false (by omega)
      have el : (xs.take n.toNat).length = n.toNat := by rw [List.length_take]; omega
      have ed : (xs.drop n.toNat).length = xs.length - n.toNat := by rw [List.length_drop]
      have hCt := Kd.C_take hC (m := n.toNat) (by omega)
      have hCd := Kd.C_drop hC (m := n.toNat) (by omega) hcap
      have hCd : Kd.C (Kd.int .u8) w0 (if cap = n.toNat then A else A.map (·.add (n.toNat * 1))) (xs.drop n.toNat).length (xs.drop n.toNat) := hCd
      generalize (if cap = n.toNat then A else A.map (·.add (n.toNat * 1))) = B at r2 hCd
      have hb1 : ((w.alloc (.cells #[.slice A xs.length cap, .int .i64 0] 73)).alloc (.cells #[.slice none 0 0, .int .i64 0] 73)).heap[w.heap.size]? = some (.cells #[.slice A xs.length cap, .int .i64 0] 73 (0, 0)) := blk_alloc (blk_new w _) _
      have hb2 : ((w.alloc (.cells #[.slice A xs.length cap, .int .i64 0] 73)).alloc (.cells #[.slice none 0 0, .int .i64 0] 73)).heap[w.heap.size + 1]? = some (.cells #[.slice none 0 0, .int .i64 0] 73 (0, 0)) := blk_newAt (by simp)
      have x0 : ((w.alloc (.cells #[.slice A xs.length cap, .int .i64 0] 73)).alloc (.cells #[.slice none 0 0, .int .i64 0] 73)).cell? ⟨w.heap.size, 0, none⟩ = some (.slice A xs.length cap) := (blk_cell hb1 0).trans rfl
      have k0 : ((w.alloc (.cells #[.slice A xs.length cap, .int .i64 0] 73)).alloc (.cells #[.slice none 0 0, .int .i64 0] 73)).cell? ⟨w.heap.size + 1, 0, none⟩ = some (.slice none 0 0) := (blk_cell hb2 0).trans rfl
      have fin : ∀ W, W.heap.size = w.heap.size + 2 → W.heap[w.heap.size + 1]? = some (.cells #[.slice B (xs.length - n.toNat) (cap - n.toNat), .int .i64 0] 73 (0, 0)) → Below w.heap.size w W → RBytP w0 w (xs.take n.toNat, xs.drop n.toNat, 0) (.returned (.tuple #[.agg #[.slice B (xs.length - n.toNat) (cap - n.toNat), .int .i64 0], .slice A n.toNat cap])) W := fun W _ _ hW => by
        refine ⟨B, cap - n.toNat, A, cap, by rw [el, ed], by rw [ed]; omega, hCd, by rw [el]; omega, hCt, hW⟩
      have F := Lib.hid fin
      clear fin el ed hCt hCd hi hz0 hz1 hz2 hC
      go_enter Tryd.func61, Tryd.ntmps61
      go_wp2_with fail
      go_region_held_law (fun w' => w'.cell? ⟨w.heap.size, 0, none⟩ = some (.slice A xs.length cap)) (first | exact x0 | go_keep) ((fail))
      go_wp2_with fail
      have hnew : (((w.alloc (.cells #[.slice A xs.length cap, .int .i64 0] 73)).alloc (.cells #[.slice B (xs.length - n.toNat) (cap - n.toNat), .int .i64 0] 73)).drew).heap[w.heap.size + 1]? = some (.cells #[.slice B (xs.length - n.toNat) (cap - n.toNat), .int .i64 0] 73 (0, 0)) := blk_drew (blk_newAt (by simp))
      refine bodyPost_ret (results_ct rfl _ _ (w.heap.size + 1) 73 #[.slice B (xs.length - n.toNat) (cap - n.toNat), .int .i64 0] (0, 0) _ rfl hnew Tryd.underlying73 rfl (by kernel_rfl)) rfl ?_
      exact F.out _ (by simp) hnew (below_drew1 (below_alloc (below_alloc (Below.refl _ _) _) _))
  · rw [if_neg hc]
    have t1 : (c != 0) = true := by simpa using hc
    go_enter Tryd.func61, Tryd.ntmps61
    go_wp2_with fail
    refine bodyPost_ret (results_ct rfl _ _ (w.heap.size + 1) 73 #[.slice A xs.length cap, .int .i64 c] (0, 0) _ rfl (blk_newAt (by simp)) Tryd.underlying73 rfl (by kernel_rfl)) rfl ⟨_, _, none, 0, rfl, hcap, hC, Nat.le_refl _, Kd.C_nil _ _, below_alloc (below_alloc (Below.refl _ _) _) _⟩
/-! ### a number -/
def refN (l : List Int) : Int := l.foldl (fun n c => IntKind.u64.wrap ((IntKind.u64.wrap (n * 256)) + (IntKind.u64.wrap c))) 0
theorem refget_loop (l : List Int) (hl : l.length ≤ 1000000000) : ∀ (q p : List Int) (n : Int), l = p ++ q → deedboxref01_Get.l0 (q.length + 1) l n (p.length : Int) = some (q.foldl (fun n c => IntKind.u64.wrap ((IntKind.u64.wrap (n * 256)) + (IntKind.u64.wrap c))) n)
  | [], p, n, h => by
    rw [List.append_nil] at h
    subst h
    simp only [deedboxref01_Get.l0, List.length_nil]
    rw [if_neg (by omega)]
    rfl
  | x :: q, p, n, h => by
    have hll : l.length = p.length + q.length + 1 := by rw [h]; simp; omega
    have hx : rd l (p.length : Int) = x := by
      unfold rd
      rw [h, Int.toNat_natCast]
      simp
    have ih := refget_loop l hl q (p ++ [x]) (IntKind.u64.wrap ((IntKind.u64.wrap (n * 256)) + (IntKind.u64.wrap x))) (by rw [h]; simp)
    rw [show (p ++ [x]).length = p.length + 1 from by simp] at ih
    show deedboxref01_Get.l0 (q.length + 1 + 1) l n (p.length : Int) = _
    simp only [deedboxref01_Get.l0]
    rw [if_pos (by omega), if_pos (by omega), hx, show wrap64 ((p.length : Int) + 1) = ((p.length + 1 : Nat) : Int) from by unfold wrap64; omega]
    exact ih
theorem refget_tell (l : List Int) (hl : l.length ≤ 1000000000) : deedboxref01_Get.f (l.length + 1) l = some (refN l) := refget_loop l hl l [] 0 rfl
def rnumR (xs : List Int) (c n : Int) : Int × List Int × Int := (refN (takeR xs c n).1, (takeR xs c n).2.1, (takeR xs c n).2.2)
theorem rnumR_len (xs : List Int) (c n : Int) : (rnumR xs c n).2.1.length ≤ xs.length := (takeR_len xs c n).2
/-- A reader and a number that was read of it. -/
def RNumP (w0 w : World) (r : Int × List Int × Int) (e : Ending) (w' : World) : Prop :=
  ∃ A1 c1, e = .returned (.tuple #[.agg #[.slice A1 r.2.1.length c1, .int .i64 r.2.2], .int .u64 r.1]) ∧ r.2.1.length ≤ c1 ∧ Kd.C (Kd.int .u8) w0 A1 r.2.1.length r.2.1 ∧ Below w.heap.size w w'
theorem NumberF_calls (A : Option Addr) (cap : Nat) (xs : List Int) (c n : Int) (w0 w : World) (hC : Kd.C (Kd.int .u8) w0 A xs.length xs) (hB : Below w0.heap.size w0 w) (hcap : xs.length ≤ cap) (hl : xs.length ≤ 1000000000) :
    Calls Tryd.prog 45 #[.agg #[.slice A xs.length cap, .int .i64 c], .int .i64 n] w (RNumP w0 w (rnumR xs c n)) := by
  have hu := Tryd.underlying73
  have B1 := below_alloc (below_alloc (Below.refl w.heap.size w) (.cells #[.slice A xs.length cap, .int .i64 c] 73)) (.cells #[.slice none 0 0, .int .i64 0] 73)
  have hb2 : ((w.alloc (.cells #[.slice A xs.length cap, .int .i64 c] 73)).alloc (.cells #[.slice none 0 0, .int .i64 0] 73)).heap[w.heap.size + 1]? = some (.cells #[.slice none 0 0, .int .i64 0] 73 (0, 0)) := blk_newAt (by simp)
  have H := Lib.hid (BytesF_calls A cap xs c n w0 ((w.alloc (.cells #[.slice A xs.length cap, .int .i64 c] 73)).alloc (.cells #[.slice none 0 0, .int .i64 0] 73)) hC hcap)
  have hlen := (takeR_len xs c n).1
  have G := Lib.hid (refget_tell (takeR xs c n).1 (by omega))
  unfold rnumR
  generalize takeR xs c n = r at H G
  clear hlen hC
  obtain ⟨out, rest, code⟩ := r
  simp only at H G ⊢
  have hlt := blk_lt hb2
  go_enter Tryd.func45, Tryd.ntmps45
  go_wp2_with fail
  refine H.out.mono ?_
  rintro e W ⟨A1, c1, A2, c2, rfl, hl1, C1, hl2, C2, hW⟩
  simp only at hl1 C1 hl2 C2
  have hb3 := blk_below hb2 hW
  have hw := below_step B1 hW
  have hws : w.heap.size + 2 ≤ W.heap.size := by have := hW.size; simp at this; omega
  have hb6 := blk_new W (.cells #[.slice A1 rest.length c1, .int .i64 code] 73)
  have hb4 := blk_alloc hb3 (.cells #[.slice A1 rest.length c1, .int .i64 code] 73)
  have hw4 := below_alloc hw (.cells #[.slice A1 rest.length c1, .int .i64 code] 73)
  have C2' := Kd.C_below C2 (below_step hB hw4)
  clear H hb2 hlt B1 hW hb3 hw C2 hB
  go_wp2_with fail
  generalize hW4 : W.alloc (.cells #[.slice A1 rest.length c1, .int .i64 code] 73) = W4 at *
  have HW4 := Lib.hid hW4
  clear hW4
  have x0 : W4.cell? ⟨W.heap.size, 0, none⟩ = some (.slice A1 rest.length c1) := (blk_cell hb6 0).trans rfl
  have x1 : W4.cell? ⟨W.heap.size, 1, none⟩ = some (.int .i64 code) := (blk_cell hb6 1).trans rfl
  have k0 : W4.cell? ⟨w.heap.size + 1, 0, none⟩ = some (.slice none 0 0) := (blk_cell hb4 0).trans rfl
  have k1 : W4.cell? ⟨w.heap.size + 1, 1, none⟩ = some (.int .i64 0) := (blk_cell hb4 1).trans rfl
  have z0 := blk_frozen hb4 0
  have z1 := blk_frozen hb4 1
  have lt1 := blk_lt hb4
  have lt2 := blk_lt hb6
  go_region_held_law (fun w' => w'.cell? ⟨W.heap.size, 0, none⟩ = some (.slice A1 rest.length c1) ∧ w'.cell? ⟨W.heap.size, 1, none⟩ = some (.int .i64 code)) (first | exact ⟨x0, x1⟩ | (exact ⟨(cell_far (show W.heap.size ≠ w.heap.size + 1 by omega) _).trans ((cell_far (show W.heap.size ≠ w.heap.size + 1 by omega) _).trans x0), (cell_far (show W.heap.size ≠ w.heap.size + 1 by omega) _).trans ((cell_far (show W.heap.size ≠ w.heap.size + 1 by omega) _).trans x1)⟩))
    ((first | (go_at_call 62; (with_reducible refine (deedboxref01_Get.calls _ A2 c2 out _ _ (by exact Kd.C_drew C2') hl2 G.out).mono ?_); rintro e W5 ⟨rfl, ⟨nd, rfl⟩⟩)))
  go_wp2_with fail
  have hb7 := blk_put (cs' := #[.slice A1 rest.length c1, .int .i64 code]) (blk_put (cs' := #[.slice A1 rest.length c1, .int .i64 0]) (blk_drewN hb4 (1 + nd)) 0 (.slice A1 rest.length c1) rfl) 1 (.int .i64 code) rfl
  have hw5 := below_set (j := 1) (v := .int .i64 code) (below_set (j := 0) (v := .slice A1 rest.length c1) (pw_below_drewN hw4 (1 + nd)) (show w.heap.size ≤ w.heap.size + 1 by omega)) (show w.heap.size ≤ w.heap.size + 1 by omega)
  refine bodyPost_ret (results_ct rfl _ _ (w.heap.size + 1) 73 #[.slice A1 rest.length c1, .int .i64 code] (0, 0) _ rfl hb7 Tryd.underlying73 rfl (by kernel_rfl)) rfl ?_
  exact ⟨A1, c1, rfl, hl1, C1, hw5⟩
end Go.Proofs.YtmciigdfhikdnaaDoor
