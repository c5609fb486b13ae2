/- Versions and uploads, read: walked by hand: each function comes to what its plain Lean function beside it tells; no condition beside those in each theorem. -/
import Derived.Test.YtmciigdfhikdnaaDoorRdU
import Derived.Test.YtmciigdfhikdnaaDoorRdB
namespace Go.Proofs.YtmciigdfhikdnaaDoor
open Go.RowKit Go.Proofs.YtmciigdfhikdnaaDoorW.PrintWords Go.Proofs.YtmciigdfhikdnaaDoorW.PrintLast Go.Proofs.YtmciigdfhikdnaaDoorW.PrintMore Go.Proofs.YtmciigdfhikdnaaDoor.Rw
set_option linter.unusedVariables false
set_option linter.unusedSimpArgs false
theorem textR_len (xs : List Int) (c s m : Int) : (textR xs c s m).2.1.length ≤ xs.length := by
  unfold textR
  have h1 := numR_len xs c s
  split
  · split
    · exact h1
    · exact Nat.le_trans (takeR_len _ _ _).2 h1
  · exact h1
/-! ### uploads -/
theorem clos_53 (k gx : Nat) (a0 : Int) (a1 : ByteArray) (A2 : Option Addr) (c2 : Nat) (l2 : List Int) (a3 : Int) (A4 : Option Addr) (c4 : Nat) (l4 : List Int) (A5 : Option Addr) (c5 : Nat) (l5 : List Int) (p : List Int × Int) (W : World)
    (hb : W.heap[gx]? = some (.cells #[.int .i64 a0, .string a1, .slice A2 l2.length c2, .int .i64 a3, .slice A4 l4.length c4, .slice A5 l5.length c5] 44 (0, 0)))
    (g2 : Kd.C (Kd.int .u8) W A2 l2.length l2) (hc2 : l2.length ≤ c2) (g4 : Kd.C (Kd.int .u8) W A4 l4.length l4) (hc4 : l4.length ≤ c4) (g5 : Kd.C (Kd.int .u8) W A5 l5.length l5) (hc5 : l5.length ≤ c5) (h : row_Upload.f k a0 a1 l2 a3 l4 l5 = some p) :
    Calls Tryd.prog 53 #[.pointer (some ⟨gx, 0, none⟩)] W (AgainP W p) := by
  obtain ⟨out, code⟩ := p
  have H := Lib.hid (Upload_calls k a0 a1 A2 c2 l2 a3 A4 c4 l4 A5 c5 l5 out code W g2 hc2 g4 hc4 g5 hc5 h)
  have hlt := blk_lt hb
  have x0 : W.cell? ⟨gx, 0, none⟩ = some (.int .i64 a0) := (blk_cell hb 0).trans rfl
  have x1 : W.cell? ⟨gx, 1, none⟩ = some (.string a1) := (blk_cell hb 1).trans rfl
  have x2 : W.cell? ⟨gx, 2, none⟩ = some (.slice A2 l2.length c2) := (blk_cell hb 2).trans rfl
  have x3 : W.cell? ⟨gx, 3, none⟩ = some (.int .i64 a3) := (blk_cell hb 3).trans rfl
  have x4 : W.cell? ⟨gx, 4, none⟩ = some (.slice A4 l4.length c4) := (blk_cell hb 4).trans rfl
  have x5 : W.cell? ⟨gx, 5, none⟩ = some (.slice A5 l5.length c5) := (blk_cell hb 5).trans rfl
  have hu44 := Tryd.underlying44
  clear g2 g4 g5 h hb
  go_enter Tryd.func53, Tryd.ntmps53
  go_wp2_with fail
  refine H.out.mono ?_
  rintro e w' ⟨v, rfl, hv, hb'⟩
  have F := Lib.hid (show AgainP W (out, code) (.returned (.tuple #[v, .int .i64 code])) w' from ⟨v, rfl, hv, hb'⟩)
  clear H hv hb'
  go_wp2_with fail
  go_ret2
  exact F.out
theorem clos_44 (k gx : Nat) (a0 : Int) (a1 a2 : Bool) (a3 a4 a5 : Int) (A6 : Option Addr) (c6 : Nat) (l6 : List Int) (A7 : Option Addr) (c7 : Nat) (l7 : List Int) (a8 : Int) (A9 : Option Addr) (c9 : Nat) (l9 : List Int) (A10 : Option Addr) (c10 : Nat) (l10 : List Int) (p : List Int × Int) (W : World)
    (hb : W.heap[gx]? = some (.cells #[.int .i64 a0, .bool a1, .bool a2, .int .i64 a3, .int .i64 a4, .int .i64 a5, .slice A6 l6.length c6, .slice A7 l7.length c7, .int .i64 a8, .slice A9 l9.length c9, .slice A10 l10.length c10] 26 (0, 0)))
    (g6 : Kd.C (Kd.int .u8) W A6 l6.length l6) (hc6 : l6.length ≤ c6) (g7 : Kd.C (Kd.int .u8) W A7 l7.length l7) (hc7 : l7.length ≤ c7) (g9 : Kd.C (Kd.int .u8) W A9 l9.length l9) (hc9 : l9.length ≤ c9) (g10 : Kd.C (Kd.int .u8) W A10 l10.length l10) (hc10 : l10.length ≤ c10)
    (h : row_Version.f k a0 a1 a2 a3 a4 a5 l6 l7 a8 l9 l10 = some p) :
    Calls Tryd.prog 44 #[.pointer (some ⟨gx, 0, none⟩)] W (AgainP W p) := by
  obtain ⟨out, code⟩ := p
  have H := Lib.hid (row_Version.calls k a0 a1 a2 a3 a4 a5 A6 c6 l6 A7 c7 l7 a8 A9 c9 l9 A10 c10 l10 out code W g6 hc6 g7 hc7 g9 hc9 g10 hc10 h)
  have hlt := blk_lt hb
  have x0 : W.cell? ⟨gx, 0, none⟩ = some (.int .i64 a0) := (blk_cell hb 0).trans rfl
  have x1 : W.cell? ⟨gx, 1, none⟩ = some (.bool a1) := (blk_cell hb 1).trans rfl
  have x2 : W.cell? ⟨gx, 2, none⟩ = some (.bool a2) := (blk_cell hb 2).trans rfl
  have x3 : W.cell? ⟨gx, 3, none⟩ = some (.int .i64 a3) := (blk_cell hb 3).trans rfl
  have x4 : W.cell? ⟨gx, 4, none⟩ = some (.int .i64 a4) := (blk_cell hb 4).trans rfl
  have x5 : W.cell? ⟨gx, 5, none⟩ = some (.int .i64 a5) := (blk_cell hb 5).trans rfl
  have x6 : W.cell? ⟨gx, 6, none⟩ = some (.slice A6 l6.length c6) := (blk_cell hb 6).trans rfl
  have x7 : W.cell? ⟨gx, 7, none⟩ = some (.slice A7 l7.length c7) := (blk_cell hb 7).trans rfl
  have x8 : W.cell? ⟨gx, 8, none⟩ = some (.int .i64 a8) := (blk_cell hb 8).trans rfl
  have x9 : W.cell? ⟨gx, 9, none⟩ = some (.slice A9 l9.length c9) := (blk_cell hb 9).trans rfl
  have x10 : W.cell? ⟨gx, 10, none⟩ = some (.slice A10 l10.length c10) := (blk_cell hb 10).trans rfl
  have hu26 := Tryd.underlying26
  clear g6 g7 g9 g10 h hb
  go_enter Tryd.func44, Tryd.ntmps44
  go_wp2_with fail
  refine H.out.mono ?_
  rintro e w' ⟨v, rfl, hv, hb'⟩
  have F := Lib.hid (show AgainP W (out, code) (.returned (.tuple #[v, .int .i64 code])) w' from ⟨v, rfl, hv, hb'⟩)
  clear H hv hb'
  go_wp2_with fail
  go_ret2
  exact F.out
/-! ### what is read of an upload -/
theorem R_mv {W W1 : World} {b : Nat} {v : Value} {xs : List Int} (h : Kd.R (Kd.int .u8) 5 W b (fun _ => True) v xs) (hm : ∀ k, b ≤ k → k < W.heap.size → W1.heap[k]? = W.heap[k]?) : Kd.R (Kd.int .u8) 5 W1 b (fun _ => True) v xs :=
  Kd.R_mono (Kd.R_step (Kd.R_bound h) (fun k hk hlt => hm k hk.2.1 hlt)) (fun _ _ => trivial)
theorem R_in {W : World} {b : Nat} {ok : Nat → Prop} {v : Value} {xs : List Int} (h : Kd.R (Kd.int .u8) 5 W b ok v xs) : ∀ k, v.ownBlock = some k → b ≤ k ∧ k < W.heap.size := fun k hk => by
  have := (Kd.R_bound h).1 k hk
  exact ⟨this.2.1, this.2.2.1⟩
/-- What is read of an upload's bytes: its name, what stands with it, its key; what is left, and what was wrong. -/
def upT1 (b : List Int) := textR b 0 1 40
def upT2 (b : List Int) := textR (upT1 b).2.1 (upT1 b).2.2 1 24
def upL (b : List Int) := lockR (upT2 b).2.1 (upT2 b).2.2
def row_ReadUpload.f (k : Nat) (a0 : Int) (b : List Int) : Option (Int × ByteArray × List Int × Int × List Int × List Int × Int) :=
  if b.length ≤ 1000000 then (endR k (upL b).2.2.2.1 (upL b).2.2.2.2 (row_Upload.f k a0 (strOfNums (upT1 b).1) (upT2 b).1 (upL b).1 (upL b).2.1 (upL b).2.2.1) b).bind fun c =>
    some (if c = 0 then (a0, strOfNums (upT1 b).1, (upT2 b).1, (upL b).1, (upL b).2.1, (upL b).2.2.1, 0) else (0, ⟨#[]⟩, [], 0, [], [], c)) else none
theorem row_ReadUpload.mono : ∀ a0 b k, LeO (row_ReadUpload.f k a0 b) (row_ReadUpload.f (k + 1) a0 b) := by
  intro a0 b k
  unfold row_ReadUpload.f
  exact LeO.ite (LeO.bind (endR_mono _ _ _ _ (row_Upload.mono _ _ _ _ _ _ _)) fun _ => LeO.refl _) (LeO.none _)
/-- An upload that was read. -/
def UpP (w : World) (r : Int × ByteArray × List Int × Int × List Int × List Int × Int) (e : Ending) (w' : World) : Prop :=
  ∃ v2 v4 v5, e = .returned (.tuple #[.agg #[.int .i64 r.1, .string r.2.1, v2, .int .i64 r.2.2.2.1, v4, v5], .int .i64 r.2.2.2.2.2.2]) ∧ Kd.R (Kd.int .u8) 5 w' w.heap.size (fun _ => True) v2 r.2.2.1 ∧ Kd.R (Kd.int .u8) 5 w' w.heap.size (fun _ => True) v4 r.2.2.2.2.1 ∧
    Kd.R (Kd.int .u8) 5 w' w.heap.size (fun _ => True) v5 r.2.2.2.2.2.1 ∧ NeRow v2 v4 ∧ NeRow v2 v5 ∧ NeRow v4 v5 ∧ Below w.heap.size w w'
set_option maxRecDepth 100000 in
set_option maxHeartbeats 2000000 in
theorem ReadUpload_calls (k : Nat) (a0 : Int) (A0 : Option Addr) (c0 : Nat) (l0 : List Int) (r : Int × ByteArray × List Int × Int × List Int × List Int × Int) (w : World) (hr0 : Kd.C (Kd.int .u8) w A0 l0.length l0) (hc0 : l0.length ≤ c0) (h : row_ReadUpload.f k a0 l0 = some r) :
    Calls Tryd.prog 21 #[.int .i64 a0, .slice A0 l0.length c0] w (UpP w r) := by
  unfold row_ReadUpload.f at h
  by_cases hl : l0.length ≤ 1000000
  · rw [if_pos hl] at h
    obtain ⟨c, hE, h⟩ := Option.bind_eq_some_iff.1 h
    have HR := Lib.hid (Option.some.inj h)
    clear h
    have m1 := textR_len l0 0 1 40
    have m2 := textR_len (upT1 l0).2.1 (upT1 l0).2.2 1 24
    have T1 := fun g w0 W h1 h2 => Text_calls g l0 0 1 40 (by decide) (by decide) w0 W h1 h2 (by omega)
    have T2 := fun g w0 W h1 h2 => Text_calls g (upT1 l0).2.1 (upT1 l0).2.2 1 24 (by decide) (by decide) w0 W h1 h2 (by unfold upT1; omega)
    have e1 : textR l0 0 1 40 = upT1 l0 := rfl
    have e2 : textR (upT1 l0).2.1 (upT1 l0).2.2 1 24 = upT2 l0 := rfl
    rw [e1] at m1 T1
    rw [e2] at m2 T2
    have T3 := fun g w0 W h1 h2 => readLock_calls g (upT2 l0).2.1 (upT2 l0).2.2 w0 W h1 h2 (by omega)
    have e3 : lockR (upT2 l0).2.1 (upT2 l0).2.2 = upL l0 := rfl
    rw [e3] at T3
    have m3 : (upL l0).2.2.2.1.length ≤ 1000000000 := by
      have h1 := numR_len (upT2 l0).2.1 (upT2 l0).2.2 2
      have h2 := (takeR_len (numR (upT2 l0).2.1 (upT2 l0).2.2 2).2.1 (numR (upT2 l0).2.1 (upT2 l0).2.2 2).2.2 12).2
      have h3 := (takeR_len (takeR (numR (upT2 l0).2.1 (upT2 l0).2.2 2).2.1 (numR (upT2 l0).2.1 (upT2 l0).2.2 2).2.2 12).2.1 (takeR (numR (upT2 l0).2.1 (upT2 l0).2.2 2).2.1 (numR (upT2 l0).2.1 (upT2 l0).2.2 2).2.2 12).2.2 48).2
      unfold upL lockR
      simp only
      omega
    generalize upT1 l0 = t1 at *
    generalize upT2 l0 = t2 at *
    generalize upL l0 = t3 at *
    obtain ⟨x1, y1, d1⟩ := t1
    obtain ⟨x2, y2, d2⟩ := t2
    obtain ⟨gn, nn, wp, y3, d3⟩ := t3
    simp only at T1 T2 T3 hE HR m3
    clear e1 e2 e3 m1 m2
    have HT1 := Lib.hid T1
    have HT2 := Lib.hid T2
    have HT3 := Lib.hid T3
    have hE := Lib.hid hE
    have RD := Lib.hid (Read_calls A0 c0 l0 (w.alloc (.cells #[.int .i64 0, .string ⟨#[]⟩, .slice none 0 0, .int .i64 0, .slice none 0 0, .slice none 0 0] 44)) (Kd.C_alloc hr0 _) hc0 (by omega))
    clear T1 T2 T3
    have hu44 := Tryd.underlying44
    have hu24 := Tryd.underlying24
    go_enter Tryd.func21, Tryd.ntmps21
    go_wp2_with fail
    refine RD.out.mono ?_
    rintro e W1 ⟨w0, g, rfl, hR1, hB1, hb1⟩
    have hC0 := Kd.C_below (Kd.C_alloc hr0 (.cells #[.int .i64 0, .string ⟨#[]⟩, .slice none 0 0, .int .i64 0, .slice none 0 0, .slice none 0 0] 44)) hb1
    have hb0 : w0.heap[w.heap.size]? = some (.cells #[.int .i64 0, .string ⟨#[]⟩, .slice none 0 0, .int .i64 0, .slice none 0 0, .slice none 0 0] 44 (0, 0)) := blk_below (blk_new w _) hb1
    have hbw : Below w.heap.size w w0 := below_step (below_alloc (Below.refl _ _) _) hb1
    clear hr0 hb1 RD
    go_wp2_with fail
    refine (HT1.out g w0 _ hR1 hB1).mono ?_
    rintro e W2 ⟨u1, rfl, V1, hR2, hB2, hk2⟩
    simp only at V1 hR2
    obtain ⟨E1, c1, rfl, m1, Q1⟩ := Kd.R_reads V1
    have kc := Kd.C_string (P := Tryd.prog) (src := 22) (dst := 9) (e := 5) (c := c1) Tryd.underlying22 Tryd.underlying5 Tryd.underlying9 Q1
    have hg2 := hR2.lt
    have hw2 := hB2.size
    have hrw0 : w.heap.size < w0.heap.size := blk_lt hb0
    have hbx2 := blk_new W2 (.cells #[.int .i64 a0, .string (strOfNums x1), .slice none 0 0, .int .i64 0, .slice none 0 0, .slice none 0 0] 44)
    have T := Lib.hid (HT2.out g w0 (W2.alloc (.cells #[.int .i64 a0, .string (strOfNums x1), .slice none 0 0, .int .i64 0, .slice none 0 0, .slice none 0 0] 44)) (hR2.below (below_alloc (Below.refl _ _) _)) (below_alloc hB2 _))
    clear V1 Q1 hR1 hB1 hk2 hR2 HT1 HT2 hB2
    go_wp2_with fail
    refine T.out.mono ?_
    rintro e W3 ⟨u2, rfl, V2, hR3, hB3, hk3⟩
    simp only at V2 hR3
    obtain ⟨E2, c2, rfl⟩ := Kd.R_slice V2
    have hz2 : (W2.alloc (.cells #[.int .i64 a0, .string (strOfNums x1), .slice none 0 0, .int .i64 0, .slice none 0 0, .slice none 0 0] 44)).heap.size = W2.heap.size + 1 := by simp
    have hbx3 := hk3.blk hbx2 (by omega) (by simp)
    have hw3 := keep_size hk3
    have lt3 := blk_lt hbx3
    have z2 : W3.cell? ⟨W2.heap.size, 2, none⟩ = some (.slice none 0 0) := (blk_cell hbx3 2).trans rfl
    have f2 := blk_frozen hbx3 2
    have hbx4 := blk_put (cs' := #[.int .i64 a0, .string (strOfNums x1), .slice E2 x2.length c2, .int .i64 0, .slice none 0 0, .slice none 0 0]) hbx3 2 (.slice E2 x2.length c2) rfl
    have hR4 := hR3.keep (Below.heap_setCell W3 ⟨W2.heap.size, 2, none⟩ (.slice E2 x2.length c2) g (by show g ≠ W2.heap.size; omega))
    have hB4 := below_set (j := 2) (v := .slice E2 x2.length c2) hB3 (show w0.heap.size ≤ W2.heap.size by omega)
    have V2 := R_mv V2 (W1 := W3.setCell ⟨W2.heap.size, 2, none⟩ (.slice E2 x2.length c2)) (fun k h1 _ => Below.heap_setCell W3 _ _ k (by show k ≠ W2.heap.size; omega))
    have T := Lib.hid (HT3.out g w0 _ hR4 hB4)
    have HZ := Lib.hid hz2
    have HBX := Lib.hid hbx4
    clear hz2 hbx2 hbx3 hk3 hR3 hB3 hR4 hB4 HT3 kc hbx4
    go_wp2_with fail
    generalize hW4 : W3.setCell ⟨W2.heap.size, 2, none⟩ (.slice E2 x2.length c2) = W4 at *
    have hz4 : W4.heap.size = W3.heap.size := by rw [← hW4]; simp
    refine T.out.mono ?_
    rintro e W5 ⟨u4, u5, rfl, V4, V5, hR5, hB5, hk5⟩
    simp only at V4 V5 hR5
    have hz2 := HZ.out
    have hbx4 := HBX.out
    clear T hW4 z2 f2 HBX
    obtain ⟨E4, c4, rfl⟩ := Kd.R_slice V4
    obtain ⟨E5, c5, rfl⟩ := Kd.R_slice V5
    have hbx5 := hk5.blk hbx4 (by omega) (by simp)
    have lt5 := blk_lt hbx5
    have hw5 := keep_size hk5
    have z3 : W5.cell? ⟨W2.heap.size, 3, none⟩ = some (.int .i64 0) := (blk_cell hbx5 3).trans rfl
    have z4 : W5.cell? ⟨W2.heap.size, 4, none⟩ = some (.slice none 0 0) := (blk_cell hbx5 4).trans rfl
    have z5 : W5.cell? ⟨W2.heap.size, 5, none⟩ = some (.slice none 0 0) := (blk_cell hbx5 5).trans rfl
    have f3 := blk_frozen hbx5 3
    have f4 := blk_frozen hbx5 4
    have f5 := blk_frozen hbx5 5
    have hst : ∀ k, k ≠ W2.heap.size → (((W5.setCell ⟨W2.heap.size, 3, none⟩ (.int .i64 gn)).setCell ⟨W2.heap.size, 4, none⟩ (.slice E4 nn.length c4)).setCell ⟨W2.heap.size, 5, none⟩ (.slice E5 wp.length c5)).heap[k]? = W5.heap[k]? := fun k hk => by
      rw [Below.heap_setCell _ _ _ _ hk, Below.heap_setCell _ _ _ _ hk, Below.heap_setCell _ _ _ _ hk]
    have hbx6 := blk_put (cs' := #[.int .i64 a0, .string (strOfNums x1), .slice E2 x2.length c2, .int .i64 gn, .slice E4 nn.length c4, .slice E5 wp.length c5]) (blk_put (cs' := #[.int .i64 a0, .string (strOfNums x1), .slice E2 x2.length c2, .int .i64 gn, .slice E4 nn.length c4, .slice none 0 0]) (blk_put (cs' := #[.int .i64 a0, .string (strOfNums x1), .slice E2 x2.length c2, .int .i64 gn, .slice none 0 0, .slice none 0 0]) hbx5 3 (.int .i64 gn) rfl) 4 (.slice E4 nn.length c4) rfl) 5 (.slice E5 wp.length c5) rfl
    have hB6 := below_set (j := 5) (v := .slice E5 wp.length c5) (below_set (j := 4) (v := .slice E4 nn.length c4) (below_set (j := 3) (v := .int .i64 gn) hB5 (show w0.heap.size ≤ W2.heap.size by omega)) (show w0.heap.size ≤ W2.heap.size by omega)) (show w0.heap.size ≤ W2.heap.size by omega)
    have hR6 := hR5.keep (hst g (by omega))
    have V5' : Kd.R (Kd.int .u8) 5 W5 W4.heap.size (fun _ => True) (.slice E5 wp.length c5) wp := Kd.R_mono V5 (fun _ _ => trivial)
    have n24 : NeRow (.slice E2 x2.length c2) (.slice E4 nn.length c4) := fun k h1 h2 => by have := (R_in V2 k h1).2; have := (R_in V4 k h2).1; omega
    have n25 : NeRow (.slice E2 x2.length c2) (.slice E5 wp.length c5) := fun k h1 h2 => by have := (R_in V2 k h1).2; have := (R_in V5 k h2).1; omega
    have n45 : NeRow (.slice E4 nn.length c4) (.slice E5 wp.length c5) := fun k h1 h2 => V5.1 k h2 h1.symm
    have V2s := R_mv (R_mv V2 (W1 := W5) (fun k h1 h2 => hk5.2 k h2 (by omega) (by simp))) (fun k h1 _ => hst k (by omega))
    have V4s := R_mv V4 (fun k h1 _ => hst k (by omega))
    have V5s := R_mv V5' (fun k h1 _ => hst k (by omega))
    have hsz6 : (((W5.setCell ⟨W2.heap.size, 3, none⟩ (.int .i64 gn)).setCell ⟨W2.heap.size, 4, none⟩ (.slice E4 nn.length c4)).setCell ⟨W2.heap.size, 5, none⟩ (.slice E5 wp.length c5)).heap.size = W5.heap.size := by simp
    generalize hW6 : ((W5.setCell ⟨W2.heap.size, 3, none⟩ (.int .i64 gn)).setCell ⟨W2.heap.size, 4, none⟩ (.slice E4 nn.length c4)).setCell ⟨W2.heap.size, 5, none⟩ (.slice E5 wp.length c5) = W6 at *
    have HE := Lib.hid (end_calls_53 k g W2.heap.size y3 d3 _ A0 c0 l0 c w0 W6 hR6 hB6 m3 hC0 hc0
      (fun p hp W hk => by
        have q2 := Kd.R_reads' (R_mv V2s (W1 := W) (fun k h1 h2 => hk.2 k h2 (by omega) (by simp)))
        have q4 := Kd.R_reads' (R_mv V4s (W1 := W) (fun k h1 h2 => hk.2 k h2 (by omega) (by simp)))
        have q5 := Kd.R_reads' (R_mv V5s (W1 := W) (fun k h1 h2 => hk.2 k h2 (by omega) (by simp)))
        exact clos_53 k W2.heap.size a0 _ E2 c2 x2 gn E4 c4 nn E5 c5 wp p W (hk.blk hbx6 (by omega) (by simp)) q2.2.2 q2.2.1 q4.2.2 q4.2.1 q5.2.2 q5.2.1 hp) hE.out)
    have hmf : ∀ (fn : Fn) (first cap : Array Value) (w : World), (Instr.makeFunc fn first cap).run Tryd.prog w = .ok (.func fn first cap) w := fun _ _ _ _ => rfl
    have HW6 := Lib.hid hW6
    have HZ6 := Lib.hid hsz6
    have HZ4 := Lib.hid hz4
    clear hC0 hE hR5 hR6 V4 V5 V5' V2 hst hbx4 hbx5 hk5 hB5 hB6 hW6 hsz6 hz4 hz2
    go_wp2_with fail
    try rw [HW6.out]
    refine HE.out.mono ?_
    rintro e W7 ⟨rfl, hB7, hk7⟩
    have hsz6 := HZ6.out
    have hsz4 := HZ4.out
    have hsz2 := HZ.out
    have hbx7 := hk7.blk hbx6 (by omega) (by simp)
    have hr7 : W7.heap[w.heap.size]? = some (.cells #[.int .i64 0, .string ⟨#[]⟩, .slice none 0 0, .int .i64 0, .slice none 0 0, .slice none 0 0] 44 (0, 0)) := (hB7.block _ (blk_lt hb0)).trans hb0
    have V2t := R_mv V2s (W1 := W7) (fun k h1 h2 => hk7.2 k h2 (by omega) (by simp))
    have V4t := R_mv V4s (W1 := W7) (fun k h1 h2 => hk7.2 k h2 (by omega) (by simp))
    have V5t := R_mv V5s (W1 := W7) (fun k h1 h2 => hk7.2 k h2 (by omega) (by simp))
    have hw7 := keep_size hk7
    clear HE hbx6 hk7 V2s V4s V5s z3 z4 z5 f3 f4 f5 hb0
    have lt7 := blk_lt hbx7
    have lr7 := blk_lt hr7
    have q0 : W7.cell? ⟨W2.heap.size, 0, none⟩ = some (.int .i64 a0) := (blk_cell hbx7 0).trans rfl
    have q1 : W7.cell? ⟨W2.heap.size, 1, none⟩ = some (.string (strOfNums x1)) := (blk_cell hbx7 1).trans rfl
    have q2 : W7.cell? ⟨W2.heap.size, 2, none⟩ = some (.slice E2 x2.length c2) := (blk_cell hbx7 2).trans rfl
    have q3 : W7.cell? ⟨W2.heap.size, 3, none⟩ = some (.int .i64 gn) := (blk_cell hbx7 3).trans rfl
    have q4 : W7.cell? ⟨W2.heap.size, 4, none⟩ = some (.slice E4 nn.length c4) := (blk_cell hbx7 4).trans rfl
    have q5 : W7.cell? ⟨W2.heap.size, 5, none⟩ = some (.slice E5 wp.length c5) := (blk_cell hbx7 5).trans rfl
    have p0 : W7.cell? ⟨w.heap.size, 0, none⟩ = some (.int .i64 0) := (blk_cell hr7 0).trans rfl
    have s0 := blk_frozen hr7 0
    have p1 : W7.cell? ⟨w.heap.size, 1, none⟩ = some (.string ⟨#[]⟩) := (blk_cell hr7 1).trans rfl
    have s1 := blk_frozen hr7 1
    have p2 : W7.cell? ⟨w.heap.size, 2, none⟩ = some (.slice none 0 0) := (blk_cell hr7 2).trans rfl
    have s2 := blk_frozen hr7 2
    have p3 : W7.cell? ⟨w.heap.size, 3, none⟩ = some (.int .i64 0) := (blk_cell hr7 3).trans rfl
    have s3 := blk_frozen hr7 3
    have p4 : W7.cell? ⟨w.heap.size, 4, none⟩ = some (.slice none 0 0) := (blk_cell hr7 4).trans rfl
    have s4 := blk_frozen hr7 4
    have p5 : W7.cell? ⟨w.heap.size, 5, none⟩ = some (.slice none 0 0) := (blk_cell hr7 5).trans rfl
    have s5 := blk_frozen hr7 5
    have ne1 : w.heap.size ≠ W2.heap.size := by omega
    have ne2 : W2.heap.size ≠ w.heap.size := by omega
    have set6 : ∀ (a b c d e f : Value) (k : Nat), k ≠ w.heap.size → ((((((W7.setCell ⟨w.heap.size, 0, none⟩ a).setCell ⟨w.heap.size, 1, none⟩ b).setCell ⟨w.heap.size, 2, none⟩ c).setCell ⟨w.heap.size, 3, none⟩ d).setCell ⟨w.heap.size, 4, none⟩ e).setCell ⟨w.heap.size, 5, none⟩ f).heap[k]? = W7.heap[k]? := fun a b c d e f k hk => by
      rw [Below.heap_setCell _ _ _ _ hk, Below.heap_setCell _ _ _ _ hk, Below.heap_setCell _ _ _ _ hk, Below.heap_setCell _ _ _ _ hk, Below.heap_setCell _ _ _ _ hk, Below.heap_setCell _ _ _ _ hk]
    have bel : ∀ (a b c d e f : Value), Below w.heap.size w ((((((W7.setCell ⟨w.heap.size, 0, none⟩ a).setCell ⟨w.heap.size, 1, none⟩ b).setCell ⟨w.heap.size, 2, none⟩ c).setCell ⟨w.heap.size, 3, none⟩ d).setCell ⟨w.heap.size, 4, none⟩ e).setCell ⟨w.heap.size, 5, none⟩ f) := fun a b c d e f => (below_set (below_set (below_set (below_set (below_set (below_set (below_weaken hbw (by omega) hB7) (Nat.le_refl _)) (Nat.le_refl _)) (Nat.le_refl _)) (Nat.le_refl _)) (Nat.le_refl _)) (Nat.le_refl _))
    have bel := Lib.hid bel
    have set6 := Lib.hid set6
    have hrw : w.heap.size ≤ W2.heap.size := by omega
    have b3 : w.heap.size ≤ W4.heap.size := by omega
    have hwx : w.heap.size < (W2.alloc (.cells #[.int .i64 a0, .string (strOfNums x1), .slice none 0 0, .int .i64 0, .slice none 0 0, .slice none 0 0] 44)).heap.size := by omega
    have b4 : w.heap.size < W4.heap.size := by omega
    clear hsz6 hsz4 hsz2 hbx7 hB7 hbw
    by_cases h0 : c = 0
    · subst h0
      have h := HR.out
      simp only [if_true] at h
      subst h
      have hwx := Lib.hid hwx
      go_wp2_with fail
      refine bodyPost_ret (results_ct rfl _ _ w.heap.size 44 #[.int .i64 a0, .string (strOfNums x1), .slice E2 x2.length c2, .int .i64 gn, .slice E4 nn.length c4, .slice E5 wp.length c5] (0, 0) _ rfl ?_ Tryd.underlying44 rfl (by kernel_rfl)) rfl ?_
      · refine blk_put (cs := #[.int .i64 a0, .string (strOfNums x1), .slice E2 x2.length c2, .int .i64 gn, .slice E4 nn.length c4, .slice none 0 0]) ?_ 5 _ rfl
        refine blk_put (cs := #[.int .i64 a0, .string (strOfNums x1), .slice E2 x2.length c2, .int .i64 gn, .slice none 0 0, .slice none 0 0]) ?_ 4 _ rfl
        refine blk_put (cs := #[.int .i64 a0, .string (strOfNums x1), .slice E2 x2.length c2, .int .i64 0, .slice none 0 0, .slice none 0 0]) ?_ 3 _ rfl
        refine blk_put (cs := #[.int .i64 a0, .string (strOfNums x1), .slice none 0 0, .int .i64 0, .slice none 0 0, .slice none 0 0]) ?_ 2 _ rfl
        refine blk_put (cs := #[.int .i64 a0, .string ⟨#[]⟩, .slice none 0 0, .int .i64 0, .slice none 0 0, .slice none 0 0]) ?_ 1 _ rfl
        exact blk_put hr7 0 _ rfl
      · have hwx := hwx.out
        exact ⟨_, _, _, rfl, Kd.R_lower (R_mv V2t (fun k h1 _ => set6.out _ _ _ _ _ _ k (by omega))) (by omega), Kd.R_lower (R_mv V4t (fun k h1 _ => set6.out _ _ _ _ _ _ k (by omega))) (by omega), Kd.R_lower (R_mv V5t (fun k h1 _ => set6.out _ _ _ _ _ _ k (by omega))) (by omega), n24, n25, n45, bel.out _ _ _ _ _ _⟩
    · have t1 : (c != 0) = true := by simpa using h0
      have h := HR.out
      rw [if_neg h0] at h
      subst h
      have hwx := Lib.hid hwx
      go_wp2_with fail
      refine bodyPost_ret (results_ct rfl _ _ w.heap.size 44 #[.int .i64 0, .string ⟨#[]⟩, .slice none 0 0, .int .i64 0, .slice none 0 0, .slice none 0 0] (0, 0) _ rfl ?_ Tryd.underlying44 rfl (by kernel_rfl)) rfl ?_
      · refine blk_put (cs := #[.int .i64 0, .string ⟨#[]⟩, .slice none 0 0, .int .i64 0, .slice none 0 0, .slice none 0 0]) ?_ 5 _ rfl
        refine blk_put (cs := #[.int .i64 0, .string ⟨#[]⟩, .slice none 0 0, .int .i64 0, .slice none 0 0, .slice none 0 0]) ?_ 4 _ rfl
        refine blk_put (cs := #[.int .i64 0, .string ⟨#[]⟩, .slice none 0 0, .int .i64 0, .slice none 0 0, .slice none 0 0]) ?_ 3 _ rfl
        refine blk_put (cs := #[.int .i64 0, .string ⟨#[]⟩, .slice none 0 0, .int .i64 0, .slice none 0 0, .slice none 0 0]) ?_ 2 _ rfl
        refine blk_put (cs := #[.int .i64 0, .string ⟨#[]⟩, .slice none 0 0, .int .i64 0, .slice none 0 0, .slice none 0 0]) ?_ 1 _ rfl
        exact blk_put hr7 0 _ rfl
      · exact ⟨_, _, _, rfl, Kd.R_nil _ _ _ _ _, Kd.R_nil _ _ _ _ _, Kd.R_nil _ _ _ _ _, ne_nil _, ne_nil _, ne_nil _, bel.out _ _ _ _ _ _⟩
  · rw [if_neg hl] at h
    cases h
end Go.Proofs.YtmciigdfhikdnaaDoor
