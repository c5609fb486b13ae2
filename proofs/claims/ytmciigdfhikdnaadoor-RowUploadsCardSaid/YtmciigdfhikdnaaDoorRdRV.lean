/- Versions, read: walked by hand (out of wip/row/mkrv.py): each function comes to what its plain Lean function beside it tells; no condition beside those in each theorem. -/
import Derived.Test.YtmciigdfhikdnaaDoorRdRU
namespace Go.Proofs.YtmciigdfhikdnaaDoor
open Go.RowKit Go.Proofs.YtmciigdfhikdnaaDoorW.PrintWords Go.Proofs.YtmciigdfhikdnaaDoorW.PrintLast Go.Proofs.YtmciigdfhikdnaaDoorW.PrintMore Go.Proofs.YtmciigdfhikdnaaDoor.Rw
set_option linter.unusedVariables false
set_option linter.unusedSimpArgs false
/-- What is read of a version's bytes. -/
def verN0 (b : List Int) := numR b 0 1
def verN1 (b : List Int) := numR (verN0 b).2.1 (verN0 b).2.2 2
def verN2 (b : List Int) := numR (verN1 b).2.1 (verN1 b).2.2 4
def verN3 (b : List Int) := numR (verN2 b).2.1 (verN2 b).2.2 6
def verT1 (b : List Int) := textR (verN3 b).2.1 (verN3 b).2.2 1 24
def verT2 (b : List Int) := textR (verT1 b).2.1 (verT1 b).2.2 1 24
def nulB (v : Int) : Bool := Go.bits .and .u64 v 1 != 0
def markB (v : Int) : Bool := Go.bits .and .u64 v 2 != 0
def verK (b : List Int) : Int × List Int × List Int × List Int × Int := if markB (verN0 b).1 = true then (0, [], [], (verT2 b).2.1, (verT2 b).2.2) else lockR (verT2 b).2.1 (verT2 b).2.2
def row_ReadVersion.f (k : Nat) (a0 : Int) (b : List Int) : Option (Int × Bool × Bool × Int × Int × Int × List Int × List Int × Int × List Int × List Int × Int) :=
  if b.length ≤ 1000000 then (endR k (verK b).2.2.2.1 (verK b).2.2.2.2 (row_Version.f k a0 (nulB (verN0 b).1) (markB (verN0 b).1) (wrap64 (verN1 b).1) (wrap64 (verN2 b).1) (wrap64 (verN3 b).1) (verT1 b).1 (verT2 b).1 (verK b).1 (verK b).2.1 (verK b).2.2.1) b).bind fun c =>
    some (if c = 0 then (a0, nulB (verN0 b).1, markB (verN0 b).1, wrap64 (verN1 b).1, wrap64 (verN2 b).1, wrap64 (verN3 b).1, (verT1 b).1, (verT2 b).1, (verK b).1, (verK b).2.1, (verK b).2.2.1, 0) else (0, false, false, 0, 0, 0, [], [], 0, [], [], c)) else none
theorem row_ReadVersion.mono : ∀ a0 b k, LeO (row_ReadVersion.f k a0 b) (row_ReadVersion.f (k + 1) a0 b) := by
  intro a0 b k
  unfold row_ReadVersion.f
  exact LeO.ite (LeO.bind (endR_mono _ _ _ _ (row_Version.mono _ _ _ _ _ _ _ _ _ _ _ _)) fun _ => LeO.refl _) (LeO.none _)
/-- A version that was read. -/
def VerRP (w : World) (r : Int × Bool × Bool × Int × Int × Int × List Int × List Int × Int × List Int × List Int × Int) (e : Ending) (w' : World) : Prop :=
  ∃ v6 v7 v9 v10, e = .returned (.tuple #[.agg #[.int .i64 r.1, .bool r.2.1, .bool r.2.2.1, .int .i64 r.2.2.2.1, .int .i64 r.2.2.2.2.1, .int .i64 r.2.2.2.2.2.1, v6, v7, .int .i64 r.2.2.2.2.2.2.2.2.1, v9, v10], .int .i64 r.2.2.2.2.2.2.2.2.2.2.2]) ∧
    Kd.R (Kd.int .u8) 5 w' w.heap.size (fun _ => True) v6 r.2.2.2.2.2.2.1 ∧ Kd.R (Kd.int .u8) 5 w' w.heap.size (fun _ => True) v7 r.2.2.2.2.2.2.2.1 ∧ Kd.R (Kd.int .u8) 5 w' w.heap.size (fun _ => True) v9 r.2.2.2.2.2.2.2.2.2.1 ∧ Kd.R (Kd.int .u8) 5 w' w.heap.size (fun _ => True) v10 r.2.2.2.2.2.2.2.2.2.2.1 ∧
    (NeRow v6 v7 ∧ NeRow v6 v9 ∧ NeRow v6 v10 ∧ NeRow v7 v9 ∧ NeRow v7 v10 ∧ NeRow v9 v10) ∧ Below w.heap.size w w'
theorem lockR_len (xs : List Int) (c : Int) : (lockR xs c).2.2.2.1.length ≤ xs.length := by
  have h1 := numR_len xs c 2
  have h2 := (takeR_len (numR xs c 2).2.1 (numR xs c 2).2.2 12).2
  have h3 := (takeR_len (takeR (numR xs c 2).2.1 (numR xs c 2).2.2 12).2.1 (takeR (numR xs c 2).2.1 (numR xs c 2).2.2 12).2.2 48).2
  unfold lockR
  simp only
  omega
set_option maxRecDepth 100000 in
set_option maxHeartbeats 4000000 in
theorem rv_mark (k : Nat) (a0 : Int) (A0 : Option Addr) (c0 : Nat) (l0 : List Int) (r : Int × Bool × Bool × Int × Int × Int × List Int × List Int × Int × List Int × List Int × Int) (w : World) (hm : markB (verN0 l0).1 = true) (hr0 : Kd.C (Kd.int .u8) w A0 l0.length l0) (hc0 : l0.length ≤ c0) (h : row_ReadVersion.f k a0 l0 = some r) :
    Calls Tryd.prog 11 #[.int .i64 a0, .slice A0 l0.length c0] w (VerRP w r) := by
  unfold row_ReadVersion.f at h
  by_cases hl : l0.length ≤ 1000000
  · rw [if_pos hl] at h
    obtain ⟨c, hE, h⟩ := Option.bind_eq_some_iff.1 h
    have HR := Lib.hid (Option.some.inj h)
    clear h
    have m0 := numR_len l0 0 1
    have m1 := numR_len (verN0 l0).2.1 (verN0 l0).2.2 2
    have m2 := numR_len (verN1 l0).2.1 (verN1 l0).2.2 4
    have m3 := numR_len (verN2 l0).2.1 (verN2 l0).2.2 6
    have m4 := textR_len (verN3 l0).2.1 (verN3 l0).2.2 1 24
    have m5 := textR_len (verT1 l0).2.1 (verT1 l0).2.2 1 24
    have e0 : numR l0 0 1 = verN0 l0 := rfl
    have e1 : numR (verN0 l0).2.1 (verN0 l0).2.2 2 = verN1 l0 := rfl
    have e2 : numR (verN1 l0).2.1 (verN1 l0).2.2 4 = verN2 l0 := rfl
    have e3 : numR (verN2 l0).2.1 (verN2 l0).2.2 6 = verN3 l0 := rfl
    have e4 : textR (verN3 l0).2.1 (verN3 l0).2.2 1 24 = verT1 l0 := rfl
    have e5 : textR (verT1 l0).2.1 (verT1 l0).2.2 1 24 = verT2 l0 := rfl
    have e6 : ((0, [], [], (verT2 l0).2.1, (verT2 l0).2.2) : Int × List Int × List Int × List Int × Int) = verK l0 := by unfold verK; rw [hm]; rfl
    rw [e0] at m0
    rw [e1] at m1
    rw [e2] at m2
    rw [e3] at m3
    rw [e4] at m4
    rw [e5] at m5
    have T0 := fun g w0 W h1 h2 => Number_calls g l0 0 1 w0 W h1 h2 (by omega)
    have T1 := fun g w0 W h1 h2 => Number_calls g (verN0 l0).2.1 (verN0 l0).2.2 2 w0 W h1 h2 (by omega)
    have T2 := fun g w0 W h1 h2 => Number_calls g (verN1 l0).2.1 (verN1 l0).2.2 4 w0 W h1 h2 (by omega)
    have T3 := fun g w0 W h1 h2 => Number_calls g (verN2 l0).2.1 (verN2 l0).2.2 6 w0 W h1 h2 (by omega)
    have T4 := fun g w0 W h1 h2 => Text_calls g (verN3 l0).2.1 (verN3 l0).2.2 1 24 (by decide) (by decide) w0 W h1 h2 (by omega)
    have T5 := fun g w0 W h1 h2 => Text_calls g (verT1 l0).2.1 (verT1 l0).2.2 1 24 (by decide) (by decide) w0 W h1 h2 (by omega)
    rw [e0] at T0
    rw [e1] at T1
    rw [e2] at T2
    rw [e3] at T3
    rw [e4] at T4
    rw [e5] at T5
    have hlK : (verK l0).2.2.2.1.length ≤ 1000000000 := by
      rw [← e6]; simp only; omega
    rw [← e6] at hE HR hlK
    clear e6
    generalize verN0 l0 = n0 at *
    generalize verN1 l0 = n1 at *
    generalize verN2 l0 = n2 at *
    generalize verN3 l0 = n3 at *
    generalize verT1 l0 = t1 at *
    generalize verT2 l0 = t2 at *
    obtain ⟨v0, y0, d0⟩ := n0
    obtain ⟨v1, y1, d1⟩ := n1
    obtain ⟨v2, y2, d2⟩ := n2
    obtain ⟨v3, y3, d3⟩ := n3
    obtain ⟨x6, y6, d6⟩ := t1
    obtain ⟨x7, y7, d7⟩ := t2
    simp only at T0 T1 T2 T3 T4 T5 hE HR hlK hm
    rw [hm] at hE HR
    clear e0 e1 e2 e3 e4 e5 m0 m1 m2 m3 m4 m5
    have HT0 := Lib.hid T0
    have HT1 := Lib.hid T1
    have HT2 := Lib.hid T2
    have HT3 := Lib.hid T3
    have HT4 := Lib.hid T4
    have HT5 := Lib.hid T5
    have hE := Lib.hid hE
    have RD := Lib.hid (Read_calls A0 c0 l0 (w.alloc (.cells #[.int .i64 0, .bool false, .bool false, .int .i64 0, .int .i64 0, .int .i64 0, .slice none 0 0, .slice none 0 0, .int .i64 0, .slice none 0 0, .slice none 0 0] 26)) (Kd.C_alloc hr0 _) hc0 (by omega))
    clear T0 T1 T2 T3 T4 T5
    have hm2 : (Go.bits .and .u64 v0 2 != 0) = true := hm
    have hu26 := Tryd.underlying26
    have hu24 := Tryd.underlying24
    have hn2 : (Go.bits .and .u64 v0 1 != 0) = nulB v0 := rfl
    clear hm
    go_enter Tryd.func11, Tryd.ntmps11
    go_wp2_with fail
    refine RD.out.mono ?_
    rintro e W1 ⟨w0, g, rfl, hR1, hB1, hb1⟩
    have hC0 := Kd.C_below (Kd.C_alloc hr0 (.cells #[.int .i64 0, .bool false, .bool false, .int .i64 0, .int .i64 0, .int .i64 0, .slice none 0 0, .slice none 0 0, .int .i64 0, .slice none 0 0, .slice none 0 0] 26)) hb1
    have hb0 : w0.heap[w.heap.size]? = some (.cells #[.int .i64 0, .bool false, .bool false, .int .i64 0, .int .i64 0, .int .i64 0, .slice none 0 0, .slice none 0 0, .int .i64 0, .slice none 0 0, .slice none 0 0] 26 (0, 0)) := blk_below (blk_new w _) hb1
    have hbw : Below w.heap.size w w0 := below_step (below_alloc (Below.refl _ _) _) hb1
    have hrw0 : w.heap.size < w0.heap.size := blk_lt hb0
    clear hr0 hb1 RD
    go_wp2_with fail
    refine (HT0.out g w0 _ hR1 hB1).mono ?_
    rintro e W2 ⟨rfl, hR2, hB2, hk2, hz2⟩
    simp only at hR2
    clear hR1 hB1 hk2 hz2 HT0
    go_wp2_with fail
    refine (HT1.out g w0 _ hR2 hB2).mono ?_
    rintro e W3 ⟨rfl, hR3, hB3, hk3, hz3⟩
    simp only at hR3
    clear hR2 hB2 hk3 hz3 HT1
    go_wp2_with fail
    refine (HT2.out g w0 _ hR3 hB3).mono ?_
    rintro e W4 ⟨rfl, hR4, hB4, hk4, hz4⟩
    simp only at hR4
    clear hR3 hB3 hk4 hz4 HT2
    go_wp2_with fail
    refine (HT3.out g w0 _ hR4 hB4).mono ?_
    rintro e W5 ⟨rfl, hR5, hB5, hk5, hz5⟩
    simp only at hR5
    clear hR4 hB4 hk5 hz5 HT3
    have hg5 := hR5.lt
    have hw5 := hB5.size
    have hbx5 := blk_new W5 (.cells #[.int .i64 a0, .bool (nulB v0), .bool true, .int .i64 (wrap64 v1), .int .i64 (wrap64 v2), .int .i64 (wrap64 v3), .slice none 0 0, .slice none 0 0, .int .i64 0, .slice none 0 0, .slice none 0 0] 26)
    have T := Lib.hid (HT4.out g w0 (W5.alloc (.cells #[.int .i64 a0, .bool (nulB v0), .bool true, .int .i64 (wrap64 v1), .int .i64 (wrap64 v2), .int .i64 (wrap64 v3), .slice none 0 0, .slice none 0 0, .int .i64 0, .slice none 0 0, .slice none 0 0] 26)) (hR5.below (below_alloc (Below.refl _ _) _)) (below_alloc hB5 _))
    clear hR5 HT4 hB5
    go_wp2_with fail
    refine T.out.mono ?_
    rintro e W6 ⟨u6, rfl, V6, hR6, hB6, hk6⟩
    simp only at V6 hR6
    obtain ⟨E6, c6, rfl⟩ := Kd.R_slice V6
    have hz5 : (W5.alloc (.cells #[.int .i64 a0, .bool (nulB v0), .bool true, .int .i64 (wrap64 v1), .int .i64 (wrap64 v2), .int .i64 (wrap64 v3), .slice none 0 0, .slice none 0 0, .int .i64 0, .slice none 0 0, .slice none 0 0] 26)).heap.size = W5.heap.size + 1 := by simp
    have hbx6 := hk6.blk hbx5 (by omega) (by simp)
    have hw6 := keep_size hk6
    have lt6 := blk_lt hbx6
    have z6 : W6.cell? ⟨W5.heap.size, 6, none⟩ = some (.slice none 0 0) := (blk_cell hbx6 6).trans rfl
    have f6 := blk_frozen hbx6 6
    have hbx7 := blk_put (cs' := #[.int .i64 a0, .bool (nulB v0), .bool true, .int .i64 (wrap64 v1), .int .i64 (wrap64 v2), .int .i64 (wrap64 v3), .slice E6 x6.length c6, .slice none 0 0, .int .i64 0, .slice none 0 0, .slice none 0 0]) hbx6 6 (.slice E6 x6.length c6) rfl
    have hR7 := hR6.keep (Below.heap_setCell W6 ⟨W5.heap.size, 6, none⟩ (.slice E6 x6.length c6) g (by show g ≠ W5.heap.size; omega))
    have hB7 := below_set (j := 6) (v := .slice E6 x6.length c6) hB6 (show w0.heap.size ≤ W5.heap.size by omega)
    have V6 := R_mv V6 (W1 := W6.setCell ⟨W5.heap.size, 6, none⟩ (.slice E6 x6.length c6)) (fun k h1 _ => Below.heap_setCell W6 _ _ k (by show k ≠ W5.heap.size; omega))
    have T := Lib.hid (HT5.out g w0 _ hR7 hB7)
    have HZ5 := Lib.hid hz5
    have HBX := Lib.hid hbx7
    clear hz5 hbx5 hbx6 hk6 hR6 hB6 hR7 hB7 HT5 hbx7
    go_wp2_with fail
    generalize hW7 : W6.setCell ⟨W5.heap.size, 6, none⟩ (.slice E6 x6.length c6) = W7 at *
    have hz7 : W7.heap.size = W6.heap.size := by rw [← hW7]; simp
    refine T.out.mono ?_
    rintro e W8 ⟨u7, rfl, V7, hR8, hB8, hk8⟩
    simp only at V7 hR8
    have hz5 := HZ5.out
    have hbx7 := HBX.out
    clear T hW7 z6 f6 HBX
    obtain ⟨E7, c7, rfl⟩ := Kd.R_slice V7
    have hbx8 := hk8.blk hbx7 (by omega) (by simp)
    have lt8 := blk_lt hbx8
    have hw8 := keep_size hk8
    have z7 : W8.cell? ⟨W5.heap.size, 7, none⟩ = some (.slice none 0 0) := (blk_cell hbx8 7).trans rfl
    have z2 : W8.cell? ⟨W5.heap.size, 2, none⟩ = some (.bool true) := (blk_cell hbx8 2).trans rfl
    have f7 := blk_frozen hbx8 7
    have n67 : NeRow (.slice E6 x6.length c6) (.slice E7 x7.length c7) := fun k h1 h2 => by have := (R_in V6 k h1).2; have := (R_in V7 k h2).1; omega
    have hbx9 := blk_put (cs' := #[.int .i64 a0, .bool (nulB v0), .bool true, .int .i64 (wrap64 v1), .int .i64 (wrap64 v2), .int .i64 (wrap64 v3), .slice E6 x6.length c6, .slice E7 x7.length c7, .int .i64 0, .slice none 0 0, .slice none 0 0]) hbx8 7 (.slice E7 x7.length c7) rfl
    have hst : ∀ k, k ≠ W5.heap.size → (W8.setCell ⟨W5.heap.size, 7, none⟩ (.slice E7 x7.length c7)).heap[k]? = W8.heap[k]? := fun k hk => Below.heap_setCell _ _ _ _ hk
    have hB9 := below_set (j := 7) (v := .slice E7 x7.length c7) hB8 (show w0.heap.size ≤ W5.heap.size by omega)
    have hR9 := hR8.keep (hst g (by omega))
    have V6 := R_mv (R_mv V6 (W1 := W8) (fun k h1 h2 => hk8.2 k h2 (by omega) (by simp))) (fun k h1 _ => hst k (by omega))
    have V7 := R_mv V7 (fun k h1 _ => hst k (by omega))
    have hsz9 : (W8.setCell ⟨W5.heap.size, 7, none⟩ (.slice E7 x7.length c7)).heap.size = W8.heap.size := by simp
    have hmf : ∀ (fn : Fn) (first cap : Array Value) (w : World), (Instr.makeFunc fn first cap).run Tryd.prog w = .ok (.func fn first cap) w := fun _ _ _ _ => rfl
    generalize hW9 : W8.setCell ⟨W5.heap.size, 7, none⟩ (.slice E7 x7.length c7) = W9 at *
    have hc2 : W9.cell? ⟨W5.heap.size, 2, none⟩ = some (.bool true) := (blk_cell hbx9 2).trans rfl
    have HE := Lib.hid (end_calls_44 k g W5.heap.size y7 d7 _ A0 c0 l0 c w0 W9 hR9 hB9 hlK hC0 hc0
      (fun p hp W hk => by
        have q6 := Kd.R_reads' (R_mv V6 (W1 := W) (fun k h1 h2 => hk.2 k h2 (by omega) (by simp)))
        have q7 := Kd.R_reads' (R_mv V7 (W1 := W) (fun k h1 h2 => hk.2 k h2 (by omega) (by simp)))
        exact clos_44 k W5.heap.size a0 _ _ _ _ _ E6 c6 x6 E7 c7 x7 0 none 0 [] none 0 [] p W (hk.blk hbx9 (by omega) (by simp)) q6.2.2 q6.2.1 q7.2.2 q7.2.1 (Kd.C_nil _ _) (Nat.le_refl _) (Kd.C_nil _ _) (Nat.le_refl _) hp) hE.out)
    have HW9 := Lib.hid hW9
    have HZ9 := Lib.hid hsz9
    have HZ7 := Lib.hid hz7
    have lt9 := blk_lt hbx9
    clear hC0 hE hR8 hR9 hst hbx7 hbx8 hk8 hB8 hB9 hW9 hsz9 hz7 hz5
    go_wp2_with fail
    try rw [HW9.out]
    try go_wp2_with fail
    refine HE.out.mono ?_
    rintro e WE ⟨rfl, hBE, hkE⟩
    have hszE := HZ9.out
    have hz7 := HZ7.out
    have hz5 := HZ5.out
    have hbxE := hkE.blk hbx9 (by omega) (by simp)
    have hrE : WE.heap[w.heap.size]? = some (.cells #[.int .i64 0, .bool false, .bool false, .int .i64 0, .int .i64 0, .int .i64 0, .slice none 0 0, .slice none 0 0, .int .i64 0, .slice none 0 0, .slice none 0 0] 26 (0, 0)) := (hBE.block _ (blk_lt hb0)).trans hb0
    have V6t := R_mv V6 (W1 := WE) (fun k h1 h2 => hkE.2 k h2 (by omega) (by simp))
    have V7t := R_mv V7 (W1 := WE) (fun k h1 h2 => hkE.2 k h2 (by omega) (by simp))
    have hwE := keep_size hkE
    clear HE hbx9 hkE V6 V7 hb0 z7 f7 z2 hc2
    have ltE := blk_lt hbxE
    have lrE := blk_lt hrE
    have q0 : WE.cell? ⟨W5.heap.size, 0, none⟩ = some (.int .i64 a0) := (blk_cell hbxE 0).trans rfl
    have q1 : WE.cell? ⟨W5.heap.size, 1, none⟩ = some (.bool (nulB v0)) := (blk_cell hbxE 1).trans rfl
    have q2 : WE.cell? ⟨W5.heap.size, 2, none⟩ = some (.bool true) := (blk_cell hbxE 2).trans rfl
    have q3 : WE.cell? ⟨W5.heap.size, 3, none⟩ = some (.int .i64 (wrap64 v1)) := (blk_cell hbxE 3).trans rfl
    have q4 : WE.cell? ⟨W5.heap.size, 4, none⟩ = some (.int .i64 (wrap64 v2)) := (blk_cell hbxE 4).trans rfl
    have q5 : WE.cell? ⟨W5.heap.size, 5, none⟩ = some (.int .i64 (wrap64 v3)) := (blk_cell hbxE 5).trans rfl
    have q6 : WE.cell? ⟨W5.heap.size, 6, none⟩ = some (.slice E6 x6.length c6) := (blk_cell hbxE 6).trans rfl
    have q7 : WE.cell? ⟨W5.heap.size, 7, none⟩ = some (.slice E7 x7.length c7) := (blk_cell hbxE 7).trans rfl
    have q8 : WE.cell? ⟨W5.heap.size, 8, none⟩ = some (.int .i64 0) := (blk_cell hbxE 8).trans rfl
    have q9 : WE.cell? ⟨W5.heap.size, 9, none⟩ = some (.slice none 0 0) := (blk_cell hbxE 9).trans rfl
    have q10 : WE.cell? ⟨W5.heap.size, 10, none⟩ = some (.slice none 0 0) := (blk_cell hbxE 10).trans rfl
    have p0 : WE.cell? ⟨w.heap.size, 0, none⟩ = some (.int .i64 0) := (blk_cell hrE 0).trans rfl
    have s0 := blk_frozen hrE 0
    have p1 : WE.cell? ⟨w.heap.size, 1, none⟩ = some (.bool false) := (blk_cell hrE 1).trans rfl
    have s1 := blk_frozen hrE 1
    have p2 : WE.cell? ⟨w.heap.size, 2, none⟩ = some (.bool false) := (blk_cell hrE 2).trans rfl
    have s2 := blk_frozen hrE 2
    have p3 : WE.cell? ⟨w.heap.size, 3, none⟩ = some (.int .i64 0) := (blk_cell hrE 3).trans rfl
    have s3 := blk_frozen hrE 3
    have p4 : WE.cell? ⟨w.heap.size, 4, none⟩ = some (.int .i64 0) := (blk_cell hrE 4).trans rfl
    have s4 := blk_frozen hrE 4
    have p5 : WE.cell? ⟨w.heap.size, 5, none⟩ = some (.int .i64 0) := (blk_cell hrE 5).trans rfl
    have s5 := blk_frozen hrE 5
    have p6 : WE.cell? ⟨w.heap.size, 6, none⟩ = some (.slice none 0 0) := (blk_cell hrE 6).trans rfl
    have s6 := blk_frozen hrE 6
    have p7 : WE.cell? ⟨w.heap.size, 7, none⟩ = some (.slice none 0 0) := (blk_cell hrE 7).trans rfl
    have s7 := blk_frozen hrE 7
    have p8 : WE.cell? ⟨w.heap.size, 8, none⟩ = some (.int .i64 0) := (blk_cell hrE 8).trans rfl
    have s8 := blk_frozen hrE 8
    have p9 : WE.cell? ⟨w.heap.size, 9, none⟩ = some (.slice none 0 0) := (blk_cell hrE 9).trans rfl
    have s9 := blk_frozen hrE 9
    have p10 : WE.cell? ⟨w.heap.size, 10, none⟩ = some (.slice none 0 0) := (blk_cell hrE 10).trans rfl
    have s10 := blk_frozen hrE 10
    have ne1 : w.heap.size ≠ W5.heap.size := by omega
    have ne2 : W5.heap.size ≠ w.heap.size := by omega
    have setN : ∀ (z0 z1 z2 z3 z4 z5 z6 z7 z8 z9 z10 : Value) (k : Nat), k ≠ w.heap.size → (((((((((((WE.setCell ⟨w.heap.size, 0, none⟩ z0).setCell ⟨w.heap.size, 1, none⟩ z1).setCell ⟨w.heap.size, 2, none⟩ z2).setCell ⟨w.heap.size, 3, none⟩ z3).setCell ⟨w.heap.size, 4, none⟩ z4).setCell ⟨w.heap.size, 5, none⟩ z5).setCell ⟨w.heap.size, 6, none⟩ z6).setCell ⟨w.heap.size, 7, none⟩ z7).setCell ⟨w.heap.size, 8, none⟩ z8).setCell ⟨w.heap.size, 9, none⟩ z9).setCell ⟨w.heap.size, 10, none⟩ z10).heap[k]? = WE.heap[k]? := fun z0 z1 z2 z3 z4 z5 z6 z7 z8 z9 z10 k hk => by
      rw [Below.heap_setCell _ _ _ _ hk, Below.heap_setCell _ _ _ _ hk, Below.heap_setCell _ _ _ _ hk, Below.heap_setCell _ _ _ _ hk, Below.heap_setCell _ _ _ _ hk, Below.heap_setCell _ _ _ _ hk, Below.heap_setCell _ _ _ _ hk, Below.heap_setCell _ _ _ _ hk, Below.heap_setCell _ _ _ _ hk, Below.heap_setCell _ _ _ _ hk, Below.heap_setCell _ _ _ _ hk]
    have bel : ∀ (z0 z1 z2 z3 z4 z5 z6 z7 z8 z9 z10 : Value), Below w.heap.size w (((((((((((WE.setCell ⟨w.heap.size, 0, none⟩ z0).setCell ⟨w.heap.size, 1, none⟩ z1).setCell ⟨w.heap.size, 2, none⟩ z2).setCell ⟨w.heap.size, 3, none⟩ z3).setCell ⟨w.heap.size, 4, none⟩ z4).setCell ⟨w.heap.size, 5, none⟩ z5).setCell ⟨w.heap.size, 6, none⟩ z6).setCell ⟨w.heap.size, 7, none⟩ z7).setCell ⟨w.heap.size, 8, none⟩ z8).setCell ⟨w.heap.size, 9, none⟩ z9).setCell ⟨w.heap.size, 10, none⟩ z10) := fun z0 z1 z2 z3 z4 z5 z6 z7 z8 z9 z10 => (below_set (below_set (below_set (below_set (below_set (below_set (below_set (below_set (below_set (below_set (below_set (below_weaken hbw (by omega) hBE) (Nat.le_refl _)) (Nat.le_refl _)) (Nat.le_refl _)) (Nat.le_refl _)) (Nat.le_refl _)) (Nat.le_refl _)) (Nat.le_refl _)) (Nat.le_refl _)) (Nat.le_refl _)) (Nat.le_refl _)) (Nat.le_refl _))
    have bel := Lib.hid bel
    have setN := Lib.hid setN
    have lo5 : w.heap.size < W5.heap.size := by omega
    have HL5 : w.heap.size < (W5.alloc (.cells #[.int .i64 a0, .bool (nulB v0), .bool true, .int .i64 (wrap64 v1), .int .i64 (wrap64 v2), .int .i64 (wrap64 v3), .slice none 0 0, .slice none 0 0, .int .i64 0, .slice none 0 0, .slice none 0 0] 26)).heap.size := by omega
    have HL7 : w.heap.size < W7.heap.size := by omega
    have HL9 : w.heap.size < W9.heap.size := by omega
    have HL5 := Lib.hid HL5
    clear hz7 hz5 hszE hbxE hBE hbw
    by_cases h0 : c = 0
    · subst h0
      have h := HR.out
      simp only [if_true] at h
      subst h
      go_wp2_with fail
      refine bodyPost_ret (results_ct rfl _ _ w.heap.size 26 #[.int .i64 a0, .bool (nulB v0), .bool true, .int .i64 (wrap64 v1), .int .i64 (wrap64 v2), .int .i64 (wrap64 v3), .slice E6 x6.length c6, .slice E7 x7.length c7, .int .i64 0, .slice none 0 0, .slice none 0 0] (0, 0) _ rfl ?_ Tryd.underlying26 rfl (by kernel_rfl)) rfl ?_
      · refine blk_put (cs := #[.int .i64 a0, .bool (nulB v0), .bool true, .int .i64 (wrap64 v1), .int .i64 (wrap64 v2), .int .i64 (wrap64 v3), .slice E6 x6.length c6, .slice E7 x7.length c7, .int .i64 0, .slice none 0 0, .slice none 0 0]) ?_ 10 _ rfl
        refine blk_put (cs := #[.int .i64 a0, .bool (nulB v0), .bool true, .int .i64 (wrap64 v1), .int .i64 (wrap64 v2), .int .i64 (wrap64 v3), .slice E6 x6.length c6, .slice E7 x7.length c7, .int .i64 0, .slice none 0 0, .slice none 0 0]) ?_ 9 _ rfl
        refine blk_put (cs := #[.int .i64 a0, .bool (nulB v0), .bool true, .int .i64 (wrap64 v1), .int .i64 (wrap64 v2), .int .i64 (wrap64 v3), .slice E6 x6.length c6, .slice E7 x7.length c7, .int .i64 0, .slice none 0 0, .slice none 0 0]) ?_ 8 _ rfl
        refine blk_put (cs := #[.int .i64 a0, .bool (nulB v0), .bool true, .int .i64 (wrap64 v1), .int .i64 (wrap64 v2), .int .i64 (wrap64 v3), .slice E6 x6.length c6, .slice none 0 0, .int .i64 0, .slice none 0 0, .slice none 0 0]) ?_ 7 _ rfl
        refine blk_put (cs := #[.int .i64 a0, .bool (nulB v0), .bool true, .int .i64 (wrap64 v1), .int .i64 (wrap64 v2), .int .i64 (wrap64 v3), .slice none 0 0, .slice none 0 0, .int .i64 0, .slice none 0 0, .slice none 0 0]) ?_ 6 _ rfl
        refine blk_put (cs := #[.int .i64 a0, .bool (nulB v0), .bool true, .int .i64 (wrap64 v1), .int .i64 (wrap64 v2), .int .i64 0, .slice none 0 0, .slice none 0 0, .int .i64 0, .slice none 0 0, .slice none 0 0]) ?_ 5 _ rfl
        refine blk_put (cs := #[.int .i64 a0, .bool (nulB v0), .bool true, .int .i64 (wrap64 v1), .int .i64 0, .int .i64 0, .slice none 0 0, .slice none 0 0, .int .i64 0, .slice none 0 0, .slice none 0 0]) ?_ 4 _ rfl
        refine blk_put (cs := #[.int .i64 a0, .bool (nulB v0), .bool true, .int .i64 0, .int .i64 0, .int .i64 0, .slice none 0 0, .slice none 0 0, .int .i64 0, .slice none 0 0, .slice none 0 0]) ?_ 3 _ rfl
        refine blk_put (cs := #[.int .i64 a0, .bool (nulB v0), .bool false, .int .i64 0, .int .i64 0, .int .i64 0, .slice none 0 0, .slice none 0 0, .int .i64 0, .slice none 0 0, .slice none 0 0]) ?_ 2 _ rfl
        refine blk_put (cs := #[.int .i64 a0, .bool false, .bool false, .int .i64 0, .int .i64 0, .int .i64 0, .slice none 0 0, .slice none 0 0, .int .i64 0, .slice none 0 0, .slice none 0 0]) ?_ 1 _ rfl
        exact blk_put hrE 0 _ rfl
      · have hl5 := HL5.out
        exact ⟨_, _, _, _, rfl, Kd.R_lower (R_mv V6t (fun k h1 _ => setN.out _ _ _ _ _ _ _ _ _ _ _ k (by omega))) (by omega), Kd.R_lower (R_mv V7t (fun k h1 _ => setN.out _ _ _ _ _ _ _ _ _ _ _ k (by omega))) (by omega), Kd.R_nil _ _ _ _ _, Kd.R_nil _ _ _ _ _, ⟨n67, ne_nil' _, ne_nil' _, ne_nil' _, ne_nil' _, ne_nil _⟩, bel.out _ _ _ _ _ _ _ _ _ _ _⟩
    · have t1 : (c != 0) = true := by simpa using h0
      have h := HR.out
      rw [if_neg h0] at h
      subst h
      go_wp2_with fail
      refine bodyPost_ret (results_ct rfl _ _ w.heap.size 26 #[.int .i64 0, .bool false, .bool false, .int .i64 0, .int .i64 0, .int .i64 0, .slice none 0 0, .slice none 0 0, .int .i64 0, .slice none 0 0, .slice none 0 0] (0, 0) _ rfl ?_ Tryd.underlying26 rfl (by kernel_rfl)) rfl ?_
      · refine blk_put (cs := #[.int .i64 0, .bool false, .bool false, .int .i64 0, .int .i64 0, .int .i64 0, .slice none 0 0, .slice none 0 0, .int .i64 0, .slice none 0 0, .slice none 0 0]) ?_ 10 _ rfl
        refine blk_put (cs := #[.int .i64 0, .bool false, .bool false, .int .i64 0, .int .i64 0, .int .i64 0, .slice none 0 0, .slice none 0 0, .int .i64 0, .slice none 0 0, .slice none 0 0]) ?_ 9 _ rfl
        refine blk_put (cs := #[.int .i64 0, .bool false, .bool false, .int .i64 0, .int .i64 0, .int .i64 0, .slice none 0 0, .slice none 0 0, .int .i64 0, .slice none 0 0, .slice none 0 0]) ?_ 8 _ rfl
        refine blk_put (cs := #[.int .i64 0, .bool false, .bool false, .int .i64 0, .int .i64 0, .int .i64 0, .slice none 0 0, .slice none 0 0, .int .i64 0, .slice none 0 0, .slice none 0 0]) ?_ 7 _ rfl
        refine blk_put (cs := #[.int .i64 0, .bool false, .bool false, .int .i64 0, .int .i64 0, .int .i64 0, .slice none 0 0, .slice none 0 0, .int .i64 0, .slice none 0 0, .slice none 0 0]) ?_ 6 _ rfl
        refine blk_put (cs := #[.int .i64 0, .bool false, .bool false, .int .i64 0, .int .i64 0, .int .i64 0, .slice none 0 0, .slice none 0 0, .int .i64 0, .slice none 0 0, .slice none 0 0]) ?_ 5 _ rfl
        refine blk_put (cs := #[.int .i64 0, .bool false, .bool false, .int .i64 0, .int .i64 0, .int .i64 0, .slice none 0 0, .slice none 0 0, .int .i64 0, .slice none 0 0, .slice none 0 0]) ?_ 4 _ rfl
        refine blk_put (cs := #[.int .i64 0, .bool false, .bool false, .int .i64 0, .int .i64 0, .int .i64 0, .slice none 0 0, .slice none 0 0, .int .i64 0, .slice none 0 0, .slice none 0 0]) ?_ 3 _ rfl
        refine blk_put (cs := #[.int .i64 0, .bool false, .bool false, .int .i64 0, .int .i64 0, .int .i64 0, .slice none 0 0, .slice none 0 0, .int .i64 0, .slice none 0 0, .slice none 0 0]) ?_ 2 _ rfl
        refine blk_put (cs := #[.int .i64 0, .bool false, .bool false, .int .i64 0, .int .i64 0, .int .i64 0, .slice none 0 0, .slice none 0 0, .int .i64 0, .slice none 0 0, .slice none 0 0]) ?_ 1 _ rfl
        exact blk_put hrE 0 _ rfl
      · exact ⟨_, _, _, _, rfl, Kd.R_nil _ _ _ _ _, Kd.R_nil _ _ _ _ _, Kd.R_nil _ _ _ _ _, Kd.R_nil _ _ _ _ _, ⟨ne_nil _, ne_nil _, ne_nil _, ne_nil _, ne_nil _, ne_nil _⟩, bel.out _ _ _ _ _ _ _ _ _ _ _⟩
  · rw [if_neg hl] at h
    cases h
set_option maxRecDepth 100000 in
set_option maxHeartbeats 4000000 in
theorem rv_lock (k : Nat) (a0 : Int) (A0 : Option Addr) (c0 : Nat) (l0 : List Int) (r : Int × Bool × Bool × Int × Int × Int × List Int × List Int × Int × List Int × List Int × Int) (w : World) (hm : markB (verN0 l0).1 = false) (hr0 : Kd.C (Kd.int .u8) w A0 l0.length l0) (hc0 : l0.length ≤ c0) (h : row_ReadVersion.f k a0 l0 = some r) :
    Calls Tryd.prog 11 #[.int .i64 a0, .slice A0 l0.length c0] w (VerRP w r) := by
  unfold row_ReadVersion.f at h
  by_cases hl : l0.length ≤ 1000000
  · rw [if_pos hl] at h
    obtain ⟨c, hE, h⟩ := Option.bind_eq_some_iff.1 h
    have HR := Lib.hid (Option.some.inj h)
    clear h
    have m0 := numR_len l0 0 1
    have m1 := numR_len (verN0 l0).2.1 (verN0 l0).2.2 2
    have m2 := numR_len (verN1 l0).2.1 (verN1 l0).2.2 4
    have m3 := numR_len (verN2 l0).2.1 (verN2 l0).2.2 6
    have m4 := textR_len (verN3 l0).2.1 (verN3 l0).2.2 1 24
    have m5 := textR_len (verT1 l0).2.1 (verT1 l0).2.2 1 24
    have m6 := lockR_len (verT2 l0).2.1 (verT2 l0).2.2
    have e0 : numR l0 0 1 = verN0 l0 := rfl
    have e1 : numR (verN0 l0).2.1 (verN0 l0).2.2 2 = verN1 l0 := rfl
    have e2 : numR (verN1 l0).2.1 (verN1 l0).2.2 4 = verN2 l0 := rfl
    have e3 : numR (verN2 l0).2.1 (verN2 l0).2.2 6 = verN3 l0 := rfl
    have e4 : textR (verN3 l0).2.1 (verN3 l0).2.2 1 24 = verT1 l0 := rfl
    have e5 : textR (verT1 l0).2.1 (verT1 l0).2.2 1 24 = verT2 l0 := rfl
    have e6 : lockR (verT2 l0).2.1 (verT2 l0).2.2 = verK l0 := by unfold verK; rw [hm]; rfl
    rw [e0] at m0
    rw [e1] at m1
    rw [e2] at m2
    rw [e3] at m3
    rw [e4] at m4
    rw [e5] at m5
    have T0 := fun g w0 W h1 h2 => Number_calls g l0 0 1 w0 W h1 h2 (by omega)
    have T1 := fun g w0 W h1 h2 => Number_calls g (verN0 l0).2.1 (verN0 l0).2.2 2 w0 W h1 h2 (by omega)
    have T2 := fun g w0 W h1 h2 => Number_calls g (verN1 l0).2.1 (verN1 l0).2.2 4 w0 W h1 h2 (by omega)
    have T3 := fun g w0 W h1 h2 => Number_calls g (verN2 l0).2.1 (verN2 l0).2.2 6 w0 W h1 h2 (by omega)
    have T4 := fun g w0 W h1 h2 => Text_calls g (verN3 l0).2.1 (verN3 l0).2.2 1 24 (by decide) (by decide) w0 W h1 h2 (by omega)
    have T5 := fun g w0 W h1 h2 => Text_calls g (verT1 l0).2.1 (verT1 l0).2.2 1 24 (by decide) (by decide) w0 W h1 h2 (by omega)
    have T6 := fun g w0 W h1 h2 => readLock_calls g (verT2 l0).2.1 (verT2 l0).2.2 w0 W h1 h2 (by omega)
    rw [e6] at T6 m6
    rw [e0] at T0
    rw [e1] at T1
    rw [e2] at T2
    rw [e3] at T3
    rw [e4] at T4
    rw [e5] at T5
    have hlK : (verK l0).2.2.2.1.length ≤ 1000000000 := by
      omega
    generalize verN0 l0 = n0 at *
    generalize verN1 l0 = n1 at *
    generalize verN2 l0 = n2 at *
    generalize verN3 l0 = n3 at *
    generalize verT1 l0 = t1 at *
    generalize verT2 l0 = t2 at *
    generalize verK l0 = t3 at *
    obtain ⟨v0, y0, d0⟩ := n0
    obtain ⟨v1, y1, d1⟩ := n1
    obtain ⟨v2, y2, d2⟩ := n2
    obtain ⟨v3, y3, d3⟩ := n3
    obtain ⟨x6, y6, d6⟩ := t1
    obtain ⟨x7, y7, d7⟩ := t2
    obtain ⟨gn, nn, wp, y8, d8⟩ := t3
    simp only at T0 T1 T2 T3 T4 T5 T6 hE HR hlK hm
    rw [hm] at hE HR
    clear e0 e1 e2 e3 e4 e5 e6 m0 m1 m2 m3 m4 m5 m6
    have HT0 := Lib.hid T0
    have HT1 := Lib.hid T1
    have HT2 := Lib.hid T2
    have HT3 := Lib.hid T3
    have HT4 := Lib.hid T4
    have HT5 := Lib.hid T5
    have HT6 := Lib.hid T6
    have hE := Lib.hid hE
    have RD := Lib.hid (Read_calls A0 c0 l0 (w.alloc (.cells #[.int .i64 0, .bool false, .bool false, .int .i64 0, .int .i64 0, .int .i64 0, .slice none 0 0, .slice none 0 0, .int .i64 0, .slice none 0 0, .slice none 0 0] 26)) (Kd.C_alloc hr0 _) hc0 (by omega))
    clear T0 T1 T2 T3 T4 T5 T6
    have hm2 : (Go.bits .and .u64 v0 2 != 0) = false := hm
    have hu26 := Tryd.underlying26
    have hu24 := Tryd.underlying24
    have hn2 : (Go.bits .and .u64 v0 1 != 0) = nulB v0 := rfl
    clear hm
    go_enter Tryd.func11, Tryd.ntmps11
    go_wp2_with fail
    refine RD.out.mono ?_
    rintro e W1 ⟨w0, g, rfl, hR1, hB1, hb1⟩
    have hC0 := Kd.C_below (Kd.C_alloc hr0 (.cells #[.int .i64 0, .bool false, .bool false, .int .i64 0, .int .i64 0, .int .i64 0, .slice none 0 0, .slice none 0 0, .int .i64 0, .slice none 0 0, .slice none 0 0] 26)) hb1
    have hb0 : w0.heap[w.heap.size]? = some (.cells #[.int .i64 0, .bool false, .bool false, .int .i64 0, .int .i64 0, .int .i64 0, .slice none 0 0, .slice none 0 0, .int .i64 0, .slice none 0 0, .slice none 0 0] 26 (0, 0)) := blk_below (blk_new w _) hb1
    have hbw : Below w.heap.size w w0 := below_step (below_alloc (Below.refl _ _) _) hb1
    have hrw0 : w.heap.size < w0.heap.size := blk_lt hb0
    clear hr0 hb1 RD
    go_wp2_with fail
    refine (HT0.out g w0 _ hR1 hB1).mono ?_
    rintro e W2 ⟨rfl, hR2, hB2, hk2, hz2⟩
    simp only at hR2
    clear hR1 hB1 hk2 hz2 HT0
    go_wp2_with fail
    refine (HT1.out g w0 _ hR2 hB2).mono ?_
    rintro e W3 ⟨rfl, hR3, hB3, hk3, hz3⟩
    simp only at hR3
    clear hR2 hB2 hk3 hz3 HT1
    go_wp2_with fail
    refine (HT2.out g w0 _ hR3 hB3).mono ?_
    rintro e W4 ⟨rfl, hR4, hB4, hk4, hz4⟩
    simp only at hR4
    clear hR3 hB3 hk4 hz4 HT2
    go_wp2_with fail
    refine (HT3.out g w0 _ hR4 hB4).mono ?_
    rintro e W5 ⟨rfl, hR5, hB5, hk5, hz5⟩
    simp only at hR5
    clear hR4 hB4 hk5 hz5 HT3
    have hg5 := hR5.lt
    have hw5 := hB5.size
    have hbx5 := blk_new W5 (.cells #[.int .i64 a0, .bool (nulB v0), .bool false, .int .i64 (wrap64 v1), .int .i64 (wrap64 v2), .int .i64 (wrap64 v3), .slice none 0 0, .slice none 0 0, .int .i64 0, .slice none 0 0, .slice none 0 0] 26)
    have T := Lib.hid (HT4.out g w0 (W5.alloc (.cells #[.int .i64 a0, .bool (nulB v0), .bool false, .int .i64 (wrap64 v1), .int .i64 (wrap64 v2), .int .i64 (wrap64 v3), .slice none 0 0, .slice none 0 0, .int .i64 0, .slice none 0 0, .slice none 0 0] 26)) (hR5.below (below_alloc (Below.refl _ _) _)) (below_alloc hB5 _))
    clear hR5 HT4 hB5
    go_wp2_with fail
    refine T.out.mono ?_
    rintro e W6 ⟨u6, rfl, V6, hR6, hB6, hk6⟩
    simp only at V6 hR6
    obtain ⟨E6, c6, rfl⟩ := Kd.R_slice V6
    have hz5 : (W5.alloc (.cells #[.int .i64 a0, .bool (nulB v0), .bool false, .int .i64 (wrap64 v1), .int .i64 (wrap64 v2), .int .i64 (wrap64 v3), .slice none 0 0, .slice none 0 0, .int .i64 0, .slice none 0 0, .slice none 0 0] 26)).heap.size = W5.heap.size + 1 := by simp
    have hbx6 := hk6.blk hbx5 (by omega) (by simp)
    have hw6 := keep_size hk6
    have lt6 := blk_lt hbx6
    have z6 : W6.cell? ⟨W5.heap.size, 6, none⟩ = some (.slice none 0 0) := (blk_cell hbx6 6).trans rfl
    have f6 := blk_frozen hbx6 6
    have hbx7 := blk_put (cs' := #[.int .i64 a0, .bool (nulB v0), .bool false, .int .i64 (wrap64 v1), .int .i64 (wrap64 v2), .int .i64 (wrap64 v3), .slice E6 x6.length c6, .slice none 0 0, .int .i64 0, .slice none 0 0, .slice none 0 0]) hbx6 6 (.slice E6 x6.length c6) rfl
    have hR7 := hR6.keep (Below.heap_setCell W6 ⟨W5.heap.size, 6, none⟩ (.slice E6 x6.length c6) g (by show g ≠ W5.heap.size; omega))
    have hB7 := below_set (j := 6) (v := .slice E6 x6.length c6) hB6 (show w0.heap.size ≤ W5.heap.size by omega)
    have V6 := R_mv V6 (W1 := W6.setCell ⟨W5.heap.size, 6, none⟩ (.slice E6 x6.length c6)) (fun k h1 _ => Below.heap_setCell W6 _ _ k (by show k ≠ W5.heap.size; omega))
    have T := Lib.hid (HT5.out g w0 _ hR7 hB7)
    have HZ5 := Lib.hid hz5
    have HBX := Lib.hid hbx7
    clear hz5 hbx5 hbx6 hk6 hR6 hB6 hR7 hB7 HT5 hbx7
    go_wp2_with fail
    generalize hW7 : W6.setCell ⟨W5.heap.size, 6, none⟩ (.slice E6 x6.length c6) = W7 at *
    have hz7 : W7.heap.size = W6.heap.size := by rw [← hW7]; simp
    refine T.out.mono ?_
    rintro e W8 ⟨u7, rfl, V7, hR8, hB8, hk8⟩
    simp only at V7 hR8
    have hz5 := HZ5.out
    have hbx7 := HBX.out
    clear T hW7 z6 f6 HBX
    obtain ⟨E7, c7, rfl⟩ := Kd.R_slice V7
    have hbx8 := hk8.blk hbx7 (by omega) (by simp)
    have lt8 := blk_lt hbx8
    have hw8 := keep_size hk8
    have z7 : W8.cell? ⟨W5.heap.size, 7, none⟩ = some (.slice none 0 0) := (blk_cell hbx8 7).trans rfl
    have z2 : W8.cell? ⟨W5.heap.size, 2, none⟩ = some (.bool false) := (blk_cell hbx8 2).trans rfl
    have f7 := blk_frozen hbx8 7
    have n67 : NeRow (.slice E6 x6.length c6) (.slice E7 x7.length c7) := fun k h1 h2 => by have := (R_in V6 k h1).2; have := (R_in V7 k h2).1; omega
    have hbx9 := blk_put (cs' := #[.int .i64 a0, .bool (nulB v0), .bool false, .int .i64 (wrap64 v1), .int .i64 (wrap64 v2), .int .i64 (wrap64 v3), .slice E6 x6.length c6, .slice E7 x7.length c7, .int .i64 0, .slice none 0 0, .slice none 0 0]) hbx8 7 (.slice E7 x7.length c7) rfl
    have hst : ∀ k, k ≠ W5.heap.size → (W8.setCell ⟨W5.heap.size, 7, none⟩ (.slice E7 x7.length c7)).heap[k]? = W8.heap[k]? := fun k hk => Below.heap_setCell _ _ _ _ hk
    have hB9 := below_set (j := 7) (v := .slice E7 x7.length c7) hB8 (show w0.heap.size ≤ W5.heap.size by omega)
    have hR9 := hR8.keep (hst g (by omega))
    have V6 := R_mv (R_mv V6 (W1 := W8) (fun k h1 h2 => hk8.2 k h2 (by omega) (by simp))) (fun k h1 _ => hst k (by omega))
    have V7 := R_mv V7 (fun k h1 _ => hst k (by omega))
    have hsz9 : (W8.setCell ⟨W5.heap.size, 7, none⟩ (.slice E7 x7.length c7)).heap.size = W8.heap.size := by simp
    have hmf : ∀ (fn : Fn) (first cap : Array Value) (w : World), (Instr.makeFunc fn first cap).run Tryd.prog w = .ok (.func fn first cap) w := fun _ _ _ _ => rfl
    generalize hW9 : W8.setCell ⟨W5.heap.size, 7, none⟩ (.slice E7 x7.length c7) = W9 at *
    have hc2 : W9.cell? ⟨W5.heap.size, 2, none⟩ = some (.bool false) := (blk_cell hbx9 2).trans rfl
    have T := Lib.hid (HT6.out g w0 W9 hR9 hB9)
    have HW9 := Lib.hid hW9
    have HZ9 := Lib.hid hsz9
    have HZ7 := Lib.hid hz7
    have lt9 := blk_lt hbx9
    clear hR8 hR9 hst hbx7 hbx8 hk8 hB8 hB9 hW9 hsz9 hz7 hz5 HT6
    go_wp2_with fail
    try rw [HW9.out]
    try go_wp2_with fail
    refine T.out.mono ?_
    rintro e WA ⟨u9, u10, rfl, V9, V10, hRA, hBA, hkA⟩
    simp only at V9 V10 hRA
    have hsz9 := HZ9.out
    have hz7 := HZ7.out
    have hz5 := HZ5.out
    clear T z7 f7 z2 hc2 HW9
    obtain ⟨E9, c9, rfl⟩ := Kd.R_slice V9
    obtain ⟨E10, c10, rfl⟩ := Kd.R_slice V10
    have hbxA := hkA.blk hbx9 (by omega) (by simp)
    have ltA := blk_lt hbxA
    have hwA := keep_size hkA
    have z8 : WA.cell? ⟨W5.heap.size, 8, none⟩ = some (.int .i64 0) := (blk_cell hbxA 8).trans rfl
    have z9 : WA.cell? ⟨W5.heap.size, 9, none⟩ = some (.slice none 0 0) := (blk_cell hbxA 9).trans rfl
    have z10 : WA.cell? ⟨W5.heap.size, 10, none⟩ = some (.slice none 0 0) := (blk_cell hbxA 10).trans rfl
    have f8 := blk_frozen hbxA 8
    have f9 := blk_frozen hbxA 9
    have f10 := blk_frozen hbxA 10
    have hst : ∀ k, k ≠ W5.heap.size → (((WA.setCell ⟨W5.heap.size, 8, none⟩ (.int .i64 gn)).setCell ⟨W5.heap.size, 9, none⟩ (.slice E9 nn.length c9)).setCell ⟨W5.heap.size, 10, none⟩ (.slice E10 wp.length c10)).heap[k]? = WA.heap[k]? := fun k hk => by
      rw [Below.heap_setCell _ _ _ _ hk, Below.heap_setCell _ _ _ _ hk, Below.heap_setCell _ _ _ _ hk]
    have hbxB := blk_put (cs' := #[.int .i64 a0, .bool (nulB v0), .bool false, .int .i64 (wrap64 v1), .int .i64 (wrap64 v2), .int .i64 (wrap64 v3), .slice E6 x6.length c6, .slice E7 x7.length c7, .int .i64 gn, .slice E9 nn.length c9, .slice E10 wp.length c10]) (blk_put (cs' := #[.int .i64 a0, .bool (nulB v0), .bool false, .int .i64 (wrap64 v1), .int .i64 (wrap64 v2), .int .i64 (wrap64 v3), .slice E6 x6.length c6, .slice E7 x7.length c7, .int .i64 gn, .slice E9 nn.length c9, .slice none 0 0]) (blk_put (cs' := #[.int .i64 a0, .bool (nulB v0), .bool false, .int .i64 (wrap64 v1), .int .i64 (wrap64 v2), .int .i64 (wrap64 v3), .slice E6 x6.length c6, .slice E7 x7.length c7, .int .i64 gn, .slice none 0 0, .slice none 0 0]) hbxA 8 (.int .i64 gn) rfl) 9 (.slice E9 nn.length c9) rfl) 10 (.slice E10 wp.length c10) rfl
    have hBB := below_set (j := 10) (v := .slice E10 wp.length c10) (below_set (j := 9) (v := .slice E9 nn.length c9) (below_set (j := 8) (v := .int .i64 gn) hBA (show w0.heap.size ≤ W5.heap.size by omega)) (show w0.heap.size ≤ W5.heap.size by omega)) (show w0.heap.size ≤ W5.heap.size by omega)
    have hRB := hRA.keep (hst g (by omega))
    have V10' : Kd.R (Kd.int .u8) 5 WA W9.heap.size (fun _ => True) (.slice E10 wp.length c10) wp := Kd.R_mono V10 (fun _ _ => trivial)
    have n69 : NeRow (.slice E6 x6.length c6) (.slice E9 nn.length c9) := fun k h1 h2 => by have := (R_in V6 k h1).2; have := (R_in V9 k h2).1; omega
    have n6x : NeRow (.slice E6 x6.length c6) (.slice E10 wp.length c10) := fun k h1 h2 => by have := (R_in V6 k h1).2; have := (R_in V10 k h2).1; omega
    have n79 : NeRow (.slice E7 x7.length c7) (.slice E9 nn.length c9) := fun k h1 h2 => by have := (R_in V7 k h1).2; have := (R_in V9 k h2).1; omega
    have n7x : NeRow (.slice E7 x7.length c7) (.slice E10 wp.length c10) := fun k h1 h2 => by have := (R_in V7 k h1).2; have := (R_in V10 k h2).1; omega
    have n9x : NeRow (.slice E9 nn.length c9) (.slice E10 wp.length c10) := fun k h1 h2 => V10.1 k h2 h1.symm
    have V6 := R_mv (R_mv V6 (W1 := WA) (fun k h1 h2 => hkA.2 k h2 (by omega) (by simp))) (fun k h1 _ => hst k (by omega))
    have V7 := R_mv (R_mv V7 (W1 := WA) (fun k h1 h2 => hkA.2 k h2 (by omega) (by simp))) (fun k h1 _ => hst k (by omega))
    have V9 := R_mv V9 (fun k h1 _ => hst k (by omega))
    have V10 := R_mv V10' (fun k h1 _ => hst k (by omega))
    have hszB : (((WA.setCell ⟨W5.heap.size, 8, none⟩ (.int .i64 gn)).setCell ⟨W5.heap.size, 9, none⟩ (.slice E9 nn.length c9)).setCell ⟨W5.heap.size, 10, none⟩ (.slice E10 wp.length c10)).heap.size = WA.heap.size := by simp
    generalize hWB : ((WA.setCell ⟨W5.heap.size, 8, none⟩ (.int .i64 gn)).setCell ⟨W5.heap.size, 9, none⟩ (.slice E9 nn.length c9)).setCell ⟨W5.heap.size, 10, none⟩ (.slice E10 wp.length c10) = WB at *
    have HE := Lib.hid (end_calls_44 k g W5.heap.size y8 d8 _ A0 c0 l0 c w0 WB hRB hBB hlK hC0 hc0
      (fun p hp W hk => by
        have q6 := Kd.R_reads' (R_mv V6 (W1 := W) (fun k h1 h2 => hk.2 k h2 (by omega) (by simp)))
        have q7 := Kd.R_reads' (R_mv V7 (W1 := W) (fun k h1 h2 => hk.2 k h2 (by omega) (by simp)))
        have q9 := Kd.R_reads' (R_mv V9 (W1 := W) (fun k h1 h2 => hk.2 k h2 (by omega) (by simp)))
        have qx := Kd.R_reads' (R_mv V10 (W1 := W) (fun k h1 h2 => hk.2 k h2 (by omega) (by simp)))
        exact clos_44 k W5.heap.size a0 _ _ _ _ _ E6 c6 x6 E7 c7 x7 gn E9 c9 nn E10 c10 wp p W (hk.blk hbxB (by omega) (by simp)) q6.2.2 q6.2.1 q7.2.2 q7.2.1 q9.2.2 q9.2.1 qx.2.2 qx.2.1 hp) hE.out)
    have HWB := Lib.hid hWB
    have HZB := Lib.hid hszB
    have HZ9 := Lib.hid hsz9
    have HZ7 := Lib.hid hz7
    have ltB := blk_lt hbxB
    clear hC0 hE hRA hRB V10' hst hbx9 hbxA hkA hBA hBB hWB hszB hsz9 hz7 hz5
    go_wp2_with fail
    try rw [HWB.out]
    refine HE.out.mono ?_
    rintro e WE ⟨rfl, hBE, hkE⟩
    have hszB := HZB.out
    have hszE := HZ9.out
    have hz7 := HZ7.out
    have hz5 := HZ5.out
    have hbxE := hkE.blk hbxB (by omega) (by simp)
    have hrE : WE.heap[w.heap.size]? = some (.cells #[.int .i64 0, .bool false, .bool false, .int .i64 0, .int .i64 0, .int .i64 0, .slice none 0 0, .slice none 0 0, .int .i64 0, .slice none 0 0, .slice none 0 0] 26 (0, 0)) := (hBE.block _ (blk_lt hb0)).trans hb0
    have V6t := R_mv V6 (W1 := WE) (fun k h1 h2 => hkE.2 k h2 (by omega) (by simp))
    have V7t := R_mv V7 (W1 := WE) (fun k h1 h2 => hkE.2 k h2 (by omega) (by simp))
    have V9t := R_mv V9 (W1 := WE) (fun k h1 h2 => hkE.2 k h2 (by omega) (by simp))
    have V10t := R_mv V10 (W1 := WE) (fun k h1 h2 => hkE.2 k h2 (by omega) (by simp))
    have hwE := keep_size hkE
    clear HE hbxB hkE V6 V7 V9 V10 hb0 z8 z9 z10 f8 f9 f10
    have ltE := blk_lt hbxE
    have lrE := blk_lt hrE
    have q0 : WE.cell? ⟨W5.heap.size, 0, none⟩ = some (.int .i64 a0) := (blk_cell hbxE 0).trans rfl
    have q1 : WE.cell? ⟨W5.heap.size, 1, none⟩ = some (.bool (nulB v0)) := (blk_cell hbxE 1).trans rfl
    have q2 : WE.cell? ⟨W5.heap.size, 2, none⟩ = some (.bool false) := (blk_cell hbxE 2).trans rfl
    have q3 : WE.cell? ⟨W5.heap.size, 3, none⟩ = some (.int .i64 (wrap64 v1)) := (blk_cell hbxE 3).trans rfl
    have q4 : WE.cell? ⟨W5.heap.size, 4, none⟩ = some (.int .i64 (wrap64 v2)) := (blk_cell hbxE 4).trans rfl
    have q5 : WE.cell? ⟨W5.heap.size, 5, none⟩ = some (.int .i64 (wrap64 v3)) := (blk_cell hbxE 5).trans rfl
    have q6 : WE.cell? ⟨W5.heap.size, 6, none⟩ = some (.slice E6 x6.length c6) := (blk_cell hbxE 6).trans rfl
    have q7 : WE.cell? ⟨W5.heap.size, 7, none⟩ = some (.slice E7 x7.length c7) := (blk_cell hbxE 7).trans rfl
    have q8 : WE.cell? ⟨W5.heap.size, 8, none⟩ = some (.int .i64 gn) := (blk_cell hbxE 8).trans rfl
    have q9 : WE.cell? ⟨W5.heap.size, 9, none⟩ = some (.slice E9 nn.length c9) := (blk_cell hbxE 9).trans rfl
    have q10 : WE.cell? ⟨W5.heap.size, 10, none⟩ = some (.slice E10 wp.length c10) := (blk_cell hbxE 10).trans rfl
    have p0 : WE.cell? ⟨w.heap.size, 0, none⟩ = some (.int .i64 0) := (blk_cell hrE 0).trans rfl
    have s0 := blk_frozen hrE 0
    have p1 : WE.cell? ⟨w.heap.size, 1, none⟩ = some (.bool false) := (blk_cell hrE 1).trans rfl
    have s1 := blk_frozen hrE 1
    have p2 : WE.cell? ⟨w.heap.size, 2, none⟩ = some (.bool false) := (blk_cell hrE 2).trans rfl
    have s2 := blk_frozen hrE 2
    have p3 : WE.cell? ⟨w.heap.size, 3, none⟩ = some (.int .i64 0) := (blk_cell hrE 3).trans rfl
    have s3 := blk_frozen hrE 3
    have p4 : WE.cell? ⟨w.heap.size, 4, none⟩ = some (.int .i64 0) := (blk_cell hrE 4).trans rfl
    have s4 := blk_frozen hrE 4
    have p5 : WE.cell? ⟨w.heap.size, 5, none⟩ = some (.int .i64 0) := (blk_cell hrE 5).trans rfl
    have s5 := blk_frozen hrE 5
    have p6 : WE.cell? ⟨w.heap.size, 6, none⟩ = some (.slice none 0 0) := (blk_cell hrE 6).trans rfl
    have s6 := blk_frozen hrE 6
    have p7 : WE.cell? ⟨w.heap.size, 7, none⟩ = some (.slice none 0 0) := (blk_cell hrE 7).trans rfl
    have s7 := blk_frozen hrE 7
    have p8 : WE.cell? ⟨w.heap.size, 8, none⟩ = some (.int .i64 0) := (blk_cell hrE 8).trans rfl
    have s8 := blk_frozen hrE 8
    have p9 : WE.cell? ⟨w.heap.size, 9, none⟩ = some (.slice none 0 0) := (blk_cell hrE 9).trans rfl
    have s9 := blk_frozen hrE 9
    have p10 : WE.cell? ⟨w.heap.size, 10, none⟩ = some (.slice none 0 0) := (blk_cell hrE 10).trans rfl
    have s10 := blk_frozen hrE 10
    have ne1 : w.heap.size ≠ W5.heap.size := by omega
    have ne2 : W5.heap.size ≠ w.heap.size := by omega
    have setN : ∀ (z0 z1 z2 z3 z4 z5 z6 z7 z8 z9 z10 : Value) (k : Nat), k ≠ w.heap.size → (((((((((((WE.setCell ⟨w.heap.size, 0, none⟩ z0).setCell ⟨w.heap.size, 1, none⟩ z1).setCell ⟨w.heap.size, 2, none⟩ z2).setCell ⟨w.heap.size, 3, none⟩ z3).setCell ⟨w.heap.size, 4, none⟩ z4).setCell ⟨w.heap.size, 5, none⟩ z5).setCell ⟨w.heap.size, 6, none⟩ z6).setCell ⟨w.heap.size, 7, none⟩ z7).setCell ⟨w.heap.size, 8, none⟩ z8).setCell ⟨w.heap.size, 9, none⟩ z9).setCell ⟨w.heap.size, 10, none⟩ z10).heap[k]? = WE.heap[k]? := fun z0 z1 z2 z3 z4 z5 z6 z7 z8 z9 z10 k hk => by
      rw [Below.heap_setCell _ _ _ _ hk, Below.heap_setCell _ _ _ _ hk, Below.heap_setCell _ _ _ _ hk, Below.heap_setCell _ _ _ _ hk, Below.heap_setCell _ _ _ _ hk, Below.heap_setCell _ _ _ _ hk, Below.heap_setCell _ _ _ _ hk, Below.heap_setCell _ _ _ _ hk, Below.heap_setCell _ _ _ _ hk, Below.heap_setCell _ _ _ _ hk, Below.heap_setCell _ _ _ _ hk]
    have bel : ∀ (z0 z1 z2 z3 z4 z5 z6 z7 z8 z9 z10 : Value), Below w.heap.size w (((((((((((WE.setCell ⟨w.heap.size, 0, none⟩ z0).setCell ⟨w.heap.size, 1, none⟩ z1).setCell ⟨w.heap.size, 2, none⟩ z2).setCell ⟨w.heap.size, 3, none⟩ z3).setCell ⟨w.heap.size, 4, none⟩ z4).setCell ⟨w.heap.size, 5, none⟩ z5).setCell ⟨w.heap.size, 6, none⟩ z6).setCell ⟨w.heap.size, 7, none⟩ z7).setCell ⟨w.heap.size, 8, none⟩ z8).setCell ⟨w.heap.size, 9, none⟩ z9).setCell ⟨w.heap.size, 10, none⟩ z10) := fun z0 z1 z2 z3 z4 z5 z6 z7 z8 z9 z10 => (below_set (below_set (below_set (below_set (below_set (below_set (below_set (below_set (below_set (below_set (below_set (below_weaken hbw (by omega) hBE) (Nat.le_refl _)) (Nat.le_refl _)) (Nat.le_refl _)) (Nat.le_refl _)) (Nat.le_refl _)) (Nat.le_refl _)) (Nat.le_refl _)) (Nat.le_refl _)) (Nat.le_refl _)) (Nat.le_refl _)) (Nat.le_refl _))
    have bel := Lib.hid bel
    have setN := Lib.hid setN
    have lo5 : w.heap.size < W5.heap.size := by omega
    have HL5 : w.heap.size < (W5.alloc (.cells #[.int .i64 a0, .bool (nulB v0), .bool false, .int .i64 (wrap64 v1), .int .i64 (wrap64 v2), .int .i64 (wrap64 v3), .slice none 0 0, .slice none 0 0, .int .i64 0, .slice none 0 0, .slice none 0 0] 26)).heap.size := by omega
    have HL7 : w.heap.size < W7.heap.size := by omega
    have HL9 : w.heap.size < W9.heap.size := by omega
    have HL5 := Lib.hid HL5
    clear hz7 hz5 hszE hszB hbxE hBE hbw
    by_cases h0 : c = 0
    · subst h0
      have h := HR.out
      simp only [if_true] at h
      subst h
      go_wp2_with fail
      refine bodyPost_ret (results_ct rfl _ _ w.heap.size 26 #[.int .i64 a0, .bool (nulB v0), .bool false, .int .i64 (wrap64 v1), .int .i64 (wrap64 v2), .int .i64 (wrap64 v3), .slice E6 x6.length c6, .slice E7 x7.length c7, .int .i64 gn, .slice E9 nn.length c9, .slice E10 wp.length c10] (0, 0) _ rfl ?_ Tryd.underlying26 rfl (by kernel_rfl)) rfl ?_
      · refine blk_put (cs := #[.int .i64 a0, .bool (nulB v0), .bool false, .int .i64 (wrap64 v1), .int .i64 (wrap64 v2), .int .i64 (wrap64 v3), .slice E6 x6.length c6, .slice E7 x7.length c7, .int .i64 gn, .slice E9 nn.length c9, .slice none 0 0]) ?_ 10 _ rfl
        refine blk_put (cs := #[.int .i64 a0, .bool (nulB v0), .bool false, .int .i64 (wrap64 v1), .int .i64 (wrap64 v2), .int .i64 (wrap64 v3), .slice E6 x6.length c6, .slice E7 x7.length c7, .int .i64 gn, .slice none 0 0, .slice none 0 0]) ?_ 9 _ rfl
        refine blk_put (cs := #[.int .i64 a0, .bool (nulB v0), .bool false, .int .i64 (wrap64 v1), .int .i64 (wrap64 v2), .int .i64 (wrap64 v3), .slice E6 x6.length c6, .slice E7 x7.length c7, .int .i64 0, .slice none 0 0, .slice none 0 0]) ?_ 8 _ rfl
        refine blk_put (cs := #[.int .i64 a0, .bool (nulB v0), .bool false, .int .i64 (wrap64 v1), .int .i64 (wrap64 v2), .int .i64 (wrap64 v3), .slice E6 x6.length c6, .slice none 0 0, .int .i64 0, .slice none 0 0, .slice none 0 0]) ?_ 7 _ rfl
        refine blk_put (cs := #[.int .i64 a0, .bool (nulB v0), .bool false, .int .i64 (wrap64 v1), .int .i64 (wrap64 v2), .int .i64 (wrap64 v3), .slice none 0 0, .slice none 0 0, .int .i64 0, .slice none 0 0, .slice none 0 0]) ?_ 6 _ rfl
        refine blk_put (cs := #[.int .i64 a0, .bool (nulB v0), .bool false, .int .i64 (wrap64 v1), .int .i64 (wrap64 v2), .int .i64 0, .slice none 0 0, .slice none 0 0, .int .i64 0, .slice none 0 0, .slice none 0 0]) ?_ 5 _ rfl
        refine blk_put (cs := #[.int .i64 a0, .bool (nulB v0), .bool false, .int .i64 (wrap64 v1), .int .i64 0, .int .i64 0, .slice none 0 0, .slice none 0 0, .int .i64 0, .slice none 0 0, .slice none 0 0]) ?_ 4 _ rfl
        refine blk_put (cs := #[.int .i64 a0, .bool (nulB v0), .bool false, .int .i64 0, .int .i64 0, .int .i64 0, .slice none 0 0, .slice none 0 0, .int .i64 0, .slice none 0 0, .slice none 0 0]) ?_ 3 _ rfl
        refine blk_put (cs := #[.int .i64 a0, .bool (nulB v0), .bool false, .int .i64 0, .int .i64 0, .int .i64 0, .slice none 0 0, .slice none 0 0, .int .i64 0, .slice none 0 0, .slice none 0 0]) ?_ 2 _ rfl
        refine blk_put (cs := #[.int .i64 a0, .bool false, .bool false, .int .i64 0, .int .i64 0, .int .i64 0, .slice none 0 0, .slice none 0 0, .int .i64 0, .slice none 0 0, .slice none 0 0]) ?_ 1 _ rfl
        exact blk_put hrE 0 _ rfl
      · have hl5 := HL5.out
        exact ⟨_, _, _, _, rfl, Kd.R_lower (R_mv V6t (fun k h1 _ => setN.out _ _ _ _ _ _ _ _ _ _ _ k (by omega))) (by omega), Kd.R_lower (R_mv V7t (fun k h1 _ => setN.out _ _ _ _ _ _ _ _ _ _ _ k (by omega))) (by omega), Kd.R_lower (R_mv V9t (fun k h1 _ => setN.out _ _ _ _ _ _ _ _ _ _ _ k (by omega))) (by omega), Kd.R_lower (R_mv V10t (fun k h1 _ => setN.out _ _ _ _ _ _ _ _ _ _ _ k (by omega))) (by omega), ⟨n67, n69, n6x, n79, n7x, n9x⟩, bel.out _ _ _ _ _ _ _ _ _ _ _⟩
    · have t1 : (c != 0) = true := by simpa using h0
      have h := HR.out
      rw [if_neg h0] at h
      subst h
      go_wp2_with fail
      refine bodyPost_ret (results_ct rfl _ _ w.heap.size 26 #[.int .i64 0, .bool false, .bool false, .int .i64 0, .int .i64 0, .int .i64 0, .slice none 0 0, .slice none 0 0, .int .i64 0, .slice none 0 0, .slice none 0 0] (0, 0) _ rfl ?_ Tryd.underlying26 rfl (by kernel_rfl)) rfl ?_
      · refine blk_put (cs := #[.int .i64 0, .bool false, .bool false, .int .i64 0, .int .i64 0, .int .i64 0, .slice none 0 0, .slice none 0 0, .int .i64 0, .slice none 0 0, .slice none 0 0]) ?_ 10 _ rfl
        refine blk_put (cs := #[.int .i64 0, .bool false, .bool false, .int .i64 0, .int .i64 0, .int .i64 0, .slice none 0 0, .slice none 0 0, .int .i64 0, .slice none 0 0, .slice none 0 0]) ?_ 9 _ rfl
        refine blk_put (cs := #[.int .i64 0, .bool false, .bool false, .int .i64 0, .int .i64 0, .int .i64 0, .slice none 0 0, .slice none 0 0, .int .i64 0, .slice none 0 0, .slice none 0 0]) ?_ 8 _ rfl
        refine blk_put (cs := #[.int .i64 0, .bool false, .bool false, .int .i64 0, .int .i64 0, .int .i64 0, .slice none 0 0, .slice none 0 0, .int .i64 0, .slice none 0 0, .slice none 0 0]) ?_ 7 _ rfl
        refine blk_put (cs := #[.int .i64 0, .bool false, .bool false, .int .i64 0, .int .i64 0, .int .i64 0, .slice none 0 0, .slice none 0 0, .int .i64 0, .slice none 0 0, .slice none 0 0]) ?_ 6 _ rfl
        refine blk_put (cs := #[.int .i64 0, .bool false, .bool false, .int .i64 0, .int .i64 0, .int .i64 0, .slice none 0 0, .slice none 0 0, .int .i64 0, .slice none 0 0, .slice none 0 0]) ?_ 5 _ rfl
        refine blk_put (cs := #[.int .i64 0, .bool false, .bool false, .int .i64 0, .int .i64 0, .int .i64 0, .slice none 0 0, .slice none 0 0, .int .i64 0, .slice none 0 0, .slice none 0 0]) ?_ 4 _ rfl
        refine blk_put (cs := #[.int .i64 0, .bool false, .bool false, .int .i64 0, .int .i64 0, .int .i64 0, .slice none 0 0, .slice none 0 0, .int .i64 0, .slice none 0 0, .slice none 0 0]) ?_ 3 _ rfl
        refine blk_put (cs := #[.int .i64 0, .bool false, .bool false, .int .i64 0, .int .i64 0, .int .i64 0, .slice none 0 0, .slice none 0 0, .int .i64 0, .slice none 0 0, .slice none 0 0]) ?_ 2 _ rfl
        refine blk_put (cs := #[.int .i64 0, .bool false, .bool false, .int .i64 0, .int .i64 0, .int .i64 0, .slice none 0 0, .slice none 0 0, .int .i64 0, .slice none 0 0, .slice none 0 0]) ?_ 1 _ rfl
        exact blk_put hrE 0 _ rfl
      · exact ⟨_, _, _, _, rfl, Kd.R_nil _ _ _ _ _, Kd.R_nil _ _ _ _ _, Kd.R_nil _ _ _ _ _, Kd.R_nil _ _ _ _ _, ⟨ne_nil _, ne_nil _, ne_nil _, ne_nil _, ne_nil _, ne_nil _⟩, bel.out _ _ _ _ _ _ _ _ _ _ _⟩
  · rw [if_neg hl] at h
    cases h
theorem ReadVersion_calls (k : Nat) (a0 : Int) (A0 : Option Addr) (c0 : Nat) (l0 : List Int) (r : Int × Bool × Bool × Int × Int × Int × List Int × List Int × Int × List Int × List Int × Int) (w : World) (hr0 : Kd.C (Kd.int .u8) w A0 l0.length l0) (hc0 : l0.length ≤ c0) (h : row_ReadVersion.f k a0 l0 = some r) :
    Calls Tryd.prog 11 #[.int .i64 a0, .slice A0 l0.length c0] w (VerRP w r) := by
  cases hm : markB (verN0 l0).1 with
  | true => exact rv_mark k a0 A0 c0 l0 r w hm hr0 hc0 h
  | false => exact rv_lock k a0 A0 c0 l0 r w hm hr0 hc0 h
end Go.Proofs.YtmciigdfhikdnaaDoor
