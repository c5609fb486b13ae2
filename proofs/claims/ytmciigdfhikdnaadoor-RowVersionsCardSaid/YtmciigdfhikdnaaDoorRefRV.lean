/- What the reference reads (versions), walked by hand (out of wip/row/mkrefread.py): each function comes to what its plain Lean function beside it tells; no condition beside those in each theorem. -/
import Derived.Test.YtmciigdfhikdnaaDoorRef2
import Derived.Test.YtmciigdfhikdnaaDoorRefV
namespace Go.Proofs.YtmciigdfhikdnaaDoor
open Go.RowKit Go.Proofs.YtmciigdfhikdnaaDoorW.PrintWords Go.Proofs.YtmciigdfhikdnaaDoorW.PrintLast Go.Proofs.YtmciigdfhikdnaaDoorW.PrintMore Go.Proofs.YtmciigdfhikdnaaDoor.Rw Go.Proofs.YtmciigdfhikdnaaDoor.Rf
set_option linter.unusedVariables false
set_option linter.unusedSimpArgs false
def nulF (v : Int) : Bool := Int.tmod v 2 == 1
def markF (v : Int) : Bool := Int.tmod (IntKind.u64.wrap (Int.tdiv v 2)) 2 == 1
def rV0 (b : List Int) := rnumR b 0 1
def rV1 (b : List Int) := rnumR (rV0 b).2.1 (rV0 b).2.2 2
def rV2 (b : List Int) := rnumR (rV1 b).2.1 (rV1 b).2.2 4
def rV3 (b : List Int) := rnumR (rV2 b).2.1 (rV2 b).2.2 6
def rV4 (b : List Int) := rtextR (rV3 b).2.1 (rV3 b).2.2 1 24
def rV5 (b : List Int) := rtextR (rV4 b).2.1 (rV4 b).2.2 1 24
def rV6 (b : List Int) : Int × List Int × List Int × List Int × Int := if markF (rV0 b).1 = true then (0, [], [], (rV5 b).2.1, (rV5 b).2.2) else rlockR (rV5 b).2.1 (rV5 b).2.2
def deedboxref24_ReadVersion.f (k : Nat) (a0 : Int) (b : List Int) : Option (Int × Bool × Bool × Int × Int × Int × List Int × List Int × Int × List Int × List Int × Int) :=
  if b.length ≤ 1000000 then (deedboxref24_Version.f k a0 (nulF (rV0 b).1) (markF (rV0 b).1) (wrap64 (rV1 b).1) (wrap64 (rV2 b).1) (wrap64 (rV3 b).1) (rV4 b).1 (rV5 b).1 (rV6 b).1 (rV6 b).2.1 (rV6 b).2.2.1).bind fun p => (doneR k (rV6 b).2.2.2.1 (rV6 b).2.2.2.2 b p.1 p.2).bind fun c => some (if c = 0 then (a0, nulF (rV0 b).1, markF (rV0 b).1, wrap64 (rV1 b).1, wrap64 (rV2 b).1, wrap64 (rV3 b).1, (rV4 b).1, (rV5 b).1, (rV6 b).1, (rV6 b).2.1, (rV6 b).2.2.1, 0) else (0, false, false, 0, 0, 0, [], [], 0, [], [], c)) else none
theorem deedboxref24_ReadVersion.mono : ∀ a0 b k, LeO (deedboxref24_ReadVersion.f k a0 b) (deedboxref24_ReadVersion.f (k + 1) a0 b) := by
  intro a0 b k
  unfold deedboxref24_ReadVersion.f
  exact LeO.ite (LeO.bind (deedboxref24_Version.mono _ _ _ _ _ _ _ _ _ _ _ _) fun _ => LeO.bind (doneR_mono _ _ _ _ _ _) fun _ => LeO.refl _) (LeO.none _)
def rVP (w : World) (r : Int × Bool × Bool × Int × Int × Int × List Int × List Int × Int × List Int × List Int × Int) (e : Ending) (w' : World) : Prop :=
  ∃ E6 e6 E7 e7 E9 e9 E10 e10, e = .returned (.tuple #[.agg #[.int .i64 r.1, .bool r.2.1, .bool r.2.2.1, .int .i64 r.2.2.2.1, .int .i64 r.2.2.2.2.1, .int .i64 r.2.2.2.2.2.1, .slice E6 r.2.2.2.2.2.2.1.length e6, .slice E7 r.2.2.2.2.2.2.2.1.length e7, .int .i64 r.2.2.2.2.2.2.2.2.1, .slice E9 r.2.2.2.2.2.2.2.2.2.1.length e9, .slice E10 r.2.2.2.2.2.2.2.2.2.2.1.length e10], .int .i64 r.2.2.2.2.2.2.2.2.2.2.2]) ∧ r.2.2.2.2.2.2.1.length ≤ e6 ∧ Kd.C (Kd.int .u8) w E6 r.2.2.2.2.2.2.1.length r.2.2.2.2.2.2.1 ∧ r.2.2.2.2.2.2.2.1.length ≤ e7 ∧ Kd.C (Kd.int .u8) w E7 r.2.2.2.2.2.2.2.1.length r.2.2.2.2.2.2.2.1 ∧ r.2.2.2.2.2.2.2.2.2.1.length ≤ e9 ∧ Kd.C (Kd.int .u8) w E9 r.2.2.2.2.2.2.2.2.2.1.length r.2.2.2.2.2.2.2.2.2.1 ∧ r.2.2.2.2.2.2.2.2.2.2.1.length ≤ e10 ∧ Kd.C (Kd.int .u8) w E10 r.2.2.2.2.2.2.2.2.2.2.1.length r.2.2.2.2.2.2.2.2.2.2.1 ∧ Below w.heap.size w w'
set_option maxRecDepth 100000 in
set_option maxHeartbeats 4000000 in
theorem rV_mark (k : Nat) (a0 : Int) (A : Option Addr) (cap : Nat) (b : List Int) (r : Int × Bool × Bool × Int × Int × Int × List Int × List Int × Int × List Int × List Int × Int) (w : World) (hm : markF (rV0 b).1 = true) (hr : Kd.C (Kd.int .u8) w A b.length b) (hcap : b.length ≤ cap) (h : deedboxref24_ReadVersion.f k a0 b = some r) :
    Calls Tryd.prog 12 #[.int .i64 a0, .slice A b.length cap] w (rVP w r) := by
  unfold deedboxref24_ReadVersion.f at h
  by_cases hl : b.length ≤ 1000000
  · rw [if_pos hl] at h
    obtain ⟨p, hp, h⟩ := Option.bind_eq_some_iff.1 h
    obtain ⟨c, hE, h⟩ := Option.bind_eq_some_iff.1 h
    have HR := Lib.hid (Option.some.inj h)
    clear h
    have m0 := rnumR_len b 0 1
    have e0_ : rnumR b 0 1 = rV0 b := rfl
    rw [e0_] at m0
    have m1 := rnumR_len (rV0 b).2.1 (rV0 b).2.2 2
    have e1_ : rnumR (rV0 b).2.1 (rV0 b).2.2 2 = rV1 b := rfl
    rw [e1_] at m1
    have m2 := rnumR_len (rV1 b).2.1 (rV1 b).2.2 4
    have e2_ : rnumR (rV1 b).2.1 (rV1 b).2.2 4 = rV2 b := rfl
    rw [e2_] at m2
    have m3 := rnumR_len (rV2 b).2.1 (rV2 b).2.2 6
    have e3_ : rnumR (rV2 b).2.1 (rV2 b).2.2 6 = rV3 b := rfl
    rw [e3_] at m3
    have m4 := rtextR_len (rV3 b).2.1 (rV3 b).2.2 1 24
    have e4_ : rtextR (rV3 b).2.1 (rV3 b).2.2 1 24 = rV4 b := rfl
    rw [e4_] at m4
    have m5 := rtextR_len (rV4 b).2.1 (rV4 b).2.2 1 24
    have e5_ : rtextR (rV4 b).2.1 (rV4 b).2.2 1 24 = rV5 b := rfl
    rw [e5_] at m5
    have T0 := fun (A : Option Addr) (cap : Nat) (W : World) h1 h2 h3 => NumberF_calls A cap b 0 1 w W h1 h2 h3 (by omega)
    rw [e0_] at T0
    have T1 := fun (A : Option Addr) (cap : Nat) (W : World) h1 h2 h3 => NumberF_calls A cap (rV0 b).2.1 (rV0 b).2.2 2 w W h1 h2 h3 (by omega)
    rw [e1_] at T1
    have T2 := fun (A : Option Addr) (cap : Nat) (W : World) h1 h2 h3 => NumberF_calls A cap (rV1 b).2.1 (rV1 b).2.2 4 w W h1 h2 h3 (by omega)
    rw [e2_] at T2
    have T3 := fun (A : Option Addr) (cap : Nat) (W : World) h1 h2 h3 => NumberF_calls A cap (rV2 b).2.1 (rV2 b).2.2 6 w W h1 h2 h3 (by omega)
    rw [e3_] at T3
    have T4 := fun (A : Option Addr) (cap : Nat) (W : World) h1 h2 h3 => TextF_calls A cap (rV3 b).2.1 (rV3 b).2.2 1 24 (by decide) (by decide) w W h1 h2 h3 (by omega)
    rw [e4_] at T4
    have T5 := fun (A : Option Addr) (cap : Nat) (W : World) h1 h2 h3 => TextF_calls A cap (rV4 b).2.1 (rV4 b).2.2 1 24 (by decide) (by decide) w W h1 h2 h3 (by omega)
    rw [e5_] at T5
    have eL : rV6 b = (0, [], [], (rV5 b).2.1, (rV5 b).2.2) := by unfold rV6; rw [hm]; rfl
    rw [eL] at hp hE HR
    simp only at hp hE HR
    clear eL
    clear e0_ m0 e1_ m1 e2_ m2 e3_ m3 e4_ m4 e5_ m5
    generalize rV0 b = s0 at *
    generalize rV1 b = s1 at *
    generalize rV2 b = s2 at *
    generalize rV3 b = s3 at *
    generalize rV4 b = s4 at *
    generalize rV5 b = s5 at *
    obtain ⟨v0, y0, d0⟩ := s0
    obtain ⟨v1, y1, d1⟩ := s1
    obtain ⟨v2, y2, d2⟩ := s2
    obtain ⟨v3, y3, d3⟩ := s3
    obtain ⟨x4, y4, d4⟩ := s4
    obtain ⟨x5, y5, d5⟩ := s5
    simp only at hp hE HR T0 T1 T2 T3 T4 T5 hm
    rw [hm] at hp HR
    have hm2 : (Int.tmod (IntKind.u64.wrap (Int.tdiv v0 2)) 2 == 1) = true := hm
    have hn2 : (Int.tmod v0 2 == 1) = nulF v0 := rfl
    clear hm
    have T0 := Lib.hid T0
    have T1 := Lib.hid T1
    have T2 := Lib.hid T2
    have T3 := Lib.hid T3
    have T4 := Lib.hid T4
    have T5 := Lib.hid T5
    obtain ⟨again, ac⟩ := p
    simp only at hE
    have hp := Lib.hid hp
    have hE := Lib.hid hE
    have hu26 := Tryd.underlying26
    have hu73 := Tryd.underlying73
    have hu24 := Tryd.underlying24
    have K0 := blk_new w (.cells #[.int .i64 0, .bool false, .bool false, .int .i64 0, .int .i64 0, .int .i64 0, .slice none 0 0, .slice none 0 0, .int .i64 0, .slice none 0 0, .slice none 0 0] 26)
    have B0 := below_alloc (Below.refl w.heap.size w) (.cells #[.int .i64 0, .bool false, .bool false, .int .i64 0, .int .i64 0, .int .i64 0, .slice none 0 0, .slice none 0 0, .int .i64 0, .slice none 0 0, .slice none 0 0] 26)
    have H0 := Lib.hid (T0.out A cap (w.alloc (.cells #[.int .i64 0, .bool false, .bool false, .int .i64 0, .int .i64 0, .int .i64 0, .slice none 0 0, .slice none 0 0, .int .i64 0, .slice none 0 0, .slice none 0 0] 26)) hr B0 hcap)
    have lr := blk_lt K0
    clear T0
    go_enter Tryd.func12, Tryd.ntmps12
    go_wp2_with fail
    refine H0.out.mono ?_
    rintro e W0 ⟨A0, c0, rfl, hl0, C0, hW0⟩
    simp only at hl0 C0
    replace K0 := blk_below K0 hW0
    replace B0 := below_step B0 hW0
    clear hW0 H0 lr
    replace K0 := blk_alloc K0 (.cells #[.slice A0 y0.length c0, .int .i64 d0] 73)
    replace B0 := below_alloc B0 (.cells #[.slice A0 y0.length c0, .int .i64 d0] 73)
    have lr := blk_lt K0
    have H1 := Lib.hid (T1.out A0 c0 (W0.alloc (.cells #[.slice A0 y0.length c0, .int .i64 d0] 73)) C0 B0 hl0)
    clear T1
    go_wp2_with fail
    refine H1.out.mono ?_
    rintro e W1 ⟨A1, c1, rfl, hl1, C1, hW1⟩
    simp only at hl1 C1
    replace K0 := blk_below K0 hW1
    replace B0 := below_step B0 hW1
    clear hW1 H1 lr
    replace K0 := blk_alloc K0 (.cells #[.slice A1 y1.length c1, .int .i64 d1] 73)
    replace B0 := below_alloc B0 (.cells #[.slice A1 y1.length c1, .int .i64 d1] 73)
    have lr := blk_lt K0
    have H2 := Lib.hid (T2.out A1 c1 (W1.alloc (.cells #[.slice A1 y1.length c1, .int .i64 d1] 73)) C1 B0 hl1)
    clear T2
    go_wp2_with fail
    refine H2.out.mono ?_
    rintro e W2 ⟨A2, c2, rfl, hl2, C2, hW2⟩
    simp only at hl2 C2
    replace K0 := blk_below K0 hW2
    replace B0 := below_step B0 hW2
    clear hW2 H2 lr
    replace K0 := blk_alloc K0 (.cells #[.slice A2 y2.length c2, .int .i64 d2] 73)
    replace B0 := below_alloc B0 (.cells #[.slice A2 y2.length c2, .int .i64 d2] 73)
    have lr := blk_lt K0
    have H3 := Lib.hid (T3.out A2 c2 (W2.alloc (.cells #[.slice A2 y2.length c2, .int .i64 d2] 73)) C2 B0 hl2)
    clear T3
    go_wp2_with fail
    refine H3.out.mono ?_
    rintro e W3 ⟨A3, c3, rfl, hl3, C3, hW3⟩
    simp only at hl3 C3
    replace K0 := blk_below K0 hW3
    replace B0 := below_step B0 hW3
    clear hW3 H3 lr
    replace K0 := blk_alloc K0 (.cells #[.slice A3 y3.length c3, .int .i64 d3] 73)
    replace B0 := below_alloc B0 (.cells #[.slice A3 y3.length c3, .int .i64 d3] 73)
    have lr := blk_lt K0
    have H4 := Lib.hid (T4.out A3 c3 (W3.alloc (.cells #[.slice A3 y3.length c3, .int .i64 d3] 73)) C3 B0 hl3)
    clear T4
    go_wp2_with fail
    refine H4.out.mono ?_
    rintro e W4 ⟨A4, c4, X4, z4, rfl, hl4, C4, hx4, Q4, hW4⟩
    simp only at hl4 C4 hx4 Q4
    replace K0 := blk_below K0 hW4
    replace B0 := below_step B0 hW4
    clear hW4 H4 lr
    replace K0 := blk_alloc K0 (.cells #[.slice A4 y4.length c4, .int .i64 d4] 73)
    replace B0 := below_alloc B0 (.cells #[.slice A4 y4.length c4, .int .i64 d4] 73)
    have lr := blk_lt K0
    have H5 := Lib.hid (T5.out A4 c4 (W4.alloc (.cells #[.slice A4 y4.length c4, .int .i64 d4] 73)) C4 B0 hl4)
    clear T5
    go_wp2_with fail
    refine H5.out.mono ?_
    rintro e W5 ⟨A5, c5, X5, z5, rfl, hl5, C5, hx5, Q5, hW5⟩
    simp only at hl5 C5 hx5 Q5
    replace K0 := blk_below K0 hW5
    have HWR := Lib.hid (blk_lt K0)
    replace B0 := below_step B0 hW5
    clear hW5 H5 lr
    have Kt := blk_new W5 (.cells #[.slice A5 y5.length c5, .int .i64 d5] 73)
    replace K0 := blk_alloc K0 (.cells #[.slice A5 y5.length c5, .int .i64 d5] 73)
    replace B0 := below_alloc B0 (.cells #[.slice A5 y5.length c5, .int .i64 d5] 73)
    have hsz : (W5.alloc (.cells #[.slice A5 y5.length c5, .int .i64 d5] 73)).heap.size = W5.heap.size + 1 := by simp
    have Kx : ((W5.alloc (.cells #[.slice A5 y5.length c5, .int .i64 d5] 73)).alloc (.cells #[.int .i64 a0, .bool (nulF v0), .bool true, .int .i64 (wrap64 v1), .int .i64 (wrap64 v2), .int .i64 (wrap64 v3), .slice X4 x4.length z4, .slice X5 x5.length z5, .int .i64 0, .slice none 0 0, .slice none 0 0] 26)).heap[W5.heap.size + 1]? = some (.cells #[.int .i64 a0, .bool (nulF v0), .bool true, .int .i64 (wrap64 v1), .int .i64 (wrap64 v2), .int .i64 (wrap64 v3), .slice X4 x4.length z4, .slice X5 x5.length z5, .int .i64 0, .slice none 0 0, .slice none 0 0] 26 (0, 0)) := blk_newAt (by simp)
    replace Kt := blk_alloc Kt (.cells #[.int .i64 a0, .bool (nulF v0), .bool true, .int .i64 (wrap64 v1), .int .i64 (wrap64 v2), .int .i64 (wrap64 v3), .slice X4 x4.length z4, .slice X5 x5.length z5, .int .i64 0, .slice none 0 0, .slice none 0 0] 26)
    replace K0 := blk_alloc K0 (.cells #[.int .i64 a0, .bool (nulF v0), .bool true, .int .i64 (wrap64 v1), .int .i64 (wrap64 v2), .int .i64 (wrap64 v3), .slice X4 x4.length z4, .slice X5 x5.length z5, .int .i64 0, .slice none 0 0, .slice none 0 0] 26)
    replace B0 := below_alloc B0 (.cells #[.int .i64 a0, .bool (nulF v0), .bool true, .int .i64 (wrap64 v1), .int .i64 (wrap64 v2), .int .i64 (wrap64 v3), .slice X4 x4.length z4, .slice X5 x5.length z5, .int .i64 0, .slice none 0 0, .slice none 0 0] 26)
    have HA := Lib.hid (deedboxref24_Version.calls k a0 _ _ _ _ _ X4 z4 x4 X5 z5 x5 0 none 0 [] none 0 [] again ac ((W5.alloc (.cells #[.slice A5 y5.length c5, .int .i64 d5] 73)).alloc (.cells #[.int .i64 a0, .bool (nulF v0), .bool true, .int .i64 (wrap64 v1), .int .i64 (wrap64 v2), .int .i64 (wrap64 v3), .slice X4 x4.length z4, .slice X5 x5.length z5, .int .i64 0, .slice none 0 0, .slice none 0 0] 26)) (Kd.C_below Q4 B0) hx4 (Kd.C_below Q5 B0) hx5 (Kd.C_nil _ _) (Nat.le_refl _) (Kd.C_nil _ _) (Nat.le_refl _) hp.out)
    have lx := blk_lt Kx
    go_wp2_with fail
    refine HA.out.mono ?_
    rintro e WA ⟨va, rfl, RA, hA⟩
    replace Kt := blk_below Kt hA
    replace Kx := blk_below Kx hA
    replace K0 := blk_below K0 hA
    replace B0 := below_step B0 hA
    obtain ⟨AA, cA, rfl, mA, QA⟩ := Kd.R_reads RA
    have HD := Lib.hid (doneF_calls k A5 c5 y5 d5 A cap b AA cA again ac c WA (Kd.C_below hr B0) hcap QA mA hE.out)
    clear HA hA RA QA lx
    have lt := blk_lt Kt
    have t0_ : WA.cell? ⟨W5.heap.size, 0, none⟩ = some (.slice A5 y5.length c5) := (blk_cell Kt 0).trans rfl
    have t1_ : WA.cell? ⟨W5.heap.size, 1, none⟩ = some (.int .i64 d5) := (blk_cell Kt 1).trans rfl
    go_wp2_with fail
    refine HD.out.mono ?_
    rintro e WE ⟨rfl, hD⟩
    replace Kx := blk_below Kx hD
    replace K0 := blk_below K0 hD
    replace B0 := below_step B0 hD
    clear HD hD Kt lt t0_ t1_
    have lx := blk_lt Kx
    have lr := blk_lt K0
    have q0_ : WE.cell? ⟨W5.heap.size + 1, 0, none⟩ = some (.int .i64 a0) := (blk_cell Kx 0).trans rfl
    have q1_ : WE.cell? ⟨W5.heap.size + 1, 1, none⟩ = some (.bool (nulF v0)) := (blk_cell Kx 1).trans rfl
    have q2_ : WE.cell? ⟨W5.heap.size + 1, 2, none⟩ = some (.bool true) := (blk_cell Kx 2).trans rfl
    have q3_ : WE.cell? ⟨W5.heap.size + 1, 3, none⟩ = some (.int .i64 (wrap64 v1)) := (blk_cell Kx 3).trans rfl
    have q4_ : WE.cell? ⟨W5.heap.size + 1, 4, none⟩ = some (.int .i64 (wrap64 v2)) := (blk_cell Kx 4).trans rfl
    have q5_ : WE.cell? ⟨W5.heap.size + 1, 5, none⟩ = some (.int .i64 (wrap64 v3)) := (blk_cell Kx 5).trans rfl
    have q6_ : WE.cell? ⟨W5.heap.size + 1, 6, none⟩ = some (.slice X4 x4.length z4) := (blk_cell Kx 6).trans rfl
    have q7_ : WE.cell? ⟨W5.heap.size + 1, 7, none⟩ = some (.slice X5 x5.length z5) := (blk_cell Kx 7).trans rfl
    have q8_ : WE.cell? ⟨W5.heap.size + 1, 8, none⟩ = some (.int .i64 0) := (blk_cell Kx 8).trans rfl
    have q9_ : WE.cell? ⟨W5.heap.size + 1, 9, none⟩ = some (.slice none 0 0) := (blk_cell Kx 9).trans rfl
    have q10_ : WE.cell? ⟨W5.heap.size + 1, 10, none⟩ = some (.slice none 0 0) := (blk_cell Kx 10).trans rfl
    have p0_ : WE.cell? ⟨w.heap.size, 0, none⟩ = some (.int .i64 0) := (blk_cell K0 0).trans rfl
    have s0_ := blk_frozen K0 0
    have p1_ : WE.cell? ⟨w.heap.size, 1, none⟩ = some (.bool false) := (blk_cell K0 1).trans rfl
    have s1_ := blk_frozen K0 1
    have p2_ : WE.cell? ⟨w.heap.size, 2, none⟩ = some (.bool false) := (blk_cell K0 2).trans rfl
    have s2_ := blk_frozen K0 2
    have p3_ : WE.cell? ⟨w.heap.size, 3, none⟩ = some (.int .i64 0) := (blk_cell K0 3).trans rfl
    have s3_ := blk_frozen K0 3
    have p4_ : WE.cell? ⟨w.heap.size, 4, none⟩ = some (.int .i64 0) := (blk_cell K0 4).trans rfl
    have s4_ := blk_frozen K0 4
    have p5_ : WE.cell? ⟨w.heap.size, 5, none⟩ = some (.int .i64 0) := (blk_cell K0 5).trans rfl
    have s5_ := blk_frozen K0 5
    have p6_ : WE.cell? ⟨w.heap.size, 6, none⟩ = some (.slice none 0 0) := (blk_cell K0 6).trans rfl
    have s6_ := blk_frozen K0 6
    have p7_ : WE.cell? ⟨w.heap.size, 7, none⟩ = some (.slice none 0 0) := (blk_cell K0 7).trans rfl
    have s7_ := blk_frozen K0 7
    have p8_ : WE.cell? ⟨w.heap.size, 8, none⟩ = some (.int .i64 0) := (blk_cell K0 8).trans rfl
    have s8_ := blk_frozen K0 8
    have p9_ : WE.cell? ⟨w.heap.size, 9, none⟩ = some (.slice none 0 0) := (blk_cell K0 9).trans rfl
    have s9_ := blk_frozen K0 9
    have p10_ : WE.cell? ⟨w.heap.size, 10, none⟩ = some (.slice none 0 0) := (blk_cell K0 10).trans rfl
    have s10_ := blk_frozen K0 10
    have ne2_ : w.heap.size ≠ W5.heap.size + 1 := by have := HWR.out; omega
    have ne3_ : W5.heap.size + 1 ≠ w.heap.size := by omega
    have bel := Lib.hid (show ∀ (z0_ z1_ z2_ z3_ z4_ z5_ z6_ z7_ z8_ z9_ z10_ : Value), Below w.heap.size w (((((((((((WE.setCell ⟨w.heap.size, 0, none⟩ z0_).setCell ⟨w.heap.size, 1, none⟩ z1_).setCell ⟨w.heap.size, 2, none⟩ z2_).setCell ⟨w.heap.size, 3, none⟩ z3_).setCell ⟨w.heap.size, 4, none⟩ z4_).setCell ⟨w.heap.size, 5, none⟩ z5_).setCell ⟨w.heap.size, 6, none⟩ z6_).setCell ⟨w.heap.size, 7, none⟩ z7_).setCell ⟨w.heap.size, 8, none⟩ z8_).setCell ⟨w.heap.size, 9, none⟩ z9_).setCell ⟨w.heap.size, 10, none⟩ z10_) from fun z0_ z1_ z2_ z3_ z4_ z5_ z6_ z7_ z8_ z9_ z10_ => (below_set (below_set (below_set (below_set (below_set (below_set (below_set (below_set (below_set (below_set (below_set B0 (Nat.le_refl _)) (Nat.le_refl _)) (Nat.le_refl _)) (Nat.le_refl _)) (Nat.le_refl _)) (Nat.le_refl _)) (Nat.le_refl _)) (Nat.le_refl _)) (Nat.le_refl _)) (Nat.le_refl _)) (Nat.le_refl _)))
    have K0 := Lib.hid K0
    clear B0 Kx
    by_cases h0 : c = 0
    · subst h0
      have h := HR.out
      simp only [if_true] at h
      subst h
      go_wp2_with fail
      refine bodyPost_ret (results_ct rfl _ _ w.heap.size 26 #[.int .i64 a0, .bool (nulF v0), .bool true, .int .i64 (wrap64 v1), .int .i64 (wrap64 v2), .int .i64 (wrap64 v3), .slice X4 x4.length z4, .slice X5 x5.length z5, .int .i64 0, .slice none 0 0, .slice none 0 0] (0, 0) _ rfl ?_ Tryd.underlying26 rfl (by kernel_rfl)) rfl ?_
      · refine blk_put (cs := #[.int .i64 a0, .bool (nulF v0), .bool true, .int .i64 (wrap64 v1), .int .i64 (wrap64 v2), .int .i64 (wrap64 v3), .slice X4 x4.length z4, .slice X5 x5.length z5, .int .i64 0, .slice none 0 0, .slice none 0 0]) ?_ 10 _ rfl
        refine blk_put (cs := #[.int .i64 a0, .bool (nulF v0), .bool true, .int .i64 (wrap64 v1), .int .i64 (wrap64 v2), .int .i64 (wrap64 v3), .slice X4 x4.length z4, .slice X5 x5.length z5, .int .i64 0, .slice none 0 0, .slice none 0 0]) ?_ 9 _ rfl
        refine blk_put (cs := #[.int .i64 a0, .bool (nulF v0), .bool true, .int .i64 (wrap64 v1), .int .i64 (wrap64 v2), .int .i64 (wrap64 v3), .slice X4 x4.length z4, .slice X5 x5.length z5, .int .i64 0, .slice none 0 0, .slice none 0 0]) ?_ 8 _ rfl
        refine blk_put (cs := #[.int .i64 a0, .bool (nulF v0), .bool true, .int .i64 (wrap64 v1), .int .i64 (wrap64 v2), .int .i64 (wrap64 v3), .slice X4 x4.length z4, .slice none 0 0, .int .i64 0, .slice none 0 0, .slice none 0 0]) ?_ 7 _ rfl
        refine blk_put (cs := #[.int .i64 a0, .bool (nulF v0), .bool true, .int .i64 (wrap64 v1), .int .i64 (wrap64 v2), .int .i64 (wrap64 v3), .slice none 0 0, .slice none 0 0, .int .i64 0, .slice none 0 0, .slice none 0 0]) ?_ 6 _ rfl
        refine blk_put (cs := #[.int .i64 a0, .bool (nulF v0), .bool true, .int .i64 (wrap64 v1), .int .i64 (wrap64 v2), .int .i64 0, .slice none 0 0, .slice none 0 0, .int .i64 0, .slice none 0 0, .slice none 0 0]) ?_ 5 _ rfl
        refine blk_put (cs := #[.int .i64 a0, .bool (nulF v0), .bool true, .int .i64 (wrap64 v1), .int .i64 0, .int .i64 0, .slice none 0 0, .slice none 0 0, .int .i64 0, .slice none 0 0, .slice none 0 0]) ?_ 4 _ rfl
        refine blk_put (cs := #[.int .i64 a0, .bool (nulF v0), .bool true, .int .i64 0, .int .i64 0, .int .i64 0, .slice none 0 0, .slice none 0 0, .int .i64 0, .slice none 0 0, .slice none 0 0]) ?_ 3 _ rfl
        refine blk_put (cs := #[.int .i64 a0, .bool (nulF v0), .bool false, .int .i64 0, .int .i64 0, .int .i64 0, .slice none 0 0, .slice none 0 0, .int .i64 0, .slice none 0 0, .slice none 0 0]) ?_ 2 _ rfl
        refine blk_put (cs := #[.int .i64 a0, .bool false, .bool false, .int .i64 0, .int .i64 0, .int .i64 0, .slice none 0 0, .slice none 0 0, .int .i64 0, .slice none 0 0, .slice none 0 0]) ?_ 1 _ rfl
        exact blk_put K0.out 0 _ rfl
      · exact ⟨_, _, _, _, _, _, _, _, rfl, hx4, Q4, hx5, Q5, Nat.le_refl _, Kd.C_nil _ _, Nat.le_refl _, Kd.C_nil _ _, bel.out _ _ _ _ _ _ _ _ _ _ _⟩
    · have t1 : (c != 0) = true := by simpa using h0
      have h := HR.out
      rw [if_neg h0] at h
      subst h
      go_wp2_with fail
      refine bodyPost_ret (results_ct rfl _ _ w.heap.size 26 #[.int .i64 0, .bool false, .bool false, .int .i64 0, .int .i64 0, .int .i64 0, .slice none 0 0, .slice none 0 0, .int .i64 0, .slice none 0 0, .slice none 0 0] (0, 0) _ rfl ?_ Tryd.underlying26 rfl (by kernel_rfl)) rfl ?_
      · refine blk_put (cs := #[.int .i64 0, .bool false, .bool false, .int .i64 0, .int .i64 0, .int .i64 0, .slice none 0 0, .slice none 0 0, .int .i64 0, .slice none 0 0, .slice none 0 0]) ?_ 10 _ rfl
        refine blk_put (cs := #[.int .i64 0, .bool false, .bool false, .int .i64 0, .int .i64 0, .int .i64 0, .slice none 0 0, .slice none 0 0, .int .i64 0, .slice none 0 0, .slice none 0 0]) ?_ 9 _ rfl
        refine blk_put (cs := #[.int .i64 0, .bool false, .bool false, .int .i64 0, .int .i64 0, .int .i64 0, .slice none 0 0, .slice none 0 0, .int .i64 0, .slice none 0 0, .slice none 0 0]) ?_ 8 _ rfl
        refine blk_put (cs := #[.int .i64 0, .bool false, .bool false, .int .i64 0, .int .i64 0, .int .i64 0, .slice none 0 0, .slice none 0 0, .int .i64 0, .slice none 0 0, .slice none 0 0]) ?_ 7 _ rfl
        refine blk_put (cs := #[.int .i64 0, .bool false, .bool false, .int .i64 0, .int .i64 0, .int .i64 0, .slice none 0 0, .slice none 0 0, .int .i64 0, .slice none 0 0, .slice none 0 0]) ?_ 6 _ rfl
        refine blk_put (cs := #[.int .i64 0, .bool false, .bool false, .int .i64 0, .int .i64 0, .int .i64 0, .slice none 0 0, .slice none 0 0, .int .i64 0, .slice none 0 0, .slice none 0 0]) ?_ 5 _ rfl
        refine blk_put (cs := #[.int .i64 0, .bool false, .bool false, .int .i64 0, .int .i64 0, .int .i64 0, .slice none 0 0, .slice none 0 0, .int .i64 0, .slice none 0 0, .slice none 0 0]) ?_ 4 _ rfl
        refine blk_put (cs := #[.int .i64 0, .bool false, .bool false, .int .i64 0, .int .i64 0, .int .i64 0, .slice none 0 0, .slice none 0 0, .int .i64 0, .slice none 0 0, .slice none 0 0]) ?_ 3 _ rfl
        refine blk_put (cs := #[.int .i64 0, .bool false, .bool false, .int .i64 0, .int .i64 0, .int .i64 0, .slice none 0 0, .slice none 0 0, .int .i64 0, .slice none 0 0, .slice none 0 0]) ?_ 2 _ rfl
        refine blk_put (cs := #[.int .i64 0, .bool false, .bool false, .int .i64 0, .int .i64 0, .int .i64 0, .slice none 0 0, .slice none 0 0, .int .i64 0, .slice none 0 0, .slice none 0 0]) ?_ 1 _ rfl
        exact blk_put K0.out 0 _ rfl
      · exact ⟨none, 0, none, 0, none, 0, none, 0, rfl, Nat.le_refl _, Kd.C_nil _ _, Nat.le_refl _, Kd.C_nil _ _, Nat.le_refl _, Kd.C_nil _ _, Nat.le_refl _, Kd.C_nil _ _, bel.out _ _ _ _ _ _ _ _ _ _ _⟩
  · rw [if_neg hl] at h
    cases h
set_option maxRecDepth 100000 in
set_option maxHeartbeats 4000000 in
theorem rV_lock (k : Nat) (a0 : Int) (A : Option Addr) (cap : Nat) (b : List Int) (r : Int × Bool × Bool × Int × Int × Int × List Int × List Int × Int × List Int × List Int × Int) (w : World) (hm : markF (rV0 b).1 = false) (hr : Kd.C (Kd.int .u8) w A b.length b) (hcap : b.length ≤ cap) (h : deedboxref24_ReadVersion.f k a0 b = some r) :
    Calls Tryd.prog 12 #[.int .i64 a0, .slice A b.length cap] w (rVP w r) := by
  unfold deedboxref24_ReadVersion.f at h
  by_cases hl : b.length ≤ 1000000
  · rw [if_pos hl] at h
    obtain ⟨p, hp, h⟩ := Option.bind_eq_some_iff.1 h
    obtain ⟨c, hE, h⟩ := Option.bind_eq_some_iff.1 h
    have HR := Lib.hid (Option.some.inj h)
    clear h
    have m0 := rnumR_len b 0 1
    have e0_ : rnumR b 0 1 = rV0 b := rfl
    rw [e0_] at m0
    have m1 := rnumR_len (rV0 b).2.1 (rV0 b).2.2 2
    have e1_ : rnumR (rV0 b).2.1 (rV0 b).2.2 2 = rV1 b := rfl
    rw [e1_] at m1
    have m2 := rnumR_len (rV1 b).2.1 (rV1 b).2.2 4
    have e2_ : rnumR (rV1 b).2.1 (rV1 b).2.2 4 = rV2 b := rfl
    rw [e2_] at m2
    have m3 := rnumR_len (rV2 b).2.1 (rV2 b).2.2 6
    have e3_ : rnumR (rV2 b).2.1 (rV2 b).2.2 6 = rV3 b := rfl
    rw [e3_] at m3
    have m4 := rtextR_len (rV3 b).2.1 (rV3 b).2.2 1 24
    have e4_ : rtextR (rV3 b).2.1 (rV3 b).2.2 1 24 = rV4 b := rfl
    rw [e4_] at m4
    have m5 := rtextR_len (rV4 b).2.1 (rV4 b).2.2 1 24
    have e5_ : rtextR (rV4 b).2.1 (rV4 b).2.2 1 24 = rV5 b := rfl
    rw [e5_] at m5
    have m6 := rlockR_len (rV5 b).2.1 (rV5 b).2.2 
    have e6_ : rlockR (rV5 b).2.1 (rV5 b).2.2  = rV6 b := by unfold rV6; rw [hm]; rfl
    rw [e6_] at m6
    have T0 := fun (A : Option Addr) (cap : Nat) (W : World) h1 h2 h3 => NumberF_calls A cap b 0 1 w W h1 h2 h3 (by omega)
    rw [e0_] at T0
    have T1 := fun (A : Option Addr) (cap : Nat) (W : World) h1 h2 h3 => NumberF_calls A cap (rV0 b).2.1 (rV0 b).2.2 2 w W h1 h2 h3 (by omega)
    rw [e1_] at T1
    have T2 := fun (A : Option Addr) (cap : Nat) (W : World) h1 h2 h3 => NumberF_calls A cap (rV1 b).2.1 (rV1 b).2.2 4 w W h1 h2 h3 (by omega)
    rw [e2_] at T2
    have T3 := fun (A : Option Addr) (cap : Nat) (W : World) h1 h2 h3 => NumberF_calls A cap (rV2 b).2.1 (rV2 b).2.2 6 w W h1 h2 h3 (by omega)
    rw [e3_] at T3
    have T4 := fun (A : Option Addr) (cap : Nat) (W : World) h1 h2 h3 => TextF_calls A cap (rV3 b).2.1 (rV3 b).2.2 1 24 (by decide) (by decide) w W h1 h2 h3 (by omega)
    rw [e4_] at T4
    have T5 := fun (A : Option Addr) (cap : Nat) (W : World) h1 h2 h3 => TextF_calls A cap (rV4 b).2.1 (rV4 b).2.2 1 24 (by decide) (by decide) w W h1 h2 h3 (by omega)
    rw [e5_] at T5
    have T6 := fun (A : Option Addr) (cap : Nat) (W : World) h1 h2 h3 => LockF_calls A cap (rV5 b).2.1 (rV5 b).2.2 w W h1 h2 h3 (by omega)
    rw [e6_] at T6
    clear e0_ m0 e1_ m1 e2_ m2 e3_ m3 e4_ m4 e5_ m5 e6_ m6
    generalize rV0 b = s0 at *
    generalize rV1 b = s1 at *
    generalize rV2 b = s2 at *
    generalize rV3 b = s3 at *
    generalize rV4 b = s4 at *
    generalize rV5 b = s5 at *
    generalize rV6 b = s6 at *
    obtain ⟨v0, y0, d0⟩ := s0
    obtain ⟨v1, y1, d1⟩ := s1
    obtain ⟨v2, y2, d2⟩ := s2
    obtain ⟨v3, y3, d3⟩ := s3
    obtain ⟨x4, y4, d4⟩ := s4
    obtain ⟨x5, y5, d5⟩ := s5
    obtain ⟨gn, nn, wp, y6, d6⟩ := s6
    simp only at hp hE HR T0 T1 T2 T3 T4 T5 T6 hm
    rw [hm] at hp HR
    have hm2 : (Int.tmod (IntKind.u64.wrap (Int.tdiv v0 2)) 2 == 1) = false := hm
    have hn2 : (Int.tmod v0 2 == 1) = nulF v0 := rfl
    clear hm
    have T0 := Lib.hid T0
    have T1 := Lib.hid T1
    have T2 := Lib.hid T2
    have T3 := Lib.hid T3
    have T4 := Lib.hid T4
    have T5 := Lib.hid T5
    have T6 := Lib.hid T6
    obtain ⟨again, ac⟩ := p
    simp only at hE
    have hp := Lib.hid hp
    have hE := Lib.hid hE
    have hu26 := Tryd.underlying26
    have hu73 := Tryd.underlying73
    have hu24 := Tryd.underlying24
    have K0 := blk_new w (.cells #[.int .i64 0, .bool false, .bool false, .int .i64 0, .int .i64 0, .int .i64 0, .slice none 0 0, .slice none 0 0, .int .i64 0, .slice none 0 0, .slice none 0 0] 26)
    have B0 := below_alloc (Below.refl w.heap.size w) (.cells #[.int .i64 0, .bool false, .bool false, .int .i64 0, .int .i64 0, .int .i64 0, .slice none 0 0, .slice none 0 0, .int .i64 0, .slice none 0 0, .slice none 0 0] 26)
    have H0 := Lib.hid (T0.out A cap (w.alloc (.cells #[.int .i64 0, .bool false, .bool false, .int .i64 0, .int .i64 0, .int .i64 0, .slice none 0 0, .slice none 0 0, .int .i64 0, .slice none 0 0, .slice none 0 0] 26)) hr B0 hcap)
    have lr := blk_lt K0
    clear T0
    go_enter Tryd.func12, Tryd.ntmps12
    go_wp2_with fail
    refine H0.out.mono ?_
    rintro e W0 ⟨A0, c0, rfl, hl0, C0, hW0⟩
    simp only at hl0 C0
    replace K0 := blk_below K0 hW0
    replace B0 := below_step B0 hW0
    clear hW0 H0 lr
    replace K0 := blk_alloc K0 (.cells #[.slice A0 y0.length c0, .int .i64 d0] 73)
    replace B0 := below_alloc B0 (.cells #[.slice A0 y0.length c0, .int .i64 d0] 73)
    have lr := blk_lt K0
    have H1 := Lib.hid (T1.out A0 c0 (W0.alloc (.cells #[.slice A0 y0.length c0, .int .i64 d0] 73)) C0 B0 hl0)
    clear T1
    go_wp2_with fail
    refine H1.out.mono ?_
    rintro e W1 ⟨A1, c1, rfl, hl1, C1, hW1⟩
    simp only at hl1 C1
    replace K0 := blk_below K0 hW1
    replace B0 := below_step B0 hW1
    clear hW1 H1 lr
    replace K0 := blk_alloc K0 (.cells #[.slice A1 y1.length c1, .int .i64 d1] 73)
    replace B0 := below_alloc B0 (.cells #[.slice A1 y1.length c1, .int .i64 d1] 73)
    have lr := blk_lt K0
    have H2 := Lib.hid (T2.out A1 c1 (W1.alloc (.cells #[.slice A1 y1.length c1, .int .i64 d1] 73)) C1 B0 hl1)
    clear T2
    go_wp2_with fail
    refine H2.out.mono ?_
    rintro e W2 ⟨A2, c2, rfl, hl2, C2, hW2⟩
    simp only at hl2 C2
    replace K0 := blk_below K0 hW2
    replace B0 := below_step B0 hW2
    clear hW2 H2 lr
    replace K0 := blk_alloc K0 (.cells #[.slice A2 y2.length c2, .int .i64 d2] 73)
    replace B0 := below_alloc B0 (.cells #[.slice A2 y2.length c2, .int .i64 d2] 73)
    have lr := blk_lt K0
    have H3 := Lib.hid (T3.out A2 c2 (W2.alloc (.cells #[.slice A2 y2.length c2, .int .i64 d2] 73)) C2 B0 hl2)
    clear T3
    go_wp2_with fail
    refine H3.out.mono ?_
    rintro e W3 ⟨A3, c3, rfl, hl3, C3, hW3⟩
    simp only at hl3 C3
    replace K0 := blk_below K0 hW3
    replace B0 := below_step B0 hW3
    clear hW3 H3 lr
    replace K0 := blk_alloc K0 (.cells #[.slice A3 y3.length c3, .int .i64 d3] 73)
    replace B0 := below_alloc B0 (.cells #[.slice A3 y3.length c3, .int .i64 d3] 73)
    have lr := blk_lt K0
    have H4 := Lib.hid (T4.out A3 c3 (W3.alloc (.cells #[.slice A3 y3.length c3, .int .i64 d3] 73)) C3 B0 hl3)
    clear T4
    go_wp2_with fail
    refine H4.out.mono ?_
    rintro e W4 ⟨A4, c4, X4, z4, rfl, hl4, C4, hx4, Q4, hW4⟩
    simp only at hl4 C4 hx4 Q4
    replace K0 := blk_below K0 hW4
    replace B0 := below_step B0 hW4
    clear hW4 H4 lr
    replace K0 := blk_alloc K0 (.cells #[.slice A4 y4.length c4, .int .i64 d4] 73)
    replace B0 := below_alloc B0 (.cells #[.slice A4 y4.length c4, .int .i64 d4] 73)
    have lr := blk_lt K0
    have H5 := Lib.hid (T5.out A4 c4 (W4.alloc (.cells #[.slice A4 y4.length c4, .int .i64 d4] 73)) C4 B0 hl4)
    clear T5
    go_wp2_with fail
    refine H5.out.mono ?_
    rintro e W5 ⟨A5, c5, X5, z5, rfl, hl5, C5, hx5, Q5, hW5⟩
    simp only at hl5 C5 hx5 Q5
    replace K0 := blk_below K0 hW5
    have HWR := Lib.hid (blk_lt K0)
    replace B0 := below_step B0 hW5
    clear hW5 H5 lr
    have Kt := blk_new W5 (.cells #[.slice A5 y5.length c5, .int .i64 d5] 73)
    replace K0 := blk_alloc K0 (.cells #[.slice A5 y5.length c5, .int .i64 d5] 73)
    replace B0 := below_alloc B0 (.cells #[.slice A5 y5.length c5, .int .i64 d5] 73)
    have hsz : (W5.alloc (.cells #[.slice A5 y5.length c5, .int .i64 d5] 73)).heap.size = W5.heap.size + 1 := by simp
    have Kx : ((W5.alloc (.cells #[.slice A5 y5.length c5, .int .i64 d5] 73)).alloc (.cells #[.int .i64 a0, .bool (nulF v0), .bool false, .int .i64 (wrap64 v1), .int .i64 (wrap64 v2), .int .i64 (wrap64 v3), .slice X4 x4.length z4, .slice X5 x5.length z5, .int .i64 0, .slice none 0 0, .slice none 0 0] 26)).heap[W5.heap.size + 1]? = some (.cells #[.int .i64 a0, .bool (nulF v0), .bool false, .int .i64 (wrap64 v1), .int .i64 (wrap64 v2), .int .i64 (wrap64 v3), .slice X4 x4.length z4, .slice X5 x5.length z5, .int .i64 0, .slice none 0 0, .slice none 0 0] 26 (0, 0)) := blk_newAt (by simp)
    replace Kt := blk_alloc Kt (.cells #[.int .i64 a0, .bool (nulF v0), .bool false, .int .i64 (wrap64 v1), .int .i64 (wrap64 v2), .int .i64 (wrap64 v3), .slice X4 x4.length z4, .slice X5 x5.length z5, .int .i64 0, .slice none 0 0, .slice none 0 0] 26)
    replace K0 := blk_alloc K0 (.cells #[.int .i64 a0, .bool (nulF v0), .bool false, .int .i64 (wrap64 v1), .int .i64 (wrap64 v2), .int .i64 (wrap64 v3), .slice X4 x4.length z4, .slice X5 x5.length z5, .int .i64 0, .slice none 0 0, .slice none 0 0] 26)
    replace B0 := below_alloc B0 (.cells #[.int .i64 a0, .bool (nulF v0), .bool false, .int .i64 (wrap64 v1), .int .i64 (wrap64 v2), .int .i64 (wrap64 v3), .slice X4 x4.length z4, .slice X5 x5.length z5, .int .i64 0, .slice none 0 0, .slice none 0 0] 26)
    have H6 := Lib.hid (T6.out A5 c5 ((W5.alloc (.cells #[.slice A5 y5.length c5, .int .i64 d5] 73)).alloc (.cells #[.int .i64 a0, .bool (nulF v0), .bool false, .int .i64 (wrap64 v1), .int .i64 (wrap64 v2), .int .i64 (wrap64 v3), .slice X4 x4.length z4, .slice X5 x5.length z5, .int .i64 0, .slice none 0 0, .slice none 0 0] 26)) C5 B0 hl5)
    clear T6 hsz
    have lr := blk_lt Kx
    have lt := blk_lt Kt
    have x2 : ((W5.alloc (.cells #[.slice A5 y5.length c5, .int .i64 d5] 73)).alloc (.cells #[.int .i64 a0, .bool (nulF v0), .bool false, .int .i64 (wrap64 v1), .int .i64 (wrap64 v2), .int .i64 (wrap64 v3), .slice X4 x4.length z4, .slice X5 x5.length z5, .int .i64 0, .slice none 0 0, .slice none 0 0] 26)).cell? ⟨W5.heap.size + 1, 2, none⟩ = some (.bool false) := (blk_cell Kx 2).trans rfl
    go_wp2_with fail
    refine H6.out.mono ?_
    rintro e W6 ⟨A6, c6, X9, z9, X10, z10, rfl, hl6, C6, hx9, Q9, hx10, Q10, hW6⟩
    simp only at hl6 C6 hx9 Q9 hx10 Q10
    replace K0 := blk_below K0 hW6
    replace B0 := below_step B0 hW6
    replace Kx := blk_below Kx hW6
    replace Kt := blk_below Kt hW6
    clear hW6 H6 lr
    have hws : W5.heap.size + 2 ≤ W6.heap.size := by have := blk_lt Kx; omega
    replace K0 := blk_alloc (blk_alloc K0 (.cells #[.slice A6 y6.length c6, .int .i64 d6] 73)) (.cells #[.int .i64 gn, .slice X9 nn.length z9, .slice X10 wp.length z10] 24)
    replace Kx := blk_alloc (blk_alloc Kx (.cells #[.slice A6 y6.length c6, .int .i64 d6] 73)) (.cells #[.int .i64 gn, .slice X9 nn.length z9, .slice X10 wp.length z10] 24)
    replace Kt := blk_alloc (blk_alloc Kt (.cells #[.slice A6 y6.length c6, .int .i64 d6] 73)) (.cells #[.int .i64 gn, .slice X9 nn.length z9, .slice X10 wp.length z10] 24)
    replace B0 := below_alloc (below_alloc B0 (.cells #[.slice A6 y6.length c6, .int .i64 d6] 73)) (.cells #[.int .i64 gn, .slice X9 nn.length z9, .slice X10 wp.length z10] 24)
    clear x2 lt
    have hwr : w.heap.size < W5.heap.size := HWR.out
    have t0_ : ((W6.alloc (.cells #[.slice A6 y6.length c6, .int .i64 d6] 73)).alloc (.cells #[.int .i64 gn, .slice X9 nn.length z9, .slice X10 wp.length z10] 24)).cell? ⟨W5.heap.size, 0, none⟩ = some (.slice A5 y5.length c5) := (blk_cell Kt 0).trans rfl
    have u0_ := blk_frozen Kt 0
    have t1_ : ((W6.alloc (.cells #[.slice A6 y6.length c6, .int .i64 d6] 73)).alloc (.cells #[.int .i64 gn, .slice X9 nn.length z9, .slice X10 wp.length z10] 24)).cell? ⟨W5.heap.size, 1, none⟩ = some (.int .i64 d5) := (blk_cell Kt 1).trans rfl
    have u1_ := blk_frozen Kt 1
    have g8_ : ((W6.alloc (.cells #[.slice A6 y6.length c6, .int .i64 d6] 73)).alloc (.cells #[.int .i64 gn, .slice X9 nn.length z9, .slice X10 wp.length z10] 24)).cell? ⟨W5.heap.size + 1, 8, none⟩ = some (.int .i64 0) := (blk_cell Kx 8).trans rfl
    have i8_ := blk_frozen Kx 8
    have g9_ : ((W6.alloc (.cells #[.slice A6 y6.length c6, .int .i64 d6] 73)).alloc (.cells #[.int .i64 gn, .slice X9 nn.length z9, .slice X10 wp.length z10] 24)).cell? ⟨W5.heap.size + 1, 9, none⟩ = some (.slice none 0 0) := (blk_cell Kx 9).trans rfl
    have i9_ := blk_frozen Kx 9
    have g10_ : ((W6.alloc (.cells #[.slice A6 y6.length c6, .int .i64 d6] 73)).alloc (.cells #[.int .i64 gn, .slice X9 nn.length z9, .slice X10 wp.length z10] 24)).cell? ⟨W5.heap.size + 1, 10, none⟩ = some (.slice none 0 0) := (blk_cell Kx 10).trans rfl
    have i10_ := blk_frozen Kx 10
    have Kt2 : (((((((W6.alloc (.cells #[.slice A6 y6.length c6, .int .i64 d6] 73)).alloc (.cells #[.int .i64 gn, .slice X9 nn.length z9, .slice X10 wp.length z10] 24)).setCell ⟨W5.heap.size, 0, none⟩ (.slice A6 y6.length c6)).setCell ⟨W5.heap.size, 1, none⟩ (.int .i64 d6)).setCell ⟨W5.heap.size + 1, 8, none⟩ (.int .i64 gn)).setCell ⟨W5.heap.size + 1, 9, none⟩ (.slice X9 nn.length z9)).setCell ⟨W5.heap.size + 1, 10, none⟩ (.slice X10 wp.length z10)).heap[W5.heap.size]? = some (.cells #[.slice A6 y6.length c6, .int .i64 d6] 73 (0, 0)) := blk_far (blk_far (blk_far (blk_put (cs := #[.slice A6 y6.length c6, .int .i64 d5]) (blk_put Kt 0 _ rfl) 1 _ rfl) (by show _ ≠ W5.heap.size + 1; omega) _) (by show _ ≠ W5.heap.size + 1; omega) _) (by show _ ≠ W5.heap.size + 1; omega) _
    have Kx2 : (((((((W6.alloc (.cells #[.slice A6 y6.length c6, .int .i64 d6] 73)).alloc (.cells #[.int .i64 gn, .slice X9 nn.length z9, .slice X10 wp.length z10] 24)).setCell ⟨W5.heap.size, 0, none⟩ (.slice A6 y6.length c6)).setCell ⟨W5.heap.size, 1, none⟩ (.int .i64 d6)).setCell ⟨W5.heap.size + 1, 8, none⟩ (.int .i64 gn)).setCell ⟨W5.heap.size + 1, 9, none⟩ (.slice X9 nn.length z9)).setCell ⟨W5.heap.size + 1, 10, none⟩ (.slice X10 wp.length z10)).heap[W5.heap.size + 1]? = some (.cells #[.int .i64 a0, .bool (nulF v0), .bool false, .int .i64 (wrap64 v1), .int .i64 (wrap64 v2), .int .i64 (wrap64 v3), .slice X4 x4.length z4, .slice X5 x5.length z5, .int .i64 gn, .slice X9 nn.length z9, .slice X10 wp.length z10] 26 (0, 0)) := blk_put (cs := #[.int .i64 a0, .bool (nulF v0), .bool false, .int .i64 (wrap64 v1), .int .i64 (wrap64 v2), .int .i64 (wrap64 v3), .slice X4 x4.length z4, .slice X5 x5.length z5, .int .i64 gn, .slice X9 nn.length z9, .slice none 0 0]) (blk_put (cs := #[.int .i64 a0, .bool (nulF v0), .bool false, .int .i64 (wrap64 v1), .int .i64 (wrap64 v2), .int .i64 (wrap64 v3), .slice X4 x4.length z4, .slice X5 x5.length z5, .int .i64 gn, .slice none 0 0, .slice none 0 0]) (blk_put (blk_far (blk_far Kx (by show _ ≠ W5.heap.size; omega) _) (by show _ ≠ W5.heap.size; omega) _) 8 _ rfl) 9 _ rfl) 10 _ rfl
    have K02 : (((((((W6.alloc (.cells #[.slice A6 y6.length c6, .int .i64 d6] 73)).alloc (.cells #[.int .i64 gn, .slice X9 nn.length z9, .slice X10 wp.length z10] 24)).setCell ⟨W5.heap.size, 0, none⟩ (.slice A6 y6.length c6)).setCell ⟨W5.heap.size, 1, none⟩ (.int .i64 d6)).setCell ⟨W5.heap.size + 1, 8, none⟩ (.int .i64 gn)).setCell ⟨W5.heap.size + 1, 9, none⟩ (.slice X9 nn.length z9)).setCell ⟨W5.heap.size + 1, 10, none⟩ (.slice X10 wp.length z10)).heap[w.heap.size]? = some (.cells #[.int .i64 0, .bool false, .bool false, .int .i64 0, .int .i64 0, .int .i64 0, .slice none 0 0, .slice none 0 0, .int .i64 0, .slice none 0 0, .slice none 0 0] 26 (0, 0)) := blk_far (blk_far (blk_far (blk_far (blk_far K0 (by show _ ≠ W5.heap.size; omega) _) (by show _ ≠ W5.heap.size; omega) _) (by show _ ≠ W5.heap.size + 1; omega) _) (by show _ ≠ W5.heap.size + 1; omega) _) (by show _ ≠ W5.heap.size + 1; omega) _
    have B02 : Below w.heap.size w (((((((W6.alloc (.cells #[.slice A6 y6.length c6, .int .i64 d6] 73)).alloc (.cells #[.int .i64 gn, .slice X9 nn.length z9, .slice X10 wp.length z10] 24)).setCell ⟨W5.heap.size, 0, none⟩ (.slice A6 y6.length c6)).setCell ⟨W5.heap.size, 1, none⟩ (.int .i64 d6)).setCell ⟨W5.heap.size + 1, 8, none⟩ (.int .i64 gn)).setCell ⟨W5.heap.size + 1, 9, none⟩ (.slice X9 nn.length z9)).setCell ⟨W5.heap.size + 1, 10, none⟩ (.slice X10 wp.length z10)) := below_set (below_set (below_set (below_set (below_set B0 (by omega)) (by omega)) (by omega)) (by omega)) (by omega)
    have lr := blk_lt Kx
    have lt := blk_lt Kt
    have ne1_ : W5.heap.size ≠ W5.heap.size + 1 := by omega
    have hK := Lib.hid (And.intro Kt2 (And.intro Kx2 (And.intro K02 B02)))
    clear K0 B0 Kx Kt Kt2 Kx2 K02 B02
    go_wp2_with (with_reducible refine (?roundEnd : wpList _ _ _ (⟨some 84, _, _, _, _, _⟩ :: _) _ _))
    refine ?going
    generalize hWX : (((((((W6.alloc (.cells #[.slice A6 y6.length c6, .int .i64 d6] 73)).alloc (.cells #[.int .i64 gn, .slice X9 nn.length z9, .slice X10 wp.length z10] 24)).setCell ⟨W5.heap.size, 0, none⟩ (.slice A6 y6.length c6)).setCell ⟨W5.heap.size, 1, none⟩ (.int .i64 d6)).setCell ⟨W5.heap.size + 1, 8, none⟩ (.int .i64 gn)).setCell ⟨W5.heap.size + 1, 9, none⟩ (.slice X9 nn.length z9)).setCell ⟨W5.heap.size + 1, 10, none⟩ (.slice X10 wp.length z10)) = WX at *
    have HWX := Lib.hid hWX
    obtain ⟨Kt, Kx, K0, B0⟩ := hK.out
    clear hWX hK lr lt t0_ u0_ t1_ u1_ g8_ i8_ g9_ i9_ g10_ i10_
    have HA := Lib.hid (deedboxref24_Version.calls k a0 _ _ _ _ _ X4 z4 x4 X5 z5 x5 gn X9 z9 nn X10 z10 wp again ac WX (Kd.C_below Q4 B0) hx4 (Kd.C_below Q5 B0) hx5 (Kd.C_below Q9 B0) hx9 (Kd.C_below Q10 B0) hx10 hp.out)
    have lx := blk_lt Kx
    have f0_ : WX.cell? ⟨W5.heap.size + 1, 0, none⟩ = some (.int .i64 a0) := (blk_cell Kx 0).trans rfl
    have f1_ : WX.cell? ⟨W5.heap.size + 1, 1, none⟩ = some (.bool (nulF v0)) := (blk_cell Kx 1).trans rfl
    have f2_ : WX.cell? ⟨W5.heap.size + 1, 2, none⟩ = some (.bool false) := (blk_cell Kx 2).trans rfl
    have f3_ : WX.cell? ⟨W5.heap.size + 1, 3, none⟩ = some (.int .i64 (wrap64 v1)) := (blk_cell Kx 3).trans rfl
    have f4_ : WX.cell? ⟨W5.heap.size + 1, 4, none⟩ = some (.int .i64 (wrap64 v2)) := (blk_cell Kx 4).trans rfl
    have f5_ : WX.cell? ⟨W5.heap.size + 1, 5, none⟩ = some (.int .i64 (wrap64 v3)) := (blk_cell Kx 5).trans rfl
    have f6_ : WX.cell? ⟨W5.heap.size + 1, 6, none⟩ = some (.slice X4 x4.length z4) := (blk_cell Kx 6).trans rfl
    have f7_ : WX.cell? ⟨W5.heap.size + 1, 7, none⟩ = some (.slice X5 x5.length z5) := (blk_cell Kx 7).trans rfl
    have f8_ : WX.cell? ⟨W5.heap.size + 1, 8, none⟩ = some (.int .i64 gn) := (blk_cell Kx 8).trans rfl
    have f9_ : WX.cell? ⟨W5.heap.size + 1, 9, none⟩ = some (.slice X9 nn.length z9) := (blk_cell Kx 9).trans rfl
    have f10_ : WX.cell? ⟨W5.heap.size + 1, 10, none⟩ = some (.slice X10 wp.length z10) := (blk_cell Kx 10).trans rfl
    go_wp2_with fail
    refine HA.out.mono ?_
    rintro e WA ⟨va, rfl, RA, hA⟩
    replace Kt := blk_below Kt hA
    replace Kx := blk_below Kx hA
    replace K0 := blk_below K0 hA
    replace B0 := below_step B0 hA
    obtain ⟨AA, cA, rfl, mA, QA⟩ := Kd.R_reads RA
    clear f0_ f1_ f2_ f3_ f4_ f5_ f6_ f7_ f8_ f9_ f10_
    have HD := Lib.hid (doneF_calls k A6 c6 y6 d6 A cap b AA cA again ac c WA (Kd.C_below hr B0) hcap QA mA hE.out)
    clear HA hA RA QA lx
    have lt := blk_lt Kt
    have t0_ : WA.cell? ⟨W5.heap.size, 0, none⟩ = some (.slice A6 y6.length c6) := (blk_cell Kt 0).trans rfl
    have t1_ : WA.cell? ⟨W5.heap.size, 1, none⟩ = some (.int .i64 d6) := (blk_cell Kt 1).trans rfl
    go_wp2_with fail
    refine HD.out.mono ?_
    rintro e WE ⟨rfl, hD⟩
    replace Kx := blk_below Kx hD
    replace K0 := blk_below K0 hD
    replace B0 := below_step B0 hD
    clear HD hD Kt lt t0_ t1_
    have lx := blk_lt Kx
    have lr := blk_lt K0
    have q0_ : WE.cell? ⟨W5.heap.size + 1, 0, none⟩ = some (.int .i64 a0) := (blk_cell Kx 0).trans rfl
    have q1_ : WE.cell? ⟨W5.heap.size + 1, 1, none⟩ = some (.bool (nulF v0)) := (blk_cell Kx 1).trans rfl
    have q2_ : WE.cell? ⟨W5.heap.size + 1, 2, none⟩ = some (.bool false) := (blk_cell Kx 2).trans rfl
    have q3_ : WE.cell? ⟨W5.heap.size + 1, 3, none⟩ = some (.int .i64 (wrap64 v1)) := (blk_cell Kx 3).trans rfl
    have q4_ : WE.cell? ⟨W5.heap.size + 1, 4, none⟩ = some (.int .i64 (wrap64 v2)) := (blk_cell Kx 4).trans rfl
    have q5_ : WE.cell? ⟨W5.heap.size + 1, 5, none⟩ = some (.int .i64 (wrap64 v3)) := (blk_cell Kx 5).trans rfl
    have q6_ : WE.cell? ⟨W5.heap.size + 1, 6, none⟩ = some (.slice X4 x4.length z4) := (blk_cell Kx 6).trans rfl
    have q7_ : WE.cell? ⟨W5.heap.size + 1, 7, none⟩ = some (.slice X5 x5.length z5) := (blk_cell Kx 7).trans rfl
    have q8_ : WE.cell? ⟨W5.heap.size + 1, 8, none⟩ = some (.int .i64 gn) := (blk_cell Kx 8).trans rfl
    have q9_ : WE.cell? ⟨W5.heap.size + 1, 9, none⟩ = some (.slice X9 nn.length z9) := (blk_cell Kx 9).trans rfl
    have q10_ : WE.cell? ⟨W5.heap.size + 1, 10, none⟩ = some (.slice X10 wp.length z10) := (blk_cell Kx 10).trans rfl
    have p0_ : WE.cell? ⟨w.heap.size, 0, none⟩ = some (.int .i64 0) := (blk_cell K0 0).trans rfl
    have s0_ := blk_frozen K0 0
    have p1_ : WE.cell? ⟨w.heap.size, 1, none⟩ = some (.bool false) := (blk_cell K0 1).trans rfl
    have s1_ := blk_frozen K0 1
    have p2_ : WE.cell? ⟨w.heap.size, 2, none⟩ = some (.bool false) := (blk_cell K0 2).trans rfl
    have s2_ := blk_frozen K0 2
    have p3_ : WE.cell? ⟨w.heap.size, 3, none⟩ = some (.int .i64 0) := (blk_cell K0 3).trans rfl
    have s3_ := blk_frozen K0 3
    have p4_ : WE.cell? ⟨w.heap.size, 4, none⟩ = some (.int .i64 0) := (blk_cell K0 4).trans rfl
    have s4_ := blk_frozen K0 4
    have p5_ : WE.cell? ⟨w.heap.size, 5, none⟩ = some (.int .i64 0) := (blk_cell K0 5).trans rfl
    have s5_ := blk_frozen K0 5
    have p6_ : WE.cell? ⟨w.heap.size, 6, none⟩ = some (.slice none 0 0) := (blk_cell K0 6).trans rfl
    have s6_ := blk_frozen K0 6
    have p7_ : WE.cell? ⟨w.heap.size, 7, none⟩ = some (.slice none 0 0) := (blk_cell K0 7).trans rfl
    have s7_ := blk_frozen K0 7
    have p8_ : WE.cell? ⟨w.heap.size, 8, none⟩ = some (.int .i64 0) := (blk_cell K0 8).trans rfl
    have s8_ := blk_frozen K0 8
    have p9_ : WE.cell? ⟨w.heap.size, 9, none⟩ = some (.slice none 0 0) := (blk_cell K0 9).trans rfl
    have s9_ := blk_frozen K0 9
    have p10_ : WE.cell? ⟨w.heap.size, 10, none⟩ = some (.slice none 0 0) := (blk_cell K0 10).trans rfl
    have s10_ := blk_frozen K0 10
    have ne2_ : w.heap.size ≠ W5.heap.size + 1 := by have := HWR.out; omega
    have ne3_ : W5.heap.size + 1 ≠ w.heap.size := by omega
    have bel := Lib.hid (show ∀ (z0_ z1_ z2_ z3_ z4_ z5_ z6_ z7_ z8_ z9_ z10_ : Value), Below w.heap.size w (((((((((((WE.setCell ⟨w.heap.size, 0, none⟩ z0_).setCell ⟨w.heap.size, 1, none⟩ z1_).setCell ⟨w.heap.size, 2, none⟩ z2_).setCell ⟨w.heap.size, 3, none⟩ z3_).setCell ⟨w.heap.size, 4, none⟩ z4_).setCell ⟨w.heap.size, 5, none⟩ z5_).setCell ⟨w.heap.size, 6, none⟩ z6_).setCell ⟨w.heap.size, 7, none⟩ z7_).setCell ⟨w.heap.size, 8, none⟩ z8_).setCell ⟨w.heap.size, 9, none⟩ z9_).setCell ⟨w.heap.size, 10, none⟩ z10_) from fun z0_ z1_ z2_ z3_ z4_ z5_ z6_ z7_ z8_ z9_ z10_ => (below_set (below_set (below_set (below_set (below_set (below_set (below_set (below_set (below_set (below_set (below_set B0 (Nat.le_refl _)) (Nat.le_refl _)) (Nat.le_refl _)) (Nat.le_refl _)) (Nat.le_refl _)) (Nat.le_refl _)) (Nat.le_refl _)) (Nat.le_refl _)) (Nat.le_refl _)) (Nat.le_refl _)) (Nat.le_refl _)))
    have K0 := Lib.hid K0
    clear B0 Kx
    by_cases h0 : c = 0
    · subst h0
      have h := HR.out
      simp only [if_true] at h
      subst h
      go_wp2_with fail
      refine bodyPost_ret (results_ct rfl _ _ w.heap.size 26 #[.int .i64 a0, .bool (nulF v0), .bool false, .int .i64 (wrap64 v1), .int .i64 (wrap64 v2), .int .i64 (wrap64 v3), .slice X4 x4.length z4, .slice X5 x5.length z5, .int .i64 gn, .slice X9 nn.length z9, .slice X10 wp.length z10] (0, 0) _ rfl ?_ Tryd.underlying26 rfl (by kernel_rfl)) rfl ?_
      · refine blk_put (cs := #[.int .i64 a0, .bool (nulF v0), .bool false, .int .i64 (wrap64 v1), .int .i64 (wrap64 v2), .int .i64 (wrap64 v3), .slice X4 x4.length z4, .slice X5 x5.length z5, .int .i64 gn, .slice X9 nn.length z9, .slice none 0 0]) ?_ 10 _ rfl
        refine blk_put (cs := #[.int .i64 a0, .bool (nulF v0), .bool false, .int .i64 (wrap64 v1), .int .i64 (wrap64 v2), .int .i64 (wrap64 v3), .slice X4 x4.length z4, .slice X5 x5.length z5, .int .i64 gn, .slice none 0 0, .slice none 0 0]) ?_ 9 _ rfl
        refine blk_put (cs := #[.int .i64 a0, .bool (nulF v0), .bool false, .int .i64 (wrap64 v1), .int .i64 (wrap64 v2), .int .i64 (wrap64 v3), .slice X4 x4.length z4, .slice X5 x5.length z5, .int .i64 0, .slice none 0 0, .slice none 0 0]) ?_ 8 _ rfl
        refine blk_put (cs := #[.int .i64 a0, .bool (nulF v0), .bool false, .int .i64 (wrap64 v1), .int .i64 (wrap64 v2), .int .i64 (wrap64 v3), .slice X4 x4.length z4, .slice none 0 0, .int .i64 0, .slice none 0 0, .slice none 0 0]) ?_ 7 _ rfl
        refine blk_put (cs := #[.int .i64 a0, .bool (nulF v0), .bool false, .int .i64 (wrap64 v1), .int .i64 (wrap64 v2), .int .i64 (wrap64 v3), .slice none 0 0, .slice none 0 0, .int .i64 0, .slice none 0 0, .slice none 0 0]) ?_ 6 _ rfl
        refine blk_put (cs := #[.int .i64 a0, .bool (nulF v0), .bool false, .int .i64 (wrap64 v1), .int .i64 (wrap64 v2), .int .i64 0, .slice none 0 0, .slice none 0 0, .int .i64 0, .slice none 0 0, .slice none 0 0]) ?_ 5 _ rfl
        refine blk_put (cs := #[.int .i64 a0, .bool (nulF v0), .bool false, .int .i64 (wrap64 v1), .int .i64 0, .int .i64 0, .slice none 0 0, .slice none 0 0, .int .i64 0, .slice none 0 0, .slice none 0 0]) ?_ 4 _ rfl
        refine blk_put (cs := #[.int .i64 a0, .bool (nulF v0), .bool false, .int .i64 0, .int .i64 0, .int .i64 0, .slice none 0 0, .slice none 0 0, .int .i64 0, .slice none 0 0, .slice none 0 0]) ?_ 3 _ rfl
        refine blk_put (cs := #[.int .i64 a0, .bool (nulF v0), .bool false, .int .i64 0, .int .i64 0, .int .i64 0, .slice none 0 0, .slice none 0 0, .int .i64 0, .slice none 0 0, .slice none 0 0]) ?_ 2 _ rfl
        refine blk_put (cs := #[.int .i64 a0, .bool false, .bool false, .int .i64 0, .int .i64 0, .int .i64 0, .slice none 0 0, .slice none 0 0, .int .i64 0, .slice none 0 0, .slice none 0 0]) ?_ 1 _ rfl
        exact blk_put K0.out 0 _ rfl
      · exact ⟨_, _, _, _, _, _, _, _, rfl, hx4, Q4, hx5, Q5, hx9, Q9, hx10, Q10, bel.out _ _ _ _ _ _ _ _ _ _ _⟩
    · have t1 : (c != 0) = true := by simpa using h0
      have h := HR.out
      rw [if_neg h0] at h
      subst h
      go_wp2_with fail
      refine bodyPost_ret (results_ct rfl _ _ w.heap.size 26 #[.int .i64 0, .bool false, .bool false, .int .i64 0, .int .i64 0, .int .i64 0, .slice none 0 0, .slice none 0 0, .int .i64 0, .slice none 0 0, .slice none 0 0] (0, 0) _ rfl ?_ Tryd.underlying26 rfl (by kernel_rfl)) rfl ?_
      · refine blk_put (cs := #[.int .i64 0, .bool false, .bool false, .int .i64 0, .int .i64 0, .int .i64 0, .slice none 0 0, .slice none 0 0, .int .i64 0, .slice none 0 0, .slice none 0 0]) ?_ 10 _ rfl
        refine blk_put (cs := #[.int .i64 0, .bool false, .bool false, .int .i64 0, .int .i64 0, .int .i64 0, .slice none 0 0, .slice none 0 0, .int .i64 0, .slice none 0 0, .slice none 0 0]) ?_ 9 _ rfl
        refine blk_put (cs := #[.int .i64 0, .bool false, .bool false, .int .i64 0, .int .i64 0, .int .i64 0, .slice none 0 0, .slice none 0 0, .int .i64 0, .slice none 0 0, .slice none 0 0]) ?_ 8 _ rfl
        refine blk_put (cs := #[.int .i64 0, .bool false, .bool false, .int .i64 0, .int .i64 0, .int .i64 0, .slice none 0 0, .slice none 0 0, .int .i64 0, .slice none 0 0, .slice none 0 0]) ?_ 7 _ rfl
        refine blk_put (cs := #[.int .i64 0, .bool false, .bool false, .int .i64 0, .int .i64 0, .int .i64 0, .slice none 0 0, .slice none 0 0, .int .i64 0, .slice none 0 0, .slice none 0 0]) ?_ 6 _ rfl
        refine blk_put (cs := #[.int .i64 0, .bool false, .bool false, .int .i64 0, .int .i64 0, .int .i64 0, .slice none 0 0, .slice none 0 0, .int .i64 0, .slice none 0 0, .slice none 0 0]) ?_ 5 _ rfl
        refine blk_put (cs := #[.int .i64 0, .bool false, .bool false, .int .i64 0, .int .i64 0, .int .i64 0, .slice none 0 0, .slice none 0 0, .int .i64 0, .slice none 0 0, .slice none 0 0]) ?_ 4 _ rfl
        refine blk_put (cs := #[.int .i64 0, .bool false, .bool false, .int .i64 0, .int .i64 0, .int .i64 0, .slice none 0 0, .slice none 0 0, .int .i64 0, .slice none 0 0, .slice none 0 0]) ?_ 3 _ rfl
        refine blk_put (cs := #[.int .i64 0, .bool false, .bool false, .int .i64 0, .int .i64 0, .int .i64 0, .slice none 0 0, .slice none 0 0, .int .i64 0, .slice none 0 0, .slice none 0 0]) ?_ 2 _ rfl
        refine blk_put (cs := #[.int .i64 0, .bool false, .bool false, .int .i64 0, .int .i64 0, .int .i64 0, .slice none 0 0, .slice none 0 0, .int .i64 0, .slice none 0 0, .slice none 0 0]) ?_ 1 _ rfl
        exact blk_put K0.out 0 _ rfl
      · exact ⟨none, 0, none, 0, none, 0, none, 0, rfl, Nat.le_refl _, Kd.C_nil _ _, Nat.le_refl _, Kd.C_nil _ _, Nat.le_refl _, Kd.C_nil _ _, Nat.le_refl _, Kd.C_nil _ _, bel.out _ _ _ _ _ _ _ _ _ _ _⟩
  · rw [if_neg hl] at h
    cases h
theorem rV_calls (k : Nat) (a0 : Int) (A : Option Addr) (cap : Nat) (b : List Int) (r : Int × Bool × Bool × Int × Int × Int × List Int × List Int × Int × List Int × List Int × Int) (w : World) (hr : Kd.C (Kd.int .u8) w A b.length b) (hcap : b.length ≤ cap) (h : deedboxref24_ReadVersion.f k a0 b = some r) :
    Calls Tryd.prog 12 #[.int .i64 a0, .slice A b.length cap] w (rVP w r) := by
  cases hm : markF (rV0 b).1 with
  | true => exact rV_mark k a0 A cap b r w hm hr hcap h
  | false => exact rV_lock k a0 A cap b r w hm hr hcap h
end Go.Proofs.YtmciigdfhikdnaaDoor
