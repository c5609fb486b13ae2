/- What the reference reads (uploads), walked by hand (out of wip/row/mkrefread.py): each function comes to what its plain Lean function beside it tells; no condition beside those in each theorem. -/
import Derived.Test.YtmciigdfhikdnaaDoorRef2
import Derived.Test.YtmciigdfhikdnaaDoorRefU
namespace Go.Proofs.YtmciigdfhikdnaaDoor
open Go.RowKit Go.Proofs.YtmciigdfhikdnaaDoorW.PrintWords Go.Proofs.YtmciigdfhikdnaaDoorW.PrintLast Go.Proofs.YtmciigdfhikdnaaDoorW.PrintMore Go.Proofs.YtmciigdfhikdnaaDoor.Rw Go.Proofs.YtmciigdfhikdnaaDoor.Rf
set_option linter.unusedVariables false
set_option linter.unusedSimpArgs false
def rU0 (b : List Int) := rtextR b 0 1 40
def rU1 (b : List Int) := rtextR (rU0 b).2.1 (rU0 b).2.2 1 24
def rU2 (b : List Int) := rlockR (rU1 b).2.1 (rU1 b).2.2
def deedboxref24_ReadUpload.f (k : Nat) (a0 : Int) (b : List Int) : Option (Int × ByteArray × List Int × Int × List Int × List Int × Int) :=
  if b.length ≤ 1000000 then (deedboxref24_Upload.f k a0 (strOfNums (rU0 b).1) (rU1 b).1 (rU2 b).1 (rU2 b).2.1 (rU2 b).2.2.1).bind fun p => (doneR k (rU2 b).2.2.2.1 (rU2 b).2.2.2.2 b p.1 p.2).bind fun c => some (if c = 0 then (a0, strOfNums (rU0 b).1, (rU1 b).1, (rU2 b).1, (rU2 b).2.1, (rU2 b).2.2.1, 0) else (0, ⟨#[]⟩, [], 0, [], [], c)) else none
theorem deedboxref24_ReadUpload.mono : ∀ a0 b k, LeO (deedboxref24_ReadUpload.f k a0 b) (deedboxref24_ReadUpload.f (k + 1) a0 b) := by
  intro a0 b k
  unfold deedboxref24_ReadUpload.f
  exact LeO.ite (LeO.bind (deedboxref24_Upload.mono _ _ _ _ _ _ _) fun _ => LeO.bind (doneR_mono _ _ _ _ _ _) fun _ => LeO.refl _) (LeO.none _)
def rUP (w : World) (r : Int × ByteArray × List Int × Int × List Int × List Int × Int) (e : Ending) (w' : World) : Prop :=
  ∃ E2 e2 E4 e4 E5 e5, e = .returned (.tuple #[.agg #[.int .i64 r.1, .string r.2.1, .slice E2 r.2.2.1.length e2, .int .i64 r.2.2.2.1, .slice E4 r.2.2.2.2.1.length e4, .slice E5 r.2.2.2.2.2.1.length e5], .int .i64 r.2.2.2.2.2.2]) ∧ r.2.2.1.length ≤ e2 ∧ Kd.C (Kd.int .u8) w E2 r.2.2.1.length r.2.2.1 ∧ r.2.2.2.2.1.length ≤ e4 ∧ Kd.C (Kd.int .u8) w E4 r.2.2.2.2.1.length r.2.2.2.2.1 ∧ r.2.2.2.2.2.1.length ≤ e5 ∧ Kd.C (Kd.int .u8) w E5 r.2.2.2.2.2.1.length r.2.2.2.2.2.1 ∧ Below w.heap.size w w'
set_option maxRecDepth 100000 in
set_option maxHeartbeats 4000000 in
theorem rU_calls (k : Nat) (a0 : Int) (A : Option Addr) (cap : Nat) (b : List Int) (r : Int × ByteArray × List Int × Int × List Int × List Int × Int) (w : World) (hr : Kd.C (Kd.int .u8) w A b.length b) (hcap : b.length ≤ cap) (h : deedboxref24_ReadUpload.f k a0 b = some r) :
    Calls Tryd.prog 22 #[.int .i64 a0, .slice A b.length cap] w (rUP w r) := by
  unfold deedboxref24_ReadUpload.f at h
  by_cases hl : b.length ≤ 1000000
  · rw [if_pos hl] at h
    obtain ⟨p, hp, h⟩ := Option.bind_eq_some_iff.1 h
    obtain ⟨c, hE, h⟩ := Option.bind_eq_some_iff.1 h
    have HR := Lib.hid (Option.some.inj h)
    clear h
    have m0 := rtextR_len b 0 1 40
    have e0_ : rtextR b 0 1 40 = rU0 b := rfl
    rw [e0_] at m0
    have m1 := rtextR_len (rU0 b).2.1 (rU0 b).2.2 1 24
    have e1_ : rtextR (rU0 b).2.1 (rU0 b).2.2 1 24 = rU1 b := rfl
    rw [e1_] at m1
    have m2 := rlockR_len (rU1 b).2.1 (rU1 b).2.2 
    have e2_ : rlockR (rU1 b).2.1 (rU1 b).2.2  = rU2 b := rfl
    rw [e2_] at m2
    have T0 := fun (A : Option Addr) (cap : Nat) (W : World) h1 h2 h3 => TextF_calls A cap b 0 1 40 (by decide) (by decide) w W h1 h2 h3 (by omega)
    rw [e0_] at T0
    have T1 := fun (A : Option Addr) (cap : Nat) (W : World) h1 h2 h3 => TextF_calls A cap (rU0 b).2.1 (rU0 b).2.2 1 24 (by decide) (by decide) w W h1 h2 h3 (by omega)
    rw [e1_] at T1
    have T2 := fun (A : Option Addr) (cap : Nat) (W : World) h1 h2 h3 => LockF_calls A cap (rU1 b).2.1 (rU1 b).2.2 w W h1 h2 h3 (by omega)
    rw [e2_] at T2
    clear e0_ m0 e1_ m1 e2_ m2
    generalize rU0 b = s0 at *
    generalize rU1 b = s1 at *
    generalize rU2 b = s2 at *
    obtain ⟨x0, y0, d0⟩ := s0
    obtain ⟨x1, y1, d1⟩ := s1
    obtain ⟨gn, nn, wp, y2, d2⟩ := s2
    simp only at hp hE HR T0 T1 T2
    have T0 := Lib.hid T0
    have T1 := Lib.hid T1
    have T2 := Lib.hid T2
    obtain ⟨again, ac⟩ := p
    simp only at hE
    have hp := Lib.hid hp
    have hE := Lib.hid hE
    have hu44 := Tryd.underlying44
    have hu73 := Tryd.underlying73
    have hu24 := Tryd.underlying24
    have K0 := blk_new w (.cells #[.int .i64 0, .string ⟨#[]⟩, .slice none 0 0, .int .i64 0, .slice none 0 0, .slice none 0 0] 44)
    have B0 := below_alloc (Below.refl w.heap.size w) (.cells #[.int .i64 0, .string ⟨#[]⟩, .slice none 0 0, .int .i64 0, .slice none 0 0, .slice none 0 0] 44)
    have H0 := Lib.hid (T0.out A cap (w.alloc (.cells #[.int .i64 0, .string ⟨#[]⟩, .slice none 0 0, .int .i64 0, .slice none 0 0, .slice none 0 0] 44)) hr B0 hcap)
    have lr := blk_lt K0
    clear T0
    go_enter Tryd.func22, Tryd.ntmps22
    go_wp2_with fail
    refine H0.out.mono ?_
    rintro e W0 ⟨A0, c0, X0, z0, rfl, hl0, C0, hx0, Q0, hW0⟩
    simp only at hl0 C0 hx0 Q0
    replace K0 := blk_below K0 hW0
    replace B0 := below_step B0 hW0
    clear hW0 H0 lr
    replace K0 := blk_alloc K0 (.cells #[.slice A0 y0.length c0, .int .i64 d0] 73)
    replace B0 := below_alloc B0 (.cells #[.slice A0 y0.length c0, .int .i64 d0] 73)
    have lr := blk_lt K0
    have H1 := Lib.hid (T1.out A0 c0 (W0.alloc (.cells #[.slice A0 y0.length c0, .int .i64 d0] 73)) C0 B0 hl0)
    clear T1
    go_wp2_with fail
    refine H1.out.mono ?_
    rintro e W1 ⟨A1, c1, X1, z1, rfl, hl1, C1, hx1, Q1, hW1⟩
    simp only at hl1 C1 hx1 Q1
    replace K0 := blk_below K0 hW1
    replace B0 := below_step B0 hW1
    clear hW1 H1 lr
    replace K0 := blk_alloc K0 (.cells #[.slice A1 y1.length c1, .int .i64 d1] 73)
    replace B0 := below_alloc B0 (.cells #[.slice A1 y1.length c1, .int .i64 d1] 73)
    have lr := blk_lt K0
    have H2 := Lib.hid (T2.out A1 c1 (W1.alloc (.cells #[.slice A1 y1.length c1, .int .i64 d1] 73)) C1 B0 hl1)
    clear T2
    go_wp2_with fail
    refine H2.out.mono ?_
    rintro e W2 ⟨A2, c2, X9, z9, X10, z10, rfl, hl2, C2, hx9, Q9, hx10, Q10, hW2⟩
    simp only at hl2 C2 hx9 Q9 hx10 Q10
    replace K0 := blk_below K0 hW2
    have HWR := Lib.hid (blk_lt K0)
    replace B0 := below_step B0 hW2
    clear hW2 H2 lr
    have Kt := blk_new W2 (.cells #[.slice A2 y2.length c2, .int .i64 d2] 73)
    replace K0 := blk_alloc K0 (.cells #[.slice A2 y2.length c2, .int .i64 d2] 73)
    replace B0 := below_alloc B0 (.cells #[.slice A2 y2.length c2, .int .i64 d2] 73)
    have hsz : (W2.alloc (.cells #[.slice A2 y2.length c2, .int .i64 d2] 73)).heap.size = W2.heap.size + 1 := by simp
    replace Kt := blk_alloc Kt (.cells #[.int .i64 gn, .slice X9 nn.length z9, .slice X10 wp.length z10] 24)
    replace K0 := blk_alloc K0 (.cells #[.int .i64 gn, .slice X9 nn.length z9, .slice X10 wp.length z10] 24)
    replace B0 := below_alloc B0 (.cells #[.int .i64 gn, .slice X9 nn.length z9, .slice X10 wp.length z10] 24)
    have kc := fun (W : World) (hW : W = ((W2.alloc (.cells #[.slice A2 y2.length c2, .int .i64 d2] 73)).alloc (.cells #[.int .i64 gn, .slice X9 nn.length z9, .slice X10 wp.length z10] 24))) => hW ▸ Kd.C_string (P := Tryd.prog) (src := 22) (dst := 9) (e := 5) (c := z0) Tryd.underlying22 Tryd.underlying5 Tryd.underlying9 (Kd.C_below Q0 B0)
    have kc := kc _ rfl
    have Kx : (((W2.alloc (.cells #[.slice A2 y2.length c2, .int .i64 d2] 73)).alloc (.cells #[.int .i64 gn, .slice X9 nn.length z9, .slice X10 wp.length z10] 24)).alloc (.cells #[.int .i64 a0, .string (strOfNums x0), .slice X1 x1.length z1, .int .i64 gn, .slice X9 nn.length z9, .slice X10 wp.length z10] 44)).heap[W2.heap.size + 2]? = some (.cells #[.int .i64 a0, .string (strOfNums x0), .slice X1 x1.length z1, .int .i64 gn, .slice X9 nn.length z9, .slice X10 wp.length z10] 44 (0, 0)) := blk_newAt (by simp)
    replace Kt := blk_alloc Kt (.cells #[.int .i64 a0, .string (strOfNums x0), .slice X1 x1.length z1, .int .i64 gn, .slice X9 nn.length z9, .slice X10 wp.length z10] 44)
    replace K0 := blk_alloc K0 (.cells #[.int .i64 a0, .string (strOfNums x0), .slice X1 x1.length z1, .int .i64 gn, .slice X9 nn.length z9, .slice X10 wp.length z10] 44)
    replace B0 := below_alloc B0 (.cells #[.int .i64 a0, .string (strOfNums x0), .slice X1 x1.length z1, .int .i64 gn, .slice X9 nn.length z9, .slice X10 wp.length z10] 44)
    have HA := Lib.hid (deedboxref24_Upload.calls k a0 _ X1 z1 x1 gn X9 z9 nn X10 z10 wp again ac (((W2.alloc (.cells #[.slice A2 y2.length c2, .int .i64 d2] 73)).alloc (.cells #[.int .i64 gn, .slice X9 nn.length z9, .slice X10 wp.length z10] 24)).alloc (.cells #[.int .i64 a0, .string (strOfNums x0), .slice X1 x1.length z1, .int .i64 gn, .slice X9 nn.length z9, .slice X10 wp.length z10] 44)) (Kd.C_below Q1 B0) hx1 (Kd.C_below Q9 B0) hx9 (Kd.C_below Q10 B0) hx10 hp.out)
    have lx := blk_lt Kx
    go_wp2_with fail
    refine HA.out.mono ?_
    rintro e WA ⟨va, rfl, RA, hA⟩
    replace Kt := blk_below Kt hA
    replace Kx := blk_below Kx hA
    replace K0 := blk_below K0 hA
    replace B0 := below_step B0 hA
    obtain ⟨AA, cA, rfl, mA, QA⟩ := Kd.R_reads RA
    have HD := Lib.hid (doneF_calls k A2 c2 y2 d2 A cap b AA cA again ac c WA (Kd.C_below hr B0) hcap QA mA hE.out)
    clear HA hA RA QA lx
    have lt := blk_lt Kt
    have t0_ : WA.cell? ⟨W2.heap.size, 0, none⟩ = some (.slice A2 y2.length c2) := (blk_cell Kt 0).trans rfl
    have t1_ : WA.cell? ⟨W2.heap.size, 1, none⟩ = some (.int .i64 d2) := (blk_cell Kt 1).trans rfl
    go_wp2_with fail
    refine HD.out.mono ?_
    rintro e WE ⟨rfl, hD⟩
    replace Kx := blk_below Kx hD
    replace K0 := blk_below K0 hD
    replace B0 := below_step B0 hD
    clear HD hD Kt lt t0_ t1_
    have lx := blk_lt Kx
    have lr := blk_lt K0
    have q0_ : WE.cell? ⟨W2.heap.size + 2, 0, none⟩ = some (.int .i64 a0) := (blk_cell Kx 0).trans rfl
    have q1_ : WE.cell? ⟨W2.heap.size + 2, 1, none⟩ = some (.string (strOfNums x0)) := (blk_cell Kx 1).trans rfl
    have q2_ : WE.cell? ⟨W2.heap.size + 2, 2, none⟩ = some (.slice X1 x1.length z1) := (blk_cell Kx 2).trans rfl
    have q3_ : WE.cell? ⟨W2.heap.size + 2, 3, none⟩ = some (.int .i64 gn) := (blk_cell Kx 3).trans rfl
    have q4_ : WE.cell? ⟨W2.heap.size + 2, 4, none⟩ = some (.slice X9 nn.length z9) := (blk_cell Kx 4).trans rfl
    have q5_ : WE.cell? ⟨W2.heap.size + 2, 5, none⟩ = some (.slice X10 wp.length z10) := (blk_cell Kx 5).trans rfl
    have p0_ : WE.cell? ⟨w.heap.size, 0, none⟩ = some (.int .i64 0) := (blk_cell K0 0).trans rfl
    have s0_ := blk_frozen K0 0
    have p1_ : WE.cell? ⟨w.heap.size, 1, none⟩ = some (.string ⟨#[]⟩) := (blk_cell K0 1).trans rfl
    have s1_ := blk_frozen K0 1
    have p2_ : WE.cell? ⟨w.heap.size, 2, none⟩ = some (.slice none 0 0) := (blk_cell K0 2).trans rfl
    have s2_ := blk_frozen K0 2
    have p3_ : WE.cell? ⟨w.heap.size, 3, none⟩ = some (.int .i64 0) := (blk_cell K0 3).trans rfl
    have s3_ := blk_frozen K0 3
    have p4_ : WE.cell? ⟨w.heap.size, 4, none⟩ = some (.slice none 0 0) := (blk_cell K0 4).trans rfl
    have s4_ := blk_frozen K0 4
    have p5_ : WE.cell? ⟨w.heap.size, 5, none⟩ = some (.slice none 0 0) := (blk_cell K0 5).trans rfl
    have s5_ := blk_frozen K0 5
    have ne2_ : w.heap.size ≠ W2.heap.size + 2 := by have := HWR.out; omega
    have ne3_ : W2.heap.size + 2 ≠ w.heap.size := by omega
    have bel := Lib.hid (show ∀ (z0_ z1_ z2_ z3_ z4_ z5_ : Value), Below w.heap.size w ((((((WE.setCell ⟨w.heap.size, 0, none⟩ z0_).setCell ⟨w.heap.size, 1, none⟩ z1_).setCell ⟨w.heap.size, 2, none⟩ z2_).setCell ⟨w.heap.size, 3, none⟩ z3_).setCell ⟨w.heap.size, 4, none⟩ z4_).setCell ⟨w.heap.size, 5, none⟩ z5_) from fun z0_ z1_ z2_ z3_ z4_ z5_ => (below_set (below_set (below_set (below_set (below_set (below_set B0 (Nat.le_refl _)) (Nat.le_refl _)) (Nat.le_refl _)) (Nat.le_refl _)) (Nat.le_refl _)) (Nat.le_refl _)))
    have K0 := Lib.hid K0
    clear B0 Kx
    by_cases h0 : c = 0
    · subst h0
      have h := HR.out
      simp only [if_true] at h
      subst h
      go_wp2_with fail
      refine bodyPost_ret (results_ct rfl _ _ w.heap.size 44 #[.int .i64 a0, .string (strOfNums x0), .slice X1 x1.length z1, .int .i64 gn, .slice X9 nn.length z9, .slice X10 wp.length z10] (0, 0) _ rfl ?_ Tryd.underlying44 rfl (by kernel_rfl)) rfl ?_
      · refine blk_put (cs := #[.int .i64 a0, .string (strOfNums x0), .slice X1 x1.length z1, .int .i64 gn, .slice X9 nn.length z9, .slice none 0 0]) ?_ 5 _ rfl
        refine blk_put (cs := #[.int .i64 a0, .string (strOfNums x0), .slice X1 x1.length z1, .int .i64 gn, .slice none 0 0, .slice none 0 0]) ?_ 4 _ rfl
        refine blk_put (cs := #[.int .i64 a0, .string (strOfNums x0), .slice X1 x1.length z1, .int .i64 0, .slice none 0 0, .slice none 0 0]) ?_ 3 _ rfl
        refine blk_put (cs := #[.int .i64 a0, .string (strOfNums x0), .slice none 0 0, .int .i64 0, .slice none 0 0, .slice none 0 0]) ?_ 2 _ rfl
        refine blk_put (cs := #[.int .i64 a0, .string ⟨#[]⟩, .slice none 0 0, .int .i64 0, .slice none 0 0, .slice none 0 0]) ?_ 1 _ rfl
        exact blk_put K0.out 0 _ rfl
      · exact ⟨_, _, _, _, _, _, rfl, hx1, Q1, hx9, Q9, hx10, Q10, bel.out _ _ _ _ _ _⟩
    · have t1 : (c != 0) = true := by simpa using h0
      have h := HR.out
      rw [if_neg h0] at h
      subst h
      go_wp2_with fail
      refine bodyPost_ret (results_ct rfl _ _ w.heap.size 44 #[.int .i64 0, .string ⟨#[]⟩, .slice none 0 0, .int .i64 0, .slice none 0 0, .slice none 0 0] (0, 0) _ rfl ?_ Tryd.underlying44 rfl (by kernel_rfl)) rfl ?_
      · refine blk_put (cs := #[.int .i64 0, .string ⟨#[]⟩, .slice none 0 0, .int .i64 0, .slice none 0 0, .slice none 0 0]) ?_ 5 _ rfl
        refine blk_put (cs := #[.int .i64 0, .string ⟨#[]⟩, .slice none 0 0, .int .i64 0, .slice none 0 0, .slice none 0 0]) ?_ 4 _ rfl
        refine blk_put (cs := #[.int .i64 0, .string ⟨#[]⟩, .slice none 0 0, .int .i64 0, .slice none 0 0, .slice none 0 0]) ?_ 3 _ rfl
        refine blk_put (cs := #[.int .i64 0, .string ⟨#[]⟩, .slice none 0 0, .int .i64 0, .slice none 0 0, .slice none 0 0]) ?_ 2 _ rfl
        refine blk_put (cs := #[.int .i64 0, .string ⟨#[]⟩, .slice none 0 0, .int .i64 0, .slice none 0 0, .slice none 0 0]) ?_ 1 _ rfl
        exact blk_put K0.out 0 _ rfl
      · exact ⟨none, 0, none, 0, none, 0, rfl, Nat.le_refl _, Kd.C_nil _ _, Nat.le_refl _, Kd.C_nil _ _, Nat.le_refl _, Kd.C_nil _ _, bel.out _ _ _ _ _ _⟩
  · rw [if_neg hl] at h
    cases h
end Go.Proofs.YtmciigdfhikdnaaDoor
