/- What the reference reads (parts), walked by hand (out of wip/row/mkrefread.py): each function comes to what its plain Lean function beside it tells; no condition beside those in each theorem. -/
import Derived.Test.YtmciigdfhikdnaaDoorRef2
import Derived.Test.YtmciigdfhikdnaaDoorRfx1
namespace Go.Proofs.YtmciigdfhikdnaaDoor
open Go.RowKit Go.Proofs.YtmciigdfhikdnaaDoorW.PrintWords Go.Proofs.YtmciigdfhikdnaaDoorW.PrintLast Go.Proofs.YtmciigdfhikdnaaDoorW.PrintMore Go.Proofs.YtmciigdfhikdnaaDoor.Rw Go.Proofs.YtmciigdfhikdnaaDoor.Rf
set_option linter.unusedVariables false
set_option linter.unusedSimpArgs false
def rP0 (b : List Int) := rnumR b 0 6
def rP1 (b : List Int) := rnumR (rP0 b).2.1 (rP0 b).2.2 2
def rP2 (b : List Int) := rnumR (rP1 b).2.1 (rP1 b).2.2 4
def deedboxref24_ReadPiece.f (k : Nat) (a0 : Int) (b : List Int) : Option (Int × Int × Int × Int × Int) :=
  if b.length ≤ 1000000 then (deedboxref24_Piece.f k a0 (wrap64 (rP0 b).1) (wrap64 (rP1 b).1) (wrap64 (rP2 b).1)).bind fun p => (doneR k (rP2 b).2.1 (rP2 b).2.2 b p.1 p.2).bind fun c => some (if c = 0 then (a0, wrap64 (rP0 b).1, wrap64 (rP1 b).1, wrap64 (rP2 b).1, 0) else (0, 0, 0, 0, c)) else none
theorem deedboxref24_ReadPiece.mono : ∀ a0 b k, LeO (deedboxref24_ReadPiece.f k a0 b) (deedboxref24_ReadPiece.f (k + 1) a0 b) := by
  intro a0 b k
  unfold deedboxref24_ReadPiece.f
  exact LeO.ite (LeO.bind (deedboxref24_Piece.mono _ _ _ _ _) fun _ => LeO.bind (doneR_mono _ _ _ _ _ _) fun _ => LeO.refl _) (LeO.none _)
def rPP (w : World) (r : Int × Int × Int × Int × Int) (e : Ending) (w' : World) : Prop :=
  e = .returned (.tuple #[.agg #[.int .i64 r.1, .int .i64 r.2.1, .int .i64 r.2.2.1, .int .i64 r.2.2.2.1], .int .i64 r.2.2.2.2]) ∧ Below w.heap.size w w'
set_option maxRecDepth 100000 in
set_option maxHeartbeats 4000000 in
theorem rP_calls (k : Nat) (a0 : Int) (A : Option Addr) (cap : Nat) (b : List Int) (r : Int × Int × Int × Int × Int) (w : World) (hr : Kd.C (Kd.int .u8) w A b.length b) (hcap : b.length ≤ cap) (h : deedboxref24_ReadPiece.f k a0 b = some r) :
    Calls Tryd.prog 27 #[.int .i64 a0, .slice A b.length cap] w (rPP w r) := by
  unfold deedboxref24_ReadPiece.f at h
  by_cases hl : b.length ≤ 1000000
  · rw [if_pos hl] at h
    obtain ⟨p, hp, h⟩ := Option.bind_eq_some_iff.1 h
    obtain ⟨c, hE, h⟩ := Option.bind_eq_some_iff.1 h
    have HR := Lib.hid (Option.some.inj h)
    clear h
    have m0 := rnumR_len b 0 6
    have e0_ : rnumR b 0 6 = rP0 b := rfl
    rw [e0_] at m0
    have m1 := rnumR_len (rP0 b).2.1 (rP0 b).2.2 2
    have e1_ : rnumR (rP0 b).2.1 (rP0 b).2.2 2 = rP1 b := rfl
    rw [e1_] at m1
    have m2 := rnumR_len (rP1 b).2.1 (rP1 b).2.2 4
    have e2_ : rnumR (rP1 b).2.1 (rP1 b).2.2 4 = rP2 b := rfl
    rw [e2_] at m2
    have T0 := fun (A : Option Addr) (cap : Nat) (W : World) h1 h2 h3 => NumberF_calls A cap b 0 6 w W h1 h2 h3 (by omega)
    rw [e0_] at T0
    have T1 := fun (A : Option Addr) (cap : Nat) (W : World) h1 h2 h3 => NumberF_calls A cap (rP0 b).2.1 (rP0 b).2.2 2 w W h1 h2 h3 (by omega)
    rw [e1_] at T1
    have T2 := fun (A : Option Addr) (cap : Nat) (W : World) h1 h2 h3 => NumberF_calls A cap (rP1 b).2.1 (rP1 b).2.2 4 w W h1 h2 h3 (by omega)
    rw [e2_] at T2
    clear e0_ m0 e1_ m1 e2_ m2
    generalize rP0 b = s0 at *
    generalize rP1 b = s1 at *
    generalize rP2 b = s2 at *
    obtain ⟨v0, y0, d0⟩ := s0
    obtain ⟨v1, y1, d1⟩ := s1
    obtain ⟨v2, y2, d2⟩ := s2
    simp only at hp hE HR T0 T1 T2
    have T0 := Lib.hid T0
    have T1 := Lib.hid T1
    have T2 := Lib.hid T2
    obtain ⟨again, ac⟩ := p
    simp only at hE
    have hp := Lib.hid hp
    have hE := Lib.hid hE
    have hu51 := Tryd.underlying51
    have hu73 := Tryd.underlying73
    have hu24 := Tryd.underlying24
    have K0 := blk_new w (.cells #[.int .i64 0, .int .i64 0, .int .i64 0, .int .i64 0] 51)
    have B0 := below_alloc (Below.refl w.heap.size w) (.cells #[.int .i64 0, .int .i64 0, .int .i64 0, .int .i64 0] 51)
    have H0 := Lib.hid (T0.out A cap (w.alloc (.cells #[.int .i64 0, .int .i64 0, .int .i64 0, .int .i64 0] 51)) hr B0 hcap)
    have lr := blk_lt K0
    clear T0
    go_enter Tryd.func27, Tryd.ntmps27
    go_wp2_with fail
    refine H0.out.mono ?_
    rintro e W0 ⟨A0, c0, rfl, hl0, C0, hW0⟩
    simp only at hl0 C0
    replace K0 := blk_below K0 hW0
    replace B0 := below_step B0 hW0
    clear hW0 H0 lr
    replace K0 := blk_alloc K0 (.cells #[.slice A0 y0.length c0, .int .i64 d0] 73)
    replace B0 := below_alloc B0 (.cells #[.slice A0 y0.length c0, .int .i64 d0] 73)
    have lr := blk_lt K0
    have H1 := Lib.hid (T1.out A0 c0 (W0.alloc (.cells #[.slice A0 y0.length c0, .int .i64 d0] 73)) C0 B0 hl0)
    clear T1
    go_wp2_with fail
    refine H1.out.mono ?_
    rintro e W1 ⟨A1, c1, rfl, hl1, C1, hW1⟩
    simp only at hl1 C1
    replace K0 := blk_below K0 hW1
    replace B0 := below_step B0 hW1
    clear hW1 H1 lr
    replace K0 := blk_alloc K0 (.cells #[.slice A1 y1.length c1, .int .i64 d1] 73)
    replace B0 := below_alloc B0 (.cells #[.slice A1 y1.length c1, .int .i64 d1] 73)
    have lr := blk_lt K0
    have H2 := Lib.hid (T2.out A1 c1 (W1.alloc (.cells #[.slice A1 y1.length c1, .int .i64 d1] 73)) C1 B0 hl1)
    clear T2
    go_wp2_with fail
    refine H2.out.mono ?_
    rintro e W2 ⟨A2, c2, rfl, hl2, C2, hW2⟩
    simp only at hl2 C2
    replace K0 := blk_below K0 hW2
    have HWR := Lib.hid (blk_lt K0)
    replace B0 := below_step B0 hW2
    clear hW2 H2 lr
    have Kt := blk_new W2 (.cells #[.slice A2 y2.length c2, .int .i64 d2] 73)
    replace K0 := blk_alloc K0 (.cells #[.slice A2 y2.length c2, .int .i64 d2] 73)
    replace B0 := below_alloc B0 (.cells #[.slice A2 y2.length c2, .int .i64 d2] 73)
    have hsz : (W2.alloc (.cells #[.slice A2 y2.length c2, .int .i64 d2] 73)).heap.size = W2.heap.size + 1 := by simp
    have Kx : ((W2.alloc (.cells #[.slice A2 y2.length c2, .int .i64 d2] 73)).alloc (.cells #[.int .i64 a0, .int .i64 (wrap64 v0), .int .i64 (wrap64 v1), .int .i64 (wrap64 v2)] 51)).heap[W2.heap.size + 1]? = some (.cells #[.int .i64 a0, .int .i64 (wrap64 v0), .int .i64 (wrap64 v1), .int .i64 (wrap64 v2)] 51 (0, 0)) := blk_newAt (by simp)
    replace Kt := blk_alloc Kt (.cells #[.int .i64 a0, .int .i64 (wrap64 v0), .int .i64 (wrap64 v1), .int .i64 (wrap64 v2)] 51)
    replace K0 := blk_alloc K0 (.cells #[.int .i64 a0, .int .i64 (wrap64 v0), .int .i64 (wrap64 v1), .int .i64 (wrap64 v2)] 51)
    replace B0 := below_alloc B0 (.cells #[.int .i64 a0, .int .i64 (wrap64 v0), .int .i64 (wrap64 v1), .int .i64 (wrap64 v2)] 51)
    have HA := Lib.hid (deedboxref24_Piece.calls k _ _ _ _ again ac ((W2.alloc (.cells #[.slice A2 y2.length c2, .int .i64 d2] 73)).alloc (.cells #[.int .i64 a0, .int .i64 (wrap64 v0), .int .i64 (wrap64 v1), .int .i64 (wrap64 v2)] 51)) hp.out)
    have lx := blk_lt Kx
    go_wp2_with fail
    refine HA.out.mono ?_
    rintro e WA ⟨va, rfl, RA, hA⟩
    replace Kt := blk_below Kt hA
    replace Kx := blk_below Kx hA
    replace K0 := blk_below K0 hA
    replace B0 := below_step B0 hA
    obtain ⟨AA, cA, rfl, mA, QA⟩ := Kd.R_reads RA
    have HD := Lib.hid (doneF_calls k A2 c2 y2 d2 A cap b AA cA again ac c WA (Kd.C_below hr B0) hcap QA mA hE.out)
    clear HA hA RA QA lx
    have lt := blk_lt Kt
    have t0_ : WA.cell? ⟨W2.heap.size, 0, none⟩ = some (.slice A2 y2.length c2) := (blk_cell Kt 0).trans rfl
    have t1_ : WA.cell? ⟨W2.heap.size, 1, none⟩ = some (.int .i64 d2) := (blk_cell Kt 1).trans rfl
    go_wp2_with fail
    refine HD.out.mono ?_
    rintro e WE ⟨rfl, hD⟩
    replace Kx := blk_below Kx hD
    replace K0 := blk_below K0 hD
    replace B0 := below_step B0 hD
    clear HD hD Kt lt t0_ t1_
    have lx := blk_lt Kx
    have lr := blk_lt K0
    have q0_ : WE.cell? ⟨W2.heap.size + 1, 0, none⟩ = some (.int .i64 a0) := (blk_cell Kx 0).trans rfl
    have q1_ : WE.cell? ⟨W2.heap.size + 1, 1, none⟩ = some (.int .i64 (wrap64 v0)) := (blk_cell Kx 1).trans rfl
    have q2_ : WE.cell? ⟨W2.heap.size + 1, 2, none⟩ = some (.int .i64 (wrap64 v1)) := (blk_cell Kx 2).trans rfl
    have q3_ : WE.cell? ⟨W2.heap.size + 1, 3, none⟩ = some (.int .i64 (wrap64 v2)) := (blk_cell Kx 3).trans rfl
    have p0_ : WE.cell? ⟨w.heap.size, 0, none⟩ = some (.int .i64 0) := (blk_cell K0 0).trans rfl
    have s0_ := blk_frozen K0 0
    have p1_ : WE.cell? ⟨w.heap.size, 1, none⟩ = some (.int .i64 0) := (blk_cell K0 1).trans rfl
    have s1_ := blk_frozen K0 1
    have p2_ : WE.cell? ⟨w.heap.size, 2, none⟩ = some (.int .i64 0) := (blk_cell K0 2).trans rfl
    have s2_ := blk_frozen K0 2
    have p3_ : WE.cell? ⟨w.heap.size, 3, none⟩ = some (.int .i64 0) := (blk_cell K0 3).trans rfl
    have s3_ := blk_frozen K0 3
    have ne2_ : w.heap.size ≠ W2.heap.size + 1 := by have := HWR.out; omega
    have ne3_ : W2.heap.size + 1 ≠ w.heap.size := by omega
    have bel := Lib.hid (show ∀ (z0_ z1_ z2_ z3_ : Value), Below w.heap.size w ((((WE.setCell ⟨w.heap.size, 0, none⟩ z0_).setCell ⟨w.heap.size, 1, none⟩ z1_).setCell ⟨w.heap.size, 2, none⟩ z2_).setCell ⟨w.heap.size, 3, none⟩ z3_) from fun z0_ z1_ z2_ z3_ => (below_set (below_set (below_set (below_set B0 (Nat.le_refl _)) (Nat.le_refl _)) (Nat.le_refl _)) (Nat.le_refl _)))
    have K0 := Lib.hid K0
    clear B0 Kx
    by_cases h0 : c = 0
    · subst h0
      have h := HR.out
      simp only [if_true] at h
      subst h
      go_wp2_with fail
      refine bodyPost_ret (results_ct rfl _ _ w.heap.size 51 #[.int .i64 a0, .int .i64 (wrap64 v0), .int .i64 (wrap64 v1), .int .i64 (wrap64 v2)] (0, 0) _ rfl ?_ Tryd.underlying51 rfl (by kernel_rfl)) rfl ?_
      · refine blk_put (cs := #[.int .i64 a0, .int .i64 (wrap64 v0), .int .i64 (wrap64 v1), .int .i64 0]) ?_ 3 _ rfl
        refine blk_put (cs := #[.int .i64 a0, .int .i64 (wrap64 v0), .int .i64 0, .int .i64 0]) ?_ 2 _ rfl
        refine blk_put (cs := #[.int .i64 a0, .int .i64 0, .int .i64 0, .int .i64 0]) ?_ 1 _ rfl
        exact blk_put K0.out 0 _ rfl
      · exact ⟨rfl, bel.out _ _ _ _⟩
    · have t1 : (c != 0) = true := by simpa using h0
      have h := HR.out
      rw [if_neg h0] at h
      subst h
      go_wp2_with fail
      refine bodyPost_ret (results_ct rfl _ _ w.heap.size 51 #[.int .i64 0, .int .i64 0, .int .i64 0, .int .i64 0] (0, 0) _ rfl ?_ Tryd.underlying51 rfl (by kernel_rfl)) rfl ?_
      · refine blk_put (cs := #[.int .i64 0, .int .i64 0, .int .i64 0, .int .i64 0]) ?_ 3 _ rfl
        refine blk_put (cs := #[.int .i64 0, .int .i64 0, .int .i64 0, .int .i64 0]) ?_ 2 _ rfl
        refine blk_put (cs := #[.int .i64 0, .int .i64 0, .int .i64 0, .int .i64 0]) ?_ 1 _ rfl
        exact blk_put K0.out 0 _ rfl
      · exact ⟨rfl, bel.out _ _ _ _⟩
  · rw [if_neg hl] at h
    cases h
end Go.Proofs.YtmciigdfhikdnaaDoor
