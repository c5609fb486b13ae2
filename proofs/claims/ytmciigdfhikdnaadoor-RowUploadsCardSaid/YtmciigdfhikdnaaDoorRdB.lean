/- Buckets and parts, read: walked by hand: each function comes to what its plain Lean function beside it tells; no condition beside those in each theorem. -/
import Derived.Test.YtmciigdfhikdnaaDoorEnd
namespace Go.Proofs.YtmciigdfhikdnaaDoor
open Go.RowKit Go.Proofs.YtmciigdfhikdnaaDoorW.PrintWords Go.Proofs.YtmciigdfhikdnaaDoorW.PrintLast Go.Proofs.YtmciigdfhikdnaaDoorW.PrintMore Go.Proofs.YtmciigdfhikdnaaDoor.Rw
set_option linter.unusedVariables false
set_option linter.unusedSimpArgs false
theorem numR_len (xs : List Int) (c n : Int) : (numR xs c n).2.1.length ≤ xs.length := (takeR_len xs c n).2
theorem clos_50 (k gx : Nat) (a b c d : Int) (p : List Int × Int) (W : World) (hb : W.heap[gx]? = some (.cells #[.int .i64 a, .int .i64 b, .int .i64 c, .int .i64 d] 38 (0, 0))) (h : row_Bucket.f k a b c d = some p) :
    Calls Tryd.prog 50 #[.pointer (some ⟨gx, 0, none⟩)] W (AgainP W p) := by
  obtain ⟨out, code⟩ := p
  have H := Lib.hid (row_Bucket.calls k a b c d out code W h)
  have hlt := blk_lt hb
  have x0 : W.cell? ⟨gx, 0, none⟩ = some (.int .i64 a) := (blk_cell hb 0).trans rfl
  have x1 : W.cell? ⟨gx, 1, none⟩ = some (.int .i64 b) := (blk_cell hb 1).trans rfl
  have x2 : W.cell? ⟨gx, 2, none⟩ = some (.int .i64 c) := (blk_cell hb 2).trans rfl
  have x3 : W.cell? ⟨gx, 3, none⟩ = some (.int .i64 d) := (blk_cell hb 3).trans rfl
  have hu38 := Tryd.underlying38
  go_enter Tryd.func50, Tryd.ntmps50
  go_wp2_with fail
  refine H.out.mono ?_
  rintro e w' ⟨v, rfl, hv, hb'⟩
  have F := Lib.hid (show AgainP W (out, code) (.returned (.tuple #[v, .int .i64 code])) w' from ⟨v, rfl, hv, hb'⟩)
  clear H hv hb'
  go_wp2_with fail
  go_ret2
  exact F.out
/-- A bucket of bytes, and what was wrong. -/
def row_ReadBucket.n1 (b : List Int) := numR b 0 2
def row_ReadBucket.n2 (b : List Int) := numR (row_ReadBucket.n1 b).2.1 (row_ReadBucket.n1 b).2.2 1
def row_ReadBucket.n3 (b : List Int) := numR (row_ReadBucket.n2 b).2.1 (row_ReadBucket.n2 b).2.2 2
def row_ReadBucket.n4 (b : List Int) := numR (row_ReadBucket.n3 b).2.1 (row_ReadBucket.n3 b).2.2 2
def row_ReadBucket.f (k : Nat) (b : List Int) : Option (Int × Int × Int × Int × Int) :=
  if b.length ≤ 1000000 then (endR k (row_ReadBucket.n4 b).2.1 (row_ReadBucket.n4 b).2.2 (row_Bucket.f k (wrap64 (row_ReadBucket.n1 b).1) (wrap64 (row_ReadBucket.n2 b).1) (wrap64 (row_ReadBucket.n3 b).1) (wrap64 (wrap64 (row_ReadBucket.n4 b).1 - 1))) b).bind fun c =>
    some (if c = 0 then (wrap64 (row_ReadBucket.n1 b).1, wrap64 (row_ReadBucket.n2 b).1, wrap64 (row_ReadBucket.n3 b).1, wrap64 (wrap64 (row_ReadBucket.n4 b).1 - 1), 0) else (0, 0, 0, 0, c)) else none
theorem row_ReadBucket.mono : ∀ b k, LeO (row_ReadBucket.f k b) (row_ReadBucket.f (k + 1) b) := by
  intro b k
  unfold row_ReadBucket.f
  exact LeO.ite (LeO.bind (endR_mono _ _ _ _ (row_Bucket.mono _ _ _ _ _)) fun _ => LeO.refl _) (LeO.none _)
set_option maxHeartbeats 1000000 in
theorem row_ReadBucket.calls (k : Nat) (A0 : Option Addr) (c0 : Nat) (l0 : List Int) (r1 r2 r3 r4 r5 : Int) (w : World) (hr0 : Kd.C (Kd.int .u8) w A0 l0.length l0) (hc0 : l0.length ≤ c0) (h : row_ReadBucket.f k l0 = some (r1, r2, r3, r4, r5)) :
    Calls Tryd.prog 17 #[.slice A0 l0.length c0] w fun e w' => e = .returned (.tuple #[.agg #[.int .i64 r1, .int .i64 r2, .int .i64 r3, .int .i64 r4], .int .i64 r5]) ∧ Below w.heap.size w w' := by
  unfold row_ReadBucket.f at h
  by_cases hl : l0.length ≤ 1000000
  · rw [if_pos hl] at h
    obtain ⟨c, hE, h⟩ := Option.bind_eq_some_iff.1 h
    have e1 : row_ReadBucket.n1 l0 = numR l0 0 2 := rfl
    have e2 : row_ReadBucket.n2 l0 = numR (row_ReadBucket.n1 l0).2.1 (row_ReadBucket.n1 l0).2.2 1 := rfl
    have e3 : row_ReadBucket.n3 l0 = numR (row_ReadBucket.n2 l0).2.1 (row_ReadBucket.n2 l0).2.2 2 := rfl
    have e4 : row_ReadBucket.n4 l0 = numR (row_ReadBucket.n3 l0).2.1 (row_ReadBucket.n3 l0).2.2 2 := rfl
    have m1 := numR_len l0 0 2
    have m2 := numR_len (row_ReadBucket.n1 l0).2.1 (row_ReadBucket.n1 l0).2.2 1
    have m3 := numR_len (row_ReadBucket.n2 l0).2.1 (row_ReadBucket.n2 l0).2.2 2
    have m4 := numR_len (row_ReadBucket.n3 l0).2.1 (row_ReadBucket.n3 l0).2.2 2
    rw [← e1] at m1
    rw [← e2] at m2
    rw [← e3] at m3
    rw [← e4] at m4
    have N1 := fun g w0 W h1 h2 => Number_calls g l0 0 2 w0 W h1 h2 (by omega)
    have N2 := fun g w0 W h1 h2 => Number_calls g (row_ReadBucket.n1 l0).2.1 (row_ReadBucket.n1 l0).2.2 1 w0 W h1 h2 (by omega)
    have N3 := fun g w0 W h1 h2 => Number_calls g (row_ReadBucket.n2 l0).2.1 (row_ReadBucket.n2 l0).2.2 2 w0 W h1 h2 (by omega)
    have N4 := fun g w0 W h1 h2 => Number_calls g (row_ReadBucket.n3 l0).2.1 (row_ReadBucket.n3 l0).2.2 2 w0 W h1 h2 (by omega)
    rw [← e1] at N1
    rw [← e2] at N2
    rw [← e3] at N3
    rw [← e4] at N4
    have hl4 : (row_ReadBucket.n4 l0).2.1.length ≤ 1000000000 := by omega
    generalize row_ReadBucket.n1 l0 = n1 at *
    generalize row_ReadBucket.n2 l0 = n2 at *
    generalize row_ReadBucket.n3 l0 = n3 at *
    generalize row_ReadBucket.n4 l0 = n4 at *
    obtain ⟨v1, y1, d1⟩ := n1
    obtain ⟨v2, y2, d2⟩ := n2
    obtain ⟨v3, y3, d3⟩ := n3
    obtain ⟨v4, y4, d4⟩ := n4
    simp only at N1 N2 N3 N4 hE h hl4
    clear e1 e2 e3 e4 m1 m2 m3 m4
    have HN1 := Lib.hid N1
    have HN2 := Lib.hid N2
    have HN3 := Lib.hid N3
    have HN4 := Lib.hid N4
    have hE := Lib.hid hE
    have HR := Lib.hid (Option.some.inj h)
    clear h
    have RD := Lib.hid (Read_calls A0 c0 l0 (w.alloc (.cells #[.int .i64 0, .int .i64 0, .int .i64 0, .int .i64 0] 38)) (Kd.C_alloc hr0 _) hc0 (by omega))
    clear N1 N2 N3 N4
    have hu38 := Tryd.underlying38
    go_enter Tryd.func17, Tryd.ntmps17
    go_wp2_with fail
    refine RD.out.mono ?_
    rintro e W1 ⟨w0, g, rfl, hR1, hB1, hb1⟩
    have hC0 := Kd.C_below (Kd.C_alloc hr0 (.cells #[.int .i64 0, .int .i64 0, .int .i64 0, .int .i64 0] 38)) hb1
    have hb0 : w0.heap[w.heap.size]? = some (.cells #[.int .i64 0, .int .i64 0, .int .i64 0, .int .i64 0] 38 (0, 0)) := blk_below (blk_new w _) hb1
    have hbw : Below w.heap.size w w0 := below_step (below_alloc (Below.refl _ _) _) hb1
    clear hr0 hb1 RD
    go_wp2_with fail
    refine (HN1.out g w0 _ hR1 hB1).mono ?_
    rintro e W2 ⟨rfl, hR2, hB2, hk2, hz2⟩
    simp only at hR2
    clear hR1 hB1 hk2 hz2 HN1
    go_wp2_with fail
    refine (HN2.out g w0 _ hR2 hB2).mono ?_
    rintro e W3 ⟨rfl, hR3, hB3, hk3, hz3⟩
    simp only at hR3
    clear hR2 hB2 hk3 hz3 HN2
    go_wp2_with fail
    refine (HN3.out g w0 _ hR3 hB3).mono ?_
    rintro e W4 ⟨rfl, hR4, hB4, hk4, hz4⟩
    simp only at hR4
    clear hR3 hB3 hk4 hz4 HN3
    go_wp2_with fail
    refine (HN4.out g w0 _ hR4 hB4).mono ?_
    rintro e W5 ⟨rfl, hR5, hB5, hk5, hz5⟩
    simp only at hR5
    clear hR4 hB4 hk5 hz5 HN4
    have hg5 := hR5.lt
    have HE := Lib.hid (end_calls_50 k g W5.heap.size y4 d4 _ A0 c0 l0 c w0 (W5.alloc (.cells #[.int .i64 (wrap64 v1), .int .i64 (wrap64 v2), .int .i64 (wrap64 v3), .int .i64 (wrap64 (wrap64 v4 - 1))] 38)) (hR5.below (below_alloc (Below.refl _ _) _)) (below_alloc hB5 _) hl4 hC0 hc0
      (fun p hp W hk => clos_50 k W5.heap.size _ _ _ _ p W (hk.blk (blk_new W5 _) (by omega) (by simp)) hp) hE.out)
    have hmf : ∀ (fn : Fn) (first cap : Array Value) (w : World), (Instr.makeFunc fn first cap).run Tryd.prog w = .ok (.func fn first cap) w := fun _ _ _ _ => rfl
    clear hC0 hE hR5
    go_wp2_with fail
    refine HE.out.mono ?_
    rintro e W6 ⟨rfl, hB6, hk6⟩
    have hx6 := hk6.blk (blk_new W5 _) (by omega) (by simp)
    have hr6 : W6.heap[w.heap.size]? = some (.cells #[.int .i64 0, .int .i64 0, .int .i64 0, .int .i64 0] 38 (0, 0)) := (hB6.block _ (blk_lt hb0)).trans hb0
    have hws : w.heap.size < w0.heap.size := blk_lt hb0
    have hw5 := hB5.size
    clear HE hk6 hB5 hb0
    have hltx := blk_lt hx6
    have hltr := blk_lt hr6
    have x0 : W6.cell? ⟨W5.heap.size, 0, none⟩ = some (.int .i64 (wrap64 v1)) := (blk_cell hx6 0).trans rfl
    have x1 : W6.cell? ⟨W5.heap.size, 1, none⟩ = some (.int .i64 (wrap64 v2)) := (blk_cell hx6 1).trans rfl
    have x2 : W6.cell? ⟨W5.heap.size, 2, none⟩ = some (.int .i64 (wrap64 v3)) := (blk_cell hx6 2).trans rfl
    have x3 : W6.cell? ⟨W5.heap.size, 3, none⟩ = some (.int .i64 (wrap64 (wrap64 v4 - 1))) := (blk_cell hx6 3).trans rfl
    have r0 : W6.cell? ⟨w.heap.size, 0, none⟩ = some (.int .i64 0) := (blk_cell hr6 0).trans rfl
    have r1 : W6.cell? ⟨w.heap.size, 1, none⟩ = some (.int .i64 0) := (blk_cell hr6 1).trans rfl
    have r2 : W6.cell? ⟨w.heap.size, 2, none⟩ = some (.int .i64 0) := (blk_cell hr6 2).trans rfl
    have r3 : W6.cell? ⟨w.heap.size, 3, none⟩ = some (.int .i64 0) := (blk_cell hr6 3).trans rfl
    have s0 := blk_frozen hr6 0
    have s1 := blk_frozen hr6 1
    have s2 := blk_frozen hr6 2
    have s3 := blk_frozen hr6 3
    have ne1 : w.heap.size ≠ W5.heap.size := by omega
    have ne2 : W5.heap.size ≠ w.heap.size := by omega
    have bel : ∀ (a b c d : Value), Below w.heap.size w ((((W6.setCell ⟨w.heap.size, 0, none⟩ a).setCell ⟨w.heap.size, 1, none⟩ b).setCell ⟨w.heap.size, 2, none⟩ c).setCell ⟨w.heap.size, 3, none⟩ d) := fun a b c d =>
      below_set (below_set (below_set (below_set (below_weaken hbw (by omega) hB6) (Nat.le_refl _)) (Nat.le_refl _)) (Nat.le_refl _)) (Nat.le_refl _)
    have bel := Lib.hid bel
    by_cases h0 : c = 0
    · subst h0
      have h := HR.out
      simp only [if_true, Prod.mk.injEq] at h
      obtain ⟨rfl, rfl, rfl, rfl, rfl⟩ := h
      go_wp2_with fail
      refine bodyPost_ret (results_ct rfl _ _ w.heap.size 38 #[.int .i64 (wrap64 v1), .int .i64 (wrap64 v2), .int .i64 (wrap64 v3), .int .i64 (wrap64 (wrap64 v4 - 1))] (0, 0) _ rfl ?_ Tryd.underlying38 rfl (by kernel_rfl)) rfl ⟨rfl, bel.out _ _ _ _⟩
      refine blk_put (cs := #[.int .i64 (wrap64 v1), .int .i64 (wrap64 v2), .int .i64 (wrap64 v3), .int .i64 0]) ?_ 3 _ rfl
      refine blk_put (cs := #[.int .i64 (wrap64 v1), .int .i64 (wrap64 v2), .int .i64 0, .int .i64 0]) ?_ 2 _ rfl
      refine blk_put (cs := #[.int .i64 (wrap64 v1), .int .i64 0, .int .i64 0, .int .i64 0]) ?_ 1 _ rfl
      exact blk_put hr6 0 _ rfl
    · have t1 : (c != 0) = true := by simpa using h0
      have h := HR.out
      rw [if_neg h0] at h
      simp only [Prod.mk.injEq] at h
      obtain ⟨rfl, rfl, rfl, rfl, rfl⟩ := h
      go_wp2_with fail
      refine bodyPost_ret (results_ct rfl _ _ w.heap.size 38 #[.int .i64 0, .int .i64 0, .int .i64 0, .int .i64 0] (0, 0) _ rfl ?_ Tryd.underlying38 rfl (by kernel_rfl)) rfl ⟨rfl, bel.out _ _ _ _⟩
      refine blk_put (cs := #[.int .i64 0, .int .i64 0, .int .i64 0, .int .i64 0]) ?_ 3 _ rfl
      refine blk_put (cs := #[.int .i64 0, .int .i64 0, .int .i64 0, .int .i64 0]) ?_ 2 _ rfl
      refine blk_put (cs := #[.int .i64 0, .int .i64 0, .int .i64 0, .int .i64 0]) ?_ 1 _ rfl
      exact blk_put hr6 0 _ rfl
  · rw [if_neg hl] at h
    cases h
end Go.Proofs.YtmciigdfhikdnaaDoor
