/- The reference's Version, walked by hand (out of wip/row/mkrefv.py): each function comes to what its plain Lean function beside it tells; no condition beside those in each theorem. -/
import Derived.Test.YtmciigdfhikdnaaDoorRfx0
import Derived.Test.YtmciigdfhikdnaaDoorRdV
namespace Go.Proofs.YtmciigdfhikdnaaDoor
open Go.RowKit Go.Proofs.YtmciigdfhikdnaaDoorW.PrintWords Go.Proofs.YtmciigdfhikdnaaDoorW.PrintLast Go.Proofs.YtmciigdfhikdnaaDoorW.PrintMore Go.Proofs.YtmciigdfhikdnaaDoor.Rw Go.Proofs.YtmciigdfhikdnaaDoor.Rf
set_option linter.unusedVariables false
set_option linter.unusedSimpArgs false
theorem in_tell (n least most : Int) : deedboxref24_in.f n least most = some (inB n least most) := by
  unfold deedboxref24_in.f inB
  split
  · rename_i h; rw [decide_eq_true h]; rfl
  · rename_i h; rw [decide_eq_false h]; rfl
theorem in_calls (n least most : Int) (b : Bool) (h : inB n least most = b) (w : World) :
    Calls Tryd.prog 35 #[.int .i64 n, .int .i64 least, .int .i64 most] w fun e w' => e = .returned (.bool b) ∧ Drawn0 w w' := deedboxref24_in.calls n least most b w (by rw [in_tell, h])
def flagN : Bool → Bool → Int
  | false, false => 0
  | true, false => 1
  | false, true => 2
  | true, true => 3
def refVerB (k : Nat) (nul mark : Bool) (at_ size until_ : Int) (mt tags : List Int) : Option (List Int) :=
  (deedboxref01_Put.f k (IntKind.u64.wrap at_) 2).bind fun p2 => (deedboxref01_Put.f k (IntKind.u64.wrap size) 4).bind fun p3 => (deedboxref01_Put.f k (IntKind.u64.wrap until_) 6).bind fun p4 => (deedboxref24_short.f mt).bind fun p5 => (deedboxref24_short.f tags).bind fun p6 =>
    if p2.length + p3.length + p4.length + p5.length + p6.length ≤ 1000000 then some (((((([flagN nul mark] ++ p2) ++ p3) ++ p4) ++ p5) ++ p6)) else none
def refVerL (k : Nat) (mark : Bool) (gen : Int) (nonce wrap : List Int) (b : List Int) : Option (List Int × Int) :=
  if mark = true then some (b, 0) else (deedboxref24_Lock.f k gen nonce wrap).bind fun q => if q.2 = true then (if b.length + q.1.length ≤ 10000000 then some (b ++ q.1, 0) else none) else some ([], 12)
def deedboxref24_Version.f (k : Nat) (a0_0 : Int) (a0_1 a0_2 : Bool) (a0_3 a0_4 a0_5 : Int) (l0_6 l0_7 : List Int) (a0_8 : Int) (l0_9 l0_10 : List Int) : Option (List Int × Int) :=
  if inB a0_3 0 4095 = true ∧ inB a0_4 0 1048576 = true ∧ inB a0_5 0 1099511627776 = true then
    (if 24 < l0_6.length ∨ 24 < l0_7.length then some ([], 17) else (refVerB k a0_1 a0_2 a0_3 a0_4 a0_5 l0_6 l0_7).bind (refVerL k a0_2 a0_8 l0_9 l0_10))
  else some ([], 2)
theorem deedboxref24_Version.mono : ∀ a0 a1 a2 a3 a4 a5 a6 a7 a8 a9 a10 k, LeO (deedboxref24_Version.f k a0 a1 a2 a3 a4 a5 a6 a7 a8 a9 a10) (deedboxref24_Version.f (k + 1) a0 a1 a2 a3 a4 a5 a6 a7 a8 a9 a10) := by
  intro a0 a1 a2 a3 a4 a5 a6 a7 a8 a9 a10 k
  unfold deedboxref24_Version.f refVerB refVerL
  repeat' first
    | (with_reducible exact deedboxref01_Put.mono _ _ _)
    | (with_reducible exact deedboxref24_Lock.mono _ _ _ _)
    | (with_reducible exact LeO.refl _)
    | (with_reducible exact LeO.none _)
    | (with_reducible refine LeO.ite ?_ ?_)
    | (with_reducible refine LeO.bind ?_ (fun _ => ?_))
/-- A row of one byte, as it is built. -/
theorem lit1 (W : World) (base g : Nat) (hg : g = W.heap.size) (hb : base ≤ W.heap.size) (x : Int) : Kd.R (Kd.int .u8) 5 (W.alloc (.cells #[.int .u8 x] 5)) base (fun _ => True) (.slice (some ⟨g, 0, none⟩) 1 1) [x] := by
  subst hg
  exact Kd.R_of_own (own_lit W base 5 .u8 [x] hb (by simp)) (fun _ _ => trivial)
theorem R_off {W : World} {base g t : Nat} {v : Value} {xs : List Int} {cs : Array Value} (h : Kd.R (Kd.int .u8) 5 W base (fun _ => True) v xs) (hb : W.heap[g]? = some (.cells cs t (0, 0))) (hne : 5 ≠ t) : some g ≠ v.ownBlock := own_ne (Kd.own_of_R h) hb hne
section
variable (a0 : Int) (a1 a2 : Bool) (a3 a4 a5 : Int) (A6 : Option Addr) (c6 : Nat) (l6 : List Int) (A7 : Option Addr) (c7 : Nat) (l7 : List Int) (a8 : Int) (A9 : Option Addr) (c9 : Nat) (l9 : List Int) (A10 : Option Addr) (c10 : Nat) (l10 : List Int)
set_option maxRecDepth 100000 in
theorem rver_range1 (w : World) (h1 : inB a3 0 4095 = false) : Calls Tryd.prog 10 #[.agg (verC a0 a1 a2 a3 a4 a5 A6 c6 l6 A7 c7 l7 a8 A9 c9 l9 A10 c10 l10)] w (AgainP w ([], 2)) := by
  unfold verC
  have hu26 := Tryd.underlying26
  have hB := Lib.hid (below_alloc (Below.refl w.heap.size w) (.cells #[.int .i64 a0, .bool a1, .bool a2, .int .i64 a3, .int .i64 a4, .int .i64 a5, .slice A6 l6.length c6, .slice A7 l7.length c7, .int .i64 a8, .slice A9 l9.length c9, .slice A10 l10.length c10] 26))
  have fin := fun (W : World) (h : Below w.heap.size w W) => Lib.hid (show AgainP w ([], 2) (.returned (.tuple #[.slice none 0 0, .int .i64 2])) W from ⟨_, rfl, Kd.R_nil _ _ _ _ _, h⟩)
  have C1 := Lib.hid (in_calls a3 0 4095 false h1)
  clear h1
  go_enter Tryd.func10, Tryd.ntmps10
  go_wp2_with fail
  refine (C1.out _).mono ?_
  rintro e w' ⟨rfl, ⟨n1, rfl⟩⟩
  go_wp2_with fail
  go_ret2
  exact (fin _ (pw_below_drewN hB.out _)).out
set_option maxRecDepth 100000 in
theorem rver_range2 (w : World) (h1 : inB a3 0 4095 = true) (h2 : inB a4 0 1048576 = false) : Calls Tryd.prog 10 #[.agg (verC a0 a1 a2 a3 a4 a5 A6 c6 l6 A7 c7 l7 a8 A9 c9 l9 A10 c10 l10)] w (AgainP w ([], 2)) := by
  unfold verC
  have hu26 := Tryd.underlying26
  have hB := Lib.hid (below_alloc (Below.refl w.heap.size w) (.cells #[.int .i64 a0, .bool a1, .bool a2, .int .i64 a3, .int .i64 a4, .int .i64 a5, .slice A6 l6.length c6, .slice A7 l7.length c7, .int .i64 a8, .slice A9 l9.length c9, .slice A10 l10.length c10] 26))
  have fin := fun (W : World) (h : Below w.heap.size w W) => Lib.hid (show AgainP w ([], 2) (.returned (.tuple #[.slice none 0 0, .int .i64 2])) W from ⟨_, rfl, Kd.R_nil _ _ _ _ _, h⟩)
  have C1 := Lib.hid (in_calls a3 0 4095 true h1)
  have C2 := Lib.hid (in_calls a4 0 1048576 false h2)
  clear h1 h2
  go_enter Tryd.func10, Tryd.ntmps10
  go_wp2_with fail
  refine (C1.out _).mono ?_
  rintro e w' ⟨rfl, ⟨n1, rfl⟩⟩
  go_wp2_with fail
  refine (C2.out _).mono ?_
  rintro e w' ⟨rfl, ⟨n2, rfl⟩⟩
  go_wp2_with fail
  go_ret2
  exact (fin _ (pw_below_drewN hB.out _)).out
set_option maxRecDepth 100000 in
theorem rver_range3 (w : World) (h1 : inB a3 0 4095 = true) (h2 : inB a4 0 1048576 = true) (h3 : inB a5 0 1099511627776 = false) : Calls Tryd.prog 10 #[.agg (verC a0 a1 a2 a3 a4 a5 A6 c6 l6 A7 c7 l7 a8 A9 c9 l9 A10 c10 l10)] w (AgainP w ([], 2)) := by
  unfold verC
  have hu26 := Tryd.underlying26
  have hB := Lib.hid (below_alloc (Below.refl w.heap.size w) (.cells #[.int .i64 a0, .bool a1, .bool a2, .int .i64 a3, .int .i64 a4, .int .i64 a5, .slice A6 l6.length c6, .slice A7 l7.length c7, .int .i64 a8, .slice A9 l9.length c9, .slice A10 l10.length c10] 26))
  have fin := fun (W : World) (h : Below w.heap.size w W) => Lib.hid (show AgainP w ([], 2) (.returned (.tuple #[.slice none 0 0, .int .i64 2])) W from ⟨_, rfl, Kd.R_nil _ _ _ _ _, h⟩)
  have C1 := Lib.hid (in_calls a3 0 4095 true h1)
  have C2 := Lib.hid (in_calls a4 0 1048576 true h2)
  have C3 := Lib.hid (in_calls a5 0 1099511627776 false h3)
  clear h1 h2 h3
  go_enter Tryd.func10, Tryd.ntmps10
  go_wp2_with fail
  refine (C1.out _).mono ?_
  rintro e w' ⟨rfl, ⟨n1, rfl⟩⟩
  go_wp2_with fail
  refine (C2.out _).mono ?_
  rintro e w' ⟨rfl, ⟨n2, rfl⟩⟩
  go_wp2_with fail
  refine (C3.out _).mono ?_
  rintro e w' ⟨rfl, ⟨n3, rfl⟩⟩
  go_wp2_with fail
  go_ret2
  exact (fin _ (pw_below_drewN hB.out _)).out
set_option maxRecDepth 100000 in
theorem rver_size1 (w : World) (h1 : inB a3 0 4095 = true) (h2 : inB a4 0 1048576 = true) (h3 : inB a5 0 1099511627776 = true) (h4 : 24 < l6.length) : Calls Tryd.prog 10 #[.agg (verC a0 a1 a2 a3 a4 a5 A6 c6 l6 A7 c7 l7 a8 A9 c9 l9 A10 c10 l10)] w (AgainP w ([], 17)) := by
  unfold verC
  have hu26 := Tryd.underlying26
  have hB := Lib.hid (below_alloc (Below.refl w.heap.size w) (.cells #[.int .i64 a0, .bool a1, .bool a2, .int .i64 a3, .int .i64 a4, .int .i64 a5, .slice A6 l6.length c6, .slice A7 l7.length c7, .int .i64 a8, .slice A9 l9.length c9, .slice A10 l10.length c10] 26))
  have fin := fun (W : World) (h : Below w.heap.size w W) => Lib.hid (show AgainP w ([], 17) (.returned (.tuple #[.slice none 0 0, .int .i64 17])) W from ⟨_, rfl, Kd.R_nil _ _ _ _ _, h⟩)
  have C1 := Lib.hid (in_calls a3 0 4095 true h1)
  have C2 := Lib.hid (in_calls a4 0 1048576 true h2)
  have C3 := Lib.hid (in_calls a5 0 1099511627776 true h3)
  clear h1 h2 h3
  have t1 : decide (24 < l6.length) = true := decide_eq_true h4
  go_enter Tryd.func10, Tryd.ntmps10
  go_wp2_with fail
  refine (C1.out _).mono ?_
  rintro e w' ⟨rfl, ⟨n1, rfl⟩⟩
  go_wp2_with fail
  refine (C2.out _).mono ?_
  rintro e w' ⟨rfl, ⟨n2, rfl⟩⟩
  go_wp2_with fail
  refine (C3.out _).mono ?_
  rintro e w' ⟨rfl, ⟨n3, rfl⟩⟩
  go_wp2_with fail
  go_ret2
  exact (fin _ (pw_below_drewN hB.out _)).out
set_option maxRecDepth 100000 in
theorem rver_size2 (w : World) (h1 : inB a3 0 4095 = true) (h2 : inB a4 0 1048576 = true) (h3 : inB a5 0 1099511627776 = true) (h4 : ¬ 24 < l6.length) (h5 : 24 < l7.length) : Calls Tryd.prog 10 #[.agg (verC a0 a1 a2 a3 a4 a5 A6 c6 l6 A7 c7 l7 a8 A9 c9 l9 A10 c10 l10)] w (AgainP w ([], 17)) := by
  unfold verC
  have hu26 := Tryd.underlying26
  have hB := Lib.hid (below_alloc (Below.refl w.heap.size w) (.cells #[.int .i64 a0, .bool a1, .bool a2, .int .i64 a3, .int .i64 a4, .int .i64 a5, .slice A6 l6.length c6, .slice A7 l7.length c7, .int .i64 a8, .slice A9 l9.length c9, .slice A10 l10.length c10] 26))
  have fin := fun (W : World) (h : Below w.heap.size w W) => Lib.hid (show AgainP w ([], 17) (.returned (.tuple #[.slice none 0 0, .int .i64 17])) W from ⟨_, rfl, Kd.R_nil _ _ _ _ _, h⟩)
  have C1 := Lib.hid (in_calls a3 0 4095 true h1)
  have C2 := Lib.hid (in_calls a4 0 1048576 true h2)
  have C3 := Lib.hid (in_calls a5 0 1099511627776 true h3)
  clear h1 h2 h3
  have t1 : decide (24 < l6.length) = false := decide_eq_false h4
  have t3 : decide ((24 : Int) < (l6.length : Int)) = false := decide_eq_false (by omega)
  have t2 : decide (24 < l7.length) = true := decide_eq_true h5
  go_enter Tryd.func10, Tryd.ntmps10
  go_wp2_with fail
  refine (C1.out _).mono ?_
  rintro e w' ⟨rfl, ⟨n1, rfl⟩⟩
  go_wp2_with fail
  refine (C2.out _).mono ?_
  rintro e w' ⟨rfl, ⟨n2, rfl⟩⟩
  go_wp2_with fail
  refine (C3.out _).mono ?_
  rintro e w' ⟨rfl, ⟨n3, rfl⟩⟩
  go_wp2_with fail
  go_ret2
  exact (fin _ (pw_below_drewN hB.out _)).out
set_option maxRecDepth 100000 in
set_option maxHeartbeats 8000000 in
theorem rver_good (k : Nat) (r : List Int × Int) (w : World) (h1 : inB a3 0 4095 = true) (h2 : inB a4 0 1048576 = true) (h3 : inB a5 0 1099511627776 = true) (h4 : ¬ 24 < l6.length) (h5 : ¬ 24 < l7.length)
    (g6 : Kd.C (Kd.int .u8) w A6 l6.length l6) (hc6 : l6.length ≤ c6) (g7 : Kd.C (Kd.int .u8) w A7 l7.length l7) (hC7 : l7.length ≤ c7) (g9 : Kd.C (Kd.int .u8) w A9 l9.length l9) (hc9 : l9.length ≤ c9) (g10 : Kd.C (Kd.int .u8) w A10 l10.length l10) (hc10 : l10.length ≤ c10)
    (h : (refVerB k a1 a2 a3 a4 a5 l6 l7).bind (refVerL k a2 a8 l9 l10) = some r) :
    Calls Tryd.prog 10 #[.agg (verC a0 a1 a2 a3 a4 a5 A6 c6 l6 A7 c7 l7 a8 A9 c9 l9 A10 c10 l10)] w (AgainP w r) := by
  unfold verC
  have hu26 := Tryd.underlying26
  have hu24 := Tryd.underlying24
  have t1 : decide (24 < l6.length) = false := decide_eq_false h4
  have t3 : decide ((24 : Int) < (l6.length : Int)) = false := decide_eq_false (by omega)
  have t2 : decide (24 < l7.length) = false := decide_eq_false h5
  have t4 : decide ((24 : Int) < (l7.length : Int)) = false := decide_eq_false (by omega)
  have C1 := Lib.hid (in_calls a3 0 4095 true h1)
  have C2 := Lib.hid (in_calls a4 0 1048576 true h2)
  have C3 := Lib.hid (in_calls a5 0 1099511627776 true h3)
  obtain ⟨b, HB, HL⟩ := Option.bind_eq_some_iff.1 h
  unfold refVerB at HB
  obtain ⟨p2, P2, HB⟩ := Option.bind_eq_some_iff.1 HB
  obtain ⟨p3, P3, HB⟩ := Option.bind_eq_some_iff.1 HB
  obtain ⟨p4, P4, HB⟩ := Option.bind_eq_some_iff.1 HB
  obtain ⟨p5, P5, HB⟩ := Option.bind_eq_some_iff.1 HB
  obtain ⟨p6, P6, HB⟩ := Option.bind_eq_some_iff.1 HB
  by_cases hlen : p2.length + p3.length + p4.length + p5.length + p6.length ≤ 1000000
  · rw [if_pos hlen] at HB
    have HB := Option.some.inj HB
    have P2 := Lib.hid P2
    have P3 := Lib.hid P3
    have P4 := Lib.hid P4
    have P5 := Lib.hid P5
    have P6 := Lib.hid P6
    have HB := Lib.hid HB
    have HL := Lib.hid HL
    have hlen := Lib.hid hlen
    clear h h1 h2 h3 h4 h5
    cases a2 with
    | true =>
      cases a1
      all_goals
        go_enter Tryd.func10, Tryd.ntmps10
        go_wp2_with fail
        refine (C1.out _).mono ?_
        rintro e w' ⟨rfl, ⟨n1, rfl⟩⟩
        go_wp2_with fail
        refine (C2.out _).mono ?_
        rintro e w' ⟨rfl, ⟨n2, rfl⟩⟩
        go_wp2_with fail
        refine (C3.out _).mono ?_
        rintro e w' ⟨rfl, ⟨n3, rfl⟩⟩
        clear C1 C2 C3
        go_wp2_with fail
        refine (deedboxref01_Put.calls k _ _ p2 _ P2.out).mono ?_
        rintro e U2 ⟨T2, rfl, R2, D2⟩
        have V1 : Kd.R (Kd.int .u8) 5 U2 w.heap.size (fun _ => True) (.slice (some ⟨w.heap.size + 1, 0, none⟩) 1 1) [_] := Kd.R_below (lit1 _ w.heap.size (w.heap.size + 1) (by simp) (by simp) _) D2
        have K1 := blk_below (blk_alloc (blk_drewN (blk_new w (.cells _ 26)) _) _) D2
        have B1 := below_step (below_alloc (pw_below_drewN (below_alloc (Below.refl w.heap.size w) _) _) _) D2
        obtain ⟨E2, e2, rfl, m2, Q2⟩ := Kd.R_reads R2
        clear D2 R2
        go_wp2_with ((with_reducible refine gate_builtin (b := .append) (xs := #[.tmp 45, .tmp 49]) rfl ?_); at_builtin; refine Kd.R_append_rows (Kd.int .u8) (w0 := w) w.heap.size rfl (.tmp 45) (.tmp 49) 22 5 (.int .u8 0) 1 rfl Tryd.underlying22 Rw.info5 rfl (by decide) (by omega) _ _ p2 _ _ _ (fun _ => True) (fun _ => False) rfl rfl V1 Q2 (fun _ _ h => h) (fun _ h => h.elim) (fun _ _ => trivial) B1 B1.size (by have := hlen.out; simp only [List.length_append, List.length_cons, List.length_nil]; omega) ?_; intro v2 W2 V2 B2 g2_ hat_; clear hat_; have K2 := blk_grown K1 g2_ (R_off V1 K1 (by decide)); have hlt := blk_lt K2; have y4 : W2.cell? ⟨w.heap.size, 4, none⟩ = some (.int .i64 a4) := (blk_cell K2 4).trans rfl; clear g2_ K1 V1 Q2 B1)
        refine (deedboxref01_Put.calls k _ _ p3 _ P3.out).mono ?_
        rintro e U3 ⟨T3, rfl, R3, D3⟩
        clear hlt y4
        replace V2 := Kd.R_below V2 D3
        replace K2 := blk_below K2 D3
        replace B2 := below_step B2 D3
        obtain ⟨E3, e3, rfl, m3, Q3⟩ := Kd.R_reads R3
        clear D3 R3
        go_wp2_with ((with_reducible refine gate_builtin (b := .append) (xs := #[.tmp 51, .tmp 55]) rfl ?_); at_builtin; refine Kd.R_append_rows (Kd.int .u8) (w0 := w) w.heap.size rfl (.tmp 51) (.tmp 55) 22 5 (.int .u8 0) 1 rfl Tryd.underlying22 Rw.info5 rfl (by decide) (by omega) _ _ p3 _ _ _ (fun _ => True) (fun _ => False) rfl rfl V2 Q3 (fun _ _ h => h) (fun _ h => h.elim) (fun _ _ => trivial) B2 B2.size (by have := hlen.out; simp only [List.length_append, List.length_cons, List.length_nil]; omega) ?_; intro v3 W3 V3 B3 g3_ hat_; clear hat_; have K3 := blk_grown K2 g3_ (R_off V2 K2 (by decide)); have hlt := blk_lt K3; have y5 : W3.cell? ⟨w.heap.size, 5, none⟩ = some (.int .i64 a5) := (blk_cell K3 5).trans rfl; clear g3_ K2 V2 Q3 B2)
        refine (deedboxref01_Put.calls k _ _ p4 _ P4.out).mono ?_
        rintro e U4 ⟨T4, rfl, R4, D4⟩
        clear hlt y5
        replace V3 := Kd.R_below V3 D4
        replace K3 := blk_below K3 D4
        replace B3 := below_step B3 D4
        obtain ⟨E4, e4, rfl, m4, Q4⟩ := Kd.R_reads R4
        clear D4 R4
        go_wp2_with ((with_reducible refine gate_builtin (b := .append) (xs := #[.tmp 57, .tmp 61]) rfl ?_); at_builtin; refine Kd.R_append_rows (Kd.int .u8) (w0 := w) w.heap.size rfl (.tmp 57) (.tmp 61) 22 5 (.int .u8 0) 1 rfl Tryd.underlying22 Rw.info5 rfl (by decide) (by omega) _ _ p4 _ _ _ (fun _ => True) (fun _ => False) rfl rfl V3 Q4 (fun _ _ h => h) (fun _ h => h.elim) (fun _ _ => trivial) B3 B3.size (by have := hlen.out; simp only [List.length_append, List.length_cons, List.length_nil]; omega) ?_; intro v4 W4 V4 B4 g4_ hat_; clear hat_; have K4 := blk_grown K3 g4_ (R_off V3 K3 (by decide)); have hlt := blk_lt K4; have y6 : W4.cell? ⟨w.heap.size, 6, none⟩ = some (.slice A6 l6.length c6) := (blk_cell K4 6).trans rfl; clear g4_ K3 V3 Q4 B3)
        refine (deedboxref24_short.calls A6 c6 l6 p5 _ (Kd.C_below g6 B4) hc6 P5.out).mono ?_
        rintro e U5 ⟨T5, rfl, R5, D5⟩
        clear hlt y6
        replace V4 := Kd.R_below V4 D5
        replace K4 := blk_below K4 D5
        replace B4 := below_step B4 D5
        obtain ⟨E5, e5, rfl, m5, Q5⟩ := Kd.R_reads R5
        clear D5 R5
        go_wp2_with ((with_reducible refine gate_builtin (b := .append) (xs := #[.tmp 63, .tmp 66]) rfl ?_); at_builtin; refine Kd.R_append_rows (Kd.int .u8) (w0 := w) w.heap.size rfl (.tmp 63) (.tmp 66) 22 5 (.int .u8 0) 1 rfl Tryd.underlying22 Rw.info5 rfl (by decide) (by omega) _ _ p5 _ _ _ (fun _ => True) (fun _ => False) rfl rfl V4 Q5 (fun _ _ h => h) (fun _ h => h.elim) (fun _ _ => trivial) B4 B4.size (by have := hlen.out; simp only [List.length_append, List.length_cons, List.length_nil]; omega) ?_; intro v5 W5 V5 B5 g5_ hat_; clear hat_; have K5 := blk_grown K4 g5_ (R_off V4 K4 (by decide)); have hlt := blk_lt K5; have y7 : W5.cell? ⟨w.heap.size, 7, none⟩ = some (.slice A7 l7.length c7) := (blk_cell K5 7).trans rfl; clear g5_ K4 V4 Q5 B4)
        refine (deedboxref24_short.calls A7 c7 l7 p6 _ (Kd.C_below g7 B5) hC7 P6.out).mono ?_
        rintro e U6 ⟨T6, rfl, R6, D6⟩
        clear hlt y7
        replace V5 := Kd.R_below V5 D6
        replace K5 := blk_below K5 D6
        replace B5 := below_step B5 D6
        obtain ⟨E6, e6, rfl, m6, Q6⟩ := Kd.R_reads R6
        clear D6 R6
        go_wp2_with ((with_reducible refine gate_builtin (b := .append) (xs := #[.tmp 68, .tmp 71]) rfl ?_); at_builtin; refine Kd.R_append_rows (Kd.int .u8) (w0 := w) w.heap.size rfl (.tmp 68) (.tmp 71) 22 5 (.int .u8 0) 1 rfl Tryd.underlying22 Rw.info5 rfl (by decide) (by omega) _ _ p6 _ _ _ (fun _ => True) (fun _ => False) rfl rfl V5 Q6 (fun _ _ h => h) (fun _ h => h.elim) (fun _ _ => trivial) B5 B5.size (by have := hlen.out; simp only [List.length_append, List.length_cons, List.length_nil]; omega) ?_; intro v6 W6 V6 B6 g6_ hat_; clear hat_; have K6 := blk_grown K5 g6_ (R_off V5 K5 (by decide)); have hlt := blk_lt K6; have y2 := (blk_cell K6 2).trans (show _ = some _ from rfl); have y8 : W6.cell? ⟨w.heap.size, 8, none⟩ = some (.int .i64 a8) := (blk_cell K6 8).trans rfl; have y9 : W6.cell? ⟨w.heap.size, 9, none⟩ = some (.slice A9 l9.length c9) := (blk_cell K6 9).trans rfl; have y10 : W6.cell? ⟨w.heap.size, 10, none⟩ = some (.slice A10 l10.length c10) := (blk_cell K6 10).trans rfl; clear g6_ K5 V5 Q6 B5)
        have HLo := HL.out
        unfold refVerL at HLo
        simp only [if_true, Option.some.injEq] at HLo
        subst HLo
        have VB : Kd.R (Kd.int .u8) 5 W6 w.heap.size (fun _ => True) v6 b := by rw [← HB.out]; exact V6
        have F := Lib.hid (show AgainP w (b, 0) (.returned (.tuple #[v6, .int .i64 0])) W6 from ⟨v6, rfl, VB, B6⟩)
        clear V6 VB B6 K6
        go_ret2
        exact F.out
    | false =>
      cases a1
      all_goals
        go_enter Tryd.func10, Tryd.ntmps10
        go_wp2_with fail
        refine (C1.out _).mono ?_
        rintro e w' ⟨rfl, ⟨n1, rfl⟩⟩
        go_wp2_with fail
        refine (C2.out _).mono ?_
        rintro e w' ⟨rfl, ⟨n2, rfl⟩⟩
        go_wp2_with fail
        refine (C3.out _).mono ?_
        rintro e w' ⟨rfl, ⟨n3, rfl⟩⟩
        clear C1 C2 C3
        go_wp2_with fail
        refine (deedboxref01_Put.calls k _ _ p2 _ P2.out).mono ?_
        rintro e U2 ⟨T2, rfl, R2, D2⟩
        have V1 : Kd.R (Kd.int .u8) 5 U2 w.heap.size (fun _ => True) (.slice (some ⟨w.heap.size + 1, 0, none⟩) 1 1) [_] := Kd.R_below (lit1 _ w.heap.size (w.heap.size + 1) (by simp) (by simp) _) D2
        have K1 := blk_below (blk_alloc (blk_drewN (blk_new w (.cells _ 26)) _) _) D2
        have B1 := below_step (below_alloc (pw_below_drewN (below_alloc (Below.refl w.heap.size w) _) _) _) D2
        obtain ⟨E2, e2, rfl, m2, Q2⟩ := Kd.R_reads R2
        clear D2 R2
        go_wp2_with ((with_reducible refine gate_builtin (b := .append) (xs := #[.tmp 45, .tmp 49]) rfl ?_); at_builtin; refine Kd.R_append_rows (Kd.int .u8) (w0 := w) w.heap.size rfl (.tmp 45) (.tmp 49) 22 5 (.int .u8 0) 1 rfl Tryd.underlying22 Rw.info5 rfl (by decide) (by omega) _ _ p2 _ _ _ (fun _ => True) (fun _ => False) rfl rfl V1 Q2 (fun _ _ h => h) (fun _ h => h.elim) (fun _ _ => trivial) B1 B1.size (by have := hlen.out; simp only [List.length_append, List.length_cons, List.length_nil]; omega) ?_; intro v2 W2 V2 B2 g2_ hat_; clear hat_; have K2 := blk_grown K1 g2_ (R_off V1 K1 (by decide)); have hlt := blk_lt K2; have y4 : W2.cell? ⟨w.heap.size, 4, none⟩ = some (.int .i64 a4) := (blk_cell K2 4).trans rfl; clear g2_ K1 V1 Q2 B1)
        refine (deedboxref01_Put.calls k _ _ p3 _ P3.out).mono ?_
        rintro e U3 ⟨T3, rfl, R3, D3⟩
        clear hlt y4
        replace V2 := Kd.R_below V2 D3
        replace K2 := blk_below K2 D3
        replace B2 := below_step B2 D3
        obtain ⟨E3, e3, rfl, m3, Q3⟩ := Kd.R_reads R3
        clear D3 R3
        go_wp2_with ((with_reducible refine gate_builtin (b := .append) (xs := #[.tmp 51, .tmp 55]) rfl ?_); at_builtin; refine Kd.R_append_rows (Kd.int .u8) (w0 := w) w.heap.size rfl (.tmp 51) (.tmp 55) 22 5 (.int .u8 0) 1 rfl Tryd.underlying22 Rw.info5 rfl (by decide) (by omega) _ _ p3 _ _ _ (fun _ => True) (fun _ => False) rfl rfl V2 Q3 (fun _ _ h => h) (fun _ h => h.elim) (fun _ _ => trivial) B2 B2.size (by have := hlen.out; simp only [List.length_append, List.length_cons, List.length_nil]; omega) ?_; intro v3 W3 V3 B3 g3_ hat_; clear hat_; have K3 := blk_grown K2 g3_ (R_off V2 K2 (by decide)); have hlt := blk_lt K3; have y5 : W3.cell? ⟨w.heap.size, 5, none⟩ = some (.int .i64 a5) := (blk_cell K3 5).trans rfl; clear g3_ K2 V2 Q3 B2)
        refine (deedboxref01_Put.calls k _ _ p4 _ P4.out).mono ?_
        rintro e U4 ⟨T4, rfl, R4, D4⟩
        clear hlt y5
        replace V3 := Kd.R_below V3 D4
        replace K3 := blk_below K3 D4
        replace B3 := below_step B3 D4
        obtain ⟨E4, e4, rfl, m4, Q4⟩ := Kd.R_reads R4
        clear D4 R4
        go_wp2_with ((with_reducible refine gate_builtin (b := .append) (xs := #[.tmp 57, .tmp 61]) rfl ?_); at_builtin; refine Kd.R_append_rows (Kd.int .u8) (w0 := w) w.heap.size rfl (.tmp 57) (.tmp 61) 22 5 (.int .u8 0) 1 rfl Tryd.underlying22 Rw.info5 rfl (by decide) (by omega) _ _ p4 _ _ _ (fun _ => True) (fun _ => False) rfl rfl V3 Q4 (fun _ _ h => h) (fun _ h => h.elim) (fun _ _ => trivial) B3 B3.size (by have := hlen.out; simp only [List.length_append, List.length_cons, List.length_nil]; omega) ?_; intro v4 W4 V4 B4 g4_ hat_; clear hat_; have K4 := blk_grown K3 g4_ (R_off V3 K3 (by decide)); have hlt := blk_lt K4; have y6 : W4.cell? ⟨w.heap.size, 6, none⟩ = some (.slice A6 l6.length c6) := (blk_cell K4 6).trans rfl; clear g4_ K3 V3 Q4 B3)
        refine (deedboxref24_short.calls A6 c6 l6 p5 _ (Kd.C_below g6 B4) hc6 P5.out).mono ?_
        rintro e U5 ⟨T5, rfl, R5, D5⟩
        clear hlt y6
        replace V4 := Kd.R_below V4 D5
        replace K4 := blk_below K4 D5
        replace B4 := below_step B4 D5
        obtain ⟨E5, e5, rfl, m5, Q5⟩ := Kd.R_reads R5
        clear D5 R5
        go_wp2_with ((with_reducible refine gate_builtin (b := .append) (xs := #[.tmp 63, .tmp 66]) rfl ?_); at_builtin; refine Kd.R_append_rows (Kd.int .u8) (w0 := w) w.heap.size rfl (.tmp 63) (.tmp 66) 22 5 (.int .u8 0) 1 rfl Tryd.underlying22 Rw.info5 rfl (by decide) (by omega) _ _ p5 _ _ _ (fun _ => True) (fun _ => False) rfl rfl V4 Q5 (fun _ _ h => h) (fun _ h => h.elim) (fun _ _ => trivial) B4 B4.size (by have := hlen.out; simp only [List.length_append, List.length_cons, List.length_nil]; omega) ?_; intro v5 W5 V5 B5 g5_ hat_; clear hat_; have K5 := blk_grown K4 g5_ (R_off V4 K4 (by decide)); have hlt := blk_lt K5; have y7 : W5.cell? ⟨w.heap.size, 7, none⟩ = some (.slice A7 l7.length c7) := (blk_cell K5 7).trans rfl; clear g5_ K4 V4 Q5 B4)
        refine (deedboxref24_short.calls A7 c7 l7 p6 _ (Kd.C_below g7 B5) hC7 P6.out).mono ?_
        rintro e U6 ⟨T6, rfl, R6, D6⟩
        clear hlt y7
        replace V5 := Kd.R_below V5 D6
        replace K5 := blk_below K5 D6
        replace B5 := below_step B5 D6
        obtain ⟨E6, e6, rfl, m6, Q6⟩ := Kd.R_reads R6
        clear D6 R6
        go_wp2_with ((with_reducible refine gate_builtin (b := .append) (xs := #[.tmp 68, .tmp 71]) rfl ?_); at_builtin; refine Kd.R_append_rows (Kd.int .u8) (w0 := w) w.heap.size rfl (.tmp 68) (.tmp 71) 22 5 (.int .u8 0) 1 rfl Tryd.underlying22 Rw.info5 rfl (by decide) (by omega) _ _ p6 _ _ _ (fun _ => True) (fun _ => False) rfl rfl V5 Q6 (fun _ _ h => h) (fun _ h => h.elim) (fun _ _ => trivial) B5 B5.size (by have := hlen.out; simp only [List.length_append, List.length_cons, List.length_nil]; omega) ?_; intro v6 W6 V6 B6 g6_ hat_; clear hat_; have K6 := blk_grown K5 g6_ (R_off V5 K5 (by decide)); have hlt := blk_lt K6; have y2 := (blk_cell K6 2).trans (show _ = some _ from rfl); have y8 : W6.cell? ⟨w.heap.size, 8, none⟩ = some (.int .i64 a8) := (blk_cell K6 8).trans rfl; have y9 : W6.cell? ⟨w.heap.size, 9, none⟩ = some (.slice A9 l9.length c9) := (blk_cell K6 9).trans rfl; have y10 : W6.cell? ⟨w.heap.size, 10, none⟩ = some (.slice A10 l10.length c10) := (blk_cell K6 10).trans rfl; clear g6_ K5 V5 Q6 B5)
        have HLo := HL.out
        unfold refVerL at HLo
        simp only [Bool.false_eq_true, if_false] at HLo
        obtain ⟨q, hq, HLo⟩ := Option.bind_eq_some_iff.1 HLo
        obtain ⟨kk, ok⟩ := q
        simp only at HLo
        have LK := Lib.hid (deedboxref24_Lock.calls k a8 A9 c9 l9 A10 c10 l10 kk ok W6 (Kd.C_below g9 B6) hc9 (Kd.C_below g10 B6) hc10 hq)
        have VB : Kd.R (Kd.int .u8) 5 W6 w.heap.size (fun _ => True) v6 b := by rw [← HB.out]; exact V6
        clear V6 K6 hq hlt y2 y8 y9 y10
        refine LK.out.mono ?_
        rintro e U7 ⟨T7, rfl, R7, D7⟩
        replace VB := Kd.R_below VB D7
        have B7 := below_step B6 D7
        obtain ⟨E7, e7, rfl, m7, Q7⟩ := Kd.R_reads R7
        clear LK D7 R7 B6
        cases ok with
        | false =>
          simp only [Bool.false_eq_true, if_false, Option.some.injEq] at HLo
          subst HLo
          have F := Lib.hid (show AgainP w ([], 12) (.returned (.tuple #[.slice none 0 0, .int .i64 12])) U7 from ⟨_, rfl, Kd.R_nil _ _ _ _ _, B7⟩)
          clear VB B7 Q7
          go_wp2_with fail
          go_ret2
          exact F.out
        | true =>
          simp only [if_true] at HLo
          by_cases hbl : b.length + kk.length ≤ 10000000
          · rw [if_pos hbl] at HLo
            obtain rfl := Option.some.inj HLo
            have hbl := Lib.hid hbl
            go_wp2_with ((with_reducible refine gate_builtin (b := .append) (xs := #[.tmp 84, .tmp 85]) rfl ?_); at_builtin; refine Kd.R_append_rows (Kd.int .u8) (w0 := w) w.heap.size rfl (.tmp 84) (.tmp 85) 22 5 (.int .u8 0) 1 rfl Tryd.underlying22 Rw.info5 rfl (by decide) (by omega) _ b kk _ _ _ (fun _ => True) (fun _ => False) rfl rfl VB Q7 (fun _ _ h => h) (fun _ h => h.elim) (fun _ _ => trivial) B7 B7.size (by have := hbl.out; omega) ?_; intro v8 W8 V8 B8 g8_ hat_; clear g8_ hat_ VB Q7 B7)
            go_ret2
            exact ⟨v8, rfl, V8, B8⟩
          · rw [if_neg hbl] at HLo
            cases HLo
  · rw [if_neg hlen] at HB
    cases HB
end
theorem deedboxref24_Version.calls (k : Nat) (a0_0 : Int) (a0_1 : Bool) (a0_2 : Bool) (a0_3 : Int) (a0_4 : Int) (a0_5 : Int) (A0_6 : Option Addr) (c0_6 : Nat) (l0_6 : List Int) (A0_7 : Option Addr) (c0_7 : Nat) (l0_7 : List Int) (a0_8 : Int) (A0_9 : Option Addr) (c0_9 : Nat) (l0_9 : List Int) (A0_10 : Option Addr) (c0_10 : Nat) (l0_10 : List Int) (r1 : List Int) (r2 : Int) (w : World) (hr0_6 : Kd.C (Kd.int .u8) w A0_6 l0_6.length l0_6) (hc0_6 : l0_6.length ≤ c0_6) (hr0_7 : Kd.C (Kd.int .u8) w A0_7 l0_7.length l0_7) (hc0_7 : l0_7.length ≤ c0_7) (hr0_9 : Kd.C (Kd.int .u8) w A0_9 l0_9.length l0_9) (hc0_9 : l0_9.length ≤ c0_9) (hr0_10 : Kd.C (Kd.int .u8) w A0_10 l0_10.length l0_10) (hc0_10 : l0_10.length ≤ c0_10) (h : deedboxref24_Version.f k a0_0 a0_1 a0_2 a0_3 a0_4 a0_5 l0_6 l0_7 a0_8 l0_9 l0_10 = some (r1, r2)) :
    Calls Tryd.prog 10 #[.agg (verC a0_0 a0_1 a0_2 a0_3 a0_4 a0_5 A0_6 c0_6 l0_6 A0_7 c0_7 l0_7 a0_8 A0_9 c0_9 l0_9 A0_10 c0_10 l0_10)] w (AgainP w (r1, r2)) := by
  unfold deedboxref24_Version.f at h
  cases h1 : inB a0_3 0 4095 with
  | false =>
    rw [if_neg (by simp [h1])] at h
    obtain ⟨rfl, rfl⟩ := (by simpa using h : _ ∧ _)
    exact rver_range1 _ _ _ _ _ _ _ _ _ _ _ _ _ _ _ _ _ _ _ w h1
  | true =>
    cases h2 : inB a0_4 0 1048576 with
    | false =>
      rw [if_neg (by simp [h2])] at h
      obtain ⟨rfl, rfl⟩ := (by simpa using h : _ ∧ _)
      exact rver_range2 _ _ _ _ _ _ _ _ _ _ _ _ _ _ _ _ _ _ _ w h1 h2
    | true =>
      cases h3 : inB a0_5 0 1099511627776 with
      | false =>
        rw [if_neg (by simp [h3])] at h
        obtain ⟨rfl, rfl⟩ := (by simpa using h : _ ∧ _)
        exact rver_range3 _ _ _ _ _ _ _ _ _ _ _ _ _ _ _ _ _ _ _ w h1 h2 h3
      | true =>
        rw [if_pos ⟨h1, h2, h3⟩] at h
        by_cases h4 : 24 < l0_6.length
        · rw [if_pos (.inl h4)] at h
          obtain ⟨rfl, rfl⟩ := (by simpa using h : _ ∧ _)
          exact rver_size1 _ _ _ _ _ _ _ _ _ _ _ _ _ _ _ _ _ _ _ w h1 h2 h3 h4
        · by_cases h5 : 24 < l0_7.length
          · rw [if_pos (.inr h5)] at h
            obtain ⟨rfl, rfl⟩ := (by simpa using h : _ ∧ _)
            exact rver_size2 _ _ _ _ _ _ _ _ _ _ _ _ _ _ _ _ _ _ _ w h1 h2 h3 h4 h5
          · rw [if_neg (by omega)] at h
            exact rver_good _ _ _ _ _ _ _ _ _ _ _ _ _ _ _ _ _ _ _ k (r1, r2) w h1 h2 h3 h4 h5 hr0_6 hc0_6 hr0_7 hc0_7 hr0_9 hc0_9 hr0_10 hc0_10 h
end Go.Proofs.YtmciigdfhikdnaaDoor
