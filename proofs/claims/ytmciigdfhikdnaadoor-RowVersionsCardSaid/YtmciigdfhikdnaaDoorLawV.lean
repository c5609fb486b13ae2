/- The law of versions, walked by hand: it tells true; no condition beside those in each theorem. -/
import Derived.Test.YtmciigdfhikdnaaDoorShort
import Derived.Test.YtmciigdfhikdnaaDoorEqV
namespace Go.Proofs.YtmciigdfhikdnaaDoor
open Go.RowKit Go.Proofs.YtmciigdfhikdnaaDoorW.PrintWords Go.Proofs.YtmciigdfhikdnaaDoorW.PrintLast Go.Proofs.YtmciigdfhikdnaaDoorW.PrintMore Go.Proofs.YtmciigdfhikdnaaDoor.Rw Go.Proofs.YtmciigdfhikdnaaDoor.Rf Go.Proofs.YtmciigdfhikdnaaDoor.Kit
set_option linter.unusedVariables false
set_option linter.unusedSimpArgs false
set_option maxRecDepth 100000 in
set_option maxHeartbeats 16000000 in
theorem RowVersions_calls (x0 : Int) (x1 x2 : Bool) (x3 x4 x5 : Int) (A6 : Option Addr) (c6 : Nat) (l6 : List Int) (A7 : Option Addr) (c7 : Nat) (l7 : List Int) (g : Int) (A9 : Option Addr) (c9 : Nat) (l9 : List Int) (A10 : Option Addr) (c10 : Nat) (l10 : List Int) (id : Int) (A : Option Addr) (c : Nat) (b : List Int) (w : World)
    (hC6 : Kd.C (Kd.int .u8) w A6 l6.length l6) (hc6 : l6.length ≤ c6) (hC7 : Kd.C (Kd.int .u8) w A7 l7.length l7) (hc7 : l7.length ≤ c7) (hC9 : Kd.C (Kd.int .u8) w A9 l9.length l9) (hc9 : l9.length ≤ c9) (hC10 : Kd.C (Kd.int .u8) w A10 l10.length l10) (hc10 : l10.length ≤ c10) (hr : Kd.C (Kd.int .u8) w A b.length b) (hc : b.length ≤ c) (hb6 : Byt l6) (hb7 : Byt l7) (hb9 : Byt l9) (hb10 : Byt l10) (hb : Byt b) :
    Calls Tryd.prog 3 #[.agg #[.int .i64 x0, .bool x1, .bool x2, .int .i64 x3, .int .i64 x4, .int .i64 x5, .slice A6 l6.length c6, .slice A7 l7.length c7, .int .i64 g, .slice A9 l9.length c9, .slice A10 l10.length c10], .int .i64 id, .slice A b.length c] w (TrueP w) := by
  have hu26 := Tryd.underlying26
  have hu24 := Tryd.underlying24
  have K0 := blk_new w (.cells #[.int .i64 x0, .bool x1, .bool x2, .int .i64 x3, .int .i64 x4, .int .i64 x5, .slice A6 l6.length c6, .slice A7 l7.length c7, .int .i64 g, .slice A9 l9.length c9, .slice A10 l10.length c10] 26)
  have B0 := below_alloc (Below.refl w.heap.size w) (.cells #[.int .i64 x0, .bool x1, .bool x2, .int .i64 x3, .int .i64 x4, .int .i64 x5, .slice A6 l6.length c6, .slice A7 l7.length c7, .int .i64 g, .slice A9 l9.length c9, .slice A10 l10.length c10] 26)
  have HW := Lib.hid works_calls
  have HC := Lib.hid hr
  have HC6 := Lib.hid hC6
  have HC7 := Lib.hid hC7
  have HC9 := Lib.hid hC9
  have HC10 := Lib.hid hC10
  clear hr hC6 hC7 hC9 hC10
  cases hsh : shortB l9.length l10.length l6.length l7.length with
  | false =>
    have HS := Lib.hid (fun W : World => short_law g A9 l9.length c9 A10 l10.length c10 A6 l6.length c6 A7 l7.length c7 false W hsh)
    go_enter Tryd.func3, Tryd.ntmps3
    go_wp2_with fail
    refine (HS.out _).mono ?_
    rintro e u1 ⟨rfl, D1⟩
    replace B0 := below_step B0 D1
    clear D1 HS hsh
    go_wp2_with fail
    refine (HW.out _).mono ?_
    rintro e u2 ⟨rfl, D2⟩
    have F := Lib.hid (below_step B0 D2)
    clear B0 D2 HW
    go_wp2_with fail
    go_ret
    exact ⟨rfl, F.out⟩
  | true =>
    have hsz : l9.length < 100 ∧ l10.length < 100 ∧ l6.length < 300 ∧ l7.length < 300 := by
      unfold shortB at hsh
      simp only [Bool.and_eq_true, decide_eq_true_eq] at hsh
      omega
    have HS := Lib.hid (fun W : World => short_law g A9 l9.length c9 A10 l10.length c10 A6 l6.length c6 A7 l7.length c7 true W hsh)
    clear hsh
    by_cases hl : 300 < b.length
    · have t3 : decide (300 < b.length) = true := decide_eq_true hl
      have t4 : decide ((300 : Int) < (b.length : Int)) = true := decide_eq_true (by omega)
      go_enter Tryd.func3, Tryd.ntmps3
      go_wp2_with fail
      refine (HS.out _).mono ?_
      rintro e u1 ⟨rfl, D1⟩
      replace B0 := below_step B0 D1
      clear D1 HS K0
      go_wp2_with fail
      refine (HW.out _).mono ?_
      rintro e u2 ⟨rfl, D2⟩
      have F := Lib.hid (below_step B0 D2)
      clear B0 D2 HW
      go_wp2_with fail
      go_ret
      exact ⟨rfl, F.out⟩
    · have t3 : decide (300 < b.length) = false := decide_eq_false hl
      have t4 : decide ((300 : Int) < (b.length : Int)) = false := decide_eq_false (by omega)
      obtain ⟨k1, H1⟩ := (version_tell x0 x1 x2 x3 x4 x5 l6 l7 g l9 l10).1.rounds
      obtain ⟨k2, H2⟩ := (version_tell x0 x1 x2 x3 x4 x5 l6 l7 g l9 l10).2.rounds
      obtain ⟨k3, H3⟩ := (readVersion_tell id b hb (by omega)).rounds
      obtain ⟨k4, H4⟩ := (rreadVersion_tell id b hb (by omega)).rounds
      have hsp := versionS_byt x1 x2 x3 x4 x5 l6 l7 g l9 l10 hb6 hb7 hb9 hb10
      have hsl := versionS_len x1 x2 x3 x4 x5 l6 l7 g l9 l10
      have hbk := version_back x0 x1 x2 x3 x4 x5 l6 l7 g l9 l10
      have h5 := readVersion_tell x0 (versionS x1 x2 x3 x4 x5 l6 l7 g l9 l10).1 hsp (by omega)
      obtain ⟨k6, H6⟩ := same_true (versionS x1 x2 x3 x4 x5 l6 l7 g l9 l10).1 (by omega)
      have HT := Lib.hid (fun (m : Bool) => sameVersion_true x0 x1 m x3 x4 x5 l6 l7 (if m = true then 0 else g) (if m = true then [] else l9) (if m = true then [] else l10) (by omega) (by omega) (by cases m <;> simp <;> omega) (by cases m <;> simp <;> omega))
      have hry := readVersionS_len id b
      generalize versionS x1 x2 x3 x4 x5 l6 l7 g l9 l10 = q at *
      obtain ⟨p, cd⟩ := q
      generalize readVersionS id b = r at *
      obtain ⟨y0, y1, y2, y3, y4, y5, y6, y7, yg, y9, y10, d⟩ := r
      simp only at hbk h5 H6 H1 H2 H3 H4 hsp hsl hry
      obtain ⟨k7, H7⟩ := sameVersion_true y0 y1 y2 y3 y4 y5 y6 y7 yg y9 y10 (by omega) (by omega) (by omega) (by omega)
      have H1 := Lib.hid H1
      have H2 := Lib.hid H2
      have H3 := Lib.hid H3
      have H4 := Lib.hid H4
      have h5 := Lib.hid h5
      have H6 := Lib.hid H6
      have H7 := Lib.hid H7
      have hbk := Lib.hid hbk
      have hle : decide (p.length ≤ 160) = true := decide_eq_true hsl
      have hle2 : decide ((p.length : Int) ≤ 160) = true := decide_eq_true (by omega)
      clear hb hl hsp hsl hry hsz hb6 hb7 hb9 hb10
      go_enter Tryd.func3, Tryd.ntmps3
      go_wp2_with fail
      refine (HS.out _).mono ?_
      rintro e u1 ⟨rfl, D1⟩
      replace K0 := blk_below K0 D1
      replace B0 := below_step B0 D1
      clear D1
      clear HS
      have lt0 := blk_lt K0
      have a0_ : u1.cell? ⟨w.heap.size, 0, none⟩ = some (.int .i64 x0) := (blk_cell K0 0).trans rfl
      have a1_ : u1.cell? ⟨w.heap.size, 1, none⟩ = some (.bool x1) := (blk_cell K0 1).trans rfl
      have a2_ : u1.cell? ⟨w.heap.size, 2, none⟩ = some (.bool x2) := (blk_cell K0 2).trans rfl
      have a3_ : u1.cell? ⟨w.heap.size, 3, none⟩ = some (.int .i64 x3) := (blk_cell K0 3).trans rfl
      have a4_ : u1.cell? ⟨w.heap.size, 4, none⟩ = some (.int .i64 x4) := (blk_cell K0 4).trans rfl
      have a5_ : u1.cell? ⟨w.heap.size, 5, none⟩ = some (.int .i64 x5) := (blk_cell K0 5).trans rfl
      have a6_ : u1.cell? ⟨w.heap.size, 6, none⟩ = some (.slice A6 l6.length c6) := (blk_cell K0 6).trans rfl
      have a7_ : u1.cell? ⟨w.heap.size, 7, none⟩ = some (.slice A7 l7.length c7) := (blk_cell K0 7).trans rfl
      have a8_ : u1.cell? ⟨w.heap.size, 8, none⟩ = some (.int .i64 g) := (blk_cell K0 8).trans rfl
      have a9_ : u1.cell? ⟨w.heap.size, 9, none⟩ = some (.slice A9 l9.length c9) := (blk_cell K0 9).trans rfl
      have a10_ : u1.cell? ⟨w.heap.size, 10, none⟩ = some (.slice A10 l10.length c10) := (blk_cell K0 10).trans rfl
      have H1' := Lib.hid (row_Version.calls k1 x0 x1 x2 x3 x4 x5 A6 c6 l6 A7 c7 l7 g A9 c9 l9 A10 c10 l10 p cd u1 (Kd.C_below HC6.out B0) hc6 (Kd.C_below HC7.out B0) hc7 (Kd.C_below HC9.out B0) hc9 (Kd.C_below HC10.out B0) hc10 H1.out)
      go_wp2_with fail
      refine H1'.out.mono ?_
      rintro e u2 ⟨v1, rfl, R1, D2⟩
      obtain ⟨E1, e1, rfl, m1, Q1⟩ := Kd.R_reads R1
      clear R1
      replace K0 := blk_below K0 D2
      replace B0 := below_step B0 D2
      clear D2
      clear H1 H1'
      clear lt0 a0_ a1_ a2_ a3_ a4_ a5_ a6_ a7_ a8_ a9_ a10_
      have lt0 := blk_lt K0
      have a0_ : u2.cell? ⟨w.heap.size, 0, none⟩ = some (.int .i64 x0) := (blk_cell K0 0).trans rfl
      have a1_ : u2.cell? ⟨w.heap.size, 1, none⟩ = some (.bool x1) := (blk_cell K0 1).trans rfl
      have a2_ : u2.cell? ⟨w.heap.size, 2, none⟩ = some (.bool x2) := (blk_cell K0 2).trans rfl
      have a3_ : u2.cell? ⟨w.heap.size, 3, none⟩ = some (.int .i64 x3) := (blk_cell K0 3).trans rfl
      have a4_ : u2.cell? ⟨w.heap.size, 4, none⟩ = some (.int .i64 x4) := (blk_cell K0 4).trans rfl
      have a5_ : u2.cell? ⟨w.heap.size, 5, none⟩ = some (.int .i64 x5) := (blk_cell K0 5).trans rfl
      have a6_ : u2.cell? ⟨w.heap.size, 6, none⟩ = some (.slice A6 l6.length c6) := (blk_cell K0 6).trans rfl
      have a7_ : u2.cell? ⟨w.heap.size, 7, none⟩ = some (.slice A7 l7.length c7) := (blk_cell K0 7).trans rfl
      have a8_ : u2.cell? ⟨w.heap.size, 8, none⟩ = some (.int .i64 g) := (blk_cell K0 8).trans rfl
      have a9_ : u2.cell? ⟨w.heap.size, 9, none⟩ = some (.slice A9 l9.length c9) := (blk_cell K0 9).trans rfl
      have a10_ : u2.cell? ⟨w.heap.size, 10, none⟩ = some (.slice A10 l10.length c10) := (blk_cell K0 10).trans rfl
      have H2' := Lib.hid (deedboxref24_Version.calls k2 x0 x1 x2 x3 x4 x5 A6 c6 l6 A7 c7 l7 g A9 c9 l9 A10 c10 l10 p cd u2 (Kd.C_below HC6.out B0) hc6 (Kd.C_below HC7.out B0) hc7 (Kd.C_below HC9.out B0) hc9 (Kd.C_below HC10.out B0) hc10 H2.out)
      go_wp2_with fail
      refine H2'.out.mono ?_
      rintro e u3 ⟨v2, rfl, R2, D3⟩
      obtain ⟨E2, e2, rfl, m2, Q2⟩ := Kd.R_reads R2
      clear R2
      replace Q1 := Kd.C_below Q1 D3
      replace K0 := blk_below K0 D3
      replace B0 := below_step B0 D3
      clear D3
      clear H2 H2'
      clear lt0 a0_ a1_ a2_ a3_ a4_ a5_ a6_ a7_ a8_ a9_ a10_
      have H3' := Lib.hid (ReadVersion_calls k3 id A c b _ u3 (Kd.C_below HC.out B0) hc H3.out)
      go_wp2_with fail
      refine H3'.out.mono ?_
      rintro e u4 ⟨v16, v17, v19, v110, rfl, R16, R17, R19, R110, _, D4⟩
      simp only at R16 R17 R19 R110
      obtain ⟨E16, e16, rfl, m16, Q16⟩ := Kd.R_reads R16
      clear R16
      obtain ⟨E17, e17, rfl, m17, Q17⟩ := Kd.R_reads R17
      clear R17
      obtain ⟨E19, e19, rfl, m19, Q19⟩ := Kd.R_reads R19
      clear R19
      obtain ⟨E110, e110, rfl, m110, Q110⟩ := Kd.R_reads R110
      clear R110
      replace Q1 := Kd.C_below Q1 D4
      replace Q2 := Kd.C_below Q2 D4
      replace K0 := blk_below K0 D4
      replace B0 := below_step B0 D4
      clear D4
      clear H3 H3'
      have K1 := blk_new u4 (.cells #[.int .i64 y0, .bool y1, .bool y2, .int .i64 y3, .int .i64 y4, .int .i64 y5, .slice E16 y6.length e16, .slice E17 y7.length e17, .int .i64 yg, .slice E19 y9.length e19, .slice E110 y10.length e110] 26)
      replace Q1 := Kd.C_alloc Q1 (.cells #[.int .i64 y0, .bool y1, .bool y2, .int .i64 y3, .int .i64 y4, .int .i64 y5, .slice E16 y6.length e16, .slice E17 y7.length e17, .int .i64 yg, .slice E19 y9.length e19, .slice E110 y10.length e110] 26)
      replace Q2 := Kd.C_alloc Q2 (.cells #[.int .i64 y0, .bool y1, .bool y2, .int .i64 y3, .int .i64 y4, .int .i64 y5, .slice E16 y6.length e16, .slice E17 y7.length e17, .int .i64 yg, .slice E19 y9.length e19, .slice E110 y10.length e110] 26)
      replace Q16 := Kd.C_alloc Q16 (.cells #[.int .i64 y0, .bool y1, .bool y2, .int .i64 y3, .int .i64 y4, .int .i64 y5, .slice E16 y6.length e16, .slice E17 y7.length e17, .int .i64 yg, .slice E19 y9.length e19, .slice E110 y10.length e110] 26)
      replace Q17 := Kd.C_alloc Q17 (.cells #[.int .i64 y0, .bool y1, .bool y2, .int .i64 y3, .int .i64 y4, .int .i64 y5, .slice E16 y6.length e16, .slice E17 y7.length e17, .int .i64 yg, .slice E19 y9.length e19, .slice E110 y10.length e110] 26)
      replace Q19 := Kd.C_alloc Q19 (.cells #[.int .i64 y0, .bool y1, .bool y2, .int .i64 y3, .int .i64 y4, .int .i64 y5, .slice E16 y6.length e16, .slice E17 y7.length e17, .int .i64 yg, .slice E19 y9.length e19, .slice E110 y10.length e110] 26)
      replace Q110 := Kd.C_alloc Q110 (.cells #[.int .i64 y0, .bool y1, .bool y2, .int .i64 y3, .int .i64 y4, .int .i64 y5, .slice E16 y6.length e16, .slice E17 y7.length e17, .int .i64 yg, .slice E19 y9.length e19, .slice E110 y10.length e110] 26)
      replace K0 := blk_alloc K0 (.cells #[.int .i64 y0, .bool y1, .bool y2, .int .i64 y3, .int .i64 y4, .int .i64 y5, .slice E16 y6.length e16, .slice E17 y7.length e17, .int .i64 yg, .slice E19 y9.length e19, .slice E110 y10.length e110] 26)
      replace B0 := below_alloc B0 (.cells #[.int .i64 y0, .bool y1, .bool y2, .int .i64 y3, .int .i64 y4, .int .i64 y5, .slice E16 y6.length e16, .slice E17 y7.length e17, .int .i64 yg, .slice E19 y9.length e19, .slice E110 y10.length e110] 26)
      have H4' := Lib.hid (rV_calls k4 id A c b _ _ (Kd.C_below HC.out B0) hc H4.out)
      go_wp2_with fail
      refine H4'.out.mono ?_
      rintro e u5 ⟨E26, e26, E27, e27, E29, e29, E210, e210, rfl, m26, Q26, m27, Q27, m29, Q29, m210, Q210, D5⟩
      simp only at m26 Q26 m27 Q27 m29 Q29 m210 Q210
      clear H4 H4'
      replace Q26 := Kd.C_below Q26 D5
      replace Q27 := Kd.C_below Q27 D5
      replace Q29 := Kd.C_below Q29 D5
      replace Q210 := Kd.C_below Q210 D5
      replace Q1 := Kd.C_below Q1 D5
      replace Q2 := Kd.C_below Q2 D5
      replace Q16 := Kd.C_below Q16 D5
      replace Q17 := Kd.C_below Q17 D5
      replace Q19 := Kd.C_below Q19 D5
      replace Q110 := Kd.C_below Q110 D5
      replace K0 := blk_below K0 D5
      replace K1 := blk_below K1 D5
      replace B0 := below_step B0 D5
      clear D5
      have K2 := blk_new u5 (.cells #[.int .i64 y0, .bool y1, .bool y2, .int .i64 y3, .int .i64 y4, .int .i64 y5, .slice E26 y6.length e26, .slice E27 y7.length e27, .int .i64 yg, .slice E29 y9.length e29, .slice E210 y10.length e210] 26)
      replace Q1 := Kd.C_alloc Q1 (.cells #[.int .i64 y0, .bool y1, .bool y2, .int .i64 y3, .int .i64 y4, .int .i64 y5, .slice E26 y6.length e26, .slice E27 y7.length e27, .int .i64 yg, .slice E29 y9.length e29, .slice E210 y10.length e210] 26)
      replace Q2 := Kd.C_alloc Q2 (.cells #[.int .i64 y0, .bool y1, .bool y2, .int .i64 y3, .int .i64 y4, .int .i64 y5, .slice E26 y6.length e26, .slice E27 y7.length e27, .int .i64 yg, .slice E29 y9.length e29, .slice E210 y10.length e210] 26)
      replace Q16 := Kd.C_alloc Q16 (.cells #[.int .i64 y0, .bool y1, .bool y2, .int .i64 y3, .int .i64 y4, .int .i64 y5, .slice E26 y6.length e26, .slice E27 y7.length e27, .int .i64 yg, .slice E29 y9.length e29, .slice E210 y10.length e210] 26)
      replace Q17 := Kd.C_alloc Q17 (.cells #[.int .i64 y0, .bool y1, .bool y2, .int .i64 y3, .int .i64 y4, .int .i64 y5, .slice E26 y6.length e26, .slice E27 y7.length e27, .int .i64 yg, .slice E29 y9.length e29, .slice E210 y10.length e210] 26)
      replace Q19 := Kd.C_alloc Q19 (.cells #[.int .i64 y0, .bool y1, .bool y2, .int .i64 y3, .int .i64 y4, .int .i64 y5, .slice E26 y6.length e26, .slice E27 y7.length e27, .int .i64 yg, .slice E29 y9.length e29, .slice E210 y10.length e210] 26)
      replace Q110 := Kd.C_alloc Q110 (.cells #[.int .i64 y0, .bool y1, .bool y2, .int .i64 y3, .int .i64 y4, .int .i64 y5, .slice E26 y6.length e26, .slice E27 y7.length e27, .int .i64 yg, .slice E29 y9.length e29, .slice E210 y10.length e210] 26)
      replace Q26 := Kd.C_alloc Q26 (.cells #[.int .i64 y0, .bool y1, .bool y2, .int .i64 y3, .int .i64 y4, .int .i64 y5, .slice E26 y6.length e26, .slice E27 y7.length e27, .int .i64 yg, .slice E29 y9.length e29, .slice E210 y10.length e210] 26)
      replace Q27 := Kd.C_alloc Q27 (.cells #[.int .i64 y0, .bool y1, .bool y2, .int .i64 y3, .int .i64 y4, .int .i64 y5, .slice E26 y6.length e26, .slice E27 y7.length e27, .int .i64 yg, .slice E29 y9.length e29, .slice E210 y10.length e210] 26)
      replace Q29 := Kd.C_alloc Q29 (.cells #[.int .i64 y0, .bool y1, .bool y2, .int .i64 y3, .int .i64 y4, .int .i64 y5, .slice E26 y6.length e26, .slice E27 y7.length e27, .int .i64 yg, .slice E29 y9.length e29, .slice E210 y10.length e210] 26)
      replace Q210 := Kd.C_alloc Q210 (.cells #[.int .i64 y0, .bool y1, .bool y2, .int .i64 y3, .int .i64 y4, .int .i64 y5, .slice E26 y6.length e26, .slice E27 y7.length e27, .int .i64 yg, .slice E29 y9.length e29, .slice E210 y10.length e210] 26)
      replace K0 := blk_alloc K0 (.cells #[.int .i64 y0, .bool y1, .bool y2, .int .i64 y3, .int .i64 y4, .int .i64 y5, .slice E26 y6.length e26, .slice E27 y7.length e27, .int .i64 yg, .slice E29 y9.length e29, .slice E210 y10.length e210] 26)
      replace K1 := blk_alloc K1 (.cells #[.int .i64 y0, .bool y1, .bool y2, .int .i64 y3, .int .i64 y4, .int .i64 y5, .slice E26 y6.length e26, .slice E27 y7.length e27, .int .i64 yg, .slice E29 y9.length e29, .slice E210 y10.length e210] 26)
      replace B0 := below_alloc B0 (.cells #[.int .i64 y0, .bool y1, .bool y2, .int .i64 y3, .int .i64 y4, .int .i64 y5, .slice E26 y6.length e26, .slice E27 y7.length e27, .int .i64 yg, .slice E29 y9.length e29, .slice E210 y10.length e210] 26)
      have H6' := Lib.hid (deedboxref01_Same.calls k6 E1 e1 p E2 e2 p true _ Q1 m1 Q2 m2 H6.out)
      go_wp2_with fail
      refine H6'.out.mono ?_
      rintro e u6 ⟨rfl, ⟨n6, hn6⟩⟩
      replace Q1 := hn6 ▸ Kd.C_drewN Q1 n6
      replace Q2 := hn6 ▸ Kd.C_drewN Q2 n6
      replace Q16 := hn6 ▸ Kd.C_drewN Q16 n6
      replace Q17 := hn6 ▸ Kd.C_drewN Q17 n6
      replace Q19 := hn6 ▸ Kd.C_drewN Q19 n6
      replace Q110 := hn6 ▸ Kd.C_drewN Q110 n6
      replace Q26 := hn6 ▸ Kd.C_drewN Q26 n6
      replace Q27 := hn6 ▸ Kd.C_drewN Q27 n6
      replace Q29 := hn6 ▸ Kd.C_drewN Q29 n6
      replace Q210 := hn6 ▸ Kd.C_drewN Q210 n6
      replace K0 := hn6 ▸ blk_drewN K0 n6
      replace K1 := hn6 ▸ blk_drewN K1 n6
      replace K2 := hn6 ▸ blk_drewN K2 n6
      replace B0 := hn6 ▸ pw_below_drewN B0 n6
      clear hn6
      clear H6 H6'
      clear Q2
      have lt1 := blk_lt K1
      have lt2 := blk_lt K2
      have b0_ : u6.cell? ⟨u4.heap.size, 0, none⟩ = some (.int .i64 y0) := (blk_cell K1 0).trans rfl
      have b1_ : u6.cell? ⟨u4.heap.size, 1, none⟩ = some (.bool y1) := (blk_cell K1 1).trans rfl
      have b2_ : u6.cell? ⟨u4.heap.size, 2, none⟩ = some (.bool y2) := (blk_cell K1 2).trans rfl
      have b3_ : u6.cell? ⟨u4.heap.size, 3, none⟩ = some (.int .i64 y3) := (blk_cell K1 3).trans rfl
      have b4_ : u6.cell? ⟨u4.heap.size, 4, none⟩ = some (.int .i64 y4) := (blk_cell K1 4).trans rfl
      have b5_ : u6.cell? ⟨u4.heap.size, 5, none⟩ = some (.int .i64 y5) := (blk_cell K1 5).trans rfl
      have b6_ : u6.cell? ⟨u4.heap.size, 6, none⟩ = some (.slice E16 y6.length e16) := (blk_cell K1 6).trans rfl
      have b7_ : u6.cell? ⟨u4.heap.size, 7, none⟩ = some (.slice E17 y7.length e17) := (blk_cell K1 7).trans rfl
      have b8_ : u6.cell? ⟨u4.heap.size, 8, none⟩ = some (.int .i64 yg) := (blk_cell K1 8).trans rfl
      have b9_ : u6.cell? ⟨u4.heap.size, 9, none⟩ = some (.slice E19 y9.length e19) := (blk_cell K1 9).trans rfl
      have b10_ : u6.cell? ⟨u4.heap.size, 10, none⟩ = some (.slice E110 y10.length e110) := (blk_cell K1 10).trans rfl
      have c0_ : u6.cell? ⟨u5.heap.size, 0, none⟩ = some (.int .i64 y0) := (blk_cell K2 0).trans rfl
      have c1_ : u6.cell? ⟨u5.heap.size, 1, none⟩ = some (.bool y1) := (blk_cell K2 1).trans rfl
      have c2_ : u6.cell? ⟨u5.heap.size, 2, none⟩ = some (.bool y2) := (blk_cell K2 2).trans rfl
      have c3_ : u6.cell? ⟨u5.heap.size, 3, none⟩ = some (.int .i64 y3) := (blk_cell K2 3).trans rfl
      have c4_ : u6.cell? ⟨u5.heap.size, 4, none⟩ = some (.int .i64 y4) := (blk_cell K2 4).trans rfl
      have c5_ : u6.cell? ⟨u5.heap.size, 5, none⟩ = some (.int .i64 y5) := (blk_cell K2 5).trans rfl
      have c6_ : u6.cell? ⟨u5.heap.size, 6, none⟩ = some (.slice E26 y6.length e26) := (blk_cell K2 6).trans rfl
      have c7_ : u6.cell? ⟨u5.heap.size, 7, none⟩ = some (.slice E27 y7.length e27) := (blk_cell K2 7).trans rfl
      have c8_ : u6.cell? ⟨u5.heap.size, 8, none⟩ = some (.int .i64 yg) := (blk_cell K2 8).trans rfl
      have c9_ : u6.cell? ⟨u5.heap.size, 9, none⟩ = some (.slice E29 y9.length e29) := (blk_cell K2 9).trans rfl
      have c10_ : u6.cell? ⟨u5.heap.size, 10, none⟩ = some (.slice E210 y10.length e210) := (blk_cell K2 10).trans rfl
      have H7' := Lib.hid (deedboxref24_SameVersion.calls k7 y0 y1 y2 y3 y4 y5 E16 e16 y6 E17 e17 y7 yg E19 e19 y9 E110 e110 y10 y0 y1 y2 y3 y4 y5 E26 e26 y6 E27 e27 y7 yg E29 e29 y9 E210 e210 y10 true u6 Q16 m16 Q17 m17 Q19 m19 Q110 m110 Q26 m26 Q27 m27 Q29 m29 Q210 m210 H7.out)
      go_wp2_with fail
      refine H7'.out.mono ?_
      rintro e u7 ⟨rfl, D7⟩
      replace Q1 := Kd.C_below Q1 D7
      replace Q16 := Kd.C_below Q16 D7
      replace Q17 := Kd.C_below Q17 D7
      replace Q19 := Kd.C_below Q19 D7
      replace Q110 := Kd.C_below Q110 D7
      replace Q26 := Kd.C_below Q26 D7
      replace Q27 := Kd.C_below Q27 D7
      replace Q29 := Kd.C_below Q29 D7
      replace Q210 := Kd.C_below Q210 D7
      replace K0 := blk_below K0 D7
      replace K1 := blk_below K1 D7
      replace K2 := blk_below K2 D7
      replace B0 := below_step B0 D7
      clear D7
      clear H7 H7' lt1 lt2 b0_ b1_ b2_ b3_ b4_ b5_ b6_ b7_ b8_ b9_ b10_ c0_ c1_ c2_ c3_ c4_ c5_ c6_ c7_ c8_ c9_ c10_
      clear Q16 Q17 Q19 Q110 Q26 Q27 Q29 Q210 K1 K2
      by_cases h0 : cd = 0
      · subst h0
        cases x2 with
        | true =>
          obtain ⟨k9, H9⟩ := HT.out true
          have hbk := hbk.out rfl
          have h5 := h5.out
          rw [hbk] at h5
          simp only [if_true] at h5 H9
          obtain ⟨k5, H5⟩ := h5.rounds
          have H9 := Lib.hid H9
          have H5' := Lib.hid (ReadVersion_calls k5 x0 E1 e1 p _ u7 Q1 m1 H5)
          clear hbk h5 H5 HT
          have lt0 := blk_lt K0
          have a0_ : u7.cell? ⟨w.heap.size, 0, none⟩ = some (.int .i64 x0) := (blk_cell K0 0).trans rfl
          have lt7 : w.heap.size < u7.heap.size := lt0
          go_wp2_with fail
          refine H5'.out.mono ?_
          rintro e u8 ⟨v36, v37, v39, v310, rfl, R36, R37, R39, R310, _, D8⟩
          simp only at R36 R37 R39 R310
          clear lt0 a0_ H5'
          have D8sz := D8.size
          obtain ⟨E36, e36, rfl, m36, Q36⟩ := Kd.R_reads R36
          obtain ⟨E37, e37, rfl, m37, Q37⟩ := Kd.R_reads R37
          obtain ⟨E39, e39, rfl, m39, Q39⟩ := Kd.R_reads R39
          obtain ⟨E310, e310, rfl, m310, Q310⟩ := Kd.R_reads R310
          replace Q1 := Kd.C_below Q1 D8
          replace K0 := blk_below K0 D8
          replace B0 := below_step B0 D8
          clear D8
          clear Q1
          clear Q36 Q37 Q39 Q310
          have K3 := blk_new u8 (.cells #[.int .i64 x0, .bool x1, .bool true, .int .i64 x3, .int .i64 x4, .int .i64 x5, .slice E36 l6.length e36, .slice E37 l7.length e37, .int .i64 0, .slice E39 0 e39, .slice E310 0 e310] 26)
          replace K0 := blk_alloc K0 (.cells #[.int .i64 x0, .bool x1, .bool true, .int .i64 x3, .int .i64 x4, .int .i64 x5, .slice E36 l6.length e36, .slice E37 l7.length e37, .int .i64 0, .slice E39 0 e39, .slice E310 0 e310] 26)
          replace B0 := below_alloc B0 (.cells #[.int .i64 x0, .bool x1, .bool true, .int .i64 x3, .int .i64 x4, .int .i64 x5, .slice E36 l6.length e36, .slice E37 l7.length e37, .int .i64 0, .slice E39 0 e39, .slice E310 0 e310] 26)
          replace R36 := Kd.R_alloc R36 (.cells #[.int .i64 x0, .bool x1, .bool true, .int .i64 x3, .int .i64 x4, .int .i64 x5, .slice E36 l6.length e36, .slice E37 l7.length e37, .int .i64 0, .slice E39 0 e39, .slice E310 0 e310] 26)
          replace R37 := Kd.R_alloc R37 (.cells #[.int .i64 x0, .bool x1, .bool true, .int .i64 x3, .int .i64 x4, .int .i64 x5, .slice E36 l6.length e36, .slice E37 l7.length e37, .int .i64 0, .slice E39 0 e39, .slice E310 0 e310] 26)
          replace R39 := Kd.R_alloc R39 (.cells #[.int .i64 x0, .bool x1, .bool true, .int .i64 x3, .int .i64 x4, .int .i64 x5, .slice E36 l6.length e36, .slice E37 l7.length e37, .int .i64 0, .slice E39 0 e39, .slice E310 0 e310] 26)
          replace R310 := Kd.R_alloc R310 (.cells #[.int .i64 x0, .bool x1, .bool true, .int .i64 x3, .int .i64 x4, .int .i64 x5, .slice E36 l6.length e36, .slice E37 l7.length e37, .int .i64 0, .slice E39 0 e39, .slice E310 0 e310] 26)
          have lt0 := blk_lt K0
          have a2_ : (u8.alloc (.cells #[.int .i64 x0, .bool x1, .bool true, .int .i64 x3, .int .i64 x4, .int .i64 x5, .slice E36 l6.length e36, .slice E37 l7.length e37, .int .i64 0, .slice E39 0 e39, .slice E310 0 e310] 26)).cell? ⟨w.heap.size, 2, none⟩ = some (.bool true) := (blk_cell K0 2).trans rfl
          have a8_ : (u8.alloc (.cells #[.int .i64 x0, .bool x1, .bool true, .int .i64 x3, .int .i64 x4, .int .i64 x5, .slice E36 l6.length e36, .slice E37 l7.length e37, .int .i64 0, .slice E39 0 e39, .slice E310 0 e310] 26)).cell? ⟨w.heap.size, 8, none⟩ = some (.int .i64 g) := (blk_cell K0 8).trans rfl
          have a9_ : (u8.alloc (.cells #[.int .i64 x0, .bool x1, .bool true, .int .i64 x3, .int .i64 x4, .int .i64 x5, .slice E36 l6.length e36, .slice E37 l7.length e37, .int .i64 0, .slice E39 0 e39, .slice E310 0 e310] 26)).cell? ⟨w.heap.size, 9, none⟩ = some (.slice A9 l9.length c9) := (blk_cell K0 9).trans rfl
          have a10_ : (u8.alloc (.cells #[.int .i64 x0, .bool x1, .bool true, .int .i64 x3, .int .i64 x4, .int .i64 x5, .slice E36 l6.length e36, .slice E37 l7.length e37, .int .i64 0, .slice E39 0 e39, .slice E310 0 e310] 26)).cell? ⟨w.heap.size, 10, none⟩ = some (.slice A10 l10.length c10) := (blk_cell K0 10).trans rfl
          have f8_ := blk_frozen K0 8
          have f9_ := blk_frozen K0 9
          have f10_ := blk_frozen K0 10
          have lt3 := blk_lt K3
          have ne3 : u8.heap.size ≠ w.heap.size := by have := D8sz; omega
          have K02 : ((((u8.alloc (.cells #[.int .i64 x0, .bool x1, .bool true, .int .i64 x3, .int .i64 x4, .int .i64 x5, .slice E36 l6.length e36, .slice E37 l7.length e37, .int .i64 0, .slice E39 0 e39, .slice E310 0 e310] 26)).setCell ⟨w.heap.size, 8, none⟩ (.int .i64 0)).setCell ⟨w.heap.size, 9, none⟩ (.slice none 0 0)).setCell ⟨w.heap.size, 10, none⟩ (.slice none 0 0)).heap[w.heap.size]? = some (.cells #[.int .i64 x0, .bool x1, .bool true, .int .i64 x3, .int .i64 x4, .int .i64 x5, .slice A6 l6.length c6, .slice A7 l7.length c7, .int .i64 0, .slice none 0 0, .slice none 0 0] 26 (0, 0)) := blk_put (cs := #[.int .i64 x0, .bool x1, .bool true, .int .i64 x3, .int .i64 x4, .int .i64 x5, .slice A6 l6.length c6, .slice A7 l7.length c7, .int .i64 0, .slice none 0 0, .slice A10 l10.length c10]) (blk_put (cs := #[.int .i64 x0, .bool x1, .bool true, .int .i64 x3, .int .i64 x4, .int .i64 x5, .slice A6 l6.length c6, .slice A7 l7.length c7, .int .i64 0, .slice A9 l9.length c9, .slice A10 l10.length c10]) (blk_put K0 8 _ rfl) 9 _ rfl) 10 _ rfl
          have K32 : ((((u8.alloc (.cells #[.int .i64 x0, .bool x1, .bool true, .int .i64 x3, .int .i64 x4, .int .i64 x5, .slice E36 l6.length e36, .slice E37 l7.length e37, .int .i64 0, .slice E39 0 e39, .slice E310 0 e310] 26)).setCell ⟨w.heap.size, 8, none⟩ (.int .i64 0)).setCell ⟨w.heap.size, 9, none⟩ (.slice none 0 0)).setCell ⟨w.heap.size, 10, none⟩ (.slice none 0 0)).heap[u8.heap.size]? = some (.cells #[.int .i64 x0, .bool x1, .bool true, .int .i64 x3, .int .i64 x4, .int .i64 x5, .slice E36 l6.length e36, .slice E37 l7.length e37, .int .i64 0, .slice E39 0 e39, .slice E310 0 e310] 26 (0, 0)) := blk_far (blk_far (blk_far K3 (by show _ ≠ w.heap.size; exact ne3) _) (by show _ ≠ w.heap.size; exact ne3) _) (by show _ ≠ w.heap.size; exact ne3) _
          have B02 : Below w.heap.size w ((((u8.alloc (.cells #[.int .i64 x0, .bool x1, .bool true, .int .i64 x3, .int .i64 x4, .int .i64 x5, .slice E36 l6.length e36, .slice E37 l7.length e37, .int .i64 0, .slice E39 0 e39, .slice E310 0 e310] 26)).setCell ⟨w.heap.size, 8, none⟩ (.int .i64 0)).setCell ⟨w.heap.size, 9, none⟩ (.slice none 0 0)).setCell ⟨w.heap.size, 10, none⟩ (.slice none 0 0)) := below_set (below_set (below_set B0 (Nat.le_refl _)) (Nat.le_refl _)) (Nat.le_refl _)
          have hst : ∀ k, k ≠ w.heap.size → ((((u8.alloc (.cells #[.int .i64 x0, .bool x1, .bool true, .int .i64 x3, .int .i64 x4, .int .i64 x5, .slice E36 l6.length e36, .slice E37 l7.length e37, .int .i64 0, .slice E39 0 e39, .slice E310 0 e310] 26)).setCell ⟨w.heap.size, 8, none⟩ (.int .i64 0)).setCell ⟨w.heap.size, 9, none⟩ (.slice none 0 0)).setCell ⟨w.heap.size, 10, none⟩ (.slice none 0 0)).heap[k]? = (u8.alloc (.cells #[.int .i64 x0, .bool x1, .bool true, .int .i64 x3, .int .i64 x4, .int .i64 x5, .slice E36 l6.length e36, .slice E37 l7.length e37, .int .i64 0, .slice E39 0 e39, .slice E310 0 e310] 26)).heap[k]? := fun k hk => ((Below.heap_setCell _ ⟨w.heap.size, 10, none⟩ _ k hk).trans (Below.heap_setCell _ ⟨w.heap.size, 9, none⟩ _ k hk)).trans (Below.heap_setCell _ ⟨w.heap.size, 8, none⟩ _ k hk)
          have V36 := R_mv R36 (W1 := ((((u8.alloc (.cells #[.int .i64 x0, .bool x1, .bool true, .int .i64 x3, .int .i64 x4, .int .i64 x5, .slice E36 l6.length e36, .slice E37 l7.length e37, .int .i64 0, .slice E39 0 e39, .slice E310 0 e310] 26)).setCell ⟨w.heap.size, 8, none⟩ (.int .i64 0)).setCell ⟨w.heap.size, 9, none⟩ (.slice none 0 0)).setCell ⟨w.heap.size, 10, none⟩ (.slice none 0 0))) (fun k h1 _ => hst k (by omega))
          have V37 := R_mv R37 (W1 := ((((u8.alloc (.cells #[.int .i64 x0, .bool x1, .bool true, .int .i64 x3, .int .i64 x4, .int .i64 x5, .slice E36 l6.length e36, .slice E37 l7.length e37, .int .i64 0, .slice E39 0 e39, .slice E310 0 e310] 26)).setCell ⟨w.heap.size, 8, none⟩ (.int .i64 0)).setCell ⟨w.heap.size, 9, none⟩ (.slice none 0 0)).setCell ⟨w.heap.size, 10, none⟩ (.slice none 0 0))) (fun k h1 _ => hst k (by omega))
          have V39 := R_mv R39 (W1 := ((((u8.alloc (.cells #[.int .i64 x0, .bool x1, .bool true, .int .i64 x3, .int .i64 x4, .int .i64 x5, .slice E36 l6.length e36, .slice E37 l7.length e37, .int .i64 0, .slice E39 0 e39, .slice E310 0 e310] 26)).setCell ⟨w.heap.size, 8, none⟩ (.int .i64 0)).setCell ⟨w.heap.size, 9, none⟩ (.slice none 0 0)).setCell ⟨w.heap.size, 10, none⟩ (.slice none 0 0))) (fun k h1 _ => hst k (by omega))
          have V310 := R_mv R310 (W1 := ((((u8.alloc (.cells #[.int .i64 x0, .bool x1, .bool true, .int .i64 x3, .int .i64 x4, .int .i64 x5, .slice E36 l6.length e36, .slice E37 l7.length e37, .int .i64 0, .slice E39 0 e39, .slice E310 0 e310] 26)).setCell ⟨w.heap.size, 8, none⟩ (.int .i64 0)).setCell ⟨w.heap.size, 9, none⟩ (.slice none 0 0)).setCell ⟨w.heap.size, 10, none⟩ (.slice none 0 0))) (fun k h1 _ => hst k (by omega))
          have hK := Lib.hid (And.intro K02 (And.intro K32 (And.intro B02 (And.intro V36 (And.intro V37 (And.intro V39 V310))))))
          clear K0 K3 B0 K02 K32 B02 hst R36 R37 R39 R310 V36 V37 V39 V310
          go_wp2_with (with_reducible refine (?roundEnd : wpList _ _ _ (⟨some 90, _, _, _, _, _⟩ :: _) _ _))
          refine ?going
          generalize hWX : ((((u8.alloc (.cells #[.int .i64 x0, .bool x1, .bool true, .int .i64 x3, .int .i64 x4, .int .i64 x5, .slice E36 l6.length e36, .slice E37 l7.length e37, .int .i64 0, .slice E39 0 e39, .slice E310 0 e310] 26)).setCell ⟨w.heap.size, 8, none⟩ (.int .i64 0)).setCell ⟨w.heap.size, 9, none⟩ (.slice none 0 0)).setCell ⟨w.heap.size, 10, none⟩ (.slice none 0 0)) = WX at *
          obtain ⟨K0, K3, B0, V36, V37, V39, V310⟩ := hK.out
          clear hWX hK lt0 lt3 a2_ a8_ a9_ a10_ f8_ f9_ f10_
          have lt0 := blk_lt K0
          have lt3 := blk_lt K3
          have a0_ : WX.cell? ⟨w.heap.size, 0, none⟩ = some (.int .i64 x0) := (blk_cell K0 0).trans rfl
          have a1_ : WX.cell? ⟨w.heap.size, 1, none⟩ = some (.bool x1) := (blk_cell K0 1).trans rfl
          have a2_ : WX.cell? ⟨w.heap.size, 2, none⟩ = some (.bool true) := (blk_cell K0 2).trans rfl
          have a3_ : WX.cell? ⟨w.heap.size, 3, none⟩ = some (.int .i64 x3) := (blk_cell K0 3).trans rfl
          have a4_ : WX.cell? ⟨w.heap.size, 4, none⟩ = some (.int .i64 x4) := (blk_cell K0 4).trans rfl
          have a5_ : WX.cell? ⟨w.heap.size, 5, none⟩ = some (.int .i64 x5) := (blk_cell K0 5).trans rfl
          have a6_ : WX.cell? ⟨w.heap.size, 6, none⟩ = some (.slice A6 l6.length c6) := (blk_cell K0 6).trans rfl
          have a7_ : WX.cell? ⟨w.heap.size, 7, none⟩ = some (.slice A7 l7.length c7) := (blk_cell K0 7).trans rfl
          have a8_ : WX.cell? ⟨w.heap.size, 8, none⟩ = some (.int .i64 0) := (blk_cell K0 8).trans rfl
          have a9_ : WX.cell? ⟨w.heap.size, 9, none⟩ = some (.slice none 0 0) := (blk_cell K0 9).trans rfl
          have a10_ : WX.cell? ⟨w.heap.size, 10, none⟩ = some (.slice none 0 0) := (blk_cell K0 10).trans rfl
          have b0_ : WX.cell? ⟨u8.heap.size, 0, none⟩ = some (.int .i64 x0) := (blk_cell K3 0).trans rfl
          have b1_ : WX.cell? ⟨u8.heap.size, 1, none⟩ = some (.bool x1) := (blk_cell K3 1).trans rfl
          have b2_ : WX.cell? ⟨u8.heap.size, 2, none⟩ = some (.bool true) := (blk_cell K3 2).trans rfl
          have b3_ : WX.cell? ⟨u8.heap.size, 3, none⟩ = some (.int .i64 x3) := (blk_cell K3 3).trans rfl
          have b4_ : WX.cell? ⟨u8.heap.size, 4, none⟩ = some (.int .i64 x4) := (blk_cell K3 4).trans rfl
          have b5_ : WX.cell? ⟨u8.heap.size, 5, none⟩ = some (.int .i64 x5) := (blk_cell K3 5).trans rfl
          have b6_ : WX.cell? ⟨u8.heap.size, 6, none⟩ = some (.slice E36 l6.length e36) := (blk_cell K3 6).trans rfl
          have b7_ : WX.cell? ⟨u8.heap.size, 7, none⟩ = some (.slice E37 l7.length e37) := (blk_cell K3 7).trans rfl
          have b8_ : WX.cell? ⟨u8.heap.size, 8, none⟩ = some (.int .i64 0) := (blk_cell K3 8).trans rfl
          have b9_ : WX.cell? ⟨u8.heap.size, 9, none⟩ = some (.slice E39 0 e39) := (blk_cell K3 9).trans rfl
          have b10_ : WX.cell? ⟨u8.heap.size, 10, none⟩ = some (.slice E310 0 e310) := (blk_cell K3 10).trans rfl
          obtain ⟨F36, g36, he36, n36, Q36⟩ := Kd.R_reads V36
          simp only [Value.slice.injEq] at he36
          obtain ⟨rfl, _, rfl⟩ := he36
          clear V36
          obtain ⟨F37, g37, he37, n37, Q37⟩ := Kd.R_reads V37
          simp only [Value.slice.injEq] at he37
          obtain ⟨rfl, _, rfl⟩ := he37
          clear V37
          obtain ⟨F39, g39, he39, n39, Q39⟩ := Kd.R_reads V39
          simp only [Value.slice.injEq] at he39
          obtain ⟨rfl, _, rfl⟩ := he39
          clear V39
          obtain ⟨F310, g310, he310, n310, Q310⟩ := Kd.R_reads V310
          simp only [Value.slice.injEq] at he310
          obtain ⟨rfl, _, rfl⟩ := he310
          clear V310
          have H9' := Lib.hid (deedboxref24_SameVersion.calls k9 x0 x1 true x3 x4 x5 E36 e36 l6 E37 e37 l7 0 E39 e39 [] E310 e310 [] x0 x1 true x3 x4 x5 A6 c6 l6 A7 c7 l7 0 none 0 [] none 0 [] true _ Q36 m36 Q37 m37 Q39 m39 Q310 m310 (Kd.C_below HC6.out B0) hc6 (Kd.C_below HC7.out B0) hc7 (Kd.C_nil _ _) (Nat.le_refl _) (Kd.C_nil _ _) (Nat.le_refl _) H9.out)
          go_wp2_with fail
          refine H9'.out.mono ?_
          rintro e u9 ⟨rfl, D9⟩
          replace Q36 := Kd.C_below Q36 D9
          replace Q37 := Kd.C_below Q37 D9
          replace Q39 := Kd.C_below Q39 D9
          replace Q310 := Kd.C_below Q310 D9
          replace K0 := blk_below K0 D9
          replace K3 := blk_below K3 D9
          replace B0 := below_step B0 D9
          clear D9
          clear H9 H9' lt0 lt3 a0_ a1_ a2_ a3_ a4_ a5_ a6_ a7_ a8_ a9_ a10_ b0_ b1_ b2_ b3_ b4_ b5_ b6_ b7_ b8_ b9_ b10_
          go_wp2_with fail
          refine (HW.out _).mono ?_
          rintro e u10 ⟨rfl, D10⟩
          have F := Lib.hid (below_step B0 D10)
          clear B0 D10 HW K0 K3 Q36 Q37 Q39 Q310
          go_wp2_with fail
          go_ret
          exact ⟨rfl, F.out⟩
        | false =>
          obtain ⟨k9, H9⟩ := HT.out false
          have hbk := hbk.out rfl
          have h5 := h5.out
          rw [hbk] at h5
          simp only [Bool.false_eq_true, if_false] at h5 H9
          obtain ⟨k5, H5⟩ := h5.rounds
          have H9 := Lib.hid H9
          have H5' := Lib.hid (ReadVersion_calls k5 x0 E1 e1 p _ u7 Q1 m1 H5)
          clear hbk h5 H5 HT
          have lt0 := blk_lt K0
          have a0_ : u7.cell? ⟨w.heap.size, 0, none⟩ = some (.int .i64 x0) := (blk_cell K0 0).trans rfl
          have lt7 : w.heap.size < u7.heap.size := lt0
          go_wp2_with fail
          refine H5'.out.mono ?_
          rintro e u8 ⟨v36, v37, v39, v310, rfl, R36, R37, R39, R310, _, D8⟩
          simp only at R36 R37 R39 R310
          clear lt0 a0_ H5'
          obtain ⟨E36, e36, rfl, m36, Q36⟩ := Kd.R_reads R36
          obtain ⟨E37, e37, rfl, m37, Q37⟩ := Kd.R_reads R37
          obtain ⟨E39, e39, rfl, m39, Q39⟩ := Kd.R_reads R39
          obtain ⟨E310, e310, rfl, m310, Q310⟩ := Kd.R_reads R310
          replace Q1 := Kd.C_below Q1 D8
          replace K0 := blk_below K0 D8
          replace B0 := below_step B0 D8
          clear D8
          clear Q1
          clear R36 R37 R39 R310
          have K3 := blk_new u8 (.cells #[.int .i64 x0, .bool x1, .bool false, .int .i64 x3, .int .i64 x4, .int .i64 x5, .slice E36 l6.length e36, .slice E37 l7.length e37, .int .i64 g, .slice E39 l9.length e39, .slice E310 l10.length e310] 26)
          replace Q36 := Kd.C_alloc Q36 (.cells #[.int .i64 x0, .bool x1, .bool false, .int .i64 x3, .int .i64 x4, .int .i64 x5, .slice E36 l6.length e36, .slice E37 l7.length e37, .int .i64 g, .slice E39 l9.length e39, .slice E310 l10.length e310] 26)
          replace Q37 := Kd.C_alloc Q37 (.cells #[.int .i64 x0, .bool x1, .bool false, .int .i64 x3, .int .i64 x4, .int .i64 x5, .slice E36 l6.length e36, .slice E37 l7.length e37, .int .i64 g, .slice E39 l9.length e39, .slice E310 l10.length e310] 26)
          replace Q39 := Kd.C_alloc Q39 (.cells #[.int .i64 x0, .bool x1, .bool false, .int .i64 x3, .int .i64 x4, .int .i64 x5, .slice E36 l6.length e36, .slice E37 l7.length e37, .int .i64 g, .slice E39 l9.length e39, .slice E310 l10.length e310] 26)
          replace Q310 := Kd.C_alloc Q310 (.cells #[.int .i64 x0, .bool x1, .bool false, .int .i64 x3, .int .i64 x4, .int .i64 x5, .slice E36 l6.length e36, .slice E37 l7.length e37, .int .i64 g, .slice E39 l9.length e39, .slice E310 l10.length e310] 26)
          replace K0 := blk_alloc K0 (.cells #[.int .i64 x0, .bool x1, .bool false, .int .i64 x3, .int .i64 x4, .int .i64 x5, .slice E36 l6.length e36, .slice E37 l7.length e37, .int .i64 g, .slice E39 l9.length e39, .slice E310 l10.length e310] 26)
          replace B0 := below_alloc B0 (.cells #[.int .i64 x0, .bool x1, .bool false, .int .i64 x3, .int .i64 x4, .int .i64 x5, .slice E36 l6.length e36, .slice E37 l7.length e37, .int .i64 g, .slice E39 l9.length e39, .slice E310 l10.length e310] 26)
          have lt0 := blk_lt K0
          have a0_ : (u8.alloc (.cells #[.int .i64 x0, .bool x1, .bool false, .int .i64 x3, .int .i64 x4, .int .i64 x5, .slice E36 l6.length e36, .slice E37 l7.length e37, .int .i64 g, .slice E39 l9.length e39, .slice E310 l10.length e310] 26)).cell? ⟨w.heap.size, 0, none⟩ = some (.int .i64 x0) := (blk_cell K0 0).trans rfl
          have a1_ : (u8.alloc (.cells #[.int .i64 x0, .bool x1, .bool false, .int .i64 x3, .int .i64 x4, .int .i64 x5, .slice E36 l6.length e36, .slice E37 l7.length e37, .int .i64 g, .slice E39 l9.length e39, .slice E310 l10.length e310] 26)).cell? ⟨w.heap.size, 1, none⟩ = some (.bool x1) := (blk_cell K0 1).trans rfl
          have a2_ : (u8.alloc (.cells #[.int .i64 x0, .bool x1, .bool false, .int .i64 x3, .int .i64 x4, .int .i64 x5, .slice E36 l6.length e36, .slice E37 l7.length e37, .int .i64 g, .slice E39 l9.length e39, .slice E310 l10.length e310] 26)).cell? ⟨w.heap.size, 2, none⟩ = some (.bool false) := (blk_cell K0 2).trans rfl
          have a3_ : (u8.alloc (.cells #[.int .i64 x0, .bool x1, .bool false, .int .i64 x3, .int .i64 x4, .int .i64 x5, .slice E36 l6.length e36, .slice E37 l7.length e37, .int .i64 g, .slice E39 l9.length e39, .slice E310 l10.length e310] 26)).cell? ⟨w.heap.size, 3, none⟩ = some (.int .i64 x3) := (blk_cell K0 3).trans rfl
          have a4_ : (u8.alloc (.cells #[.int .i64 x0, .bool x1, .bool false, .int .i64 x3, .int .i64 x4, .int .i64 x5, .slice E36 l6.length e36, .slice E37 l7.length e37, .int .i64 g, .slice E39 l9.length e39, .slice E310 l10.length e310] 26)).cell? ⟨w.heap.size, 4, none⟩ = some (.int .i64 x4) := (blk_cell K0 4).trans rfl
          have a5_ : (u8.alloc (.cells #[.int .i64 x0, .bool x1, .bool false, .int .i64 x3, .int .i64 x4, .int .i64 x5, .slice E36 l6.length e36, .slice E37 l7.length e37, .int .i64 g, .slice E39 l9.length e39, .slice E310 l10.length e310] 26)).cell? ⟨w.heap.size, 5, none⟩ = some (.int .i64 x5) := (blk_cell K0 5).trans rfl
          have a6_ : (u8.alloc (.cells #[.int .i64 x0, .bool x1, .bool false, .int .i64 x3, .int .i64 x4, .int .i64 x5, .slice E36 l6.length e36, .slice E37 l7.length e37, .int .i64 g, .slice E39 l9.length e39, .slice E310 l10.length e310] 26)).cell? ⟨w.heap.size, 6, none⟩ = some (.slice A6 l6.length c6) := (blk_cell K0 6).trans rfl
          have a7_ : (u8.alloc (.cells #[.int .i64 x0, .bool x1, .bool false, .int .i64 x3, .int .i64 x4, .int .i64 x5, .slice E36 l6.length e36, .slice E37 l7.length e37, .int .i64 g, .slice E39 l9.length e39, .slice E310 l10.length e310] 26)).cell? ⟨w.heap.size, 7, none⟩ = some (.slice A7 l7.length c7) := (blk_cell K0 7).trans rfl
          have a8_ : (u8.alloc (.cells #[.int .i64 x0, .bool x1, .bool false, .int .i64 x3, .int .i64 x4, .int .i64 x5, .slice E36 l6.length e36, .slice E37 l7.length e37, .int .i64 g, .slice E39 l9.length e39, .slice E310 l10.length e310] 26)).cell? ⟨w.heap.size, 8, none⟩ = some (.int .i64 g) := (blk_cell K0 8).trans rfl
          have a9_ : (u8.alloc (.cells #[.int .i64 x0, .bool x1, .bool false, .int .i64 x3, .int .i64 x4, .int .i64 x5, .slice E36 l6.length e36, .slice E37 l7.length e37, .int .i64 g, .slice E39 l9.length e39, .slice E310 l10.length e310] 26)).cell? ⟨w.heap.size, 9, none⟩ = some (.slice A9 l9.length c9) := (blk_cell K0 9).trans rfl
          have a10_ : (u8.alloc (.cells #[.int .i64 x0, .bool x1, .bool false, .int .i64 x3, .int .i64 x4, .int .i64 x5, .slice E36 l6.length e36, .slice E37 l7.length e37, .int .i64 g, .slice E39 l9.length e39, .slice E310 l10.length e310] 26)).cell? ⟨w.heap.size, 10, none⟩ = some (.slice A10 l10.length c10) := (blk_cell K0 10).trans rfl
          have lt3 := blk_lt K3
          have H9' := Lib.hid (deedboxref24_SameVersion.calls k9 x0 x1 false x3 x4 x5 E36 e36 l6 E37 e37 l7 g E39 e39 l9 E310 e310 l10 x0 x1 false x3 x4 x5 A6 c6 l6 A7 c7 l7 g A9 c9 l9 A10 c10 l10 true _ Q36 m36 Q37 m37 Q39 m39 Q310 m310 (Kd.C_below HC6.out B0) hc6 (Kd.C_below HC7.out B0) hc7 (Kd.C_below HC9.out B0) hc9 (Kd.C_below HC10.out B0) hc10 H9.out)
          go_wp2_with fail
          refine H9'.out.mono ?_
          rintro e u9 ⟨rfl, D9⟩
          replace Q36 := Kd.C_below Q36 D9
          replace Q37 := Kd.C_below Q37 D9
          replace Q39 := Kd.C_below Q39 D9
          replace Q310 := Kd.C_below Q310 D9
          replace K0 := blk_below K0 D9
          replace K3 := blk_below K3 D9
          replace B0 := below_step B0 D9
          clear D9
          clear H9 H9' lt0 lt3 a0_ a1_ a2_ a3_ a4_ a5_ a6_ a7_ a8_ a9_ a10_
          go_wp2_with fail
          refine (HW.out _).mono ?_
          rintro e u10 ⟨rfl, D10⟩
          have F := Lib.hid (below_step B0 D10)
          clear B0 D10 HW K0 K3 Q36 Q37 Q39 Q310
          go_wp2_with fail
          go_ret
          exact ⟨rfl, F.out⟩
      · have t5 : (cd != 0) = true := by simpa using h0
        go_wp2_with fail
        refine (HW.out _).mono ?_
        rintro e u8 ⟨rfl, D8⟩
        have F := Lib.hid (below_step B0 D8)
        clear B0 D8 HW K0 Q1
        go_wp2_with fail
        go_ret
        exact ⟨rfl, F.out⟩
end Go.Proofs.YtmciigdfhikdnaaDoor
