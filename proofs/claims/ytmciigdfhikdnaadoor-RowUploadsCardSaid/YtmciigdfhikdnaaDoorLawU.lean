/- The law of uploads, walked by hand: it tells true; no condition beside those in each theorem. -/
import Derived.Test.YtmciigdfhikdnaaDoorShort
import Derived.Test.YtmciigdfhikdnaaDoorEqU
namespace Go.Proofs.YtmciigdfhikdnaaDoor
open Go.RowKit Go.Proofs.YtmciigdfhikdnaaDoorW.PrintWords Go.Proofs.YtmciigdfhikdnaaDoorW.PrintLast Go.Proofs.YtmciigdfhikdnaaDoorW.PrintMore Go.Proofs.YtmciigdfhikdnaaDoor.Rw Go.Proofs.YtmciigdfhikdnaaDoor.Rf Go.Proofs.YtmciigdfhikdnaaDoor.Kit
set_option linter.unusedVariables false
set_option linter.unusedSimpArgs false
set_option maxRecDepth 100000 in
set_option maxHeartbeats 8000000 in
theorem RowUploads_calls (x0 : Int) (s : ByteArray) (A2 : Option Addr) (c2 : Nat) (l2 : List Int) (g : Int) (A4 : Option Addr) (c4 : Nat) (l4 : List Int) (A5 : Option Addr) (c5 : Nat) (l5 : List Int) (id : Int) (A : Option Addr) (c : Nat) (b : List Int) (w : World)
    (hC2 : Kd.C (Kd.int .u8) w A2 l2.length l2) (hc2 : l2.length ≤ c2) (hC4 : Kd.C (Kd.int .u8) w A4 l4.length l4) (hc4 : l4.length ≤ c4) (hC5 : Kd.C (Kd.int .u8) w A5 l5.length l5) (hc5 : l5.length ≤ c5) (hr : Kd.C (Kd.int .u8) w A b.length b) (hc : b.length ≤ c) (hb2 : Byt l2) (hb4 : Byt l4) (hb5 : Byt l5) (hb : Byt b) :
    Calls Tryd.prog 5 #[.agg #[.int .i64 x0, .string s, .slice A2 l2.length c2, .int .i64 g, .slice A4 l4.length c4, .slice A5 l5.length c5], .int .i64 id, .slice A b.length c] w (TrueP w) := by
  have hu44 := Tryd.underlying44
  have hu24 := Tryd.underlying24
  have K0 := blk_new w (.cells #[.int .i64 x0, .string s, .slice A2 l2.length c2, .int .i64 g, .slice A4 l4.length c4, .slice A5 l5.length c5] 44)
  have B0 := below_alloc (Below.refl w.heap.size w) (.cells #[.int .i64 x0, .string s, .slice A2 l2.length c2, .int .i64 g, .slice A4 l4.length c4, .slice A5 l5.length c5] 44)
  have HW := Lib.hid works_calls
  have HC := Lib.hid hr
  have HC2 := Lib.hid hC2
  have HC4 := Lib.hid hC4
  have HC5 := Lib.hid hC5
  clear hr hC2 hC4 hC5
  cases hsh : shortB l4.length l5.length l2.length 0 with
  | false =>
    have HS := Lib.hid (fun W : World => short_law g A4 l4.length c4 A5 l5.length c5 A2 l2.length c2 none 0 0 false W hsh)
    go_enter Tryd.func5, Tryd.ntmps5
    go_wp2_with fail
    refine (HS.out _).mono ?_
    rintro e u1 ⟨rfl, D1⟩
    replace B0 := below_step B0 D1
    clear D1 HS hsh
    go_wp2_with fail
    refine (HW.out _).mono ?_
    rintro e u2 ⟨rfl, D2⟩
    have F := Lib.hid (below_step B0 D2)
    clear B0 D2 HW
    go_wp2_with fail
    go_ret
    exact ⟨rfl, F.out⟩
  | true =>
    have hsz : l4.length < 100 ∧ l5.length < 100 ∧ l2.length < 300 := by
      unfold shortB at hsh
      simp only [Bool.and_eq_true, decide_eq_true_eq] at hsh
      omega
    have HS := Lib.hid (fun W : World => short_law g A4 l4.length c4 A5 l5.length c5 A2 l2.length c2 none 0 0 true W hsh)
    clear hsh
    by_cases hn : 300 < s.size
    · have t1 : decide (300 < s.size) = true := decide_eq_true hn
      have t2 : decide ((300 : Int) < (s.size : Int)) = true := decide_eq_true (by omega)
      go_enter Tryd.func5, Tryd.ntmps5
      go_wp2_with fail
      refine (HS.out _).mono ?_
      rintro e u1 ⟨rfl, D1⟩
      replace B0 := below_step B0 D1
      replace K0 := blk_below K0 D1
      have lt0 := blk_lt K0
      have a1_ : u1.cell? ⟨w.heap.size, 1, none⟩ = some (.string s) := (blk_cell K0 1).trans rfl
      clear D1 HS
      go_wp2_with fail
      refine (HW.out _).mono ?_
      rintro e u2 ⟨rfl, D2⟩
      have F := Lib.hid (below_step B0 D2)
      clear B0 D2 HW K0 lt0 a1_
      go_wp2_with fail
      go_ret
      exact ⟨rfl, F.out⟩
    · have t1 : decide (300 < s.size) = false := decide_eq_false hn
      have t2 : decide ((300 : Int) < (s.size : Int)) = false := decide_eq_false (by omega)
      by_cases hl : 300 < b.length
      · have t3 : decide (300 < b.length) = true := decide_eq_true hl
        have t4 : decide ((300 : Int) < (b.length : Int)) = true := decide_eq_true (by omega)
        go_enter Tryd.func5, Tryd.ntmps5
        go_wp2_with fail
        refine (HS.out _).mono ?_
        rintro e u1 ⟨rfl, D1⟩
        replace B0 := below_step B0 D1
        replace K0 := blk_below K0 D1
        have lt0 := blk_lt K0
        have a1_ : u1.cell? ⟨w.heap.size, 1, none⟩ = some (.string s) := (blk_cell K0 1).trans rfl
        clear D1 HS
        go_wp2_with fail
        refine (HW.out _).mono ?_
        rintro e u2 ⟨rfl, D2⟩
        have F := Lib.hid (below_step B0 D2)
        clear B0 D2 HW K0 lt0 a1_
        go_wp2_with fail
        go_ret
        exact ⟨rfl, F.out⟩
      · have t3 : decide (300 < b.length) = false := decide_eq_false hl
        have t4 : decide ((300 : Int) < (b.length : Int)) = false := decide_eq_false (by omega)
        obtain ⟨t, hbt, rfl, htl⟩ := str_of s
        obtain ⟨k1, H1⟩ := (upload_tell x0 t l2 g l4 l5 hbt (by omega)).rounds
        obtain ⟨k2, H2⟩ := (rupload_tell x0 t l2 g l4 l5 hbt (by omega)).rounds
        obtain ⟨k3, H3⟩ := (readUpload_tell id b hb (by omega)).rounds
        obtain ⟨k4, H4⟩ := (rreadUpload_tell id b hb (by omega)).rounds
        have hsp := uploadS_byt t l2 g l4 l5 hbt hb2 hb4 hb5
        have hsl := uploadS_len t l2 g l4 l5
        have hbk := upload_back x0 t l2 g l4 l5 hbt
        have h5 := readUpload_tell x0 (uploadS t l2 g l4 l5).1 hsp (by omega)
        obtain ⟨k6, H6⟩ := same_true (uploadS t l2 g l4 l5).1 (by omega)
        obtain ⟨k9, H9⟩ := sameUpload_true x0 (strOfNums t) l2 g l4 l5 (by omega) (by omega) (by omega)
        have hry : (readUploadS id b).2.2.1.length ≤ b.length ∧ (readUploadS id b).2.2.2.2.1.length ≤ b.length ∧ (readUploadS id b).2.2.2.2.2.1.length ≤ b.length := readUploadS_len id b
        generalize uploadS t l2 g l4 l5 = q at *
        obtain ⟨p, cd⟩ := q
        generalize readUploadS id b = r at *
        obtain ⟨y0, ys, y2, yg, y4, y5, d⟩ := r
        simp only at hbk h5 H6 H1 H2 H3 H4 hsp hsl hry
        obtain ⟨k7, H7⟩ := sameUpload_true y0 ys y2 yg y4 y5 (by omega) (by omega) (by omega)
        generalize strOfNums t = s at *
        have H1 := Lib.hid H1
        have H2 := Lib.hid H2
        have H3 := Lib.hid H3
        have H4 := Lib.hid H4
        have h5 := Lib.hid h5
        have H6 := Lib.hid H6
        have H7 := Lib.hid H7
        have H9 := Lib.hid H9
        have hbk := Lib.hid hbk
        have hle : decide (p.length ≤ 160) = true := decide_eq_true hsl
        have hle2 : decide ((p.length : Int) ≤ 160) = true := decide_eq_true (by omega)
        clear hb hl hn hsp hsl hry hbt htl hsz
        go_enter Tryd.func5, Tryd.ntmps5
        go_wp2_with fail
        refine (HS.out _).mono ?_
        rintro e u1 ⟨rfl, D1⟩
        replace K0 := blk_below K0 D1
        replace B0 := below_step B0 D1
        clear D1
        clear HS
        have lt0 := blk_lt K0
        have a0_ : u1.cell? ⟨w.heap.size, 0, none⟩ = some (.int .i64 x0) := (blk_cell K0 0).trans rfl
        have a1_ : u1.cell? ⟨w.heap.size, 1, none⟩ = some (.string s) := (blk_cell K0 1).trans rfl
        have a2_ : u1.cell? ⟨w.heap.size, 2, none⟩ = some (.slice A2 l2.length c2) := (blk_cell K0 2).trans rfl
        have a3_ : u1.cell? ⟨w.heap.size, 3, none⟩ = some (.int .i64 g) := (blk_cell K0 3).trans rfl
        have a4_ : u1.cell? ⟨w.heap.size, 4, none⟩ = some (.slice A4 l4.length c4) := (blk_cell K0 4).trans rfl
        have a5_ : u1.cell? ⟨w.heap.size, 5, none⟩ = some (.slice A5 l5.length c5) := (blk_cell K0 5).trans rfl
        have H1' := Lib.hid (row_Upload.calls k1 x0 s A2 c2 l2 g A4 c4 l4 A5 c5 l5 p cd u1 (Kd.C_below HC2.out B0) hc2 (Kd.C_below HC4.out B0) hc4 (Kd.C_below HC5.out B0) hc5 H1.out)
        go_wp2_with fail
        refine H1'.out.mono ?_
        rintro e u2 ⟨v1, rfl, R1, D2⟩
        obtain ⟨E1, e1, rfl, m1, Q1⟩ := Kd.R_reads R1
        clear R1
        replace K0 := blk_below K0 D2
        replace B0 := below_step B0 D2
        clear D2
        clear H1 H1'
        clear lt0 a0_ a1_ a2_ a3_ a4_ a5_
        have lt0 := blk_lt K0
        have a0_ : u2.cell? ⟨w.heap.size, 0, none⟩ = some (.int .i64 x0) := (blk_cell K0 0).trans rfl
        have a1_ : u2.cell? ⟨w.heap.size, 1, none⟩ = some (.string s) := (blk_cell K0 1).trans rfl
        have a2_ : u2.cell? ⟨w.heap.size, 2, none⟩ = some (.slice A2 l2.length c2) := (blk_cell K0 2).trans rfl
        have a3_ : u2.cell? ⟨w.heap.size, 3, none⟩ = some (.int .i64 g) := (blk_cell K0 3).trans rfl
        have a4_ : u2.cell? ⟨w.heap.size, 4, none⟩ = some (.slice A4 l4.length c4) := (blk_cell K0 4).trans rfl
        have a5_ : u2.cell? ⟨w.heap.size, 5, none⟩ = some (.slice A5 l5.length c5) := (blk_cell K0 5).trans rfl
        have H2' := Lib.hid (deedboxref24_Upload.calls k2 x0 s A2 c2 l2 g A4 c4 l4 A5 c5 l5 p cd u2 (Kd.C_below HC2.out B0) hc2 (Kd.C_below HC4.out B0) hc4 (Kd.C_below HC5.out B0) hc5 H2.out)
        go_wp2_with fail
        refine H2'.out.mono ?_
        rintro e u3 ⟨v2, rfl, R2, D3⟩
        obtain ⟨E2, e2, rfl, m2, Q2⟩ := Kd.R_reads R2
        clear R2
        replace Q1 := Kd.C_below Q1 D3
        replace K0 := blk_below K0 D3
        replace B0 := below_step B0 D3
        clear D3
        clear H2 H2'
        clear lt0 a0_ a1_ a2_ a3_ a4_ a5_
        have H3' := Lib.hid (ReadUpload_calls k3 id A c b _ u3 (Kd.C_below HC.out B0) hc H3.out)
        go_wp2_with fail
        refine H3'.out.mono ?_
        rintro e u4 ⟨v12, v14, v15, rfl, R12, R14, R15, _, _, _, D4⟩
        simp only at R12 R14 R15
        obtain ⟨E12, e12, rfl, m12, Q12⟩ := Kd.R_reads R12
        clear R12
        obtain ⟨E14, e14, rfl, m14, Q14⟩ := Kd.R_reads R14
        clear R14
        obtain ⟨E15, e15, rfl, m15, Q15⟩ := Kd.R_reads R15
        clear R15
        replace Q1 := Kd.C_below Q1 D4
        replace Q2 := Kd.C_below Q2 D4
        replace K0 := blk_below K0 D4
        replace B0 := below_step B0 D4
        clear D4
        clear H3 H3'
        have K1 := blk_new u4 (.cells #[.int .i64 y0, .string ys, .slice E12 y2.length e12, .int .i64 yg, .slice E14 y4.length e14, .slice E15 y5.length e15] 44)
        replace Q1 := Kd.C_alloc Q1 (.cells #[.int .i64 y0, .string ys, .slice E12 y2.length e12, .int .i64 yg, .slice E14 y4.length e14, .slice E15 y5.length e15] 44)
        replace Q2 := Kd.C_alloc Q2 (.cells #[.int .i64 y0, .string ys, .slice E12 y2.length e12, .int .i64 yg, .slice E14 y4.length e14, .slice E15 y5.length e15] 44)
        replace Q12 := Kd.C_alloc Q12 (.cells #[.int .i64 y0, .string ys, .slice E12 y2.length e12, .int .i64 yg, .slice E14 y4.length e14, .slice E15 y5.length e15] 44)
        replace Q14 := Kd.C_alloc Q14 (.cells #[.int .i64 y0, .string ys, .slice E12 y2.length e12, .int .i64 yg, .slice E14 y4.length e14, .slice E15 y5.length e15] 44)
        replace Q15 := Kd.C_alloc Q15 (.cells #[.int .i64 y0, .string ys, .slice E12 y2.length e12, .int .i64 yg, .slice E14 y4.length e14, .slice E15 y5.length e15] 44)
        replace K0 := blk_alloc K0 (.cells #[.int .i64 y0, .string ys, .slice E12 y2.length e12, .int .i64 yg, .slice E14 y4.length e14, .slice E15 y5.length e15] 44)
        replace B0 := below_alloc B0 (.cells #[.int .i64 y0, .string ys, .slice E12 y2.length e12, .int .i64 yg, .slice E14 y4.length e14, .slice E15 y5.length e15] 44)
        have H4' := Lib.hid (rU_calls k4 id A c b _ _ (Kd.C_below HC.out B0) hc H4.out)
        go_wp2_with fail
        refine H4'.out.mono ?_
        rintro e u5 ⟨E22, e22, E24, e24, E25, e25, rfl, m22, Q22, m24, Q24, m25, Q25, D5⟩
        simp only at m22 Q22 m24 Q24 m25 Q25
        clear H4 H4'
        replace Q22 := Kd.C_below Q22 D5
        replace Q24 := Kd.C_below Q24 D5
        replace Q25 := Kd.C_below Q25 D5
        replace Q1 := Kd.C_below Q1 D5
        replace Q2 := Kd.C_below Q2 D5
        replace Q12 := Kd.C_below Q12 D5
        replace Q14 := Kd.C_below Q14 D5
        replace Q15 := Kd.C_below Q15 D5
        replace K0 := blk_below K0 D5
        replace K1 := blk_below K1 D5
        replace B0 := below_step B0 D5
        clear D5
        have K2 := blk_new u5 (.cells #[.int .i64 y0, .string ys, .slice E22 y2.length e22, .int .i64 yg, .slice E24 y4.length e24, .slice E25 y5.length e25] 44)
        replace Q1 := Kd.C_alloc Q1 (.cells #[.int .i64 y0, .string ys, .slice E22 y2.length e22, .int .i64 yg, .slice E24 y4.length e24, .slice E25 y5.length e25] 44)
        replace Q2 := Kd.C_alloc Q2 (.cells #[.int .i64 y0, .string ys, .slice E22 y2.length e22, .int .i64 yg, .slice E24 y4.length e24, .slice E25 y5.length e25] 44)
        replace Q12 := Kd.C_alloc Q12 (.cells #[.int .i64 y0, .string ys, .slice E22 y2.length e22, .int .i64 yg, .slice E24 y4.length e24, .slice E25 y5.length e25] 44)
        replace Q14 := Kd.C_alloc Q14 (.cells #[.int .i64 y0, .string ys, .slice E22 y2.length e22, .int .i64 yg, .slice E24 y4.length e24, .slice E25 y5.length e25] 44)
        replace Q15 := Kd.C_alloc Q15 (.cells #[.int .i64 y0, .string ys, .slice E22 y2.length e22, .int .i64 yg, .slice E24 y4.length e24, .slice E25 y5.length e25] 44)
        replace Q22 := Kd.C_alloc Q22 (.cells #[.int .i64 y0, .string ys, .slice E22 y2.length e22, .int .i64 yg, .slice E24 y4.length e24, .slice E25 y5.length e25] 44)
        replace Q24 := Kd.C_alloc Q24 (.cells #[.int .i64 y0, .string ys, .slice E22 y2.length e22, .int .i64 yg, .slice E24 y4.length e24, .slice E25 y5.length e25] 44)
        replace Q25 := Kd.C_alloc Q25 (.cells #[.int .i64 y0, .string ys, .slice E22 y2.length e22, .int .i64 yg, .slice E24 y4.length e24, .slice E25 y5.length e25] 44)
        replace K0 := blk_alloc K0 (.cells #[.int .i64 y0, .string ys, .slice E22 y2.length e22, .int .i64 yg, .slice E24 y4.length e24, .slice E25 y5.length e25] 44)
        replace K1 := blk_alloc K1 (.cells #[.int .i64 y0, .string ys, .slice E22 y2.length e22, .int .i64 yg, .slice E24 y4.length e24, .slice E25 y5.length e25] 44)
        replace B0 := below_alloc B0 (.cells #[.int .i64 y0, .string ys, .slice E22 y2.length e22, .int .i64 yg, .slice E24 y4.length e24, .slice E25 y5.length e25] 44)
        have H6' := Lib.hid (deedboxref01_Same.calls k6 E1 e1 p E2 e2 p true _ Q1 m1 Q2 m2 H6.out)
        go_wp2_with fail
        refine H6'.out.mono ?_
        rintro e u6 ⟨rfl, ⟨n6, hn6⟩⟩
        replace Q1 := hn6 ▸ Kd.C_drewN Q1 n6
        replace Q2 := hn6 ▸ Kd.C_drewN Q2 n6
        replace Q12 := hn6 ▸ Kd.C_drewN Q12 n6
        replace Q14 := hn6 ▸ Kd.C_drewN Q14 n6
        replace Q15 := hn6 ▸ Kd.C_drewN Q15 n6
        replace Q22 := hn6 ▸ Kd.C_drewN Q22 n6
        replace Q24 := hn6 ▸ Kd.C_drewN Q24 n6
        replace Q25 := hn6 ▸ Kd.C_drewN Q25 n6
        replace K0 := hn6 ▸ blk_drewN K0 n6
        replace K1 := hn6 ▸ blk_drewN K1 n6
        replace K2 := hn6 ▸ blk_drewN K2 n6
        replace B0 := hn6 ▸ pw_below_drewN B0 n6
        clear hn6
        clear H6 H6'
        clear Q2
        have lt1 := blk_lt K1
        have lt2 := blk_lt K2
        have b0_ : u6.cell? ⟨u4.heap.size, 0, none⟩ = some (.int .i64 y0) := (blk_cell K1 0).trans rfl
        have b1_ : u6.cell? ⟨u4.heap.size, 1, none⟩ = some (.string ys) := (blk_cell K1 1).trans rfl
        have b2_ : u6.cell? ⟨u4.heap.size, 2, none⟩ = some (.slice E12 y2.length e12) := (blk_cell K1 2).trans rfl
        have b3_ : u6.cell? ⟨u4.heap.size, 3, none⟩ = some (.int .i64 yg) := (blk_cell K1 3).trans rfl
        have b4_ : u6.cell? ⟨u4.heap.size, 4, none⟩ = some (.slice E14 y4.length e14) := (blk_cell K1 4).trans rfl
        have b5_ : u6.cell? ⟨u4.heap.size, 5, none⟩ = some (.slice E15 y5.length e15) := (blk_cell K1 5).trans rfl
        have c0_ : u6.cell? ⟨u5.heap.size, 0, none⟩ = some (.int .i64 y0) := (blk_cell K2 0).trans rfl
        have c1_ : u6.cell? ⟨u5.heap.size, 1, none⟩ = some (.string ys) := (blk_cell K2 1).trans rfl
        have c2_ : u6.cell? ⟨u5.heap.size, 2, none⟩ = some (.slice E22 y2.length e22) := (blk_cell K2 2).trans rfl
        have c3_ : u6.cell? ⟨u5.heap.size, 3, none⟩ = some (.int .i64 yg) := (blk_cell K2 3).trans rfl
        have c4_ : u6.cell? ⟨u5.heap.size, 4, none⟩ = some (.slice E24 y4.length e24) := (blk_cell K2 4).trans rfl
        have c5_ : u6.cell? ⟨u5.heap.size, 5, none⟩ = some (.slice E25 y5.length e25) := (blk_cell K2 5).trans rfl
        have H7' := Lib.hid (deedboxref24_SameUpload.calls k7 y0 ys E12 e12 y2 yg E14 e14 y4 E15 e15 y5 y0 ys E22 e22 y2 yg E24 e24 y4 E25 e25 y5 true u6 Q12 m12 Q14 m14 Q15 m15 Q22 m22 Q24 m24 Q25 m25 H7.out)
        go_wp2_with fail
        refine H7'.out.mono ?_
        rintro e u7 ⟨rfl, D7⟩
        replace Q1 := Kd.C_below Q1 D7
        replace Q12 := Kd.C_below Q12 D7
        replace Q14 := Kd.C_below Q14 D7
        replace Q15 := Kd.C_below Q15 D7
        replace Q22 := Kd.C_below Q22 D7
        replace Q24 := Kd.C_below Q24 D7
        replace Q25 := Kd.C_below Q25 D7
        replace K0 := blk_below K0 D7
        replace K1 := blk_below K1 D7
        replace K2 := blk_below K2 D7
        replace B0 := below_step B0 D7
        clear D7
        clear H7 H7' lt1 lt2 b0_ b1_ b2_ b3_ b4_ b5_ c0_ c1_ c2_ c3_ c4_ c5_
        clear Q12 Q14 Q15 Q22 Q24 Q25 K1 K2
        by_cases h0 : cd = 0
        · subst h0
          have hbk := hbk.out rfl
          have h5 := h5.out
          rw [hbk] at h5
          obtain ⟨k5, H5⟩ := h5.rounds
          have H5' := Lib.hid (ReadUpload_calls k5 x0 E1 e1 p _ u7 Q1 m1 H5)
          clear hbk h5 H5
          have lt0 := blk_lt K0
          have a0_ : u7.cell? ⟨w.heap.size, 0, none⟩ = some (.int .i64 x0) := (blk_cell K0 0).trans rfl
          go_wp2_with fail
          refine H5'.out.mono ?_
          rintro e u8 ⟨v32, v34, v35, rfl, R32, R34, R35, _, _, _, D8⟩
          simp only at R32 R34 R35
          clear lt0 a0_ H5'
          obtain ⟨E32, e32, rfl, m32, Q32⟩ := Kd.R_reads R32
          clear R32
          obtain ⟨E34, e34, rfl, m34, Q34⟩ := Kd.R_reads R34
          clear R34
          obtain ⟨E35, e35, rfl, m35, Q35⟩ := Kd.R_reads R35
          clear R35
          replace Q1 := Kd.C_below Q1 D8
          replace K0 := blk_below K0 D8
          replace B0 := below_step B0 D8
          clear D8
          clear Q1
          have K3 := blk_new u8 (.cells #[.int .i64 x0, .string s, .slice E32 l2.length e32, .int .i64 g, .slice E34 l4.length e34, .slice E35 l5.length e35] 44)
          replace Q32 := Kd.C_alloc Q32 (.cells #[.int .i64 x0, .string s, .slice E32 l2.length e32, .int .i64 g, .slice E34 l4.length e34, .slice E35 l5.length e35] 44)
          replace Q34 := Kd.C_alloc Q34 (.cells #[.int .i64 x0, .string s, .slice E32 l2.length e32, .int .i64 g, .slice E34 l4.length e34, .slice E35 l5.length e35] 44)
          replace Q35 := Kd.C_alloc Q35 (.cells #[.int .i64 x0, .string s, .slice E32 l2.length e32, .int .i64 g, .slice E34 l4.length e34, .slice E35 l5.length e35] 44)
          replace K0 := blk_alloc K0 (.cells #[.int .i64 x0, .string s, .slice E32 l2.length e32, .int .i64 g, .slice E34 l4.length e34, .slice E35 l5.length e35] 44)
          replace B0 := below_alloc B0 (.cells #[.int .i64 x0, .string s, .slice E32 l2.length e32, .int .i64 g, .slice E34 l4.length e34, .slice E35 l5.length e35] 44)
          have lt0 := blk_lt K0
          have a0_ : (u8.alloc (.cells #[.int .i64 x0, .string s, .slice E32 l2.length e32, .int .i64 g, .slice E34 l4.length e34, .slice E35 l5.length e35] 44)).cell? ⟨w.heap.size, 0, none⟩ = some (.int .i64 x0) := (blk_cell K0 0).trans rfl
          have a1_ : (u8.alloc (.cells #[.int .i64 x0, .string s, .slice E32 l2.length e32, .int .i64 g, .slice E34 l4.length e34, .slice E35 l5.length e35] 44)).cell? ⟨w.heap.size, 1, none⟩ = some (.string s) := (blk_cell K0 1).trans rfl
          have a2_ : (u8.alloc (.cells #[.int .i64 x0, .string s, .slice E32 l2.length e32, .int .i64 g, .slice E34 l4.length e34, .slice E35 l5.length e35] 44)).cell? ⟨w.heap.size, 2, none⟩ = some (.slice A2 l2.length c2) := (blk_cell K0 2).trans rfl
          have a3_ : (u8.alloc (.cells #[.int .i64 x0, .string s, .slice E32 l2.length e32, .int .i64 g, .slice E34 l4.length e34, .slice E35 l5.length e35] 44)).cell? ⟨w.heap.size, 3, none⟩ = some (.int .i64 g) := (blk_cell K0 3).trans rfl
          have a4_ : (u8.alloc (.cells #[.int .i64 x0, .string s, .slice E32 l2.length e32, .int .i64 g, .slice E34 l4.length e34, .slice E35 l5.length e35] 44)).cell? ⟨w.heap.size, 4, none⟩ = some (.slice A4 l4.length c4) := (blk_cell K0 4).trans rfl
          have a5_ : (u8.alloc (.cells #[.int .i64 x0, .string s, .slice E32 l2.length e32, .int .i64 g, .slice E34 l4.length e34, .slice E35 l5.length e35] 44)).cell? ⟨w.heap.size, 5, none⟩ = some (.slice A5 l5.length c5) := (blk_cell K0 5).trans rfl
          have H9' := Lib.hid (deedboxref24_SameUpload.calls k9 x0 s E32 e32 l2 g E34 e34 l4 E35 e35 l5 x0 s A2 c2 l2 g A4 c4 l4 A5 c5 l5 true _ Q32 m32 Q34 m34 Q35 m35 (Kd.C_below HC2.out B0) hc2 (Kd.C_below HC4.out B0) hc4 (Kd.C_below HC5.out B0) hc5 H9.out)
          go_wp2_with fail
          refine H9'.out.mono ?_
          rintro e u9 ⟨rfl, D9⟩
          replace Q32 := Kd.C_below Q32 D9
          replace Q34 := Kd.C_below Q34 D9
          replace Q35 := Kd.C_below Q35 D9
          replace K0 := blk_below K0 D9
          replace K3 := blk_below K3 D9
          replace B0 := below_step B0 D9
          clear D9
          clear H9 H9' lt0 a0_ a1_ a2_ a3_ a4_ a5_
          go_wp2_with fail
          refine (HW.out _).mono ?_
          rintro e u10 ⟨rfl, D10⟩
          have F := Lib.hid (below_step B0 D10)
          clear B0 D10 HW K0 K3 Q32 Q34 Q35
          go_wp2_with fail
          go_ret
          exact ⟨rfl, F.out⟩
        · have t5 : (cd != 0) = true := by simpa using h0
          go_wp2_with fail
          refine (HW.out _).mono ?_
          rintro e u8 ⟨rfl, D8⟩
          have F := Lib.hid (below_step B0 D8)
          clear B0 D8 HW K0 Q1
          go_wp2_with fail
          go_ret
          exact ⟨rfl, F.out⟩
end Go.Proofs.YtmciigdfhikdnaaDoor
