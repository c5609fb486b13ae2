/- The law of parts, walked by hand: it tells true; no condition beside those in each theorem. -/
import Derived.Test.YtmciigdfhikdnaaDoorShort
import Derived.Test.YtmciigdfhikdnaaDoorEqP
namespace Go.Proofs.YtmciigdfhikdnaaDoor
open Go.RowKit Go.Proofs.YtmciigdfhikdnaaDoorW.PrintWords Go.Proofs.YtmciigdfhikdnaaDoorW.PrintLast Go.Proofs.YtmciigdfhikdnaaDoorW.PrintMore Go.Proofs.YtmciigdfhikdnaaDoor.Rw Go.Proofs.YtmciigdfhikdnaaDoor.Rf Go.Proofs.YtmciigdfhikdnaaDoor.Kit
set_option linter.unusedVariables false
set_option linter.unusedSimpArgs false
set_option maxRecDepth 100000 in
set_option maxHeartbeats 4000000 in
theorem RowPieces_calls (x0 x1 x2 x3 no : Int) (A : Option Addr) (c : Nat) (b : List Int) (w : World) (hr : Kd.C (Kd.int .u8) w A b.length b) (hc : b.length ≤ c) (hb : Byt b) :
    Calls Tryd.prog 6 #[.agg #[.int .i64 x0, .int .i64 x1, .int .i64 x2, .int .i64 x3], .int .i64 no, .slice A b.length c] w (TrueP w) := by
  have hu51 := Tryd.underlying51
  have K0 := blk_new w (.cells #[.int .i64 x0, .int .i64 x1, .int .i64 x2, .int .i64 x3] 51)
  have B0 := below_alloc (Below.refl w.heap.size w) (.cells #[.int .i64 x0, .int .i64 x1, .int .i64 x2, .int .i64 x3] 51)
  have HW := Lib.hid works_calls
  by_cases hl : 300 < b.length
  · have t1 : decide (300 < b.length) = true := decide_eq_true hl
    have t2 : decide ((300 : Int) < (b.length : Int)) = true := decide_eq_true (by omega)
    go_enter Tryd.func6, Tryd.ntmps6
    go_wp2_with fail
    refine (HW.out _).mono ?_
    rintro e u1 ⟨rfl, D1⟩
    have F := Lib.hid (below_step B0 D1)
    clear B0 D1 K0 HW
    go_wp2_with fail
    go_ret
    exact ⟨rfl, F.out⟩
  · have t1 : decide (300 < b.length) = false := decide_eq_false hl
    have t2 : decide ((300 : Int) < (b.length : Int)) = false := decide_eq_false (by omega)
    obtain ⟨k1, H1⟩ := (piece_tell x0 x1 x2 x3).rounds
    obtain ⟨k2, H2⟩ := (rpiece_tell x0 x1 x2 x3).rounds
    obtain ⟨k3, H3⟩ := (readPiece_tell no b hb (by omega)).rounds
    obtain ⟨k4, H4⟩ := (rreadPiece_tell no b hb (by omega)).rounds
    have hsp := pieceS_byt x1 x2 x3
    have hbk := piece_back x0 x1 x2 x3
    have h5 := readPiece_tell x0 (pieceS x1 x2 x3).1 hsp.1 (by omega)
    obtain ⟨k6, H6⟩ := same_true (pieceS x1 x2 x3).1 (by omega)
    generalize pieceS x1 x2 x3 = s at *
    obtain ⟨p, cd⟩ := s
    generalize readPieceS no b = r at *
    obtain ⟨y0, y1, y2, y3, d⟩ := r
    simp only at hbk h5 H6 H1 H2 H3 H4 hsp
    have H1 := Lib.hid H1
    have H2 := Lib.hid H2
    have H3 := Lib.hid H3
    have H4 := Lib.hid H4
    have h5 := Lib.hid h5
    have H6 := Lib.hid H6
    have hbk := Lib.hid hbk
    have hsp := Lib.hid hsp
    have HC := Lib.hid hr
    clear hr hb hl
    go_enter Tryd.func6, Tryd.ntmps6
    go_wp2_with fail
    refine (row_Piece.calls k1 x0 x1 x2 x3 p cd _ H1.out).mono ?_
    rintro e u1 ⟨v1, rfl, R1, D1⟩
    replace K0 := blk_below K0 D1
    replace B0 := below_step B0 D1
    obtain ⟨E1, e1, rfl, m1, Q1⟩ := Kd.R_reads R1
    clear R1 D1
    have lt := blk_lt K0
    have a0_ : u1.cell? ⟨w.heap.size, 0, none⟩ = some (.int .i64 x0) := (blk_cell K0 0).trans rfl
    have a1_ : u1.cell? ⟨w.heap.size, 1, none⟩ = some (.int .i64 x1) := (blk_cell K0 1).trans rfl
    have a2_ : u1.cell? ⟨w.heap.size, 2, none⟩ = some (.int .i64 x2) := (blk_cell K0 2).trans rfl
    have a3_ : u1.cell? ⟨w.heap.size, 3, none⟩ = some (.int .i64 x3) := (blk_cell K0 3).trans rfl
    go_wp2_with fail
    refine (deedboxref24_Piece.calls k2 x0 x1 x2 x3 p cd _ H2.out).mono ?_
    rintro e u2 ⟨v2, rfl, R2, D2⟩
    replace K0 := blk_below K0 D2
    replace B0 := below_step B0 D2
    replace Q1 := Kd.C_below Q1 D2
    obtain ⟨E2, e2, rfl, m2, Q2⟩ := Kd.R_reads R2
    clear R2 D2 lt a0_ a1_ a2_ a3_
    have H3' := Lib.hid (row_ReadPiece.calls k3 no A c b y0 y1 y2 y3 d u2 (Kd.C_below HC.out B0) hc H3.out)
    go_wp2_with fail
    refine H3'.out.mono ?_
    rintro e u3 ⟨rfl, D3⟩
    replace K0 := blk_below K0 D3
    replace B0 := below_step B0 D3
    replace Q1 := Kd.C_below Q1 D3
    replace Q2 := Kd.C_below Q2 D3
    clear D3 H3 H3'
    have K1 := blk_new u3 (.cells #[.int .i64 y0, .int .i64 y1, .int .i64 y2, .int .i64 y3] 51)
    replace K0 := blk_alloc K0 (.cells #[.int .i64 y0, .int .i64 y1, .int .i64 y2, .int .i64 y3] 51)
    replace B0 := below_alloc B0 (.cells #[.int .i64 y0, .int .i64 y1, .int .i64 y2, .int .i64 y3] 51)
    replace Q1 := Kd.C_alloc Q1 (.cells #[.int .i64 y0, .int .i64 y1, .int .i64 y2, .int .i64 y3] 51)
    replace Q2 := Kd.C_alloc Q2 (.cells #[.int .i64 y0, .int .i64 y1, .int .i64 y2, .int .i64 y3] 51)
    have H4' := Lib.hid (rP_calls k4 no A c b (y0, y1, y2, y3, d) _ (Kd.C_below HC.out B0) hc H4.out)
    go_wp2_with fail
    refine H4'.out.mono ?_
    rintro e u4 ⟨rfl, D4⟩
    simp only
    replace K0 := blk_below K0 D4
    replace K1 := blk_below K1 D4
    replace B0 := below_step B0 D4
    replace Q1 := Kd.C_below Q1 D4
    replace Q2 := Kd.C_below Q2 D4
    clear D4 H4 H4'
    have K2 := blk_new u4 (.cells #[.int .i64 y0, .int .i64 y1, .int .i64 y2, .int .i64 y3] 51)
    replace K0 := blk_alloc K0 (.cells #[.int .i64 y0, .int .i64 y1, .int .i64 y2, .int .i64 y3] 51)
    replace K1 := blk_alloc K1 (.cells #[.int .i64 y0, .int .i64 y1, .int .i64 y2, .int .i64 y3] 51)
    replace B0 := below_alloc B0 (.cells #[.int .i64 y0, .int .i64 y1, .int .i64 y2, .int .i64 y3] 51)
    replace Q1 := Kd.C_alloc Q1 (.cells #[.int .i64 y0, .int .i64 y1, .int .i64 y2, .int .i64 y3] 51)
    replace Q2 := Kd.C_alloc Q2 (.cells #[.int .i64 y0, .int .i64 y1, .int .i64 y2, .int .i64 y3] 51)
    have H6' := Lib.hid (deedboxref01_Same.calls k6 E1 e1 p E2 e2 p true _ Q1 m1 Q2 m2 H6.out)
    go_wp2_with fail
    refine H6'.out.mono ?_
    rintro e u5 ⟨rfl, ⟨n5, hn5⟩⟩
    replace K0 := hn5 ▸ blk_drewN K0 n5
    replace K1 := hn5 ▸ blk_drewN K1 n5
    replace K2 := hn5 ▸ blk_drewN K2 n5
    replace B0 := hn5 ▸ pw_below_drewN B0 n5
    replace Q1 := hn5 ▸ Kd.C_drewN Q1 n5
    clear H6 H6' hn5 Q2
    have b0_ : u5.cell? ⟨u3.heap.size, 0, none⟩ = some (.int .i64 y0) := (blk_cell K1 0).trans rfl
    have b1_ : u5.cell? ⟨u3.heap.size, 1, none⟩ = some (.int .i64 y1) := (blk_cell K1 1).trans rfl
    have b2_ : u5.cell? ⟨u3.heap.size, 2, none⟩ = some (.int .i64 y2) := (blk_cell K1 2).trans rfl
    have b3_ : u5.cell? ⟨u3.heap.size, 3, none⟩ = some (.int .i64 y3) := (blk_cell K1 3).trans rfl
    have c0_ : u5.cell? ⟨u4.heap.size, 0, none⟩ = some (.int .i64 y0) := (blk_cell K2 0).trans rfl
    have c1_ : u5.cell? ⟨u4.heap.size, 1, none⟩ = some (.int .i64 y1) := (blk_cell K2 1).trans rfl
    have c2_ : u5.cell? ⟨u4.heap.size, 2, none⟩ = some (.int .i64 y2) := (blk_cell K2 2).trans rfl
    have c3_ : u5.cell? ⟨u4.heap.size, 3, none⟩ = some (.int .i64 y3) := (blk_cell K2 3).trans rfl
    have lt1 := blk_lt K1
    have lt2 := blk_lt K2
    by_cases h0 : cd = 0
    · subst h0
      have hbk := hbk.out rfl
      have h5 := h5.out
      rw [hbk] at h5
      obtain ⟨k5, H5⟩ := h5.rounds
      have H5 := Lib.hid (row_ReadPiece.calls k5 x0 E1 e1 p x0 x1 x2 x3 0 u5 Q1 m1 H5)
      clear hbk h5
      have lt9 := blk_lt K0
      have a9_ : u5.cell? ⟨w.heap.size, 0, none⟩ = some (.int .i64 x0) := (blk_cell K0 0).trans rfl
      go_wp2_with fail
      refine H5.out.mono ?_
      rintro e u6 ⟨rfl, D6⟩
      replace K0 := blk_below K0 D6
      replace B0 := below_step B0 D6
      clear lt9 a9_ D6 H5 K1 K2 lt1 lt2 b0_ b1_ b2_ b3_ c0_ c1_ c2_ c3_ Q1
      replace K0 := blk_alloc K0 (.cells #[.int .i64 x0, .int .i64 x1, .int .i64 x2, .int .i64 x3] 51)
      replace B0 := below_alloc B0 (.cells #[.int .i64 x0, .int .i64 x1, .int .i64 x2, .int .i64 x3] 51)
      have lt0 := blk_lt K0
      have a0_ : (u6.alloc (.cells #[.int .i64 x0, .int .i64 x1, .int .i64 x2, .int .i64 x3] 51)).cell? ⟨w.heap.size, 0, none⟩ = some (.int .i64 x0) := (blk_cell K0 0).trans rfl
      have a1_ : (u6.alloc (.cells #[.int .i64 x0, .int .i64 x1, .int .i64 x2, .int .i64 x3] 51)).cell? ⟨w.heap.size, 1, none⟩ = some (.int .i64 x1) := (blk_cell K0 1).trans rfl
      have a2_ : (u6.alloc (.cells #[.int .i64 x0, .int .i64 x1, .int .i64 x2, .int .i64 x3] 51)).cell? ⟨w.heap.size, 2, none⟩ = some (.int .i64 x2) := (blk_cell K0 2).trans rfl
      have a3_ : (u6.alloc (.cells #[.int .i64 x0, .int .i64 x1, .int .i64 x2, .int .i64 x3] 51)).cell? ⟨w.heap.size, 3, none⟩ = some (.int .i64 x3) := (blk_cell K0 3).trans rfl
      go_wp2_with fail
      refine (HW.out _).mono ?_
      rintro e u7 ⟨rfl, D7⟩
      have F := Lib.hid (below_step B0 D7)
      clear B0 D7 K0 HW a0_ a1_ a2_ a3_
      go_wp2_with fail
      go_ret
      exact ⟨rfl, F.out⟩
    · have t3 : (cd != 0) = true := by simpa using h0
      go_wp2_with fail
      refine (HW.out _).mono ?_
      rintro e u6 ⟨rfl, D6⟩
      have F := Lib.hid (below_step B0 D6)
      clear B0 D6 K0 K1 K2 HW lt1 lt2 b0_ b1_ b2_ b3_ c0_ c1_ c2_ c3_ Q1
      go_wp2_with fail
      go_ret
      exact ⟨rfl, F.out⟩
end Go.Proofs.YtmciigdfhikdnaaDoor
