/- works, walked by hand: it tells true; no condition beside those in each theorem. -/
import Derived.Test.YtmciigdfhikdnaaDoorRdW
import Derived.Test.YtmciigdfhikdnaaDoorSame
import Derived.Test.YtmciigdfhikdnaaDoorRdB
import Derived.Lib.SlBytesConst
namespace Go.Proofs.YtmciigdfhikdnaaDoor
open Go.RowKit Go.Proofs.YtmciigdfhikdnaaDoorW.PrintWords Go.Proofs.YtmciigdfhikdnaaDoorW.PrintLast Go.Proofs.YtmciigdfhikdnaaDoorW.PrintMore Go.Proofs.YtmciigdfhikdnaaDoor.Rw
set_option linter.unusedVariables false
set_option linter.unusedSimpArgs false
def nonce0 : List Int := List.replicate 12 0
def wrapOf (n : Int) : List Int := n :: List.replicate 47 0
def verBytes : List Int := [1, 0, 30, 0, 0, 3, 232, 0, 0, 0, 0, 0, 5, 1, 109, 0, 0, 3] ++ nonce0 ++ wrapOf 3
theorem wk_lock (n : Int) (h : n = 3 ∨ n = 1) : deedboxlaw24_Lock.f n = some (n - 1, nonce0, wrapOf n) := by
  rcases h with rfl | rfl <;> decide +kernel
theorem wk_ver : row_Version.f 60 9 true false 30 1000 5 [109] [] 2 nonce0 (wrapOf 3) = some (verBytes, 0) := by decide +kernel
abbrev T1 := List Int × Int × List Int × List Int × Int
instance dT1 : DecidableEq T1 := inferInstance
abbrev T2 := Int × Int × Int × List Int × T1
instance dT2 : DecidableEq T2 := @instDecidableEqProd _ _ _ (@instDecidableEqProd _ _ _ (@instDecidableEqProd _ _ _ (@instDecidableEqProd _ _ _ dT1)))
abbrev T3 := Int × Bool × Bool × T2
instance dT3 : DecidableEq T3 := @instDecidableEqProd _ _ _ (@instDecidableEqProd _ _ _ (@instDecidableEqProd _ _ _ dT2))
instance dT4 : DecidableEq (Option T3) := inferInstance
theorem wk_rver : row_ReadVersion.f 200 9 verBytes = some (9, true, false, 30, 1000, 5, [109], [], 2, nonce0, wrapOf 3, 0) :=
  @of_decide_eq_true _ (dT4 _ _) (by decide +kernel)
theorem wk_same : deedboxref24_SameVersion.f 200 9 true false 30 1000 5 [109] [] 2 nonce0 (wrapOf 3) 9 true false 30 1000 5 [109] [] 2 nonce0 (wrapOf 3) = some true := by decide +kernel
theorem wk_bkt : row_Bucket.f 60 3 1 2 (-1) = some ([0, 3, 1, 0, 2, 0, 0], 0) := by decide +kernel
theorem wk_rbkt : row_ReadBucket.f 60 [0, 3, 1, 0, 2, 0, 0] = some (3, 1, 2, -1, 0) := by decide +kernel
def upBytes : List Int := [1, 107, 0, 0, 1] ++ nonce0 ++ wrapOf 1
theorem wk_up : row_Upload.f 60 4 ⟨#[107]⟩ [] 0 nonce0 (wrapOf 1) = some (upBytes, 0) := by decide +kernel
set_option synthInstance.maxSize 4000 in
set_option synthInstance.maxHeartbeats 400000 in
theorem wk_rup : row_ReadUpload.f 200 4 upBytes = some (4, ⟨#[107]⟩, [], 0, nonce0, wrapOf 1, 0) := by decide +kernel
theorem wk_pc : row_Piece.f 60 1 7 40 3 = some ([0, 0, 0, 0, 0, 7, 0, 40, 0, 0, 0, 3], 0) := by decide +kernel
theorem wk_rpc : row_ReadPiece.f 60 1 [0, 0, 0, 0, 0, 7, 0, 40, 0, 0, 0, 3] = some (1, 7, 40, 3, 0) := by decide +kernel
theorem C_const (w : World) (x : Int) (fr : Nat × Nat) : Kd.C (Kd.int .u8) (w.alloc (.cells #[.int .u8 x] 5 fr)) (some ⟨w.heap.size, 0, none⟩) 1 [x] := by
  refine ⟨rfl, by omega, fun _ => ⟨_, rfl, fun j p hj => ⟨[.int .u8 p], rfl, rfl, fun i u hu => ?_⟩⟩⟩
  have hh : (w.alloc (.cells #[.int .u8 x] 5 fr)).heap[w.heap.size]? = some (.cells #[.int .u8 x] 5 fr) := by
    show (w.heap.push _)[w.heap.size]? = _
    simp
  have hh : (w.alloc (.cells #[.int .u8 x] 5 fr)).heap[w.heap.size]? = some (.cells #[.int .u8 x] 5 fr) := by
    show (w.heap.push _)[w.heap.size]? = _
    simp
  have hh : (w.alloc (.cells #[.int .u8 x] 5 fr)).heap[w.heap.size]? = some (.cells #[.int .u8 x] 5 fr) := by
    show (w.heap.push _)[w.heap.size]? = _
    simp
  have hh : (w.alloc (.cells #[.int .u8 x] 5 fr)).heap[w.heap.size]? = some (.cells #[.int .u8 x] 5 fr) := by
    show (w.heap.push _)[w.heap.size]? = _
    simp
  have hh : (w.alloc (.cells #[.int .u8 x] 5 fr)).heap[w.heap.size]? = some (.cells #[.int .u8 x] 5 fr) := by
    show (w.heap.push _)[w.heap.size]? = _
    simp
  match j, hj with
  | 0, hj =>
    match i, hu with
    | 0, hu =>
      simp only [List.getElem?_cons_zero, Option.some.injEq] at hu hj
      subst hu hj
      show World.cell? _ ((⟨w.heap.size, 0, none⟩ : Addr).add (0 * 1 + 0)) = _
      rw [Nat.mul_one, Nat.add_zero, add_plain, cell_of_row _ w.heap.size 0 _ 5 fr hh]
      rfl
set_option maxRecDepth 100000 in
set_option maxHeartbeats 4000000 in
theorem works_calls (w : World) : Calls Tryd.prog 8 #[] w fun e w' => e = .returned (.bool true) ∧ Below w.heap.size w w' := by
  have hu26 := Tryd.underlying26
  have hu24 := Tryd.underlying24
  have hu22 := Tryd.underlying22
  have hu5 := Tryd.underlying5
  go_enter Tryd.func8, Tryd.ntmps8
  have kc := fun (w : World) (C : Array Value) (n c : Nat) => Lib.run_convert_bytes_const (P := Tryd.prog) w 22 5 C n c Tryd.underlying22 Tryd.underlying5
  have C0 := C_const w 109 (1, 2)
  have B0 := below_alloc (Below.refl w.heap.size w) (.cells #[.int .u8 109] 5 (1, 2))
  go_wp2_with fail
  refine (deedboxlaw24_Lock.calls 3 2 nonce0 (wrapOf 3) _ (wk_lock 3 (.inl rfl))).mono ?_
  rintro e u1 ⟨v1, v2, rfl, R1, R2, D1⟩
  obtain ⟨E1, e1, rfl, m1, Q1⟩ := Kd.R_reads R1
  obtain ⟨E2, e2, rfl, m2, Q2⟩ := Kd.R_reads R2
  replace C0 := Kd.C_below C0 D1
  replace B0 := below_step B0 D1
  clear D1 R1 R2 kc
  have K1 := blk_new u1 (.cells #[.int .i64 9, .bool true, .bool false, .int .i64 30, .int .i64 1000, .int .i64 5, .slice (some ⟨w.heap.size, 0, none⟩) 1 1, .slice none 0 0, .int .i64 2, .slice E1 nonce0.length e1, .slice E2 (wrapOf 3).length e2] 26)
  replace B0 := below_alloc B0 (.cells #[.int .i64 9, .bool true, .bool false, .int .i64 30, .int .i64 1000, .int .i64 5, .slice (some ⟨w.heap.size, 0, none⟩) 1 1, .slice none 0 0, .int .i64 2, .slice E1 nonce0.length e1, .slice E2 (wrapOf 3).length e2] 26)
  replace C0 := Kd.C_alloc C0 (.cells #[.int .i64 9, .bool true, .bool false, .int .i64 30, .int .i64 1000, .int .i64 5, .slice (some ⟨w.heap.size, 0, none⟩) 1 1, .slice none 0 0, .int .i64 2, .slice E1 nonce0.length e1, .slice E2 (wrapOf 3).length e2] 26)
  replace Q1 := Kd.C_alloc Q1 (.cells #[.int .i64 9, .bool true, .bool false, .int .i64 30, .int .i64 1000, .int .i64 5, .slice (some ⟨w.heap.size, 0, none⟩) 1 1, .slice none 0 0, .int .i64 2, .slice E1 nonce0.length e1, .slice E2 (wrapOf 3).length e2] 26)
  replace Q2 := Kd.C_alloc Q2 (.cells #[.int .i64 9, .bool true, .bool false, .int .i64 30, .int .i64 1000, .int .i64 5, .slice (some ⟨w.heap.size, 0, none⟩) 1 1, .slice none 0 0, .int .i64 2, .slice E1 nonce0.length e1, .slice E2 (wrapOf 3).length e2] 26)
  have HV := Lib.hid (row_Version.calls 60 9 true false 30 1000 5 (some ⟨w.heap.size, 0, none⟩) 1 [109] none 0 [] 2 E1 e1 nonce0 E2 e2 (wrapOf 3) verBytes 0 _ C0 (Nat.le_refl _) (Kd.C_nil _ _) (Nat.le_refl _) Q1 m1 Q2 m2 wk_ver)
  go_wp2_with fail
  refine HV.out.mono ?_
  rintro e u2 ⟨v3, rfl, R3, D3⟩
  clear HV
  obtain ⟨E3, e3, rfl, m3, Q3⟩ := Kd.R_reads R3
  replace C0 := Kd.C_below C0 D3
  replace Q1 := Kd.C_below Q1 D3
  replace Q2 := Kd.C_below Q2 D3
  replace K1 := blk_below K1 D3
  replace B0 := below_step B0 D3
  clear D3 R3
  have HR := Lib.hid (ReadVersion_calls 200 9 E3 e3 verBytes _ u2 Q3 m3 wk_rver)
  have hlen : (verBytes.length : Int) = 78 := by decide
  go_wp2_with fail
  refine HR.out.mono ?_
  rintro e u3 ⟨v6, v7, v9, v10, rfl, R6, R7, R9, R10, _, D4⟩
  clear HR
  simp only at R6 R7 R9 R10
  obtain ⟨E6, e6, rfl, m6, Q6⟩ := Kd.R_reads R6
  obtain ⟨E7, e7, rfl, m7, Q7⟩ := Kd.R_reads R7
  obtain ⟨E9, e9, rfl, m9, Q9⟩ := Kd.R_reads R9
  obtain ⟨E10, e10, rfl, m10, Q10⟩ := Kd.R_reads R10
  clear R6 R7 R9 R10
  replace C0 := Kd.C_below C0 D4
  replace Q1 := Kd.C_below Q1 D4
  replace Q2 := Kd.C_below Q2 D4
  replace K1 := blk_below K1 D4
  replace B0 := below_step B0 D4
  clear D4 Q3
  have K4 := blk_new u3 (.cells #[.int .i64 9, .bool true, .bool false, .int .i64 30, .int .i64 1000, .int .i64 5, .slice E6 ([109] : List Int).length e6, .slice E7 ([] : List Int).length e7, .int .i64 2, .slice E9 nonce0.length e9, .slice E10 (wrapOf 3).length e10] 26)
  replace K1 := blk_alloc K1 (.cells #[.int .i64 9, .bool true, .bool false, .int .i64 30, .int .i64 1000, .int .i64 5, .slice E6 ([109] : List Int).length e6, .slice E7 ([] : List Int).length e7, .int .i64 2, .slice E9 nonce0.length e9, .slice E10 (wrapOf 3).length e10] 26)
  replace B0 := below_alloc B0 (.cells #[.int .i64 9, .bool true, .bool false, .int .i64 30, .int .i64 1000, .int .i64 5, .slice E6 ([109] : List Int).length e6, .slice E7 ([] : List Int).length e7, .int .i64 2, .slice E9 nonce0.length e9, .slice E10 (wrapOf 3).length e10] 26)
  replace C0 := Kd.C_alloc C0 (.cells #[.int .i64 9, .bool true, .bool false, .int .i64 30, .int .i64 1000, .int .i64 5, .slice E6 ([109] : List Int).length e6, .slice E7 ([] : List Int).length e7, .int .i64 2, .slice E9 nonce0.length e9, .slice E10 (wrapOf 3).length e10] 26)
  replace Q1 := Kd.C_alloc Q1 (.cells #[.int .i64 9, .bool true, .bool false, .int .i64 30, .int .i64 1000, .int .i64 5, .slice E6 ([109] : List Int).length e6, .slice E7 ([] : List Int).length e7, .int .i64 2, .slice E9 nonce0.length e9, .slice E10 (wrapOf 3).length e10] 26)
  replace Q2 := Kd.C_alloc Q2 (.cells #[.int .i64 9, .bool true, .bool false, .int .i64 30, .int .i64 1000, .int .i64 5, .slice E6 ([109] : List Int).length e6, .slice E7 ([] : List Int).length e7, .int .i64 2, .slice E9 nonce0.length e9, .slice E10 (wrapOf 3).length e10] 26)
  replace Q6 := Kd.C_alloc Q6 (.cells #[.int .i64 9, .bool true, .bool false, .int .i64 30, .int .i64 1000, .int .i64 5, .slice E6 ([109] : List Int).length e6, .slice E7 ([] : List Int).length e7, .int .i64 2, .slice E9 nonce0.length e9, .slice E10 (wrapOf 3).length e10] 26)
  replace Q7 := Kd.C_alloc Q7 (.cells #[.int .i64 9, .bool true, .bool false, .int .i64 30, .int .i64 1000, .int .i64 5, .slice E6 ([109] : List Int).length e6, .slice E7 ([] : List Int).length e7, .int .i64 2, .slice E9 nonce0.length e9, .slice E10 (wrapOf 3).length e10] 26)
  replace Q9 := Kd.C_alloc Q9 (.cells #[.int .i64 9, .bool true, .bool false, .int .i64 30, .int .i64 1000, .int .i64 5, .slice E6 ([109] : List Int).length e6, .slice E7 ([] : List Int).length e7, .int .i64 2, .slice E9 nonce0.length e9, .slice E10 (wrapOf 3).length e10] 26)
  replace Q10 := Kd.C_alloc Q10 (.cells #[.int .i64 9, .bool true, .bool false, .int .i64 30, .int .i64 1000, .int .i64 5, .slice E6 ([109] : List Int).length e6, .slice E7 ([] : List Int).length e7, .int .i64 2, .slice E9 nonce0.length e9, .slice E10 (wrapOf 3).length e10] 26)
  have HB := Lib.hid (fun W : World => row_Bucket.calls 60 3 1 2 (-1) [0, 3, 1, 0, 2, 0, 0] 0 W wk_bkt)
  go_wp2_with fail
  refine (HB.out _).mono ?_
  rintro e u4 ⟨v11, rfl, R11, D5⟩
  clear HB
  obtain ⟨E11, e11, rfl, m11, Q11⟩ := Kd.R_reads R11
  clear R11
  replace C0 := Kd.C_below C0 D5
  replace Q1 := Kd.C_below Q1 D5
  replace Q2 := Kd.C_below Q2 D5
  replace Q6 := Kd.C_below Q6 D5
  replace Q7 := Kd.C_below Q7 D5
  replace Q9 := Kd.C_below Q9 D5
  replace Q10 := Kd.C_below Q10 D5
  replace K1 := blk_below K1 D5
  replace K4 := blk_below K4 D5
  replace B0 := below_step B0 D5
  clear D5
  have HC := Lib.hid (row_ReadBucket.calls 60 E11 e11 [0, 3, 1, 0, 2, 0, 0] 3 1 2 (-1) 0 u4 Q11 m11 wk_rbkt)
  go_wp2_with fail
  refine HC.out.mono ?_
  rintro e u5 ⟨rfl, D6⟩
  clear HC
  clear Q11
  replace C0 := Kd.C_below C0 D6
  replace Q1 := Kd.C_below Q1 D6
  replace Q2 := Kd.C_below Q2 D6
  replace Q6 := Kd.C_below Q6 D6
  replace Q7 := Kd.C_below Q7 D6
  replace Q9 := Kd.C_below Q9 D6
  replace Q10 := Kd.C_below Q10 D6
  replace K1 := blk_below K1 D6
  replace K4 := blk_below K4 D6
  replace B0 := below_step B0 D6
  clear D6
  have K8 := blk_new u5 (.cells #[.int .i64 3, .int .i64 1, .int .i64 2, .int .i64 (-1)] 38)
  replace C0 := Kd.C_alloc C0 (.cells #[.int .i64 3, .int .i64 1, .int .i64 2, .int .i64 (-1)] 38)
  replace Q1 := Kd.C_alloc Q1 (.cells #[.int .i64 3, .int .i64 1, .int .i64 2, .int .i64 (-1)] 38)
  replace Q2 := Kd.C_alloc Q2 (.cells #[.int .i64 3, .int .i64 1, .int .i64 2, .int .i64 (-1)] 38)
  replace Q6 := Kd.C_alloc Q6 (.cells #[.int .i64 3, .int .i64 1, .int .i64 2, .int .i64 (-1)] 38)
  replace Q7 := Kd.C_alloc Q7 (.cells #[.int .i64 3, .int .i64 1, .int .i64 2, .int .i64 (-1)] 38)
  replace Q9 := Kd.C_alloc Q9 (.cells #[.int .i64 3, .int .i64 1, .int .i64 2, .int .i64 (-1)] 38)
  replace Q10 := Kd.C_alloc Q10 (.cells #[.int .i64 3, .int .i64 1, .int .i64 2, .int .i64 (-1)] 38)
  replace K1 := blk_alloc K1 (.cells #[.int .i64 3, .int .i64 1, .int .i64 2, .int .i64 (-1)] 38)
  replace K4 := blk_alloc K4 (.cells #[.int .i64 3, .int .i64 1, .int .i64 2, .int .i64 (-1)] 38)
  replace B0 := below_alloc B0 (.cells #[.int .i64 3, .int .i64 1, .int .i64 2, .int .i64 (-1)] 38)
  have HL := Lib.hid (fun W : World => deedboxlaw24_Lock.calls 1 0 nonce0 (wrapOf 1) W (wk_lock 1 (.inr rfl)))
  go_wp2_with fail
  refine (HL.out _).mono ?_
  rintro e u6 ⟨v12, v13, rfl, R12, R13, D7⟩
  clear HL
  obtain ⟨E12, e12, rfl, m12, Q12⟩ := Kd.R_reads R12
  clear R12
  obtain ⟨E13, e13, rfl, m13, Q13⟩ := Kd.R_reads R13
  clear R13
  replace C0 := Kd.C_below C0 D7
  replace Q1 := Kd.C_below Q1 D7
  replace Q2 := Kd.C_below Q2 D7
  replace Q6 := Kd.C_below Q6 D7
  replace Q7 := Kd.C_below Q7 D7
  replace Q9 := Kd.C_below Q9 D7
  replace Q10 := Kd.C_below Q10 D7
  replace K1 := blk_below K1 D7
  replace K4 := blk_below K4 D7
  replace K8 := blk_below K8 D7
  replace B0 := below_step B0 D7
  clear D7
  have HU := Lib.hid (row_Upload.calls 60 4 ⟨#[107]⟩ none 0 [] 0 E12 e12 nonce0 E13 e13 (wrapOf 1) upBytes 0 u6 (Kd.C_nil _ _) (Nat.le_refl _) Q12 m12 Q13 m13 wk_up)
  go_wp2_with fail
  refine HU.out.mono ?_
  rintro e u7 ⟨v14, rfl, R14, D8⟩
  clear HU
  obtain ⟨E14, e14, rfl, m14, Q14⟩ := Kd.R_reads R14
  clear R14
  clear Q12 Q13
  replace C0 := Kd.C_below C0 D8
  replace Q1 := Kd.C_below Q1 D8
  replace Q2 := Kd.C_below Q2 D8
  replace Q6 := Kd.C_below Q6 D8
  replace Q7 := Kd.C_below Q7 D8
  replace Q9 := Kd.C_below Q9 D8
  replace Q10 := Kd.C_below Q10 D8
  replace K1 := blk_below K1 D8
  replace K4 := blk_below K4 D8
  replace K8 := blk_below K8 D8
  replace B0 := below_step B0 D8
  clear D8
  have HQ := Lib.hid (ReadUpload_calls 200 4 E14 e14 upBytes _ u7 Q14 m14 wk_rup)
  go_wp2_with fail
  refine HQ.out.mono ?_
  rintro e u8 ⟨v15, v16, v17, rfl, R15, R16, R17, _, _, _, D9⟩
  clear HQ
  simp only at R15 R16 R17
  obtain ⟨E15, e15, rfl, m15, Q15⟩ := Kd.R_reads R15
  clear R15
  obtain ⟨E16, e16, rfl, m16, Q16⟩ := Kd.R_reads R16
  clear R16
  obtain ⟨E17, e17, rfl, m17, Q17⟩ := Kd.R_reads R17
  clear R17
  clear Q14 Q15 Q16 Q17
  replace C0 := Kd.C_below C0 D9
  replace Q1 := Kd.C_below Q1 D9
  replace Q2 := Kd.C_below Q2 D9
  replace Q6 := Kd.C_below Q6 D9
  replace Q7 := Kd.C_below Q7 D9
  replace Q9 := Kd.C_below Q9 D9
  replace Q10 := Kd.C_below Q10 D9
  replace K1 := blk_below K1 D9
  replace K4 := blk_below K4 D9
  replace K8 := blk_below K8 D9
  replace B0 := below_step B0 D9
  clear D9
  have K12 := blk_new u8 (.cells #[.int .i64 4, .string ⟨#[107]⟩, .slice E15 ([] : List Int).length e15, .int .i64 0, .slice E16 nonce0.length e16, .slice E17 (wrapOf 1).length e17] 44)
  replace C0 := Kd.C_alloc C0 (.cells #[.int .i64 4, .string ⟨#[107]⟩, .slice E15 ([] : List Int).length e15, .int .i64 0, .slice E16 nonce0.length e16, .slice E17 (wrapOf 1).length e17] 44)
  replace Q1 := Kd.C_alloc Q1 (.cells #[.int .i64 4, .string ⟨#[107]⟩, .slice E15 ([] : List Int).length e15, .int .i64 0, .slice E16 nonce0.length e16, .slice E17 (wrapOf 1).length e17] 44)
  replace Q2 := Kd.C_alloc Q2 (.cells #[.int .i64 4, .string ⟨#[107]⟩, .slice E15 ([] : List Int).length e15, .int .i64 0, .slice E16 nonce0.length e16, .slice E17 (wrapOf 1).length e17] 44)
  replace Q6 := Kd.C_alloc Q6 (.cells #[.int .i64 4, .string ⟨#[107]⟩, .slice E15 ([] : List Int).length e15, .int .i64 0, .slice E16 nonce0.length e16, .slice E17 (wrapOf 1).length e17] 44)
  replace Q7 := Kd.C_alloc Q7 (.cells #[.int .i64 4, .string ⟨#[107]⟩, .slice E15 ([] : List Int).length e15, .int .i64 0, .slice E16 nonce0.length e16, .slice E17 (wrapOf 1).length e17] 44)
  replace Q9 := Kd.C_alloc Q9 (.cells #[.int .i64 4, .string ⟨#[107]⟩, .slice E15 ([] : List Int).length e15, .int .i64 0, .slice E16 nonce0.length e16, .slice E17 (wrapOf 1).length e17] 44)
  replace Q10 := Kd.C_alloc Q10 (.cells #[.int .i64 4, .string ⟨#[107]⟩, .slice E15 ([] : List Int).length e15, .int .i64 0, .slice E16 nonce0.length e16, .slice E17 (wrapOf 1).length e17] 44)
  replace K1 := blk_alloc K1 (.cells #[.int .i64 4, .string ⟨#[107]⟩, .slice E15 ([] : List Int).length e15, .int .i64 0, .slice E16 nonce0.length e16, .slice E17 (wrapOf 1).length e17] 44)
  replace K4 := blk_alloc K4 (.cells #[.int .i64 4, .string ⟨#[107]⟩, .slice E15 ([] : List Int).length e15, .int .i64 0, .slice E16 nonce0.length e16, .slice E17 (wrapOf 1).length e17] 44)
  replace K8 := blk_alloc K8 (.cells #[.int .i64 4, .string ⟨#[107]⟩, .slice E15 ([] : List Int).length e15, .int .i64 0, .slice E16 nonce0.length e16, .slice E17 (wrapOf 1).length e17] 44)
  replace B0 := below_alloc B0 (.cells #[.int .i64 4, .string ⟨#[107]⟩, .slice E15 ([] : List Int).length e15, .int .i64 0, .slice E16 nonce0.length e16, .slice E17 (wrapOf 1).length e17] 44)
  have HP := Lib.hid (fun W : World => row_Piece.calls 60 1 7 40 3 [0, 0, 0, 0, 0, 7, 0, 40, 0, 0, 0, 3] 0 W wk_pc)
  go_wp2_with fail
  refine (HP.out _).mono ?_
  rintro e u9 ⟨v18, rfl, R18, D10⟩
  clear HP
  obtain ⟨E18, e18, rfl, m18, Q18⟩ := Kd.R_reads R18
  clear R18
  replace C0 := Kd.C_below C0 D10
  replace Q1 := Kd.C_below Q1 D10
  replace Q2 := Kd.C_below Q2 D10
  replace Q6 := Kd.C_below Q6 D10
  replace Q7 := Kd.C_below Q7 D10
  replace Q9 := Kd.C_below Q9 D10
  replace Q10 := Kd.C_below Q10 D10
  replace K1 := blk_below K1 D10
  replace K4 := blk_below K4 D10
  replace K8 := blk_below K8 D10
  replace K12 := blk_below K12 D10
  replace B0 := below_step B0 D10
  clear D10
  have HO := Lib.hid (row_ReadPiece.calls 60 1 E18 e18 [0, 0, 0, 0, 0, 7, 0, 40, 0, 0, 0, 3] 1 7 40 3 0 u9 Q18 m18 wk_rpc)
  go_wp2_with fail
  refine HO.out.mono ?_
  rintro e u10 ⟨rfl, D11⟩
  clear HO
  clear Q18
  replace C0 := Kd.C_below C0 D11
  replace Q1 := Kd.C_below Q1 D11
  replace Q2 := Kd.C_below Q2 D11
  replace Q6 := Kd.C_below Q6 D11
  replace Q7 := Kd.C_below Q7 D11
  replace Q9 := Kd.C_below Q9 D11
  replace Q10 := Kd.C_below Q10 D11
  replace K1 := blk_below K1 D11
  replace K4 := blk_below K4 D11
  replace K8 := blk_below K8 D11
  replace K12 := blk_below K12 D11
  replace B0 := below_step B0 D11
  clear D11
  have K16 := blk_new u10 (.cells #[.int .i64 1, .int .i64 7, .int .i64 40, .int .i64 3] 51)
  replace C0 := Kd.C_alloc C0 (.cells #[.int .i64 1, .int .i64 7, .int .i64 40, .int .i64 3] 51)
  replace Q1 := Kd.C_alloc Q1 (.cells #[.int .i64 1, .int .i64 7, .int .i64 40, .int .i64 3] 51)
  replace Q2 := Kd.C_alloc Q2 (.cells #[.int .i64 1, .int .i64 7, .int .i64 40, .int .i64 3] 51)
  replace Q6 := Kd.C_alloc Q6 (.cells #[.int .i64 1, .int .i64 7, .int .i64 40, .int .i64 3] 51)
  replace Q7 := Kd.C_alloc Q7 (.cells #[.int .i64 1, .int .i64 7, .int .i64 40, .int .i64 3] 51)
  replace Q9 := Kd.C_alloc Q9 (.cells #[.int .i64 1, .int .i64 7, .int .i64 40, .int .i64 3] 51)
  replace Q10 := Kd.C_alloc Q10 (.cells #[.int .i64 1, .int .i64 7, .int .i64 40, .int .i64 3] 51)
  replace K1 := blk_alloc K1 (.cells #[.int .i64 1, .int .i64 7, .int .i64 40, .int .i64 3] 51)
  replace K4 := blk_alloc K4 (.cells #[.int .i64 1, .int .i64 7, .int .i64 40, .int .i64 3] 51)
  replace K8 := blk_alloc K8 (.cells #[.int .i64 1, .int .i64 7, .int .i64 40, .int .i64 3] 51)
  replace K12 := blk_alloc K12 (.cells #[.int .i64 1, .int .i64 7, .int .i64 40, .int .i64 3] 51)
  replace B0 := below_alloc B0 (.cells #[.int .i64 1, .int .i64 7, .int .i64 40, .int .i64 3] 51)
  have a0_ : (u10.alloc (.cells #[.int .i64 1, .int .i64 7, .int .i64 40, .int .i64 3] 51)).cell? ⟨u1.heap.size, 0, none⟩ = some (.int .i64 9) := (blk_cell K1 0).trans rfl
  have a1_ : (u10.alloc (.cells #[.int .i64 1, .int .i64 7, .int .i64 40, .int .i64 3] 51)).cell? ⟨u1.heap.size, 1, none⟩ = some (.bool true) := (blk_cell K1 1).trans rfl
  have a2_ : (u10.alloc (.cells #[.int .i64 1, .int .i64 7, .int .i64 40, .int .i64 3] 51)).cell? ⟨u1.heap.size, 2, none⟩ = some (.bool false) := (blk_cell K1 2).trans rfl
  have a3_ : (u10.alloc (.cells #[.int .i64 1, .int .i64 7, .int .i64 40, .int .i64 3] 51)).cell? ⟨u1.heap.size, 3, none⟩ = some (.int .i64 30) := (blk_cell K1 3).trans rfl
  have a4_ : (u10.alloc (.cells #[.int .i64 1, .int .i64 7, .int .i64 40, .int .i64 3] 51)).cell? ⟨u1.heap.size, 4, none⟩ = some (.int .i64 1000) := (blk_cell K1 4).trans rfl
  have a5_ : (u10.alloc (.cells #[.int .i64 1, .int .i64 7, .int .i64 40, .int .i64 3] 51)).cell? ⟨u1.heap.size, 5, none⟩ = some (.int .i64 5) := (blk_cell K1 5).trans rfl
  have a6_ : (u10.alloc (.cells #[.int .i64 1, .int .i64 7, .int .i64 40, .int .i64 3] 51)).cell? ⟨u1.heap.size, 6, none⟩ = some (.slice (some ⟨w.heap.size, 0, none⟩) 1 1) := (blk_cell K1 6).trans rfl
  have a7_ : (u10.alloc (.cells #[.int .i64 1, .int .i64 7, .int .i64 40, .int .i64 3] 51)).cell? ⟨u1.heap.size, 7, none⟩ = some (.slice none 0 0) := (blk_cell K1 7).trans rfl
  have a8_ : (u10.alloc (.cells #[.int .i64 1, .int .i64 7, .int .i64 40, .int .i64 3] 51)).cell? ⟨u1.heap.size, 8, none⟩ = some (.int .i64 2) := (blk_cell K1 8).trans rfl
  have a9_ : (u10.alloc (.cells #[.int .i64 1, .int .i64 7, .int .i64 40, .int .i64 3] 51)).cell? ⟨u1.heap.size, 9, none⟩ = some (.slice E1 nonce0.length e1) := (blk_cell K1 9).trans rfl
  have a10_ : (u10.alloc (.cells #[.int .i64 1, .int .i64 7, .int .i64 40, .int .i64 3] 51)).cell? ⟨u1.heap.size, 10, none⟩ = some (.slice E2 (wrapOf 3).length e2) := (blk_cell K1 10).trans rfl
  have b0_ : (u10.alloc (.cells #[.int .i64 1, .int .i64 7, .int .i64 40, .int .i64 3] 51)).cell? ⟨u3.heap.size, 0, none⟩ = some (.int .i64 9) := (blk_cell K4 0).trans rfl
  have b1_ : (u10.alloc (.cells #[.int .i64 1, .int .i64 7, .int .i64 40, .int .i64 3] 51)).cell? ⟨u3.heap.size, 1, none⟩ = some (.bool true) := (blk_cell K4 1).trans rfl
  have b2_ : (u10.alloc (.cells #[.int .i64 1, .int .i64 7, .int .i64 40, .int .i64 3] 51)).cell? ⟨u3.heap.size, 2, none⟩ = some (.bool false) := (blk_cell K4 2).trans rfl
  have b3_ : (u10.alloc (.cells #[.int .i64 1, .int .i64 7, .int .i64 40, .int .i64 3] 51)).cell? ⟨u3.heap.size, 3, none⟩ = some (.int .i64 30) := (blk_cell K4 3).trans rfl
  have b4_ : (u10.alloc (.cells #[.int .i64 1, .int .i64 7, .int .i64 40, .int .i64 3] 51)).cell? ⟨u3.heap.size, 4, none⟩ = some (.int .i64 1000) := (blk_cell K4 4).trans rfl
  have b5_ : (u10.alloc (.cells #[.int .i64 1, .int .i64 7, .int .i64 40, .int .i64 3] 51)).cell? ⟨u3.heap.size, 5, none⟩ = some (.int .i64 5) := (blk_cell K4 5).trans rfl
  have b6_ : (u10.alloc (.cells #[.int .i64 1, .int .i64 7, .int .i64 40, .int .i64 3] 51)).cell? ⟨u3.heap.size, 6, none⟩ = some (.slice E6 ([109] : List Int).length e6) := (blk_cell K4 6).trans rfl
  have b7_ : (u10.alloc (.cells #[.int .i64 1, .int .i64 7, .int .i64 40, .int .i64 3] 51)).cell? ⟨u3.heap.size, 7, none⟩ = some (.slice E7 ([] : List Int).length e7) := (blk_cell K4 7).trans rfl
  have b8_ : (u10.alloc (.cells #[.int .i64 1, .int .i64 7, .int .i64 40, .int .i64 3] 51)).cell? ⟨u3.heap.size, 8, none⟩ = some (.int .i64 2) := (blk_cell K4 8).trans rfl
  have b9_ : (u10.alloc (.cells #[.int .i64 1, .int .i64 7, .int .i64 40, .int .i64 3] 51)).cell? ⟨u3.heap.size, 9, none⟩ = some (.slice E9 nonce0.length e9) := (blk_cell K4 9).trans rfl
  have b10_ : (u10.alloc (.cells #[.int .i64 1, .int .i64 7, .int .i64 40, .int .i64 3] 51)).cell? ⟨u3.heap.size, 10, none⟩ = some (.slice E10 (wrapOf 3).length e10) := (blk_cell K4 10).trans rfl
  have lt1 := blk_lt K1
  have lt4 := blk_lt K4
  have lt8 := blk_lt K8
  have lt12 := blk_lt K12
  have HS := Lib.hid (deedboxref24_SameVersion.calls 200 9 true false 30 1000 5 (some ⟨w.heap.size, 0, none⟩) 1 [109] none 0 [] 2 E1 e1 nonce0 E2 e2 (wrapOf 3) 9 true false 30 1000 5 E6 e6 [109] E7 e7 [] 2 E9 e9 nonce0 E10 e10 (wrapOf 3) true _ C0 (Nat.le_refl _) (Kd.C_nil _ _) (Nat.le_refl _) Q1 m1 Q2 m2 Q6 m6 Q7 m7 Q9 m9 Q10 m10 wk_same)
  go_wp2_with fail
  refine HS.out.mono ?_
  rintro e u11 ⟨rfl, D12⟩
  clear HS a0_ a1_ a2_ a3_ a4_ a5_ a6_ a7_ a8_ a9_ a10_ b0_ b1_ b2_ b3_ b4_ b5_ b6_ b7_ b8_ b9_ b10_
  replace K8 := blk_below K8 D12
  replace K12 := blk_below K12 D12
  replace K16 := blk_below K16 D12
  replace B0 := below_step B0 D12
  clear D12
  have c2_ : u11.cell? ⟨u5.heap.size, 2, none⟩ = some (.int .i64 2) := (blk_cell K8 2).trans rfl
  have c3_ : u11.cell? ⟨u5.heap.size, 3, none⟩ = some (.int .i64 (-1)) := (blk_cell K8 3).trans rfl
  have d1_ : u11.cell? ⟨u8.heap.size, 1, none⟩ = some (.string ⟨#[107]⟩) := (blk_cell K12 1).trans rfl
  have f2_ : u11.cell? ⟨u10.heap.size, 2, none⟩ = some (.int .i64 40) := (blk_cell K16 2).trans rfl
  have F := Lib.hid B0
  clear B0
  go_wp2_with fail
  go_ret
  exact ⟨rfl, F.out⟩
end Go.Proofs.YtmciigdfhikdnaaDoor
