/- The program's own examples come out, walked by hand; each condition stands in its theorem. -/
import Derived.Test.YtjkehapbemjnpaaDoorVPut
import Derived.Great.BuildSlice
import Derived.Deep.Cut
namespace Go.Proofs.YtjkehapbemjnpaaDoor
open Go.RowKit Go.Proofs.YtjkehapbemjnpaaDoorW.PrintWords Go.Proofs.YtjkehapbemjnpaaDoorW.PrintLast Go.Proofs.YtjkehapbemjnpaaDoorW.PrintMore Lf Kit Cut Pl Num
set_option linter.unusedVariables false
set_option linter.unusedSimpArgs false
def wB1 : List Int := [112, 117, 116, 32, 97, 98, 99, 47, 107, 10, 109, 101, 116, 97, 58, 32, 98, 81, 61, 61, 10, 117, 110, 116, 105, 108, 58, 32, 53, 10, 10, 104, 101, 108, 108, 111]
def wB2 : List Int := [103, 101, 116, 32, 97, 98, 99, 47, 107, 10, 105, 100, 58, 32, 51, 10, 105, 100, 58, 32, 52]
def wB3 : List Int := [103, 101, 116, 32, 97, 98, 99, 47, 107, 10, 119, 104, 97, 116, 58, 32, 51]
def wB4 : List Int := [103, 101, 116, 32, 97, 98, 99, 47, 107, 10, 10, 120]
def wB5 : List Int := [102, 105, 110, 105, 115, 104, 32, 97, 98, 99, 47, 97, 47, 98, 10, 117, 112, 108, 111, 97, 100, 58, 32, 55, 10, 108, 105, 115, 116, 58, 32, 49, 44, 51]
theorem lit_C (w : World) (zs : List Int) (hz : zs.length ≤ 1000) (sp : Nat × Nat) : Kd.C (Kd.int .u8) (w.alloc (.cells (zs.map (Value.int .u8)).toArray 5 sp)) (some ⟨w.heap.size, 0, none⟩) zs.length zs := by
 refine Kd.C_of_reads (d := 0) ⟨rfl, by omega, fun _ => ⟨_, rfl, fun j hj => ?_⟩⟩
 rw [add_plain]
 have hn : (w.alloc (.cells (zs.map (Value.int .u8)).toArray 5 sp)).heap[w.heap.size]? = some (.cells (zs.map (Value.int .u8)).toArray 5 sp) := by
  show (w.heap.push _)[w.heap.size]? = _
  simp
 unfold World.cell?
 simp only [hn]
 simp [hj, List.getD_eq_getElem?_getD]
theorem lit_calls (w : World) (zs : List Int) (hz : zs.length ≤ 1000) (hp : 0 < zs.length) (hB : Byt zs) (hG : GF w) (n m : Nat) (hn : n = zs.length) (r : AskP × Int) (hr : getS zs = r) :
  Calls Tryd.prog 7 #[.slice (some ⟨w.heap.size, 0, none⟩) n n] (w.alloc (.cells (zs.map (Value.int .u8)).toArray 5 (n, m))) (AskR (fun _ => True) (w.alloc (.cells (zs.map (Value.int .u8)).toArray 5 (n, m))) r) := by
 subst hn
 subst hr
 exact get_calls _ zs.length zs _ (lit_C w zs hz _) (Nat.le_refl _) (fun h => by cases h) hB (by omega) (hG.of (below_alloc (Below.refl _ _) _))
theorem lit_conv (w : World) (zs : List Int) (n m : Nat) (hn : n = zs.length) (hm : m = zs.length + 1) :
  (convert 22 22 (.slice (some ⟨w.heap.size, 0, none⟩) n n)).run Tryd.prog (w.alloc (.cells (zs.map (Value.int .u8)).toArray 5)) = .ok (.slice (some ⟨w.heap.size, 0, none⟩) n n) (w.alloc (.cells (zs.map (Value.int .u8)).toArray 5 (n, m))) := by
 subst hn hm
 have := Lib.run_convert_bytes_const (P := Tryd.prog) w 22 5 (zs.map (Value.int .u8)).toArray zs.length zs.length Tryd.underlying22 Tryd.underlying5
 rw [this]
 simp
def wY1 : AskP := (getS wB1).1
def wY3 : AskP := (getS wB2).1
def wY4 : AskP := (getS wB3).1
def wY5 : AskP := (getS wB4).1
def wY6 : AskP := (getS wB5).1
theorem wG1 : getS wB1 = (wY1, 0) := Prod.ext rfl (by decide +kernel)
theorem wG3 : getS wB2 = (wY3, 10) := Prod.ext rfl (by decide +kernel)
theorem wG4 : getS wB3 = (wY4, 19) := Prod.ext rfl (by decide +kernel)
theorem wG5 : getS wB4 = (wY5, 4) := Prod.ext rfl (by decide +kernel)
theorem wG6 : getS wB5 = (wY6, 0) := Prod.ext rfl (by decide +kernel)
theorem wP1 : putS wY1 = (wB1, 0) := by decide +kernel
theorem wS1 : AskS wY1 := ((getS_n (N := 3000) wB1 ⟨by unfold Byt; decide, by decide⟩).toS (by decide +kernel))
set_option maxRecDepth 100000 in
set_option maxHeartbeats 8000000 in
theorem works_calls (w : World) (hG : GF w) : Calls Tryd.prog 6 #[] w fun e w' => e = .returned (.bool true) ∧ Below w.heap.size w w' := by
 have hu := Tryd.underlying26
 have B := Lib.hid (Below.refl w.heap.size w)
 go_enter Tryd.func6, Tryd.ntmps6
 replace hu := Lib.hid hu
 have kc := lit_conv w wB1 36 37 rfl rfl
 have HL := Lib.hid (lit_calls w wB1 (by decide) (by decide) (by unfold Byt; decide) (hG.of B.out) 36 37 rfl _ wG1)
 go_wp2_with (refine wpList_buildFlatAt (o := ⟨some 14, _, _, _, _, _⟩) rfl 22 5 36 _ rfl .u8 wB1 w.heap.size rfl (some 14) rfl Tryd.underlying22 (by kernel_rfl) (by kernel_rfl) rfl (by decide) (by decide) rfl ?_; simp only [Act.put, List.setIfInBounds_toArray, List.set_cons_zero, List.set_cons_succ])
 refine HL.out.mono ?_
 rintro e v ⟨cs1, rfl, AC, D⟩
 have F := below_step (below_step (below_alloc (Below.refl w.heap.size w) _) D) (below_alloc (Below.refl _ _) (.cells cs1 26))
 replace B := Lib.hid (below_step B.out F)
 have R1 := Lib.hid (OneAt.start AC).1
 have K := Lib.hid (blk_new v (.cells zA 26))
 replace AC := Lib.hid AC
 clear kc HL F D
 go_upto_region 2 with (first
  | (refine wpList_allocA rfl (some 1) rfl 26 rfl zA zA_info _ rfl ?_; simp only [Act.put, List.setIfInBounds_toArray, List.set_cons_zero, List.set_cons_succ])
  | (refine wpList_store_row rfl 26 (.tmp 1) (.tmp 17) rfl v.heap.size cs1 rfl rfl 26 zA K.out (sizeA AC.out) (sizeAz AC.out) AC.out.one ?_; rw [World.setRow_alloc_new]))
 clear K AC
 generalize v.heap.size = g1 at *
 generalize v.alloc (.cells cs1 26) = w1 at *
 clear v
 have HP := put_calls cs1 _ _ wY1 w1 R1.out.2 wS1 (hG.of B.out)
 rw [wP1] at HP
 replace HP := Lib.hid HP
 go_wp2_with (refine wpList_load_row (o := ⟨some 20, _, _, _, _, _⟩) rfl 26 (.tmp 1) rfl g1 rfl 26 cs1 (0, 0) _ R1.out.1 hu.out rfl (sizeA R1.out.2) ?_; simp only [Act.put, List.setIfInBounds_toArray, List.set_cons_zero, List.set_cons_succ])
 refine HP.out.mono ?_
 rintro e w2 ⟨P, cP, rfl, mP, nP, CP, F⟩
 replace B := Lib.hid (below_step B.out F)
 replace R1 := Lib.hid (R1.out.below F)
 have P2 := Lib.hid CP
 clear HP F CP mP nP
 go_upto_region 3 with fail
 have kc := lit_conv w2 wB2 21 22 rfl rfl
 have HL := Lib.hid (lit_calls w2 wB2 (by decide) (by decide) (by unfold Byt; decide) (hG.of B.out) 21 22 rfl _ wG3)
 go_wp2_with (refine wpList_buildFlatAt (o := ⟨some 25, _, _, _, _, _⟩) rfl 22 5 21 _ rfl .u8 wB2 w2.heap.size rfl (some 25) rfl Tryd.underlying22 (by kernel_rfl) (by kernel_rfl) rfl (by decide) (by decide) rfl ?_; simp only [Act.put, List.setIfInBounds_toArray, List.set_cons_zero, List.set_cons_succ])
 refine HL.out.mono ?_
 rintro e v ⟨cs3, rfl, AC, D⟩
 have F := below_step (below_step (below_alloc (Below.refl w2.heap.size w2) _) D) (below_alloc (Below.refl _ _) (.cells cs3 26))
 replace B := Lib.hid (below_step B.out F)
 replace R1 := Lib.hid (R1.out.below F)
 replace P2 := Lib.hid (Kd.C_below P2.out F)
 have R3 := Lib.hid (OneAt.start AC).1
 have K := Lib.hid (blk_new v (.cells zA 26))
 replace AC := Lib.hid AC
 clear kc HL F D
 go_upto_region 4 with (first
  | (refine wpList_allocA rfl (some 5) rfl 26 rfl zA zA_info _ rfl ?_; simp only [Act.put, List.setIfInBounds_toArray, List.set_cons_zero, List.set_cons_succ])
  | (refine wpList_store_row rfl 26 (.tmp 5) (.tmp 28) rfl v.heap.size cs3 rfl rfl 26 zA K.out (sizeA AC.out) (sizeAz AC.out) AC.out.one ?_; rw [World.setRow_alloc_new]))
 clear K AC
 generalize v.heap.size = g3 at *
 generalize v.alloc (.cells cs3 26) = w3 at *
 clear v
 have kc := lit_conv w3 wB3 17 18 rfl rfl
 have HL := Lib.hid (lit_calls w3 wB3 (by decide) (by decide) (by unfold Byt; decide) (hG.of B.out) 17 18 rfl _ wG4)
 go_wp2_with (refine wpList_buildFlatAt (o := ⟨some 31, _, _, _, _, _⟩) rfl 22 5 17 _ rfl .u8 wB3 w3.heap.size rfl (some 31) rfl Tryd.underlying22 (by kernel_rfl) (by kernel_rfl) rfl (by decide) (by decide) rfl ?_; simp only [Act.put, List.setIfInBounds_toArray, List.set_cons_zero, List.set_cons_succ])
 refine HL.out.mono ?_
 rintro e v ⟨cs4, rfl, AC, D⟩
 have F := below_step (below_step (below_alloc (Below.refl w3.heap.size w3) _) D) (below_alloc (Below.refl _ _) (.cells cs4 26))
 replace B := Lib.hid (below_step B.out F)
 replace R1 := Lib.hid (R1.out.below F)
 replace R3 := Lib.hid (R3.out.below F)
 replace P2 := Lib.hid (Kd.C_below P2.out F)
 have R4 := Lib.hid (OneAt.start AC).1
 have K := Lib.hid (blk_new v (.cells zA 26))
 replace AC := Lib.hid AC
 clear kc HL F D
 go_upto_region 5 with (first
  | (refine wpList_allocA rfl (some 7) rfl 26 rfl zA zA_info _ rfl ?_; simp only [Act.put, List.setIfInBounds_toArray, List.set_cons_zero, List.set_cons_succ])
  | (refine wpList_store_row rfl 26 (.tmp 7) (.tmp 34) rfl v.heap.size cs4 rfl rfl 26 zA K.out (sizeA AC.out) (sizeAz AC.out) AC.out.one ?_; rw [World.setRow_alloc_new]))
 clear K AC
 generalize v.heap.size = g4 at *
 generalize v.alloc (.cells cs4 26) = w4 at *
 clear v
 have kc := lit_conv w4 wB4 12 13 rfl rfl
 have HL := Lib.hid (lit_calls w4 wB4 (by decide) (by decide) (by unfold Byt; decide) (hG.of B.out) 12 13 rfl _ wG5)
 go_wp2_with (refine wpList_buildFlatAt (o := ⟨some 37, _, _, _, _, _⟩) rfl 22 5 12 _ rfl .u8 wB4 w4.heap.size rfl (some 37) rfl Tryd.underlying22 (by kernel_rfl) (by kernel_rfl) rfl (by decide) (by decide) rfl ?_; simp only [Act.put, List.setIfInBounds_toArray, List.set_cons_zero, List.set_cons_succ])
 refine HL.out.mono ?_
 rintro e v ⟨cs5, rfl, AC, D⟩
 have F := below_step (below_step (below_alloc (Below.refl w4.heap.size w4) _) D) (below_alloc (Below.refl _ _) (.cells cs5 26))
 replace B := Lib.hid (below_step B.out F)
 replace R1 := Lib.hid (R1.out.below F)
 replace R3 := Lib.hid (R3.out.below F)
 replace R4 := Lib.hid (R4.out.below F)
 replace P2 := Lib.hid (Kd.C_below P2.out F)
 have R5 := Lib.hid (OneAt.start AC).1
 have K := Lib.hid (blk_new v (.cells zA 26))
 replace AC := Lib.hid AC
 clear kc HL F D
 go_upto_region 6 with (first
  | (refine wpList_allocA rfl (some 9) rfl 26 rfl zA zA_info _ rfl ?_; simp only [Act.put, List.setIfInBounds_toArray, List.set_cons_zero, List.set_cons_succ])
  | (refine wpList_store_row rfl 26 (.tmp 9) (.tmp 40) rfl v.heap.size cs5 rfl rfl 26 zA K.out (sizeA AC.out) (sizeAz AC.out) AC.out.one ?_; rw [World.setRow_alloc_new]))
 clear K AC
 generalize v.heap.size = g5 at *
 generalize v.alloc (.cells cs5 26) = w5 at *
 clear v
 have kc := lit_conv w5 wB5 34 35 rfl rfl
 have HL := Lib.hid (lit_calls w5 wB5 (by decide) (by decide) (by unfold Byt; decide) (hG.of B.out) 34 35 rfl _ wG6)
 go_wp2_with (refine wpList_buildFlatAt (o := ⟨some 43, _, _, _, _, _⟩) rfl 22 5 34 _ rfl .u8 wB5 w5.heap.size rfl (some 43) rfl Tryd.underlying22 (by kernel_rfl) (by kernel_rfl) rfl (by decide) (by decide) rfl ?_; simp only [Act.put, List.setIfInBounds_toArray, List.set_cons_zero, List.set_cons_succ])
 refine HL.out.mono ?_
 rintro e v ⟨cs6, rfl, AC, D⟩
 have F := below_step (below_step (below_alloc (Below.refl w5.heap.size w5) _) D) (below_alloc (Below.refl _ _) (.cells cs6 26))
 replace B := Lib.hid (below_step B.out F)
 replace R1 := Lib.hid (R1.out.below F)
 replace R3 := Lib.hid (R3.out.below F)
 replace R4 := Lib.hid (R4.out.below F)
 replace R5 := Lib.hid (R5.out.below F)
 replace P2 := Lib.hid (Kd.C_below P2.out F)
 have R6 := Lib.hid (OneAt.start AC).1
 have K := Lib.hid (blk_new v (.cells zA 26))
 replace AC := Lib.hid AC
 clear kc HL F D
 go_upto_region 7 with (first
  | (refine wpList_allocA rfl (some 11) rfl 26 rfl zA zA_info _ rfl ?_; simp only [Act.put, List.setIfInBounds_toArray, List.set_cons_zero, List.set_cons_succ])
  | (refine wpList_store_row rfl 26 (.tmp 11) (.tmp 46) rfl v.heap.size cs6 rfl rfl 26 zA K.out (sizeA AC.out) (sizeAz AC.out) AC.out.one ?_; rw [World.setRow_alloc_new]))
 clear K AC
 generalize v.heap.size = g6 at *
 generalize v.alloc (.cells cs6 26) = w6 at *
 clear v
 have c1_0 : w6.cell? ⟨g1, 0, none⟩ = some (.int .i64 (5)) := by
  obtain ⟨v, hv, hok⟩ := R1.out.2.get 0 (by decide)
  rw [R1.out.cellS 0 v hv, show v = _ from hok, show wY1.x0 = 5 from by decide +kernel]
 have c1_2 : w6.cell? ⟨g1, 2, none⟩ = some (.string ⟨#[107]⟩) := by
  obtain ⟨v, hv, hok⟩ := R1.out.2.get 2 (by decide)
  rw [R1.out.cellS 2 v hv, show v = _ from hok, show wY1.x2 = [107] from by decide +kernel]
  rfl
 have c1_11 : w6.cell? ⟨g1, 11, none⟩ = some (.int .i64 (5)) := by
  obtain ⟨v, hv, hok⟩ := R1.out.2.get 11 (by decide)
  rw [R1.out.cellS 11 v hv, show v = _ from hok, show wY1.x11 = 5 from by decide +kernel]
 have c1_3 : w6.cell? ⟨g1, 3, none⟩ = some (.int .i64 (-1)) := by
  obtain ⟨v, hv, hok⟩ := R1.out.2.get 3 (by decide)
  rw [R1.out.cellS 3 v hv, show v = _ from hok, show wY1.x3 = -1 from by decide +kernel]
 have c6_2 : w6.cell? ⟨g6, 2, none⟩ = some (.string ⟨#[97, 47, 98]⟩) := by
  obtain ⟨v, hv, hok⟩ := R6.out.2.get 2 (by decide)
  rw [R6.out.cellS 2 v hv, show v = _ from hok, show wY6.x2 = [97, 47, 98] from by decide +kernel]
  rfl
 have c6_20 : w6.cell? ⟨g6, 20, none⟩ = some (.int .i64 (7)) := by
  obtain ⟨v, hv, hok⟩ := R6.out.2.get 20 (by decide)
  rw [R6.out.cellS 20 v hv, show v = _ from hok, show wY6.x20 = 7 from by decide +kernel]
 obtain ⟨A9, k9, c1_9, -, C9⟩ := R1.out.oct 1 (by decide)
 replace c1_9 : w6.cell? ⟨g1, 9, none⟩ = some (.slice A9 (wY1.o 1).length k9) := c1_9
 have s9 := Kd.C_string (P := Tryd.prog) (src := 22) (dst := 9) (e := 5) (c := k9) Tryd.underlying22 Tryd.underlying5 Tryd.underlying9 C9
 rw [show strOfNums (wY1.o 1) = ⟨#[109]⟩ from by rw [show wY1.o 1 = [109] from by decide +kernel]; rfl] at s9
 obtain ⟨A4, k4, c1_4, -, C4⟩ := R1.out.body
 have s4 := Kd.C_string (P := Tryd.prog) (src := 22) (dst := 9) (e := 5) (c := k4) Tryd.underlying22 Tryd.underlying5 Tryd.underlying9 C4
 rw [show strOfNums wY1.x4 = ⟨#[104, 101, 108, 108, 111]⟩ from by rw [show wY1.x4 = [104, 101, 108, 108, 111] from by decide +kernel]; rfl] at s4
 obtain ⟨A22, k22, c6_22, -, -⟩ := R6.out.lst
 rw [show wY6.x22.length = 2 from by decide +kernel] at c6_22
 have sP := Kd.C_string (P := Tryd.prog) (src := 22) (dst := 9) (e := 5) (c := cP) Tryd.underlying22 Tryd.underlying5 Tryd.underlying9 P2.out
 rw [show strOfNums (wB1, (0 : Int)).1 = ⟨#[112, 117, 116, 32, 97, 98, 99, 47, 107, 10, 109, 101, 116, 97, 58, 32, 98, 81, 61, 61, 10, 117, 110, 116, 105, 108, 58, 32, 53, 10, 10, 104, 101, 108, 108, 111]⟩ from rfl] at sP
 have HW := Word_calls 20 w6
 rw [show wordOf 20 = ⟨#[115, 116, 101, 112]⟩ from by decide +kernel] at HW
 replace HW := Lib.hid HW
 clear C9 C4 R1 R3 R4 R5 R6 P2
 go_wp2_with fail
 refine HW.out.mono ?_
 rintro e w7 ⟨rfl, F⟩
 replace B := Lib.hid (below_step B.out F)
 clear HW F
 go_wp2_with fail
 go_ret
 exact ⟨rfl, B.out⟩
end Go.Proofs.YtjkehapbemjnpaaDoor
