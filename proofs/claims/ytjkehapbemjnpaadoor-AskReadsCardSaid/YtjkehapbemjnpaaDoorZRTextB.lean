/- The reference's ways to set a text, bytes, a number by a word, walked by hand; each condition stands in its theorem. -/
import Derived.Test.YtjkehapbemjnpaaDoorZRBase
namespace Go.Proofs.YtjkehapbemjnpaaDoor
open Go.RowKit Go.Proofs.YtjkehapbemjnpaaDoorW.PrintWords Go.Proofs.YtjkehapbemjnpaaDoorW.PrintLast Go.Proofs.YtjkehapbemjnpaaDoorW.PrintMore Go.Proofs.YtjkehapbemjnpaaDoor.Lf Go.Proofs.YtjkehapbemjnpaaDoor.Kit Go.Proofs.YtjkehapbemjnpaaDoor.Cut Go.Proofs.YtjkehapbemjnpaaDoor.Pl Go.Proofs.YtjkehapbemjnpaaDoor.Num
set_option linter.unusedVariables false
set_option linter.unusedSimpArgs false
set_option maxRecDepth 100000 in
set_option maxHeartbeats 1000000 in
theorem rbytes_0 (cs : Array Value) (a : AskP) (word : ByteArray) (ok : Nat → Prop) (w : World) (hA : AskC w ok False cs a) (v : Value) (value : List Int) (hv : Kd.V (Kd.int .u8) 5 w 0 ok v value)  (t0 : (word.toList == [111, 119, 110]) = true) :
    Calls Tryd.prog 69 #[.agg cs, .string word, v] w (RP ok w ({ a with x5 := value }) true) := by
  obtain ⟨A, c, rfl, hvn, hvF⟩ := hv
  have hv : Kd.V (Kd.int .u8) 5 w 0 ok (.slice A value.length c) value := ⟨A, c, rfl, hvn, hvF⟩
  clear hvn hvF
  have hu := Tryd.underlying26
  have e1 : (w.alloc (.cells cs 26)).heap.size = w.heap.size + 1 := size_alloc _ _
  have e2 : ((w.alloc (.cells cs 26)).alloc (.cells zA 26)).heap.size = w.heap.size + 1 + 1 := by rw [size_alloc, size_alloc]
  have K3 := blk_alloc (blk_new w (.cells cs 26)) (.cells zA 26)
  have K6 := blk_new (w.alloc (.cells cs 26)) (.cells zA 26)
  have K8z := blk_new ((w.alloc (.cells cs 26)).alloc (.cells zA 26)) (.cells zA 26)
  have K8 := blk_new ((w.alloc (.cells cs 26)).alloc (.cells zA 26)) (.cells cs 26)
  have K6b := blk_alloc K6 (.cells cs 26)
  have K3b := blk_alloc K3 (.cells cs 26)
  have K3z := blk_alloc K3 (.cells zA 26)
  have B3 := below_alloc (below_alloc (below_alloc (Below.refl w.heap.size w) (.cells cs 26)) (.cells zA 26)) (.cells cs 26)
  rw [e1] at K6 K6b
  rw [e2] at K8 K8z
  go_enter Tryd.func69, Tryd.ntmps69
  replace hu := Lib.hid hu
  replace hA := Lib.hid hA
  replace e1 := Lib.hid e1
  replace e2 := Lib.hid e2
  replace K3 := Lib.hid K3
  replace K3b := Lib.hid K3b
  replace K3z := Lib.hid K3z
  replace K6 := Lib.hid K6
  replace K6b := Lib.hid K6b
  replace K8 := Lib.hid K8
  replace K8z := Lib.hid K8z
  replace B3 := Lib.hid B3
  go_upto_region 2 with (first
    | (refine wpList_allocA rfl (some 6) rfl 26 rfl zA zA_info (w.heap.size + 1) e1.out ?_; simp only [Act.put, List.setIfInBounds_toArray, List.set_cons_zero, List.set_cons_succ])
    | (refine wpList_load_row (o := ⟨some 9, _, _, _, _, _⟩) rfl 26 (.tmp 3) rfl (w.heap.size) rfl 26 cs (0, 0) _ K3.out hu.out rfl (sizeA hA.out) ?_; simp only [Act.put, List.setIfInBounds_toArray, List.set_cons_zero, List.set_cons_succ])
    | (refine wpList_allocA rfl (some 8) rfl 26 rfl zA zA_info (w.heap.size + 1 + 1) e2.out ?_; simp only [Act.put, List.setIfInBounds_toArray, List.set_cons_zero, List.set_cons_succ])
    | (refine wpList_store_row rfl 26 (.tmp 8) (.tmp 9) rfl (w.heap.size + 1 + 1) cs rfl rfl 26 zA K8z.out (sizeA hA.out) (sizeAz hA.out) (hA.out).one ?_; rw [← e2.out]; rw [World.setRow_alloc_new]))
  generalize ((w.alloc (.cells cs 26)).alloc (.cells zA 26)).alloc (.cells cs 26) = W at *
  obtain ⟨old, hold, _⟩ := hA.out.get 5 (by decide)
  have c1 : W.cell? ⟨w.heap.size + 1 + 1, 5, none⟩ = some old := (blk_cell K8.out 5).trans hold
  have z1 := blk_frozen K8.out 5
  have K8c := blk_put K8.out 5 (.slice A value.length c) rfl
  have K6c := blk_far K6b.out (p := ⟨w.heap.size + 1 + 1, 5, none⟩) (by show w.heap.size + 1 ≠ w.heap.size + 1 + 1; omega) (.slice A value.length c)
  have AB := hA.out.put5 _ value hv
  have B4 := below_set B3.out (g := w.heap.size + 1 + 1) (j := 5) (v := (.slice A value.length c)) (by omega)
  generalize cs.setIfInBounds 5 (.slice A value.length c) = cF at K8c AB
  replace K8c := Lib.hid K8c
  replace K6c := Lib.hid K6c
  replace AB := Lib.hid AB
  replace B4 := Lib.hid B4
  clear K3 K3b K3z K6 K6b K8 K8z e1 e2 B3 hold
  go_wp2_with (first
    | (refine wpList_load_row (o := ⟨some 28, _, _, _, _, _⟩) rfl 26 (.tmp 8) rfl (w.heap.size + 1 + 1) rfl 26 cF (0, 0) _ K8c.out hu.out rfl (sizeA AB.out) ?_; simp only [Act.put, List.setIfInBounds_toArray, List.set_cons_zero, List.set_cons_succ])
    | (refine wpList_store_row rfl 26 (.tmp 6) (.tmp 28) rfl (w.heap.size + 1) cF rfl rfl 26 zA K6c.out (sizeA AB.out) (sizeAz AB.out) (AB.out).one ?_))
  refine bodyPost_ret (results_ct rfl _ _ (w.heap.size + 1) 26 cF (0, 0) _ rfl (blk_row K6c.out cF) hu.out rfl (sizeA AB.out)) rfl ?_
  have B5 := below_row B4.out (Nat.le_succ w.heap.size) cF
  exact ⟨cF, rfl, AB.out.below B5, B5⟩
set_option maxRecDepth 100000 in
set_option maxHeartbeats 1000000 in
theorem rbytes_1 (cs : Array Value) (a : AskP) (word : ByteArray) (ok : Nat → Prop) (w : World) (hA : AskC w ok False cs a) (v : Value) (value : List Int) (hv : Kd.V (Kd.int .u8) 5 w 0 ok v value) (t0 : (word.toList == [111, 119, 110]) = false) (t1 : (word.toList == [109, 101, 116, 97]) = true) :
    Calls Tryd.prog 69 #[.agg cs, .string word, v] w (RP ok w ({ a with x9 := value }) true) := by
  obtain ⟨A, c, rfl, hvn, hvF⟩ := hv
  have hv : Kd.V (Kd.int .u8) 5 w 0 ok (.slice A value.length c) value := ⟨A, c, rfl, hvn, hvF⟩
  clear hvn hvF
  have hu := Tryd.underlying26
  have e1 : (w.alloc (.cells cs 26)).heap.size = w.heap.size + 1 := size_alloc _ _
  have e2 : ((w.alloc (.cells cs 26)).alloc (.cells zA 26)).heap.size = w.heap.size + 1 + 1 := by rw [size_alloc, size_alloc]
  have K3 := blk_alloc (blk_new w (.cells cs 26)) (.cells zA 26)
  have K6 := blk_new (w.alloc (.cells cs 26)) (.cells zA 26)
  have K8z := blk_new ((w.alloc (.cells cs 26)).alloc (.cells zA 26)) (.cells zA 26)
  have K8 := blk_new ((w.alloc (.cells cs 26)).alloc (.cells zA 26)) (.cells cs 26)
  have K6b := blk_alloc K6 (.cells cs 26)
  have K3b := blk_alloc K3 (.cells cs 26)
  have K3z := blk_alloc K3 (.cells zA 26)
  have B3 := below_alloc (below_alloc (below_alloc (Below.refl w.heap.size w) (.cells cs 26)) (.cells zA 26)) (.cells cs 26)
  rw [e1] at K6 K6b
  rw [e2] at K8 K8z
  go_enter Tryd.func69, Tryd.ntmps69
  replace hu := Lib.hid hu
  replace hA := Lib.hid hA
  replace e1 := Lib.hid e1
  replace e2 := Lib.hid e2
  replace K3 := Lib.hid K3
  replace K3b := Lib.hid K3b
  replace K3z := Lib.hid K3z
  replace K6 := Lib.hid K6
  replace K6b := Lib.hid K6b
  replace K8 := Lib.hid K8
  replace K8z := Lib.hid K8z
  replace B3 := Lib.hid B3
  go_upto_region 2 with (first
    | (refine wpList_allocA rfl (some 6) rfl 26 rfl zA zA_info (w.heap.size + 1) e1.out ?_; simp only [Act.put, List.setIfInBounds_toArray, List.set_cons_zero, List.set_cons_succ])
    | (refine wpList_load_row (o := ⟨some 9, _, _, _, _, _⟩) rfl 26 (.tmp 3) rfl (w.heap.size) rfl 26 cs (0, 0) _ K3.out hu.out rfl (sizeA hA.out) ?_; simp only [Act.put, List.setIfInBounds_toArray, List.set_cons_zero, List.set_cons_succ])
    | (refine wpList_allocA rfl (some 8) rfl 26 rfl zA zA_info (w.heap.size + 1 + 1) e2.out ?_; simp only [Act.put, List.setIfInBounds_toArray, List.set_cons_zero, List.set_cons_succ])
    | (refine wpList_store_row rfl 26 (.tmp 8) (.tmp 9) rfl (w.heap.size + 1 + 1) cs rfl rfl 26 zA K8z.out (sizeA hA.out) (sizeAz hA.out) (hA.out).one ?_; rw [← e2.out]; rw [World.setRow_alloc_new]))
  generalize ((w.alloc (.cells cs 26)).alloc (.cells zA 26)).alloc (.cells cs 26) = W at *
  obtain ⟨old, hold, _⟩ := hA.out.get 9 (by decide)
  have c1 : W.cell? ⟨w.heap.size + 1 + 1, 9, none⟩ = some old := (blk_cell K8.out 9).trans hold
  have z1 := blk_frozen K8.out 9
  have K8c := blk_put K8.out 9 (.slice A value.length c) rfl
  have K6c := blk_far K6b.out (p := ⟨w.heap.size + 1 + 1, 9, none⟩) (by show w.heap.size + 1 ≠ w.heap.size + 1 + 1; omega) (.slice A value.length c)
  have AB := hA.out.put9 _ value hv
  have B4 := below_set B3.out (g := w.heap.size + 1 + 1) (j := 9) (v := (.slice A value.length c)) (by omega)
  generalize cs.setIfInBounds 9 (.slice A value.length c) = cF at K8c AB
  replace K8c := Lib.hid K8c
  replace K6c := Lib.hid K6c
  replace AB := Lib.hid AB
  replace B4 := Lib.hid B4
  clear K3 K3b K3z K6 K6b K8 K8z e1 e2 B3 hold
  go_wp2_with (first
    | (refine wpList_load_row (o := ⟨some 28, _, _, _, _, _⟩) rfl 26 (.tmp 8) rfl (w.heap.size + 1 + 1) rfl 26 cF (0, 0) _ K8c.out hu.out rfl (sizeA AB.out) ?_; simp only [Act.put, List.setIfInBounds_toArray, List.set_cons_zero, List.set_cons_succ])
    | (refine wpList_store_row rfl 26 (.tmp 6) (.tmp 28) rfl (w.heap.size + 1) cF rfl rfl 26 zA K6c.out (sizeA AB.out) (sizeAz AB.out) (AB.out).one ?_))
  refine bodyPost_ret (results_ct rfl _ _ (w.heap.size + 1) 26 cF (0, 0) _ rfl (blk_row K6c.out cF) hu.out rfl (sizeA AB.out)) rfl ?_
  have B5 := below_row B4.out (Nat.le_succ w.heap.size) cF
  exact ⟨cF, rfl, AB.out.below B5, B5⟩
set_option maxRecDepth 100000 in
set_option maxHeartbeats 1000000 in
theorem rbytes_2 (cs : Array Value) (a : AskP) (word : ByteArray) (ok : Nat → Prop) (w : World) (hA : AskC w ok False cs a) (v : Value) (value : List Int) (hv : Kd.V (Kd.int .u8) 5 w 0 ok v value) (t0 : (word.toList == [111, 119, 110]) = false) (t1 : (word.toList == [109, 101, 116, 97]) = false) (t2 : (word.toList == [116, 97, 103, 115]) = true) :
    Calls Tryd.prog 69 #[.agg cs, .string word, v] w (RP ok w ({ a with x10 := value }) true) := by
  obtain ⟨A, c, rfl, hvn, hvF⟩ := hv
  have hv : Kd.V (Kd.int .u8) 5 w 0 ok (.slice A value.length c) value := ⟨A, c, rfl, hvn, hvF⟩
  clear hvn hvF
  have hu := Tryd.underlying26
  have e1 : (w.alloc (.cells cs 26)).heap.size = w.heap.size + 1 := size_alloc _ _
  have e2 : ((w.alloc (.cells cs 26)).alloc (.cells zA 26)).heap.size = w.heap.size + 1 + 1 := by rw [size_alloc, size_alloc]
  have K3 := blk_alloc (blk_new w (.cells cs 26)) (.cells zA 26)
  have K6 := blk_new (w.alloc (.cells cs 26)) (.cells zA 26)
  have K8z := blk_new ((w.alloc (.cells cs 26)).alloc (.cells zA 26)) (.cells zA 26)
  have K8 := blk_new ((w.alloc (.cells cs 26)).alloc (.cells zA 26)) (.cells cs 26)
  have K6b := blk_alloc K6 (.cells cs 26)
  have K3b := blk_alloc K3 (.cells cs 26)
  have K3z := blk_alloc K3 (.cells zA 26)
  have B3 := below_alloc (below_alloc (below_alloc (Below.refl w.heap.size w) (.cells cs 26)) (.cells zA 26)) (.cells cs 26)
  rw [e1] at K6 K6b
  rw [e2] at K8 K8z
  go_enter Tryd.func69, Tryd.ntmps69
  replace hu := Lib.hid hu
  replace hA := Lib.hid hA
  replace e1 := Lib.hid e1
  replace e2 := Lib.hid e2
  replace K3 := Lib.hid K3
  replace K3b := Lib.hid K3b
  replace K3z := Lib.hid K3z
  replace K6 := Lib.hid K6
  replace K6b := Lib.hid K6b
  replace K8 := Lib.hid K8
  replace K8z := Lib.hid K8z
  replace B3 := Lib.hid B3
  go_upto_region 2 with (first
    | (refine wpList_allocA rfl (some 6) rfl 26 rfl zA zA_info (w.heap.size + 1) e1.out ?_; simp only [Act.put, List.setIfInBounds_toArray, List.set_cons_zero, List.set_cons_succ])
    | (refine wpList_load_row (o := ⟨some 9, _, _, _, _, _⟩) rfl 26 (.tmp 3) rfl (w.heap.size) rfl 26 cs (0, 0) _ K3.out hu.out rfl (sizeA hA.out) ?_; simp only [Act.put, List.setIfInBounds_toArray, List.set_cons_zero, List.set_cons_succ])
    | (refine wpList_allocA rfl (some 8) rfl 26 rfl zA zA_info (w.heap.size + 1 + 1) e2.out ?_; simp only [Act.put, List.setIfInBounds_toArray, List.set_cons_zero, List.set_cons_succ])
    | (refine wpList_store_row rfl 26 (.tmp 8) (.tmp 9) rfl (w.heap.size + 1 + 1) cs rfl rfl 26 zA K8z.out (sizeA hA.out) (sizeAz hA.out) (hA.out).one ?_; rw [← e2.out]; rw [World.setRow_alloc_new]))
  generalize ((w.alloc (.cells cs 26)).alloc (.cells zA 26)).alloc (.cells cs 26) = W at *
  obtain ⟨old, hold, _⟩ := hA.out.get 10 (by decide)
  have c1 : W.cell? ⟨w.heap.size + 1 + 1, 10, none⟩ = some old := (blk_cell K8.out 10).trans hold
  have z1 := blk_frozen K8.out 10
  have K8c := blk_put K8.out 10 (.slice A value.length c) rfl
  have K6c := blk_far K6b.out (p := ⟨w.heap.size + 1 + 1, 10, none⟩) (by show w.heap.size + 1 ≠ w.heap.size + 1 + 1; omega) (.slice A value.length c)
  have AB := hA.out.put10 _ value hv
  have B4 := below_set B3.out (g := w.heap.size + 1 + 1) (j := 10) (v := (.slice A value.length c)) (by omega)
  generalize cs.setIfInBounds 10 (.slice A value.length c) = cF at K8c AB
  replace K8c := Lib.hid K8c
  replace K6c := Lib.hid K6c
  replace AB := Lib.hid AB
  replace B4 := Lib.hid B4
  clear K3 K3b K3z K6 K6b K8 K8z e1 e2 B3 hold
  go_wp2_with (first
    | (refine wpList_load_row (o := ⟨some 28, _, _, _, _, _⟩) rfl 26 (.tmp 8) rfl (w.heap.size + 1 + 1) rfl 26 cF (0, 0) _ K8c.out hu.out rfl (sizeA AB.out) ?_; simp only [Act.put, List.setIfInBounds_toArray, List.set_cons_zero, List.set_cons_succ])
    | (refine wpList_store_row rfl 26 (.tmp 6) (.tmp 28) rfl (w.heap.size + 1) cF rfl rfl 26 zA K6c.out (sizeA AB.out) (sizeAz AB.out) (AB.out).one ?_))
  refine bodyPost_ret (results_ct rfl _ _ (w.heap.size + 1) 26 cF (0, 0) _ rfl (blk_row K6c.out cF) hu.out rfl (sizeA AB.out)) rfl ?_
  have B5 := below_row B4.out (Nat.le_succ w.heap.size) cF
  exact ⟨cF, rfl, AB.out.below B5, B5⟩
set_option maxRecDepth 100000 in
set_option maxHeartbeats 1000000 in
theorem rbytes_3 (cs : Array Value) (a : AskP) (word : ByteArray) (ok : Nat → Prop) (w : World) (hA : AskC w ok False cs a) (v : Value) (value : List Int) (hv : Kd.V (Kd.int .u8) 5 w 0 ok v value) (t0 : (word.toList == [111, 119, 110]) = false) (t1 : (word.toList == [109, 101, 116, 97]) = false) (t2 : (word.toList == [116, 97, 103, 115]) = false) (t3 : (word.toList == [107, 101, 121]) = true) :
    Calls Tryd.prog 69 #[.agg cs, .string word, v] w (RP ok w ({ a with x19 := value }) true) := by
  obtain ⟨A, c, rfl, hvn, hvF⟩ := hv
  have hv : Kd.V (Kd.int .u8) 5 w 0 ok (.slice A value.length c) value := ⟨A, c, rfl, hvn, hvF⟩
  clear hvn hvF
  have hu := Tryd.underlying26
  have e1 : (w.alloc (.cells cs 26)).heap.size = w.heap.size + 1 := size_alloc _ _
  have e2 : ((w.alloc (.cells cs 26)).alloc (.cells zA 26)).heap.size = w.heap.size + 1 + 1 := by rw [size_alloc, size_alloc]
  have K3 := blk_alloc (blk_new w (.cells cs 26)) (.cells zA 26)
  have K6 := blk_new (w.alloc (.cells cs 26)) (.cells zA 26)
  have K8z := blk_new ((w.alloc (.cells cs 26)).alloc (.cells zA 26)) (.cells zA 26)
  have K8 := blk_new ((w.alloc (.cells cs 26)).alloc (.cells zA 26)) (.cells cs 26)
  have K6b := blk_alloc K6 (.cells cs 26)
  have K3b := blk_alloc K3 (.cells cs 26)
  have K3z := blk_alloc K3 (.cells zA 26)
  have B3 := below_alloc (below_alloc (below_alloc (Below.refl w.heap.size w) (.cells cs 26)) (.cells zA 26)) (.cells cs 26)
  rw [e1] at K6 K6b
  rw [e2] at K8 K8z
  go_enter Tryd.func69, Tryd.ntmps69
  replace hu := Lib.hid hu
  replace hA := Lib.hid hA
  replace e1 := Lib.hid e1
  replace e2 := Lib.hid e2
  replace K3 := Lib.hid K3
  replace K3b := Lib.hid K3b
  replace K3z := Lib.hid K3z
  replace K6 := Lib.hid K6
  replace K6b := Lib.hid K6b
  replace K8 := Lib.hid K8
  replace K8z := Lib.hid K8z
  replace B3 := Lib.hid B3
  go_upto_region 2 with (first
    | (refine wpList_allocA rfl (some 6) rfl 26 rfl zA zA_info (w.heap.size + 1) e1.out ?_; simp only [Act.put, List.setIfInBounds_toArray, List.set_cons_zero, List.set_cons_succ])
    | (refine wpList_load_row (o := ⟨some 9, _, _, _, _, _⟩) rfl 26 (.tmp 3) rfl (w.heap.size) rfl 26 cs (0, 0) _ K3.out hu.out rfl (sizeA hA.out) ?_; simp only [Act.put, List.setIfInBounds_toArray, List.set_cons_zero, List.set_cons_succ])
    | (refine wpList_allocA rfl (some 8) rfl 26 rfl zA zA_info (w.heap.size + 1 + 1) e2.out ?_; simp only [Act.put, List.setIfInBounds_toArray, List.set_cons_zero, List.set_cons_succ])
    | (refine wpList_store_row rfl 26 (.tmp 8) (.tmp 9) rfl (w.heap.size + 1 + 1) cs rfl rfl 26 zA K8z.out (sizeA hA.out) (sizeAz hA.out) (hA.out).one ?_; rw [← e2.out]; rw [World.setRow_alloc_new]))
  generalize ((w.alloc (.cells cs 26)).alloc (.cells zA 26)).alloc (.cells cs 26) = W at *
  obtain ⟨old, hold, _⟩ := hA.out.get 19 (by decide)
  have c1 : W.cell? ⟨w.heap.size + 1 + 1, 19, none⟩ = some old := (blk_cell K8.out 19).trans hold
  have z1 := blk_frozen K8.out 19
  have K8c := blk_put K8.out 19 (.slice A value.length c) rfl
  have K6c := blk_far K6b.out (p := ⟨w.heap.size + 1 + 1, 19, none⟩) (by show w.heap.size + 1 ≠ w.heap.size + 1 + 1; omega) (.slice A value.length c)
  have AB := hA.out.put19 _ value hv
  have B4 := below_set B3.out (g := w.heap.size + 1 + 1) (j := 19) (v := (.slice A value.length c)) (by omega)
  generalize cs.setIfInBounds 19 (.slice A value.length c) = cF at K8c AB
  replace K8c := Lib.hid K8c
  replace K6c := Lib.hid K6c
  replace AB := Lib.hid AB
  replace B4 := Lib.hid B4
  clear K3 K3b K3z K6 K6b K8 K8z e1 e2 B3 hold
  go_wp2_with (first
    | (refine wpList_load_row (o := ⟨some 28, _, _, _, _, _⟩) rfl 26 (.tmp 8) rfl (w.heap.size + 1 + 1) rfl 26 cF (0, 0) _ K8c.out hu.out rfl (sizeA AB.out) ?_; simp only [Act.put, List.setIfInBounds_toArray, List.set_cons_zero, List.set_cons_succ])
    | (refine wpList_store_row rfl 26 (.tmp 6) (.tmp 28) rfl (w.heap.size + 1) cF rfl rfl 26 zA K6c.out (sizeA AB.out) (sizeAz AB.out) (AB.out).one ?_))
  refine bodyPost_ret (results_ct rfl _ _ (w.heap.size + 1) 26 cF (0, 0) _ rfl (blk_row K6c.out cF) hu.out rfl (sizeA AB.out)) rfl ?_
  have B5 := below_row B4.out (Nat.le_succ w.heap.size) cF
  exact ⟨cF, rfl, AB.out.below B5, B5⟩
set_option maxRecDepth 100000 in
set_option maxHeartbeats 1000000 in
theorem rbytes_none (cs : Array Value) (a : AskP) (word : ByteArray) (ok : Nat → Prop) (w : World) (hA : AskC w ok False cs a) (v : Value) (value : List Int) (hv : Kd.V (Kd.int .u8) 5 w 0 ok v value) (t0 : (word.toList == [111, 119, 110]) = false) (t1 : (word.toList == [109, 101, 116, 97]) = false) (t2 : (word.toList == [116, 97, 103, 115]) = false) (t3 : (word.toList == [107, 101, 121]) = false) :
    Calls Tryd.prog 69 #[.agg cs, .string word, v] w (RP ok w (a) false) := by
  obtain ⟨A, c, rfl, hvn, hvF⟩ := hv
  have hv : Kd.V (Kd.int .u8) 5 w 0 ok (.slice A value.length c) value := ⟨A, c, rfl, hvn, hvF⟩
  clear hvn hvF
  have hu := Tryd.underlying26
  have e1 : (w.alloc (.cells cs 26)).heap.size = w.heap.size + 1 := size_alloc _ _
  have e2 : ((w.alloc (.cells cs 26)).alloc (.cells zA 26)).heap.size = w.heap.size + 1 + 1 := by rw [size_alloc, size_alloc]
  have K3 := blk_alloc (blk_new w (.cells cs 26)) (.cells zA 26)
  have K6 := blk_new (w.alloc (.cells cs 26)) (.cells zA 26)
  have K8z := blk_new ((w.alloc (.cells cs 26)).alloc (.cells zA 26)) (.cells zA 26)
  have K8 := blk_new ((w.alloc (.cells cs 26)).alloc (.cells zA 26)) (.cells cs 26)
  have K6b := blk_alloc K6 (.cells cs 26)
  have K3b := blk_alloc K3 (.cells cs 26)
  have K3z := blk_alloc K3 (.cells zA 26)
  have B3 := below_alloc (below_alloc (below_alloc (Below.refl w.heap.size w) (.cells cs 26)) (.cells zA 26)) (.cells cs 26)
  rw [e1] at K6 K6b
  rw [e2] at K8 K8z
  go_enter Tryd.func69, Tryd.ntmps69
  replace hu := Lib.hid hu
  replace hA := Lib.hid hA
  replace e1 := Lib.hid e1
  replace e2 := Lib.hid e2
  replace K3 := Lib.hid K3
  replace K3b := Lib.hid K3b
  replace K3z := Lib.hid K3z
  replace K6 := Lib.hid K6
  replace K6b := Lib.hid K6b
  replace K8 := Lib.hid K8
  replace K8z := Lib.hid K8z
  replace B3 := Lib.hid B3
  go_upto_region 2 with (first
    | (refine wpList_allocA rfl (some 6) rfl 26 rfl zA zA_info (w.heap.size + 1) e1.out ?_; simp only [Act.put, List.setIfInBounds_toArray, List.set_cons_zero, List.set_cons_succ])
    | (refine wpList_load_row (o := ⟨some 9, _, _, _, _, _⟩) rfl 26 (.tmp 3) rfl (w.heap.size) rfl 26 cs (0, 0) _ K3.out hu.out rfl (sizeA hA.out) ?_; simp only [Act.put, List.setIfInBounds_toArray, List.set_cons_zero, List.set_cons_succ])
    | (refine wpList_allocA rfl (some 8) rfl 26 rfl zA zA_info (w.heap.size + 1 + 1) e2.out ?_; simp only [Act.put, List.setIfInBounds_toArray, List.set_cons_zero, List.set_cons_succ])
    | (refine wpList_store_row rfl 26 (.tmp 8) (.tmp 9) rfl (w.heap.size + 1 + 1) cs rfl rfl 26 zA K8z.out (sizeA hA.out) (sizeAz hA.out) (hA.out).one ?_; rw [← e2.out]; rw [World.setRow_alloc_new]))
  generalize ((w.alloc (.cells cs 26)).alloc (.cells zA 26)).alloc (.cells cs 26) = W at *
  clear K3 K3z K6 K8 K8z e1 e2
  go_wp2_with (first
    | (refine wpList_load_row (o := ⟨some 11, _, _, _, _, _⟩) rfl 26 (.tmp 3) rfl (w.heap.size) rfl 26 cs (0, 0) _ K3b.out hu.out rfl (sizeA hA.out) ?_; simp only [Act.put, List.setIfInBounds_toArray, List.set_cons_zero, List.set_cons_succ])
    | (refine wpList_store_row rfl 26 (.tmp 6) (.tmp 11) rfl (w.heap.size + 1) cs rfl rfl 26 zA K6b.out (sizeA hA.out) (sizeAz hA.out) (hA.out).one ?_))
  refine bodyPost_ret (results_ct rfl _ _ (w.heap.size + 1) 26 cs (0, 0) _ rfl (blk_row K6b.out cs) hu.out rfl (sizeA hA.out)) rfl ?_
  have B4 := below_row B3.out (Nat.le_succ w.heap.size) cs
  exact ⟨cs, rfl, hA.out.below B4, B4⟩
theorem rbytes_some (k : Nat) (cs : Array Value) (a : AskP) (ws : List Int) (ok : Nat → Prop) (w : World) (hA : AskC w ok False cs a) (v : Value) (value : List Int) (hv : Kd.V (Kd.int .u8) 5 w 0 ok v value) (hw : Byt ws) (hf : findW oL ws = some k) :
    Calls Tryd.prog 69 #[.agg cs, .string (strOfNums ws), v] w (RP ok w (a.oSet k value) true) := by
  obtain ⟨h4, h5, h6⟩ := findW_some hf
  have e0 := word_beq hw (ys := [111, 119, 110]) (by unfold Byt; decide)
  have e1 := word_beq hw (ys := [109, 101, 116, 97]) (by unfold Byt; decide)
  have e2 := word_beq hw (ys := [116, 97, 103, 115]) (by unfold Byt; decide)
  have e3 := word_beq hw (ys := [107, 101, 121]) (by unfold Byt; decide)
  match k, h4, h5, h6 with
  | 0, h4, h5, h6 =>
    rw [decide_eq_true (show ws = [111, 119, 110] from h5.symm)] at e0
    exact rbytes_0 cs a _ ok w hA v value hv e0
  | 1, h4, h5, h6 =>
    rw [decide_eq_false (show ws ≠ [111, 119, 110] from fun h => h6 0 (by decide) h.symm)] at e0
    rw [decide_eq_true (show ws = [109, 101, 116, 97] from h5.symm)] at e1
    exact rbytes_1 cs a _ ok w hA v value hv e0 e1
  | 2, h4, h5, h6 =>
    rw [decide_eq_false (show ws ≠ [111, 119, 110] from fun h => h6 0 (by decide) h.symm)] at e0
    rw [decide_eq_false (show ws ≠ [109, 101, 116, 97] from fun h => h6 1 (by decide) h.symm)] at e1
    rw [decide_eq_true (show ws = [116, 97, 103, 115] from h5.symm)] at e2
    exact rbytes_2 cs a _ ok w hA v value hv e0 e1 e2
  | 3, h4, h5, h6 =>
    rw [decide_eq_false (show ws ≠ [111, 119, 110] from fun h => h6 0 (by decide) h.symm)] at e0
    rw [decide_eq_false (show ws ≠ [109, 101, 116, 97] from fun h => h6 1 (by decide) h.symm)] at e1
    rw [decide_eq_false (show ws ≠ [116, 97, 103, 115] from fun h => h6 2 (by decide) h.symm)] at e2
    rw [decide_eq_true (show ws = [107, 101, 121] from h5.symm)] at e3
    exact rbytes_3 cs a _ ok w hA v value hv e0 e1 e2 e3
  | k + 4, h4, _, _ => exact absurd h4 (by show ¬ k + 4 < 4; omega)
theorem rbytes_no (cs : Array Value) (a : AskP) (ws : List Int) (ok : Nat → Prop) (w : World) (hA : AskC w ok False cs a) (v : Value) (value : List Int) (hv : Kd.V (Kd.int .u8) 5 w 0 ok v value) (hw : Byt ws) (hf : findW oL ws = none) :
    Calls Tryd.prog 69 #[.agg cs, .string (strOfNums ws), v] w (RP ok w a false) := by
  have e0 := word_beq hw (ys := [111, 119, 110]) (by unfold Byt; decide)
  rw [decide_eq_false (show ws ≠ [111, 119, 110] from fun h => findW_none hf 0 (by decide) h.symm)] at e0
  have e1 := word_beq hw (ys := [109, 101, 116, 97]) (by unfold Byt; decide)
  rw [decide_eq_false (show ws ≠ [109, 101, 116, 97] from fun h => findW_none hf 1 (by decide) h.symm)] at e1
  have e2 := word_beq hw (ys := [116, 97, 103, 115]) (by unfold Byt; decide)
  rw [decide_eq_false (show ws ≠ [116, 97, 103, 115] from fun h => findW_none hf 2 (by decide) h.symm)] at e2
  have e3 := word_beq hw (ys := [107, 101, 121]) (by unfold Byt; decide)
  rw [decide_eq_false (show ws ≠ [107, 101, 121] from fun h => findW_none hf 3 (by decide) h.symm)] at e3
  exact rbytes_none cs a _ ok w hA v value hv e0 e1 e2 e3
end Go.Proofs.YtjkehapbemjnpaaDoor
