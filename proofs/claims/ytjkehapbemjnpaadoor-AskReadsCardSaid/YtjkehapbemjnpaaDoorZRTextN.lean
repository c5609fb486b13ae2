/- The reference's ways to set a text, bytes, a number by a word, walked by hand; each condition stands in its theorem. -/
import Derived.Test.YtjkehapbemjnpaaDoorZRBase
namespace Go.Proofs.YtjkehapbemjnpaaDoor
open Go.RowKit Go.Proofs.YtjkehapbemjnpaaDoorW.PrintWords Go.Proofs.YtjkehapbemjnpaaDoorW.PrintLast Go.Proofs.YtjkehapbemjnpaaDoorW.PrintMore Go.Proofs.YtjkehapbemjnpaaDoor.Lf Go.Proofs.YtjkehapbemjnpaaDoor.Kit Go.Proofs.YtjkehapbemjnpaaDoor.Cut Go.Proofs.YtjkehapbemjnpaaDoor.Pl Go.Proofs.YtjkehapbemjnpaaDoor.Num
set_option linter.unusedVariables false
set_option linter.unusedSimpArgs false
set_option maxRecDepth 100000 in
set_option maxHeartbeats 1000000 in
theorem rnumber_0 (cs : Array Value) (a : AskP) (word : ByteArray) (ok : Nat → Prop) (w : World) (hA : AskC w ok False cs a) (value : Int)  (t0 : (word.toList == [105, 100]) = true) :
    Calls Tryd.prog 71 #[.agg cs, .string word, (.int .i64 value)] w (RP ok w ({ a with x3 := value }) true) := by
  have hu := Tryd.underlying26
  have e1 : (w.alloc (.cells cs 26)).heap.size = w.heap.size + 1 := size_alloc _ _
  have e2 : ((w.alloc (.cells cs 26)).alloc (.cells zA 26)).heap.size = w.heap.size + 1 + 1 := by rw [size_alloc, size_alloc]
  have K3 := blk_alloc (blk_new w (.cells cs 26)) (.cells zA 26)
  have K6 := blk_new (w.alloc (.cells cs 26)) (.cells zA 26)
  have K8z := blk_new ((w.alloc (.cells cs 26)).alloc (.cells zA 26)) (.cells zA 26)
  have K8 := blk_new ((w.alloc (.cells cs 26)).alloc (.cells zA 26)) (.cells cs 26)
  have K6b := blk_alloc K6 (.cells cs 26)
  have K3b := blk_alloc K3 (.cells cs 26)
  have K3z := blk_alloc K3 (.cells zA 26)
  have B3 := below_alloc (below_alloc (below_alloc (Below.refl w.heap.size w) (.cells cs 26)) (.cells zA 26)) (.cells cs 26)
  rw [e1] at K6 K6b
  rw [e2] at K8 K8z
  go_enter Tryd.func71, Tryd.ntmps71
  replace hu := Lib.hid hu
  replace hA := Lib.hid hA
  replace e1 := Lib.hid e1
  replace e2 := Lib.hid e2
  replace K3 := Lib.hid K3
  replace K3b := Lib.hid K3b
  replace K3z := Lib.hid K3z
  replace K6 := Lib.hid K6
  replace K6b := Lib.hid K6b
  replace K8 := Lib.hid K8
  replace K8z := Lib.hid K8z
  replace B3 := Lib.hid B3
  go_upto_region 2 with (first
    | (refine wpList_allocA rfl (some 6) rfl 26 rfl zA zA_info (w.heap.size + 1) e1.out ?_; simp only [Act.put, List.setIfInBounds_toArray, List.set_cons_zero, List.set_cons_succ])
    | (refine wpList_load_row (o := ⟨some 9, _, _, _, _, _⟩) rfl 26 (.tmp 3) rfl (w.heap.size) rfl 26 cs (0, 0) _ K3.out hu.out rfl (sizeA hA.out) ?_; simp only [Act.put, List.setIfInBounds_toArray, List.set_cons_zero, List.set_cons_succ])
    | (refine wpList_allocA rfl (some 8) rfl 26 rfl zA zA_info (w.heap.size + 1 + 1) e2.out ?_; simp only [Act.put, List.setIfInBounds_toArray, List.set_cons_zero, List.set_cons_succ])
    | (refine wpList_store_row rfl 26 (.tmp 8) (.tmp 9) rfl (w.heap.size + 1 + 1) cs rfl rfl 26 zA K8z.out (sizeA hA.out) (sizeAz hA.out) (hA.out).one ?_; rw [← e2.out]; rw [World.setRow_alloc_new]))
  generalize ((w.alloc (.cells cs 26)).alloc (.cells zA 26)).alloc (.cells cs 26) = W at *
  obtain ⟨old, hold, _⟩ := hA.out.get 3 (by decide)
  have c1 : W.cell? ⟨w.heap.size + 1 + 1, 3, none⟩ = some old := (blk_cell K8.out 3).trans hold
  have z1 := blk_frozen K8.out 3
  have K8c := blk_put K8.out 3 (.int .i64 value) rfl
  have K6c := blk_far K6b.out (p := ⟨w.heap.size + 1 + 1, 3, none⟩) (by show w.heap.size + 1 ≠ w.heap.size + 1 + 1; omega) (.int .i64 value)
  have AB := hA.out.put3 value
  have B4 := below_set B3.out (g := w.heap.size + 1 + 1) (j := 3) (v := (.int .i64 value)) (by omega)
  generalize cs.setIfInBounds 3 (.int .i64 value) = cF at K8c AB
  replace K8c := Lib.hid K8c
  replace K6c := Lib.hid K6c
  replace AB := Lib.hid AB
  replace B4 := Lib.hid B4
  clear K3 K3b K3z K6 K6b K8 K8z e1 e2 B3 hold
  go_wp2_with (first
    | (refine wpList_load_row (o := ⟨some 36, _, _, _, _, _⟩) rfl 26 (.tmp 8) rfl (w.heap.size + 1 + 1) rfl 26 cF (0, 0) _ K8c.out hu.out rfl (sizeA AB.out) ?_; simp only [Act.put, List.setIfInBounds_toArray, List.set_cons_zero, List.set_cons_succ])
    | (refine wpList_store_row rfl 26 (.tmp 6) (.tmp 36) rfl (w.heap.size + 1) cF rfl rfl 26 zA K6c.out (sizeA AB.out) (sizeAz AB.out) (AB.out).one ?_))
  refine bodyPost_ret (results_ct rfl _ _ (w.heap.size + 1) 26 cF (0, 0) _ rfl (blk_row K6c.out cF) hu.out rfl (sizeA AB.out)) rfl ?_
  have B5 := below_row B4.out (Nat.le_succ w.heap.size) cF
  exact ⟨cF, rfl, AB.out.below B5, B5⟩
set_option maxRecDepth 100000 in
set_option maxHeartbeats 1000000 in
theorem rnumber_1 (cs : Array Value) (a : AskP) (word : ByteArray) (ok : Nat → Prop) (w : World) (hA : AskC w ok False cs a) (value : Int) (t0 : (word.toList == [105, 100]) = false) (t1 : (word.toList == [117, 110, 116, 105, 108]) = true) :
    Calls Tryd.prog 71 #[.agg cs, .string word, (.int .i64 value)] w (RP ok w ({ a with x11 := value }) true) := by
  have hu := Tryd.underlying26
  have e1 : (w.alloc (.cells cs 26)).heap.size = w.heap.size + 1 := size_alloc _ _
  have e2 : ((w.alloc (.cells cs 26)).alloc (.cells zA 26)).heap.size = w.heap.size + 1 + 1 := by rw [size_alloc, size_alloc]
  have K3 := blk_alloc (blk_new w (.cells cs 26)) (.cells zA 26)
  have K6 := blk_new (w.alloc (.cells cs 26)) (.cells zA 26)
  have K8z := blk_new ((w.alloc (.cells cs 26)).alloc (.cells zA 26)) (.cells zA 26)
  have K8 := blk_new ((w.alloc (.cells cs 26)).alloc (.cells zA 26)) (.cells cs 26)
  have K6b := blk_alloc K6 (.cells cs 26)
  have K3b := blk_alloc K3 (.cells cs 26)
  have K3z := blk_alloc K3 (.cells zA 26)
  have B3 := below_alloc (below_alloc (below_alloc (Below.refl w.heap.size w) (.cells cs 26)) (.cells zA 26)) (.cells cs 26)
  rw [e1] at K6 K6b
  rw [e2] at K8 K8z
  go_enter Tryd.func71, Tryd.ntmps71
  replace hu := Lib.hid hu
  replace hA := Lib.hid hA
  replace e1 := Lib.hid e1
  replace e2 := Lib.hid e2
  replace K3 := Lib.hid K3
  replace K3b := Lib.hid K3b
  replace K3z := Lib.hid K3z
  replace K6 := Lib.hid K6
  replace K6b := Lib.hid K6b
  replace K8 := Lib.hid K8
  replace K8z := Lib.hid K8z
  replace B3 := Lib.hid B3
  go_upto_region 2 with (first
    | (refine wpList_allocA rfl (some 6) rfl 26 rfl zA zA_info (w.heap.size + 1) e1.out ?_; simp only [Act.put, List.setIfInBounds_toArray, List.set_cons_zero, List.set_cons_succ])
    | (refine wpList_load_row (o := ⟨some 9, _, _, _, _, _⟩) rfl 26 (.tmp 3) rfl (w.heap.size) rfl 26 cs (0, 0) _ K3.out hu.out rfl (sizeA hA.out) ?_; simp only [Act.put, List.setIfInBounds_toArray, List.set_cons_zero, List.set_cons_succ])
    | (refine wpList_allocA rfl (some 8) rfl 26 rfl zA zA_info (w.heap.size + 1 + 1) e2.out ?_; simp only [Act.put, List.setIfInBounds_toArray, List.set_cons_zero, List.set_cons_succ])
    | (refine wpList_store_row rfl 26 (.tmp 8) (.tmp 9) rfl (w.heap.size + 1 + 1) cs rfl rfl 26 zA K8z.out (sizeA hA.out) (sizeAz hA.out) (hA.out).one ?_; rw [← e2.out]; rw [World.setRow_alloc_new]))
  generalize ((w.alloc (.cells cs 26)).alloc (.cells zA 26)).alloc (.cells cs 26) = W at *
  obtain ⟨old, hold, _⟩ := hA.out.get 11 (by decide)
  have c1 : W.cell? ⟨w.heap.size + 1 + 1, 11, none⟩ = some old := (blk_cell K8.out 11).trans hold
  have z1 := blk_frozen K8.out 11
  have K8c := blk_put K8.out 11 (.int .i64 value) rfl
  have K6c := blk_far K6b.out (p := ⟨w.heap.size + 1 + 1, 11, none⟩) (by show w.heap.size + 1 ≠ w.heap.size + 1 + 1; omega) (.int .i64 value)
  have AB := hA.out.put11 value
  have B4 := below_set B3.out (g := w.heap.size + 1 + 1) (j := 11) (v := (.int .i64 value)) (by omega)
  generalize cs.setIfInBounds 11 (.int .i64 value) = cF at K8c AB
  replace K8c := Lib.hid K8c
  replace K6c := Lib.hid K6c
  replace AB := Lib.hid AB
  replace B4 := Lib.hid B4
  clear K3 K3b K3z K6 K6b K8 K8z e1 e2 B3 hold
  go_wp2_with (first
    | (refine wpList_load_row (o := ⟨some 36, _, _, _, _, _⟩) rfl 26 (.tmp 8) rfl (w.heap.size + 1 + 1) rfl 26 cF (0, 0) _ K8c.out hu.out rfl (sizeA AB.out) ?_; simp only [Act.put, List.setIfInBounds_toArray, List.set_cons_zero, List.set_cons_succ])
    | (refine wpList_store_row rfl 26 (.tmp 6) (.tmp 36) rfl (w.heap.size + 1) cF rfl rfl 26 zA K6c.out (sizeA AB.out) (sizeAz AB.out) (AB.out).one ?_))
  refine bodyPost_ret (results_ct rfl _ _ (w.heap.size + 1) 26 cF (0, 0) _ rfl (blk_row K6c.out cF) hu.out rfl (sizeA AB.out)) rfl ?_
  have B5 := below_row B4.out (Nat.le_succ w.heap.size) cF
  exact ⟨cF, rfl, AB.out.below B5, B5⟩
set_option maxRecDepth 100000 in
set_option maxHeartbeats 1000000 in
theorem rnumber_2 (cs : Array Value) (a : AskP) (word : ByteArray) (ok : Nat → Prop) (w : World) (hA : AskC w ok False cs a) (value : Int) (t0 : (word.toList == [105, 100]) = false) (t1 : (word.toList == [117, 110, 116, 105, 108]) = false) (t2 : (word.toList == [109, 111, 115, 116]) = true) :
    Calls Tryd.prog 71 #[.agg cs, .string word, (.int .i64 value)] w (RP ok w ({ a with x15 := value }) true) := by
  have hu := Tryd.underlying26
  have e1 : (w.alloc (.cells cs 26)).heap.size = w.heap.size + 1 := size_alloc _ _
  have e2 : ((w.alloc (.cells cs 26)).alloc (.cells zA 26)).heap.size = w.heap.size + 1 + 1 := by rw [size_alloc, size_alloc]
  have K3 := blk_alloc (blk_new w (.cells cs 26)) (.cells zA 26)
  have K6 := blk_new (w.alloc (.cells cs 26)) (.cells zA 26)
  have K8z := blk_new ((w.alloc (.cells cs 26)).alloc (.cells zA 26)) (.cells zA 26)
  have K8 := blk_new ((w.alloc (.cells cs 26)).alloc (.cells zA 26)) (.cells cs 26)
  have K6b := blk_alloc K6 (.cells cs 26)
  have K3b := blk_alloc K3 (.cells cs 26)
  have K3z := blk_alloc K3 (.cells zA 26)
  have B3 := below_alloc (below_alloc (below_alloc (Below.refl w.heap.size w) (.cells cs 26)) (.cells zA 26)) (.cells cs 26)
  rw [e1] at K6 K6b
  rw [e2] at K8 K8z
  go_enter Tryd.func71, Tryd.ntmps71
  replace hu := Lib.hid hu
  replace hA := Lib.hid hA
  replace e1 := Lib.hid e1
  replace e2 := Lib.hid e2
  replace K3 := Lib.hid K3
  replace K3b := Lib.hid K3b
  replace K3z := Lib.hid K3z
  replace K6 := Lib.hid K6
  replace K6b := Lib.hid K6b
  replace K8 := Lib.hid K8
  replace K8z := Lib.hid K8z
  replace B3 := Lib.hid B3
  go_upto_region 2 with (first
    | (refine wpList_allocA rfl (some 6) rfl 26 rfl zA zA_info (w.heap.size + 1) e1.out ?_; simp only [Act.put, List.setIfInBounds_toArray, List.set_cons_zero, List.set_cons_succ])
    | (refine wpList_load_row (o := ⟨some 9, _, _, _, _, _⟩) rfl 26 (.tmp 3) rfl (w.heap.size) rfl 26 cs (0, 0) _ K3.out hu.out rfl (sizeA hA.out) ?_; simp only [Act.put, List.setIfInBounds_toArray, List.set_cons_zero, List.set_cons_succ])
    | (refine wpList_allocA rfl (some 8) rfl 26 rfl zA zA_info (w.heap.size + 1 + 1) e2.out ?_; simp only [Act.put, List.setIfInBounds_toArray, List.set_cons_zero, List.set_cons_succ])
    | (refine wpList_store_row rfl 26 (.tmp 8) (.tmp 9) rfl (w.heap.size + 1 + 1) cs rfl rfl 26 zA K8z.out (sizeA hA.out) (sizeAz hA.out) (hA.out).one ?_; rw [← e2.out]; rw [World.setRow_alloc_new]))
  generalize ((w.alloc (.cells cs 26)).alloc (.cells zA 26)).alloc (.cells cs 26) = W at *
  obtain ⟨old, hold, _⟩ := hA.out.get 15 (by decide)
  have c1 : W.cell? ⟨w.heap.size + 1 + 1, 15, none⟩ = some old := (blk_cell K8.out 15).trans hold
  have z1 := blk_frozen K8.out 15
  have K8c := blk_put K8.out 15 (.int .i64 value) rfl
  have K6c := blk_far K6b.out (p := ⟨w.heap.size + 1 + 1, 15, none⟩) (by show w.heap.size + 1 ≠ w.heap.size + 1 + 1; omega) (.int .i64 value)
  have AB := hA.out.put15 value
  have B4 := below_set B3.out (g := w.heap.size + 1 + 1) (j := 15) (v := (.int .i64 value)) (by omega)
  generalize cs.setIfInBounds 15 (.int .i64 value) = cF at K8c AB
  replace K8c := Lib.hid K8c
  replace K6c := Lib.hid K6c
  replace AB := Lib.hid AB
  replace B4 := Lib.hid B4
  clear K3 K3b K3z K6 K6b K8 K8z e1 e2 B3 hold
  go_wp2_with (first
    | (refine wpList_load_row (o := ⟨some 36, _, _, _, _, _⟩) rfl 26 (.tmp 8) rfl (w.heap.size + 1 + 1) rfl 26 cF (0, 0) _ K8c.out hu.out rfl (sizeA AB.out) ?_; simp only [Act.put, List.setIfInBounds_toArray, List.set_cons_zero, List.set_cons_succ])
    | (refine wpList_store_row rfl 26 (.tmp 6) (.tmp 36) rfl (w.heap.size + 1) cF rfl rfl 26 zA K6c.out (sizeA AB.out) (sizeAz AB.out) (AB.out).one ?_))
  refine bodyPost_ret (results_ct rfl _ _ (w.heap.size + 1) 26 cF (0, 0) _ rfl (blk_row K6c.out cF) hu.out rfl (sizeA AB.out)) rfl ?_
  have B5 := below_row B4.out (Nat.le_succ w.heap.size) cF
  exact ⟨cF, rfl, AB.out.below B5, B5⟩
set_option maxRecDepth 100000 in
set_option maxHeartbeats 1000000 in
theorem rnumber_3 (cs : Array Value) (a : AskP) (word : ByteArray) (ok : Nat → Prop) (w : World) (hA : AskC w ok False cs a) (value : Int) (t0 : (word.toList == [105, 100]) = false) (t1 : (word.toList == [117, 110, 116, 105, 108]) = false) (t2 : (word.toList == [109, 111, 115, 116]) = false) (t3 : (word.toList == [102, 114, 111, 109, 45, 105, 100]) = true) :
    Calls Tryd.prog 71 #[.agg cs, .string word, (.int .i64 value)] w (RP ok w ({ a with x18 := value }) true) := by
  have hu := Tryd.underlying26
  have e1 : (w.alloc (.cells cs 26)).heap.size = w.heap.size + 1 := size_alloc _ _
  have e2 : ((w.alloc (.cells cs 26)).alloc (.cells zA 26)).heap.size = w.heap.size + 1 + 1 := by rw [size_alloc, size_alloc]
  have K3 := blk_alloc (blk_new w (.cells cs 26)) (.cells zA 26)
  have K6 := blk_new (w.alloc (.cells cs 26)) (.cells zA 26)
  have K8z := blk_new ((w.alloc (.cells cs 26)).alloc (.cells zA 26)) (.cells zA 26)
  have K8 := blk_new ((w.alloc (.cells cs 26)).alloc (.cells zA 26)) (.cells cs 26)
  have K6b := blk_alloc K6 (.cells cs 26)
  have K3b := blk_alloc K3 (.cells cs 26)
  have K3z := blk_alloc K3 (.cells zA 26)
  have B3 := below_alloc (below_alloc (below_alloc (Below.refl w.heap.size w) (.cells cs 26)) (.cells zA 26)) (.cells cs 26)
  rw [e1] at K6 K6b
  rw [e2] at K8 K8z
  go_enter Tryd.func71, Tryd.ntmps71
  replace hu := Lib.hid hu
  replace hA := Lib.hid hA
  replace e1 := Lib.hid e1
  replace e2 := Lib.hid e2
  replace K3 := Lib.hid K3
  replace K3b := Lib.hid K3b
  replace K3z := Lib.hid K3z
  replace K6 := Lib.hid K6
  replace K6b := Lib.hid K6b
  replace K8 := Lib.hid K8
  replace K8z := Lib.hid K8z
  replace B3 := Lib.hid B3
  go_upto_region 2 with (first
    | (refine wpList_allocA rfl (some 6) rfl 26 rfl zA zA_info (w.heap.size + 1) e1.out ?_; simp only [Act.put, List.setIfInBounds_toArray, List.set_cons_zero, List.set_cons_succ])
    | (refine wpList_load_row (o := ⟨some 9, _, _, _, _, _⟩) rfl 26 (.tmp 3) rfl (w.heap.size) rfl 26 cs (0, 0) _ K3.out hu.out rfl (sizeA hA.out) ?_; simp only [Act.put, List.setIfInBounds_toArray, List.set_cons_zero, List.set_cons_succ])
    | (refine wpList_allocA rfl (some 8) rfl 26 rfl zA zA_info (w.heap.size + 1 + 1) e2.out ?_; simp only [Act.put, List.setIfInBounds_toArray, List.set_cons_zero, List.set_cons_succ])
    | (refine wpList_store_row rfl 26 (.tmp 8) (.tmp 9) rfl (w.heap.size + 1 + 1) cs rfl rfl 26 zA K8z.out (sizeA hA.out) (sizeAz hA.out) (hA.out).one ?_; rw [← e2.out]; rw [World.setRow_alloc_new]))
  generalize ((w.alloc (.cells cs 26)).alloc (.cells zA 26)).alloc (.cells cs 26) = W at *
  obtain ⟨old, hold, _⟩ := hA.out.get 18 (by decide)
  have c1 : W.cell? ⟨w.heap.size + 1 + 1, 18, none⟩ = some old := (blk_cell K8.out 18).trans hold
  have z1 := blk_frozen K8.out 18
  have K8c := blk_put K8.out 18 (.int .i64 value) rfl
  have K6c := blk_far K6b.out (p := ⟨w.heap.size + 1 + 1, 18, none⟩) (by show w.heap.size + 1 ≠ w.heap.size + 1 + 1; omega) (.int .i64 value)
  have AB := hA.out.put18 value
  have B4 := below_set B3.out (g := w.heap.size + 1 + 1) (j := 18) (v := (.int .i64 value)) (by omega)
  generalize cs.setIfInBounds 18 (.int .i64 value) = cF at K8c AB
  replace K8c := Lib.hid K8c
  replace K6c := Lib.hid K6c
  replace AB := Lib.hid AB
  replace B4 := Lib.hid B4
  clear K3 K3b K3z K6 K6b K8 K8z e1 e2 B3 hold
  go_wp2_with (first
    | (refine wpList_load_row (o := ⟨some 36, _, _, _, _, _⟩) rfl 26 (.tmp 8) rfl (w.heap.size + 1 + 1) rfl 26 cF (0, 0) _ K8c.out hu.out rfl (sizeA AB.out) ?_; simp only [Act.put, List.setIfInBounds_toArray, List.set_cons_zero, List.set_cons_succ])
    | (refine wpList_store_row rfl 26 (.tmp 6) (.tmp 36) rfl (w.heap.size + 1) cF rfl rfl 26 zA K6c.out (sizeA AB.out) (sizeAz AB.out) (AB.out).one ?_))
  refine bodyPost_ret (results_ct rfl _ _ (w.heap.size + 1) 26 cF (0, 0) _ rfl (blk_row K6c.out cF) hu.out rfl (sizeA AB.out)) rfl ?_
  have B5 := below_row B4.out (Nat.le_succ w.heap.size) cF
  exact ⟨cF, rfl, AB.out.below B5, B5⟩
set_option maxRecDepth 100000 in
set_option maxHeartbeats 1000000 in
theorem rnumber_4 (cs : Array Value) (a : AskP) (word : ByteArray) (ok : Nat → Prop) (w : World) (hA : AskC w ok False cs a) (value : Int) (t0 : (word.toList == [105, 100]) = false) (t1 : (word.toList == [117, 110, 116, 105, 108]) = false) (t2 : (word.toList == [109, 111, 115, 116]) = false) (t3 : (word.toList == [102, 114, 111, 109, 45, 105, 100]) = false) (t4 : (word.toList == [117, 112, 108, 111, 97, 100]) = true) :
    Calls Tryd.prog 71 #[.agg cs, .string word, (.int .i64 value)] w (RP ok w ({ a with x20 := value }) true) := by
  have hu := Tryd.underlying26
  have e1 : (w.alloc (.cells cs 26)).heap.size = w.heap.size + 1 := size_alloc _ _
  have e2 : ((w.alloc (.cells cs 26)).alloc (.cells zA 26)).heap.size = w.heap.size + 1 + 1 := by rw [size_alloc, size_alloc]
  have K3 := blk_alloc (blk_new w (.cells cs 26)) (.cells zA 26)
  have K6 := blk_new (w.alloc (.cells cs 26)) (.cells zA 26)
  have K8z := blk_new ((w.alloc (.cells cs 26)).alloc (.cells zA 26)) (.cells zA 26)
  have K8 := blk_new ((w.alloc (.cells cs 26)).alloc (.cells zA 26)) (.cells cs 26)
  have K6b := blk_alloc K6 (.cells cs 26)
  have K3b := blk_alloc K3 (.cells cs 26)
  have K3z := blk_alloc K3 (.cells zA 26)
  have B3 := below_alloc (below_alloc (below_alloc (Below.refl w.heap.size w) (.cells cs 26)) (.cells zA 26)) (.cells cs 26)
  rw [e1] at K6 K6b
  rw [e2] at K8 K8z
  go_enter Tryd.func71, Tryd.ntmps71
  replace hu := Lib.hid hu
  replace hA := Lib.hid hA
  replace e1 := Lib.hid e1
  replace e2 := Lib.hid e2
  replace K3 := Lib.hid K3
  replace K3b := Lib.hid K3b
  replace K3z := Lib.hid K3z
  replace K6 := Lib.hid K6
  replace K6b := Lib.hid K6b
  replace K8 := Lib.hid K8
  replace K8z := Lib.hid K8z
  replace B3 := Lib.hid B3
  go_upto_region 2 with (first
    | (refine wpList_allocA rfl (some 6) rfl 26 rfl zA zA_info (w.heap.size + 1) e1.out ?_; simp only [Act.put, List.setIfInBounds_toArray, List.set_cons_zero, List.set_cons_succ])
    | (refine wpList_load_row (o := ⟨some 9, _, _, _, _, _⟩) rfl 26 (.tmp 3) rfl (w.heap.size) rfl 26 cs (0, 0) _ K3.out hu.out rfl (sizeA hA.out) ?_; simp only [Act.put, List.setIfInBounds_toArray, List.set_cons_zero, List.set_cons_succ])
    | (refine wpList_allocA rfl (some 8) rfl 26 rfl zA zA_info (w.heap.size + 1 + 1) e2.out ?_; simp only [Act.put, List.setIfInBounds_toArray, List.set_cons_zero, List.set_cons_succ])
    | (refine wpList_store_row rfl 26 (.tmp 8) (.tmp 9) rfl (w.heap.size + 1 + 1) cs rfl rfl 26 zA K8z.out (sizeA hA.out) (sizeAz hA.out) (hA.out).one ?_; rw [← e2.out]; rw [World.setRow_alloc_new]))
  generalize ((w.alloc (.cells cs 26)).alloc (.cells zA 26)).alloc (.cells cs 26) = W at *
  obtain ⟨old, hold, _⟩ := hA.out.get 20 (by decide)
  have c1 : W.cell? ⟨w.heap.size + 1 + 1, 20, none⟩ = some old := (blk_cell K8.out 20).trans hold
  have z1 := blk_frozen K8.out 20
  have K8c := blk_put K8.out 20 (.int .i64 value) rfl
  have K6c := blk_far K6b.out (p := ⟨w.heap.size + 1 + 1, 20, none⟩) (by show w.heap.size + 1 ≠ w.heap.size + 1 + 1; omega) (.int .i64 value)
  have AB := hA.out.put20 value
  have B4 := below_set B3.out (g := w.heap.size + 1 + 1) (j := 20) (v := (.int .i64 value)) (by omega)
  generalize cs.setIfInBounds 20 (.int .i64 value) = cF at K8c AB
  replace K8c := Lib.hid K8c
  replace K6c := Lib.hid K6c
  replace AB := Lib.hid AB
  replace B4 := Lib.hid B4
  clear K3 K3b K3z K6 K6b K8 K8z e1 e2 B3 hold
  go_wp2_with (first
    | (refine wpList_load_row (o := ⟨some 36, _, _, _, _, _⟩) rfl 26 (.tmp 8) rfl (w.heap.size + 1 + 1) rfl 26 cF (0, 0) _ K8c.out hu.out rfl (sizeA AB.out) ?_; simp only [Act.put, List.setIfInBounds_toArray, List.set_cons_zero, List.set_cons_succ])
    | (refine wpList_store_row rfl 26 (.tmp 6) (.tmp 36) rfl (w.heap.size + 1) cF rfl rfl 26 zA K6c.out (sizeA AB.out) (sizeAz AB.out) (AB.out).one ?_))
  refine bodyPost_ret (results_ct rfl _ _ (w.heap.size + 1) 26 cF (0, 0) _ rfl (blk_row K6c.out cF) hu.out rfl (sizeA AB.out)) rfl ?_
  have B5 := below_row B4.out (Nat.le_succ w.heap.size) cF
  exact ⟨cF, rfl, AB.out.below B5, B5⟩
set_option maxRecDepth 100000 in
set_option maxHeartbeats 1000000 in
theorem rnumber_5 (cs : Array Value) (a : AskP) (word : ByteArray) (ok : Nat → Prop) (w : World) (hA : AskC w ok False cs a) (value : Int) (t0 : (word.toList == [105, 100]) = false) (t1 : (word.toList == [117, 110, 116, 105, 108]) = false) (t2 : (word.toList == [109, 111, 115, 116]) = false) (t3 : (word.toList == [102, 114, 111, 109, 45, 105, 100]) = false) (t4 : (word.toList == [117, 112, 108, 111, 97, 100]) = false) (t5 : (word.toList == [110, 111]) = true) :
    Calls Tryd.prog 71 #[.agg cs, .string word, (.int .i64 value)] w (RP ok w ({ a with x21 := value }) true) := by
  have hu := Tryd.underlying26
  have e1 : (w.alloc (.cells cs 26)).heap.size = w.heap.size + 1 := size_alloc _ _
  have e2 : ((w.alloc (.cells cs 26)).alloc (.cells zA 26)).heap.size = w.heap.size + 1 + 1 := by rw [size_alloc, size_alloc]
  have K3 := blk_alloc (blk_new w (.cells cs 26)) (.cells zA 26)
  have K6 := blk_new (w.alloc (.cells cs 26)) (.cells zA 26)
  have K8z := blk_new ((w.alloc (.cells cs 26)).alloc (.cells zA 26)) (.cells zA 26)
  have K8 := blk_new ((w.alloc (.cells cs 26)).alloc (.cells zA 26)) (.cells cs 26)
  have K6b := blk_alloc K6 (.cells cs 26)
  have K3b := blk_alloc K3 (.cells cs 26)
  have K3z := blk_alloc K3 (.cells zA 26)
  have B3 := below_alloc (below_alloc (below_alloc (Below.refl w.heap.size w) (.cells cs 26)) (.cells zA 26)) (.cells cs 26)
  rw [e1] at K6 K6b
  rw [e2] at K8 K8z
  go_enter Tryd.func71, Tryd.ntmps71
  replace hu := Lib.hid hu
  replace hA := Lib.hid hA
  replace e1 := Lib.hid e1
  replace e2 := Lib.hid e2
  replace K3 := Lib.hid K3
  replace K3b := Lib.hid K3b
  replace K3z := Lib.hid K3z
  replace K6 := Lib.hid K6
  replace K6b := Lib.hid K6b
  replace K8 := Lib.hid K8
  replace K8z := Lib.hid K8z
  replace B3 := Lib.hid B3
  go_upto_region 2 with (first
    | (refine wpList_allocA rfl (some 6) rfl 26 rfl zA zA_info (w.heap.size + 1) e1.out ?_; simp only [Act.put, List.setIfInBounds_toArray, List.set_cons_zero, List.set_cons_succ])
    | (refine wpList_load_row (o := ⟨some 9, _, _, _, _, _⟩) rfl 26 (.tmp 3) rfl (w.heap.size) rfl 26 cs (0, 0) _ K3.out hu.out rfl (sizeA hA.out) ?_; simp only [Act.put, List.setIfInBounds_toArray, List.set_cons_zero, List.set_cons_succ])
    | (refine wpList_allocA rfl (some 8) rfl 26 rfl zA zA_info (w.heap.size + 1 + 1) e2.out ?_; simp only [Act.put, List.setIfInBounds_toArray, List.set_cons_zero, List.set_cons_succ])
    | (refine wpList_store_row rfl 26 (.tmp 8) (.tmp 9) rfl (w.heap.size + 1 + 1) cs rfl rfl 26 zA K8z.out (sizeA hA.out) (sizeAz hA.out) (hA.out).one ?_; rw [← e2.out]; rw [World.setRow_alloc_new]))
  generalize ((w.alloc (.cells cs 26)).alloc (.cells zA 26)).alloc (.cells cs 26) = W at *
  obtain ⟨old, hold, _⟩ := hA.out.get 21 (by decide)
  have c1 : W.cell? ⟨w.heap.size + 1 + 1, 21, none⟩ = some old := (blk_cell K8.out 21).trans hold
  have z1 := blk_frozen K8.out 21
  have K8c := blk_put K8.out 21 (.int .i64 value) rfl
  have K6c := blk_far K6b.out (p := ⟨w.heap.size + 1 + 1, 21, none⟩) (by show w.heap.size + 1 ≠ w.heap.size + 1 + 1; omega) (.int .i64 value)
  have AB := hA.out.put21 value
  have B4 := below_set B3.out (g := w.heap.size + 1 + 1) (j := 21) (v := (.int .i64 value)) (by omega)
  generalize cs.setIfInBounds 21 (.int .i64 value) = cF at K8c AB
  replace K8c := Lib.hid K8c
  replace K6c := Lib.hid K6c
  replace AB := Lib.hid AB
  replace B4 := Lib.hid B4
  clear K3 K3b K3z K6 K6b K8 K8z e1 e2 B3 hold
  go_wp2_with (first
    | (refine wpList_load_row (o := ⟨some 36, _, _, _, _, _⟩) rfl 26 (.tmp 8) rfl (w.heap.size + 1 + 1) rfl 26 cF (0, 0) _ K8c.out hu.out rfl (sizeA AB.out) ?_; simp only [Act.put, List.setIfInBounds_toArray, List.set_cons_zero, List.set_cons_succ])
    | (refine wpList_store_row rfl 26 (.tmp 6) (.tmp 36) rfl (w.heap.size + 1) cF rfl rfl 26 zA K6c.out (sizeA AB.out) (sizeAz AB.out) (AB.out).one ?_))
  refine bodyPost_ret (results_ct rfl _ _ (w.heap.size + 1) 26 cF (0, 0) _ rfl (blk_row K6c.out cF) hu.out rfl (sizeA AB.out)) rfl ?_
  have B5 := below_row B4.out (Nat.le_succ w.heap.size) cF
  exact ⟨cF, rfl, AB.out.below B5, B5⟩
set_option maxRecDepth 100000 in
set_option maxHeartbeats 1000000 in
theorem rnumber_none (cs : Array Value) (a : AskP) (word : ByteArray) (ok : Nat → Prop) (w : World) (hA : AskC w ok False cs a) (value : Int) (t0 : (word.toList == [105, 100]) = false) (t1 : (word.toList == [117, 110, 116, 105, 108]) = false) (t2 : (word.toList == [109, 111, 115, 116]) = false) (t3 : (word.toList == [102, 114, 111, 109, 45, 105, 100]) = false) (t4 : (word.toList == [117, 112, 108, 111, 97, 100]) = false) (t5 : (word.toList == [110, 111]) = false) :
    Calls Tryd.prog 71 #[.agg cs, .string word, (.int .i64 value)] w (RP ok w (a) false) := by
  have hu := Tryd.underlying26
  have e1 : (w.alloc (.cells cs 26)).heap.size = w.heap.size + 1 := size_alloc _ _
  have e2 : ((w.alloc (.cells cs 26)).alloc (.cells zA 26)).heap.size = w.heap.size + 1 + 1 := by rw [size_alloc, size_alloc]
  have K3 := blk_alloc (blk_new w (.cells cs 26)) (.cells zA 26)
  have K6 := blk_new (w.alloc (.cells cs 26)) (.cells zA 26)
  have K8z := blk_new ((w.alloc (.cells cs 26)).alloc (.cells zA 26)) (.cells zA 26)
  have K8 := blk_new ((w.alloc (.cells cs 26)).alloc (.cells zA 26)) (.cells cs 26)
  have K6b := blk_alloc K6 (.cells cs 26)
  have K3b := blk_alloc K3 (.cells cs 26)
  have K3z := blk_alloc K3 (.cells zA 26)
  have B3 := below_alloc (below_alloc (below_alloc (Below.refl w.heap.size w) (.cells cs 26)) (.cells zA 26)) (.cells cs 26)
  rw [e1] at K6 K6b
  rw [e2] at K8 K8z
  go_enter Tryd.func71, Tryd.ntmps71
  replace hu := Lib.hid hu
  replace hA := Lib.hid hA
  replace e1 := Lib.hid e1
  replace e2 := Lib.hid e2
  replace K3 := Lib.hid K3
  replace K3b := Lib.hid K3b
  replace K3z := Lib.hid K3z
  replace K6 := Lib.hid K6
  replace K6b := Lib.hid K6b
  replace K8 := Lib.hid K8
  replace K8z := Lib.hid K8z
  replace B3 := Lib.hid B3
  go_upto_region 2 with (first
    | (refine wpList_allocA rfl (some 6) rfl 26 rfl zA zA_info (w.heap.size + 1) e1.out ?_; simp only [Act.put, List.setIfInBounds_toArray, List.set_cons_zero, List.set_cons_succ])
    | (refine wpList_load_row (o := ⟨some 9, _, _, _, _, _⟩) rfl 26 (.tmp 3) rfl (w.heap.size) rfl 26 cs (0, 0) _ K3.out hu.out rfl (sizeA hA.out) ?_; simp only [Act.put, List.setIfInBounds_toArray, List.set_cons_zero, List.set_cons_succ])
    | (refine wpList_allocA rfl (some 8) rfl 26 rfl zA zA_info (w.heap.size + 1 + 1) e2.out ?_; simp only [Act.put, List.setIfInBounds_toArray, List.set_cons_zero, List.set_cons_succ])
    | (refine wpList_store_row rfl 26 (.tmp 8) (.tmp 9) rfl (w.heap.size + 1 + 1) cs rfl rfl 26 zA K8z.out (sizeA hA.out) (sizeAz hA.out) (hA.out).one ?_; rw [← e2.out]; rw [World.setRow_alloc_new]))
  generalize ((w.alloc (.cells cs 26)).alloc (.cells zA 26)).alloc (.cells cs 26) = W at *
  clear K3 K3z K6 K8 K8z e1 e2
  go_wp2_with (first
    | (refine wpList_load_row (o := ⟨some 11, _, _, _, _, _⟩) rfl 26 (.tmp 3) rfl (w.heap.size) rfl 26 cs (0, 0) _ K3b.out hu.out rfl (sizeA hA.out) ?_; simp only [Act.put, List.setIfInBounds_toArray, List.set_cons_zero, List.set_cons_succ])
    | (refine wpList_store_row rfl 26 (.tmp 6) (.tmp 11) rfl (w.heap.size + 1) cs rfl rfl 26 zA K6b.out (sizeA hA.out) (sizeAz hA.out) (hA.out).one ?_))
  refine bodyPost_ret (results_ct rfl _ _ (w.heap.size + 1) 26 cs (0, 0) _ rfl (blk_row K6b.out cs) hu.out rfl (sizeA hA.out)) rfl ?_
  have B4 := below_row B3.out (Nat.le_succ w.heap.size) cs
  exact ⟨cs, rfl, hA.out.below B4, B4⟩
theorem rnumber_some (k : Nat) (cs : Array Value) (a : AskP) (ws : List Int) (ok : Nat → Prop) (w : World) (hA : AskC w ok False cs a) (value : Int) (hw : Byt ws) (hf : findW nL ws = some k) :
    Calls Tryd.prog 71 #[.agg cs, .string (strOfNums ws), (.int .i64 value)] w (RP ok w (a.nSet k value) true) := by
  obtain ⟨h4, h5, h6⟩ := findW_some hf
  have e0 := word_beq hw (ys := [105, 100]) (by unfold Byt; decide)
  have e1 := word_beq hw (ys := [117, 110, 116, 105, 108]) (by unfold Byt; decide)
  have e2 := word_beq hw (ys := [109, 111, 115, 116]) (by unfold Byt; decide)
  have e3 := word_beq hw (ys := [102, 114, 111, 109, 45, 105, 100]) (by unfold Byt; decide)
  have e4 := word_beq hw (ys := [117, 112, 108, 111, 97, 100]) (by unfold Byt; decide)
  have e5 := word_beq hw (ys := [110, 111]) (by unfold Byt; decide)
  match k, h4, h5, h6 with
  | 0, h4, h5, h6 =>
    rw [decide_eq_true (show ws = [105, 100] from h5.symm)] at e0
    exact rnumber_0 cs a _ ok w hA value e0
  | 1, h4, h5, h6 =>
    rw [decide_eq_false (show ws ≠ [105, 100] from fun h => h6 0 (by decide) h.symm)] at e0
    rw [decide_eq_true (show ws = [117, 110, 116, 105, 108] from h5.symm)] at e1
    exact rnumber_1 cs a _ ok w hA value e0 e1
  | 2, h4, h5, h6 =>
    rw [decide_eq_false (show ws ≠ [105, 100] from fun h => h6 0 (by decide) h.symm)] at e0
    rw [decide_eq_false (show ws ≠ [117, 110, 116, 105, 108] from fun h => h6 1 (by decide) h.symm)] at e1
    rw [decide_eq_true (show ws = [109, 111, 115, 116] from h5.symm)] at e2
    exact rnumber_2 cs a _ ok w hA value e0 e1 e2
  | 3, h4, h5, h6 =>
    rw [decide_eq_false (show ws ≠ [105, 100] from fun h => h6 0 (by decide) h.symm)] at e0
    rw [decide_eq_false (show ws ≠ [117, 110, 116, 105, 108] from fun h => h6 1 (by decide) h.symm)] at e1
    rw [decide_eq_false (show ws ≠ [109, 111, 115, 116] from fun h => h6 2 (by decide) h.symm)] at e2
    rw [decide_eq_true (show ws = [102, 114, 111, 109, 45, 105, 100] from h5.symm)] at e3
    exact rnumber_3 cs a _ ok w hA value e0 e1 e2 e3
  | 4, h4, h5, h6 =>
    rw [decide_eq_false (show ws ≠ [105, 100] from fun h => h6 0 (by decide) h.symm)] at e0
    rw [decide_eq_false (show ws ≠ [117, 110, 116, 105, 108] from fun h => h6 1 (by decide) h.symm)] at e1
    rw [decide_eq_false (show ws ≠ [109, 111, 115, 116] from fun h => h6 2 (by decide) h.symm)] at e2
    rw [decide_eq_false (show ws ≠ [102, 114, 111, 109, 45, 105, 100] from fun h => h6 3 (by decide) h.symm)] at e3
    rw [decide_eq_true (show ws = [117, 112, 108, 111, 97, 100] from h5.symm)] at e4
    exact rnumber_4 cs a _ ok w hA value e0 e1 e2 e3 e4
  | 5, h4, h5, h6 =>
    rw [decide_eq_false (show ws ≠ [105, 100] from fun h => h6 0 (by decide) h.symm)] at e0
    rw [decide_eq_false (show ws ≠ [117, 110, 116, 105, 108] from fun h => h6 1 (by decide) h.symm)] at e1
    rw [decide_eq_false (show ws ≠ [109, 111, 115, 116] from fun h => h6 2 (by decide) h.symm)] at e2
    rw [decide_eq_false (show ws ≠ [102, 114, 111, 109, 45, 105, 100] from fun h => h6 3 (by decide) h.symm)] at e3
    rw [decide_eq_false (show ws ≠ [117, 112, 108, 111, 97, 100] from fun h => h6 4 (by decide) h.symm)] at e4
    rw [decide_eq_true (show ws = [110, 111] from h5.symm)] at e5
    exact rnumber_5 cs a _ ok w hA value e0 e1 e2 e3 e4 e5
  | k + 6, h4, _, _ => exact absurd h4 (by show ¬ k + 6 < 6; omega)
theorem rnumber_no (cs : Array Value) (a : AskP) (ws : List Int) (ok : Nat → Prop) (w : World) (hA : AskC w ok False cs a) (value : Int) (hw : Byt ws) (hf : findW nL ws = none) :
    Calls Tryd.prog 71 #[.agg cs, .string (strOfNums ws), (.int .i64 value)] w (RP ok w a false) := by
  have e0 := word_beq hw (ys := [105, 100]) (by unfold Byt; decide)
  rw [decide_eq_false (show ws ≠ [105, 100] from fun h => findW_none hf 0 (by decide) h.symm)] at e0
  have e1 := word_beq hw (ys := [117, 110, 116, 105, 108]) (by unfold Byt; decide)
  rw [decide_eq_false (show ws ≠ [117, 110, 116, 105, 108] from fun h => findW_none hf 1 (by decide) h.symm)] at e1
  have e2 := word_beq hw (ys := [109, 111, 115, 116]) (by unfold Byt; decide)
  rw [decide_eq_false (show ws ≠ [109, 111, 115, 116] from fun h => findW_none hf 2 (by decide) h.symm)] at e2
  have e3 := word_beq hw (ys := [102, 114, 111, 109, 45, 105, 100]) (by unfold Byt; decide)
  rw [decide_eq_false (show ws ≠ [102, 114, 111, 109, 45, 105, 100] from fun h => findW_none hf 3 (by decide) h.symm)] at e3
  have e4 := word_beq hw (ys := [117, 112, 108, 111, 97, 100]) (by unfold Byt; decide)
  rw [decide_eq_false (show ws ≠ [117, 112, 108, 111, 97, 100] from fun h => findW_none hf 4 (by decide) h.symm)] at e4
  have e5 := word_beq hw (ys := [110, 111]) (by unfold Byt; decide)
  rw [decide_eq_false (show ws ≠ [110, 111] from fun h => findW_none hf 5 (by decide) h.symm)] at e5
  exact rnumber_none cs a _ ok w hA value e0 e1 e2 e3 e4 e5
end Go.Proofs.YtjkehapbemjnpaaDoor
