/- The law AskReads, walked by hand: it tells true; each condition stands in its theorem. -/
import Derived.Test.YtjkehapbemjnpaaDoorZRGet
import Derived.Test.YtjkehapbemjnpaaDoorZWorks
namespace Go.Proofs.YtjkehapbemjnpaaDoor
open Go.RowKit Go.Proofs.YtjkehapbemjnpaaDoorW.PrintWords Go.Proofs.YtjkehapbemjnpaaDoorW.PrintLast Go.Proofs.YtjkehapbemjnpaaDoorW.PrintMore Go.Proofs.YtjkehapbemjnpaaDoor.Lf Go.Proofs.YtjkehapbemjnpaaDoor.Kit Go.Proofs.YtjkehapbemjnpaaDoor.Cut Go.Proofs.YtjkehapbemjnpaaDoor.Pl Go.Proofs.YtjkehapbemjnpaaDoor.Num
set_option linter.unusedVariables false
set_option linter.unusedSimpArgs false
set_option maxRecDepth 100000 in
set_option maxHeartbeats 8000000 in
theorem AskReads_calls (A : Option Addr) (c : Nat) (b : List Int) (op : Int) (w : World) (h0 : -9223372036854775808 ≤ op) (h1 : op ≤ 9223372036854775807) (hr : Kd.C (Kd.int .u8) w A b.length b) (hc : b.length ≤ c) (hn : A = none → c = 0) (hB : Byt b) (hG : GF w) :
    Calls Tryd.prog 3 #[.slice A b.length c, .int .i64 op] w (TruthP w) := by
  have hu := Tryd.underlying26
  have WK := Lib.hid works_calls
  have W0 := Lib.hid (Below.refl w.heap.size w)
  have HW1 := fun W => Lib.hid (Word_calls op W)
  have HW2 := fun W => Lib.hid (rword_calls op h0 h1 W)
  have hwe := wordOf_eq op
  replace hr := Lib.hid hr
  replace hB := Lib.hid hB
  go_enter Tryd.func3, Tryd.ntmps3
  replace hu := Lib.hid hu
  by_cases hb : 6000 < b.length
  · have t1 : decide (6000 < b.length) = true := decide_eq_true hb
    have t2 : decide ((6000 : Int) < (b.length : Int)) = true := decide_eq_true (by omega)
    clear HW1 HW2 hwe
    go_wp2_with fail
    refine (WK.out _ hG).mono ?_
    rintro e w2 ⟨rfl, F⟩
    go_wp2_with fail
    go_ret
    exact ⟨rfl, F⟩
  · have t1 : decide (6000 < b.length) = false := decide_eq_false hb
    have t2 : decide ((6000 : Int) < (b.length : Int)) = false := decide_eq_false (by omega)
    have HG := get_calls A c b w hr.out hc hn hB.out (by omega) hG
    have HR := fun W (F : Below w.heap.size w W) => rget_calls (fun _ => True) A c b W (Kd.C_below hr.out F) hc hB.out (by omega) (fun _ _ => trivial)
    have hgn := getS_n (N := 6000) b ⟨hB.out, by omega⟩
    generalize getS b = gb at HG HR hgn
    obtain ⟨y, gc⟩ := gb
    have ya := hgn.toB (by decide)
    simp only at ya
    clear hgn
    replace HG := Lib.hid HG
    replace HR := Lib.hid HR
    replace ya := Lib.hid ya
    clear W0
    go_wp2_with fail
    refine HG.out.mono ?_
    rintro e v5 ⟨cs5, rfl, AC5, D⟩
    have F5 := below_step D (below_alloc (Below.refl v5.heap.size v5) (.cells cs5 26))
    have K5 := Lib.hid (blk_new v5 (.cells cs5 26))
    have K5z := Lib.hid (blk_new v5 (.cells zA 26))
    have A5 := Lib.hid (((AC5.mono (ok' := fun _ => True) fun _ _ => trivial).weak (nl' := False) fun h => h.elim).below (below_alloc (Below.refl v5.heap.size v5) (.cells cs5 26)))
    have HR2 := Lib.hid (HR.out _ F5)
    replace F5 := Lib.hid F5
    clear HG D HR
    replace AC5 := Lib.hid AC5
    go_upto_region 4 with (first
      | (refine wpList_allocA rfl (some 5) rfl 26 rfl zA zA_info (v5.heap.size) rfl ?_; simp only [Act.put, List.setIfInBounds_toArray, List.set_cons_zero, List.set_cons_succ])
      | (refine wpList_store_row rfl 26 (.tmp 5) (.tmp 16) rfl (v5.heap.size) cs5 rfl rfl 26 zA K5z.out (sizeA AC5.out) (sizeAz AC5.out) (AC5.out).one ?_; rw [World.setRow_alloc_new]))
    generalize v5.heap.size = g5 at *
    generalize v5.alloc (.cells cs5 26) = w6 at *
    clear K5z AC5
    go_wp2_with fail
    refine HR2.out.mono ?_
    rintro e v7 ⟨cs7, rfl, AC7, D⟩
    have F7 := below_step D (below_alloc (Below.refl v7.heap.size v7) (.cells cs7 26))
    have K7 := Lib.hid (blk_new v7 (.cells cs7 26))
    have K7z := Lib.hid (blk_new v7 (.cells zA 26))
    have A7 := Lib.hid (AC7.below (below_alloc (Below.refl v7.heap.size v7) (.cells cs7 26)))
    replace K5 := Lib.hid (blk_below K5.out F7)
    replace A5 := Lib.hid (A5.out.below F7)
    replace F5 := Lib.hid (below_step F5.out F7)
    replace AC7 := Lib.hid AC7
    clear HR2 D F7
    go_upto_region 5 with (first
      | (refine wpList_allocA rfl (some 7) rfl 26 rfl zA zA_info (v7.heap.size) rfl ?_; simp only [Act.put, List.setIfInBounds_toArray, List.set_cons_zero, List.set_cons_succ])
      | (refine wpList_store_row rfl 26 (.tmp 7) (.tmp 21) rfl (v7.heap.size) cs7 rfl rfl 26 zA K7z.out (sizeA AC7.out) (sizeAz AC7.out) (AC7.out).one ?_; rw [World.setRow_alloc_new]))
    clear K7z AC7
    generalize v7.heap.size = g7 at *
    generalize v7.alloc (.cells cs7 26) = w8 at *
    have HS := rsame_calls cs5 cs7 _ _ _ _ y y w8 A5.out A7.out ya.out ya.out
    rw [decide_eq_true rfl] at HS
    replace HS := Lib.hid HS
    go_wp2_with (first
      | (refine wpList_load_rowG (o := ⟨some 23, _, _, _, _, _⟩) rfl 26 (.tmp 5) rfl (g5) rfl 26 cs5 (0, 0) _ K5.out hu.out rfl (sizeA A5.out) ?_; simp only [Act.put, List.setIfInBounds_toArray, List.set_cons_zero, List.set_cons_succ])
      | (refine wpList_load_rowG (o := ⟨some 24, _, _, _, _, _⟩) rfl 26 (.tmp 7) rfl (g7) rfl 26 cs7 (0, 0) _ K7.out hu.out rfl (sizeA A7.out) ?_; simp only [Act.put, List.setIfInBounds_toArray, List.set_cons_zero, List.set_cons_succ]))
    refine HS.out.mono ?_
    rintro e w9 ⟨rfl, F⟩
    replace F5 := Lib.hid (below_step F5.out F)
    clear HS F K5 K7 A5 A7
    have t3 : (gc == gc) = true := by simp
    go_wp2_with fail
    refine (HW1 w9).out.mono ?_
    rintro e w10 ⟨rfl, F⟩
    replace F5 := Lib.hid (below_step F5.out F)
    clear F
    go_wp2_with fail
    refine (HW2 w10).out.mono ?_
    rintro e w11 ⟨rfl, F⟩
    replace F5 := Lib.hid (below_step F5.out F)
    clear F HW1 HW2 hwe
    have t4 : ((strOfNums (wordS op)).toList == (strOfNums (wordS op)).toList) = true := by simp
    go_wp2_with fail
    refine (WK.out _ (hG.of F5.out)).mono ?_
    rintro e w12 ⟨rfl, F⟩
    replace F5 := Lib.hid (below_step F5.out F)
    clear F
    go_wp2_with fail
    go_ret
    exact ⟨rfl, F5.out⟩
end Go.Proofs.YtjkehapbemjnpaaDoor
