/- Whether bytes are a request's, walked by hand; each condition stands in its theorem. -/
import Derived.Test.YtjkehapbemjnpaaDoorVExtra
import Derived.Test.YtjkehapbemjnpaaDoorVLines
namespace Go.Proofs.YtjkehapbemjnpaaDoor
open Go.RowKit Go.Proofs.YtjkehapbemjnpaaDoorW.PrintWords Go.Proofs.YtjkehapbemjnpaaDoorW.PrintLast Go.Proofs.YtjkehapbemjnpaaDoorW.PrintMore Lf Kit Cut Pl Num
set_option linter.unusedVariables false
set_option linter.unusedSimpArgs false
def BytesR (w : World) (r : List Int × Int) (e : Ending) (w' : World) : Prop :=
 ∃ A c, e = .returned (.tuple #[.slice A r.1.length c, .int .i64 r.2]) ∧ r.1.length ≤ c ∧ (A = none → c = 0) ∧ Kd.C (Kd.int .u8) w' A r.1.length r.1 ∧ Below w.heap.size w w'
theorem bytesR_no {w W : World} (code : Int) (h : Below w.heap.size w W) : BytesR w ([], code) (.returned (.tuple #[.slice none 0 0, .int .i64 code])) W := ⟨none, 0, rfl, Nat.le_refl _, fun _ => rfl, Kd.C_nil _ _, h⟩
set_option maxRecDepth 100000 in
set_option maxHeartbeats 4000000 in
theorem back_calls (ca : Array Value) (ok : Nat → Prop) (nl : Prop) (a : AskP) (A : Option Addr) (c : Nat) (b : List Int) (w : World) (hA : AskC w ok nl ca a) (ba : AskB a) (hr : Kd.C (Kd.int .u8) w A b.length b) (hc : b.length ≤ c) (hn : A = none → c = 0) (hB : Byt b) (hl : b.length ≤ 800000) (hG : GF w) :
  Calls Tryd.prog 36 #[.agg ca, .slice A b.length c] w (BytesR w (backS a b)) := by
 have hu := Tryd.underlying26
 have B0 := below_alloc (Below.refl w.heap.size w) (.cells ca 26)
 have TW := Lib.hid (OneAt.start hA)
 have HG := Lib.hid (get_calls A c b (w.alloc (.cells ca 26)) (Kd.C_below hr B0) hc hn hB hl (hG.of B0))
 have hgn := (getS_n (N := 800000) b ⟨hB, hl⟩).toB (by decide)
 generalize hR : backS a b = r
 unfold backS at hR
 generalize getS b = gs at HG hgn hR
 obtain ⟨y, code⟩ := gs
 simp only at hgn hR
 replace hR := Lib.hid hR
 replace hr := Lib.hid hr
 clear B0 hA
 go_enter Tryd.func36, Tryd.ntmps36
 replace hu := Lib.hid hu
 go_wp2_with fail
 refine HG.out.mono ?_
 rintro e w2 ⟨cs, rfl, AC, B2⟩
 have AC8 := (AC.bound.step (fun k hk hlt => (below_alloc (Below.refl w2.heap.size w2) (.cells cs 26)).block k hlt))
 replace TW := Lib.hid (TW.out.below (below_alloc B2 (.cells cs 26)))
 have K9z := Lib.hid (blk_new w2 (.cells zA 26))
 have K9 := Lib.hid (blk_new w2 (.cells cs 26))
 replace AC := Lib.hid AC
 replace AC8 := Lib.hid AC8
 clear HG B2
 by_cases hcd : code = 0
 ·subst hcd
  replace hR := Lib.hid (show (if a = y then (b, 0) else ([], 4)) = r from by have := hR.out; simpa using this)
  have HS := same_calls ca cs _ _ _ _ a y (w2.alloc (.cells cs 26)) TW.out.1.2 AC8.out ba hgn
  by_cases he : a = y
  ·obtain rfl : r = (b, 0) := by have := hR.out; rw [if_pos he] at this; exact this.symm
   rw [decide_eq_true he] at HS
   replace HS := Lib.hid HS
   replace he := Lib.hid he
   go_wp2_with (first
    | (refine wpList_allocA rfl (some 6) rfl 26 rfl zA zA_info _ rfl ?_; simp only [Act.put, List.setIfInBounds_toArray, List.set_cons_zero, List.set_cons_succ])
    | (refine wpList_store_row rfl 26 (.tmp 6) (.tmp 11) rfl w2.heap.size cs rfl rfl 26 zA K9z.out (sizeA AC.out) (sizeAz AC.out) AC.out.one ?_; rw [World.setRow_alloc_new])
    | (refine wpList_load_row (o := ⟨some 16, _, _, _, _, _⟩) rfl 26 (.tmp 2) rfl w.heap.size rfl 26 ca (0, 0) _ TW.out.1.1 hu.out rfl (sizeA TW.out.1.2) ?_; simp only [Act.put, List.setIfInBounds_toArray, List.set_cons_zero, List.set_cons_succ])
    | (refine wpList_load_row (o := ⟨some 17, _, _, _, _, _⟩) rfl 26 (.tmp 6) rfl w2.heap.size rfl 26 cs (0, 0) _ K9.out hu.out rfl (sizeA AC.out) ?_; simp only [Act.put, List.setIfInBounds_toArray, List.set_cons_zero, List.set_cons_succ]))
   refine HS.out.mono ?_
   rintro e w3 ⟨rfl, B3⟩
   replace TW := Lib.hid (TW.out.below B3)
   clear HS B3 K9 K9z
   go_wp2_with fail
   go_ret2
   exact (show BytesR w (b, 0) (.returned (.tuple #[.slice A b.length c, .int .i64 0])) _ from ⟨A, c, rfl, hc, hn, Kd.C_below hr.out TW.out.2, TW.out.2⟩)
  ·obtain rfl : r = ([], 4) := by have := hR.out; rw [if_neg he] at this; exact this.symm
   rw [decide_eq_false he] at HS
   replace HS := Lib.hid HS
   replace he := Lib.hid he
   go_wp2_with (first
    | (refine wpList_allocA rfl (some 6) rfl 26 rfl zA zA_info _ rfl ?_; simp only [Act.put, List.setIfInBounds_toArray, List.set_cons_zero, List.set_cons_succ])
    | (refine wpList_store_row rfl 26 (.tmp 6) (.tmp 11) rfl w2.heap.size cs rfl rfl 26 zA K9z.out (sizeA AC.out) (sizeAz AC.out) AC.out.one ?_; rw [World.setRow_alloc_new])
    | (refine wpList_load_row (o := ⟨some 16, _, _, _, _, _⟩) rfl 26 (.tmp 2) rfl w.heap.size rfl 26 ca (0, 0) _ TW.out.1.1 hu.out rfl (sizeA TW.out.1.2) ?_; simp only [Act.put, List.setIfInBounds_toArray, List.set_cons_zero, List.set_cons_succ])
    | (refine wpList_load_row (o := ⟨some 17, _, _, _, _, _⟩) rfl 26 (.tmp 6) rfl w2.heap.size rfl 26 cs (0, 0) _ K9.out hu.out rfl (sizeA AC.out) ?_; simp only [Act.put, List.setIfInBounds_toArray, List.set_cons_zero, List.set_cons_succ]))
   refine HS.out.mono ?_
   rintro e w3 ⟨rfl, B3⟩
   replace TW := Lib.hid (TW.out.below B3)
   clear HS B3 K9 K9z
   go_wp2_with fail
   go_ret2
   exact bytesR_no 4 TW.out.2
 ·obtain rfl : r = ([], code) := by have := hR.out; rw [if_pos hcd] at this; exact this.symm
  have t5 : (code == 0) = false := by simpa using hcd
  have t6 : (code != 0) = true := by simpa using hcd
  go_wp2_with (first
   | (refine wpList_allocA rfl (some 6) rfl 26 rfl zA zA_info _ rfl ?_; simp only [Act.put, List.setIfInBounds_toArray, List.set_cons_zero, List.set_cons_succ])
   | (refine wpList_store_row rfl 26 (.tmp 6) (.tmp 11) rfl w2.heap.size cs rfl rfl 26 zA K9z.out (sizeA AC.out) (sizeAz AC.out) AC.out.one ?_; rw [World.setRow_alloc_new]))
  go_ret2
  exact bytesR_no code TW.out.2
end Go.Proofs.YtjkehapbemjnpaaDoor
