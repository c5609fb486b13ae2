/- The reader of bytes, walked by hand, second part: each function comes to what its plain Lean function beside it tells; no condition beside those in each theorem. -/
import Derived.Test.YtmciigdfhikdnaaDoorRd
namespace Go.Proofs.YtmciigdfhikdnaaDoor
open Go.RowKit Go.Proofs.YtmciigdfhikdnaaDoorW.PrintWords Go.Proofs.YtmciigdfhikdnaaDoorW.PrintLast Go.Proofs.YtmciigdfhikdnaaDoorW.PrintMore Go.Proofs.YtmciigdfhikdnaaDoor.Rw
attribute [local go_sem] max2_int min2_int max_two min_two
set_option linter.unusedVariables false
set_option linter.unusedSimpArgs false
/-- A reader that was left at some bytes with something wrong; all else stays. -/
def LeftP (g : Nat) (w0 w : World) (v : Value) (xs : List Int) (c : Int) (e : Ending) (w' : World) : Prop :=
  e = .returned v ∧ Rdr w0 w' g xs c ∧ Below w0.heap.size w0 w' ∧ KeepBut w w' g none ∧ w'.heap.size = w.heap.size
theorem Fail_calls (g : Nat) (xs : List Int) (c a : Int) (w0 w : World) (hI : Rdr w0 w g xs c) (hB : Below w0.heap.size w0 w) :
    Calls Tryd.prog 57 #[.pointer (some ⟨g, 0, none⟩), .int .i64 a] w (LeftP g w0 w (.tuple #[]) xs (if c = 0 then a else c)) := by
  have hI2 := hI
  obtain ⟨A, cap, hb, hg, hcap, hC⟩ := hI
  have hlt := blk_lt hb
  have k1 : w.cell? ⟨g, 1, none⟩ = some (.int .i64 c) := (blk_cell hb 1).trans rfl
  have z1 := blk_frozen hb 1
  by_cases hc : c = 0
  · subst hc
    rw [if_pos rfl]
    have F := Lib.hid (show LeftP g w0 w (.tuple #[]) xs a (.returned (.tuple #[])) (w.setCell ⟨g, 1, none⟩ (.int .i64 a)) from ⟨rfl, Rdr.set_1 hI2 a, below_set hB hg, (KeepBut.refl _ _ _).set_ _ _, by simp⟩)
    go_enter Tryd.func57, Tryd.ntmps57
    go_wp2
    go_end0
    exact F.out
  · rw [if_neg hc]
    have t1 : (c == 0) = false := by simpa using hc
    have F := Lib.hid (show LeftP g w0 w (.tuple #[]) xs c (.returned (.tuple #[])) w from ⟨rfl, hI2, hB, KeepBut.refl _ _ _, rfl⟩)
    go_enter Tryd.func57, Tryd.ntmps57
    go_wp2
    go_end0
    exact F.out
def endC (xs : List Int) (c : Int) : Int := if 0 < xs.length then (if c = 0 then 4 else c) else c
theorem End_calls (g : Nat) (xs : List Int) (c : Int) (w0 w : World) (hI : Rdr w0 w g xs c) (hB : Below w0.heap.size w0 w) (hl : xs.length ≤ 1000000000) :
    Calls Tryd.prog 59 #[.pointer (some ⟨g, 0, none⟩)] w (LeftP g w0 w (.int .i64 (endC xs c)) xs (endC xs c)) := by
  have hI2 := hI
  obtain ⟨A, cap, hb, hg, hcap, hC⟩ := hI
  have hlt := blk_lt hb
  have k0 : w.cell? ⟨g, 0, none⟩ = some (.slice A xs.length cap) := (blk_cell hb 0).trans rfl
  have k1 : w.cell? ⟨g, 1, none⟩ = some (.int .i64 c) := (blk_cell hb 1).trans rfl
  unfold endC
  by_cases hp : 0 < xs.length
  · rw [if_pos hp]
    have H := Lib.hid (Fail_calls g xs c 4 w0 w hI2 hB)
    generalize (if c = 0 then 4 else c) = d at H
    have t1 : decide (0 < xs.length) = true := decide_eq_true hp
    go_enter Tryd.func59, Tryd.ntmps59
    go_wp2_with fail
    refine H.out.mono ?_
    rintro e w' ⟨rfl, hR, hB', hk, hs⟩
    have hR2 := hR
    obtain ⟨A', cap', hb', _, _, _⟩ := hR2
    have k1' : w'.cell? ⟨g, 1, none⟩ = some (.int .i64 d) := (blk_cell hb' 1).trans rfl
    have hlt' := blk_lt hb'
    have F := Lib.hid (show LeftP g w0 w (.int .i64 d) xs d (.returned (.int .i64 d)) w' from ⟨rfl, hR, hB', hk, hs⟩)
    clear hs
    go_wp2_with fail
    go_ret
    exact F.out
  · rw [if_neg hp]
    have t1 : decide (0 < xs.length) = false := decide_eq_false hp
    have F := Lib.hid (show LeftP g w0 w (.int .i64 c) xs c (.returned (.int .i64 c)) w from ⟨rfl, hI2, hB, KeepBut.refl _ _ _, rfl⟩)
    go_enter Tryd.func59, Tryd.ntmps59
    go_wp2_with fail
    go_ret
    exact F.out
/-- Bytes with their length ahead. -/
def textR (xs : List Int) (c size most : Int) : List Int × List Int × Int :=
  if (numR xs c size).2.2 = 0 then (if most < (numR xs c size).1 then ([], (numR xs c size).2.1, 4) else takeR (numR xs c size).2.1 0 (wrap64 (numR xs c size).1)) else ([], (numR xs c size).2.1, (numR xs c size).2.2)
theorem Text_calls (g : Nat) (xs : List Int) (c size most : Int) (h0 : 0 ≤ most) (h1 : most ≤ 1000) (w0 w : World) (hI : Rdr w0 w g xs c) (hB : Below w0.heap.size w0 w) (hl : xs.length ≤ 1000000000) :
    Calls Tryd.prog 41 #[.pointer (some ⟨g, 0, none⟩), .int .i64 size, .int .i64 most] w (BytesP g w0 w (textR xs c size most)) := by
  have H := Lib.hid (Number_calls g xs c size w0 w hI hB hl)
  have hlen := takeR_len xs c size
  have hn : (numR xs c size).2.1.length ≤ 1000000000 := by unfold numR; simp only; omega
  unfold textR
  generalize numR xs c size = r at H hn
  obtain ⟨v, ys, d⟩ := r
  simp only at hn ⊢
  clear hlen hI hl
  by_cases hd : d = 0
  · subst hd
    rw [if_pos rfl]
    by_cases hv : most < v
    · rw [if_pos hv]
      have t1 : decide (most < v) = true := decide_eq_true hv
      go_enter Tryd.func41, Tryd.ntmps41
      go_wp2_with fail
      refine H.out.mono ?_
      rintro e w' ⟨rfl, hR, hB', hk, hs⟩
      simp only at hR
      have G := Lib.hid (Fail_calls g ys 0 4 w0 w' hR hB')
      obtain ⟨A', cap', hb', _, _, _⟩ := hR
      have k1' : w'.cell? ⟨g, 1, none⟩ = some (.int .i64 0) := (blk_cell hb' 1).trans rfl
      have hlt' := blk_lt hb'
      clear hs H
      go_wp2_with fail
      refine G.out.mono ?_
      rintro e w2 ⟨rfl, hR2, hB2, hk2, hs2⟩
      simp only [if_true] at hR2
      have F := Lib.hid (show BytesP g w0 w ([], ys, 4) (.returned (.slice none 0 0)) w2 from ⟨_, rfl, Kd.R_nil _ _ _ _ _, hR2, hB2, hk.trans hk2 (.inl rfl)⟩)
      obtain ⟨A2, cap2, hb2, _, _, _⟩ := hR2
      have k2 : w2.cell? ⟨g, 1, none⟩ = some (.int .i64 4) := (blk_cell hb2 1).trans rfl
      have hlt2 := blk_lt hb2
      clear hs2 G hk hB' hB2 hk2
      go_wp2_with fail
      go_ret
      exact F.out
    · rw [if_neg hv]
      have t1 : decide (most < v) = false := decide_eq_false hv
      go_enter Tryd.func41, Tryd.ntmps41
      go_wp2_with fail
      refine H.out.mono ?_
      rintro e w' ⟨rfl, hR, hB', hk, hs⟩
      simp only at hR
      have G := Lib.hid (Bytes_calls g ys 0 (wrap64 v) w0 w' hR hB' hn)
      obtain ⟨A', cap', hb', _, _, _⟩ := hR
      have k1' : w'.cell? ⟨g, 1, none⟩ = some (.int .i64 0) := (blk_cell hb' 1).trans rfl
      have hlt' := blk_lt hb'
      have HS := Lib.hid hs
      clear hs H
      go_wp2_with fail
      refine G.out.mono ?_
      rintro e w2 ⟨u, rfl, hu, hR2, hB2, hk2⟩
      have F := Lib.hid (show BytesP g w0 w (takeR ys 0 (wrap64 v)) (.returned u) w2 from ⟨_, rfl, Kd.R_lower hu (keep_size hk), hR2, hB2, hk.trans hk2 (.inl rfl)⟩)
      clear G hk hB' hB2 hk2 hu hR2
      go_wp2_with fail
      go_ret
      exact F.out
  · rw [if_neg hd]
    have t1 : (d == 0) = false := by simpa using hd
    have t2 : (d != 0) = true := by simpa using hd
    go_enter Tryd.func41, Tryd.ntmps41
    go_wp2_with fail
    refine H.out.mono ?_
    rintro e w' ⟨rfl, hR, hB', hk, hs⟩
    simp only at hR
    have F := Lib.hid (show BytesP g w0 w ([], ys, d) (.returned (.slice none 0 0)) w' from ⟨_, rfl, Kd.R_nil _ _ _ _ _, hR, hB', hk⟩)
    obtain ⟨A', cap', hb', _, _, _⟩ := hR
    have k1' : w'.cell? ⟨g, 1, none⟩ = some (.int .i64 d) := (blk_cell hb' 1).trans rfl
    have hlt' := blk_lt hb'
    clear hs H
    go_wp2_with fail
    go_ret
    exact F.out
/-- A reader of bytes. -/
def ReadP (w : World) (xs : List Int) (e : Ending) (w' : World) : Prop :=
  ∃ (w0 : World) (g : Nat), e = .returned (.pointer (some ⟨g, 0, none⟩)) ∧ Rdr w0 w' g xs 0 ∧ Below w0.heap.size w0 w' ∧ Below w.heap.size w w0
theorem Read_calls (A : Option Addr) (cap : Nat) (xs : List Int) (w : World) (hC : Kd.C (Kd.int .u8) w A xs.length xs) (hcap : xs.length ≤ cap) (hl : xs.length ≤ 1000000000) :
    Calls Tryd.prog 39 #[.slice A xs.length cap] w (ReadP w xs) := by
  have h1 := C_rows (xss := [xs]) (blk_new w (.cells #[.slice A xs.length cap] 22)) (by simp) (fun j ys hj => by
    match j, hj with
    | 0, hj =>
      obtain rfl : xs = ys := by simpa using hj
      exact ⟨A, cap, rfl, hcap, Kd.C_alloc hC _⟩)
  have GG := octet_Join.calls _ _ 1 [xs] xs _ h1 (Nat.le_refl _) (join_one_loop xs hl)
  clear h1
  go_enter Tryd.func39, Tryd.ntmps39
  go_wp2_with fail
  refine GG.mono ?_
  rintro e w2 ⟨v, rfl, hv, hb⟩
  obtain ⟨A2, c2, rfl, hl2, hC2⟩ := Kd.R_reads hv
  have hb1 : Below w.heap.size w w2 := below_step (below_alloc (Below.refl _ _) _) hb
  have F := Lib.hid (show ReadP w xs (.returned (.pointer (some ⟨w2.heap.size, 0, none⟩))) (w2.alloc (.cells #[.slice A2 xs.length c2, .int .i64 0] 85)) from
    ⟨w2, w2.heap.size, rfl, ⟨A2, c2, blk_new w2 _, Nat.le_refl _, hl2, hC2⟩, below_alloc (Below.refl _ _) _, hb1⟩)
  clear hv hb hC2 hb1 GG
  go_wp2_with fail
  go_ret
  exact F.out
/-! ### a sealed key, read -/
def lockR (xs : List Int) (c : Int) : Int × List Int × List Int × List Int × Int :=
  (wrap64 (wrap64 (numR xs c 2).1 - 1), (takeR (numR xs c 2).2.1 (numR xs c 2).2.2 12).1, (takeR (takeR (numR xs c 2).2.1 (numR xs c 2).2.2 12).2.1 (takeR (numR xs c 2).2.1 (numR xs c 2).2.2 12).2.2 48).1,
    (takeR (takeR (numR xs c 2).2.1 (numR xs c 2).2.2 12).2.1 (takeR (numR xs c 2).2.1 (numR xs c 2).2.2 12).2.2 48).2)
def LockP (g : Nat) (w0 w : World) (r : Int × List Int × List Int × List Int × Int) (e : Ending) (w' : World) : Prop :=
  ∃ v1 v2, e = .returned (.agg #[.int .i64 r.1, v1, v2]) ∧ Kd.R (Kd.int .u8) 5 w' w.heap.size (fun _ => True) v1 r.2.1 ∧ Kd.R (Kd.int .u8) 5 w' w.heap.size (fun k => some k ≠ v1.ownBlock) v2 r.2.2.1 ∧ Rdr w0 w' g r.2.2.2.1 r.2.2.2.2 ∧ Below w0.heap.size w0 w' ∧ KeepBut w w' g none
set_option maxHeartbeats 1000000 in
theorem readLock_calls (g : Nat) (xs : List Int) (c : Int) (w0 w : World) (hI : Rdr w0 w g xs c) (hB : Below w0.heap.size w0 w) (hl : xs.length ≤ 1000000000) :
    Calls Tryd.prog 42 #[.pointer (some ⟨g, 0, none⟩)] w (LockP g w0 w (lockR xs c)) := by
  have hR0 := hI.below (below_alloc (Below.refl _ _) (.cells #[.int .i64 0, .slice none 0 0, .slice none 0 0] 24))
  have H := Lib.hid (Number_calls g xs c 2 w0 _ hR0 (below_alloc hB _) hl)
  have hlen := takeR_len xs c 2
  have hn : (numR xs c 2).2.1.length ≤ 1000000000 := by unfold numR; simp only; omega
  unfold lockR
  generalize numR xs c 2 = r at H hn
  obtain ⟨v, ys, d⟩ := r
  simp only at hn ⊢
  have hlen2 := takeR_len ys d 12
  have G1 : ∀ W, Rdr w0 W g ys d → Below w0.heap.size w0 W → Calls Tryd.prog 58 #[.pointer (some ⟨g, 0, none⟩), .int .i64 12] W (BytesP g w0 W (takeR ys d 12)) := fun W h1 h2 => Bytes_calls g ys d 12 w0 W h1 h2 hn
  generalize takeR ys d 12 = t at G1 hlen2 ⊢
  obtain ⟨bs, zs, f⟩ := t
  simp only at hlen2 ⊢
  have hzl : zs.length ≤ 1000000000 := by omega
  have G2 : ∀ W, Rdr w0 W g zs f → Below w0.heap.size w0 W → Calls Tryd.prog 58 #[.pointer (some ⟨g, 0, none⟩), .int .i64 48] W (BytesP g w0 W (takeR zs f 48)) := fun W h1 h2 => Bytes_calls g zs f 48 w0 W h1 h2 hzl
  generalize takeR zs f 48 = t2 at G2 ⊢
  obtain ⟨cs, qs, h⟩ := t2
  have HG1 := Lib.hid G1
  have HG2 := Lib.hid G2
  have hg := hI.lt
  clear hlen hl hR0 hlen2 hzl hn G1 G2
  go_enter Tryd.func42, Tryd.ntmps42
  go_wp2_with fail
  refine H.out.mono ?_
  rintro e w1 ⟨rfl, hR, hB1, hk, hs⟩
  simp only at hR
  clear H
  -- the second call's world: the variable's block is new
  have hg1 : g < w1.heap.size := hR.lt
  have hgl : w.heap.size < w1.heap.size := by have := keep_size hk; simp at this; omega
  have hw0 : w0.heap.size ≤ w.heap.size := hB.size
  have hbr : w1.heap[w.heap.size]? = some (.cells #[.int .i64 0, .slice none 0 0, .slice none 0 0] 24 (0, 0)) := hk.blk (blk_new w _) (by omega) (by simp)
  have hbr2 := blk_alloc hbr (.cells #[.int .i64 (wrap64 (wrap64 v - 1)), .slice none 0 0, .slice none 0 0] 24)
  have hbl2 := blk_new w1 (.cells #[.int .i64 (wrap64 (wrap64 v - 1)), .slice none 0 0, .slice none 0 0] 24)
  have hR2 := hR.below (below_alloc (Below.refl _ _) (.cells #[.int .i64 (wrap64 (wrap64 v - 1)), .slice none 0 0, .slice none 0 0] 24))
  have hB2 := below_alloc hB1 (.cells #[.int .i64 (wrap64 (wrap64 v - 1)), .slice none 0 0, .slice none 0 0] 24)
  have hk2 : KeepBut w (w1.alloc (.cells #[.int .i64 (wrap64 (wrap64 v - 1)), .slice none 0 0, .slice none 0 0] 24)) g none := keep_alloc ((KeepBut.of_below (below_alloc (Below.refl _ _) _) g none).trans hk (.inl rfl)) _
  have G := Lib.hid (HG1.out _ hR2 hB2)
  have hsz2 : (w1.alloc (.cells #[.int .i64 (wrap64 (wrap64 v - 1)), .slice none 0 0, .slice none 0 0] 24)).heap.size = w1.heap.size + 1 := by simp
  have HS := Lib.hid hs
  clear hs hbr hR hB1 hk HG1
  go_wp2_with fail
  generalize hW2 : w1.alloc (.cells #[.int .i64 (wrap64 (wrap64 v - 1)), .slice none 0 0, .slice none 0 0] 24) = W2 at *
  refine G.out.mono ?_
  rintro e w2 ⟨u1, rfl, hv1, hR3, hB3, hk3⟩
  simp only at hv1 hR3
  clear G hW2
  obtain ⟨A1, c1, rfl⟩ := Kd.R_slice hv1
  have hbr3 := hk3.blk hbr2 (by omega) (by simp)
  have hbl3 := hk3.blk hbl2 (by omega) (by simp)
  have hlt3 := blk_lt hbl3
  have x1 : w2.cell? ⟨w1.heap.size, 1, none⟩ = some (.slice none 0 0) := (blk_cell hbl3 1).trans rfl
  have y1 := blk_frozen hbl3 1
  have hbl4 := blk_put (cs' := #[.int .i64 (wrap64 (wrap64 v - 1)), .slice A1 bs.length c1, .slice none 0 0]) hbl3 1 (.slice A1 bs.length c1) rfl
  have hbr4 := blk_far (p := ⟨w1.heap.size, 1, none⟩) hbr3 (by show _ ≠ w1.heap.size; omega) (.slice A1 bs.length c1)
  have hR4 := hR3.keep (Below.heap_setCell w2 ⟨w1.heap.size, 1, none⟩ (.slice A1 bs.length c1) g (by show _ ≠ w1.heap.size; omega))
  have hB4 := below_set (j := 1) (v := .slice A1 bs.length c1) hB3 (show w0.heap.size ≤ w1.heap.size by omega)
  have hk4 := keep_far (hk2.trans hk3 (.inl rfl)) (p := ⟨w1.heap.size, 1, none⟩) (by show _ ≤ w1.heap.size; omega) (.slice A1 bs.length c1)
  have hv4 := Kd.R_far (p := ⟨w1.heap.size, 1, none⟩) (Kd.R_bound hv1) (fun k hk => by show k ≠ w1.heap.size; have := hk.2.1; omega) (.slice A1 bs.length c1)
  have G := Lib.hid (HG2.out _ hR4 hB4)
  have hsz3 := keep_size hk3
  clear HG2 hv1 hR3 hB3 hk2 hk3 hbr2 hbl2 hR2 hB2 hbr3
  have HZ := Lib.hid hsz2
  clear hsz2
  go_wp2_with fail
  generalize hW4 : w2.setCell ⟨w1.heap.size, 1, none⟩ (.slice A1 bs.length c1) = W4 at *
  have hsz4 : W4.heap.size = w2.heap.size := by rw [← hW4]; simp
  refine G.out.mono ?_
  rintro e w3 ⟨u2, rfl, hv2, hR5, hB5, hk5⟩
  simp only at hv2 hR5
  clear G hW4
  obtain ⟨A2, c2, rfl⟩ := Kd.R_slice hv2
  have hbl5 := hk5.blk hbl4 (by omega) (by simp)
  have hbr5 := hk5.blk hbr4 (by omega) (by simp)
  have hlt5 := blk_lt hbl5
  have hlt6 := blk_lt hbr5
  have x0 : w3.cell? ⟨w1.heap.size, 0, none⟩ = some (.int .i64 (wrap64 (wrap64 v - 1))) := (blk_cell hbl5 0).trans rfl
  have x1 : w3.cell? ⟨w1.heap.size, 1, none⟩ = some (.slice A1 bs.length c1) := (blk_cell hbl5 1).trans rfl
  have x2 : w3.cell? ⟨w1.heap.size, 2, none⟩ = some (.slice none 0 0) := (blk_cell hbl5 2).trans rfl
  have y0 := blk_frozen hbl5 0
  have y1 := blk_frozen hbl5 1
  have y2 := blk_frozen hbl5 2
  have r0 : w3.cell? ⟨w.heap.size, 0, none⟩ = some (.int .i64 0) := (blk_cell hbr5 0).trans rfl
  have r1 : w3.cell? ⟨w.heap.size, 1, none⟩ = some (.slice none 0 0) := (blk_cell hbr5 1).trans rfl
  have r2 : w3.cell? ⟨w.heap.size, 2, none⟩ = some (.slice none 0 0) := (blk_cell hbr5 2).trans rfl
  have s0 := blk_frozen hbr5 0
  have s1 := blk_frozen hbr5 1
  have s2 := blk_frozen hbr5 2
  have ne1 : w.heap.size ≠ w1.heap.size := by omega
  have ne2 : w1.heap.size ≠ w.heap.size := by omega
  go_wp2_with fail
  refine bodyPost_ret (results_cell_row rfl _ _ w.heap.size 24 #[.int .i64 (wrap64 (wrap64 v - 1)), .slice A1 bs.length c1, .slice A2 cs.length c2] (0, 0) _ rfl ?_ Tryd.underlying24 rfl (by kernel_rfl)) rfl ?_
  · refine blk_put (cs := #[.int .i64 (wrap64 (wrap64 v - 1)), .slice A1 bs.length c1, .slice none 0 0]) ?_ 2 _ rfl
    refine blk_put (cs := #[.int .i64 (wrap64 (wrap64 v - 1)), .slice none 0 0, .slice none 0 0]) ?_ 1 _ rfl
    refine blk_put (cs := #[.int .i64 0, .slice none 0 0, .slice none 0 0]) ?_ 0 _ rfl
    exact blk_far hbr5 (by show _ ≠ w1.heap.size; omega) _
  · have hz := HZ.out
    have hvA := Kd.R_keep hv4 hk5 (fun k hk => by have := hk.2.1; have := hk.2.2.1; omega)
    have hs5 := keep_size hk5
    have far : ∀ {u : Value} {xs : List Int} {b : Nat} {ok : Nat → Prop} {W : World} (p : Addr) (x : Value), Kd.R (Kd.int .u8) 5 W b ok u xs → p.block < b → Kd.R (Kd.int .u8) 5 (W.setCell p x) b ok u xs := fun p x hR hp =>
      Kd.R_mono (Kd.R_far (Kd.R_bound hR) (fun k hk => by have := hk.2.1; omega) x) (fun k hk => hk.1)
    have l1 : w1.heap.size < W2.heap.size := by omega
    have l2 : w.heap.size < W2.heap.size := by omega
    have l3 : w1.heap.size < W4.heap.size := by omega
    have l4 : w.heap.size < W4.heap.size := by omega
    refine ⟨_, _, rfl, Kd.R_lower (Kd.R_mono (far _ _ (far _ _ (far _ _ (far _ _ hvA l1) l2) l2) l2) (fun _ _ => trivial)) (by omega), Kd.R_lower (Kd.R_mono (Kd.R_bound (far _ _ (far _ _ (far _ _ (far _ _ hv2 l3) l4) l4) l4)) (fun k hk he => ?_)) (by omega), ?_, ?_, ?_⟩
    · have h1 := hvA.1 k he.symm
      have h2 := h1.2.2.1
      have h3 := hk.2.1
      omega
    · refine hR5.keep ?_
      rw [Below.heap_setCell _ _ _ _ (by show g ≠ w.heap.size; omega), Below.heap_setCell _ _ _ _ (by show g ≠ w.heap.size; omega), Below.heap_setCell _ _ _ _ (by show g ≠ w.heap.size; omega), Below.heap_setCell _ _ _ _ (by show g ≠ w1.heap.size; omega)]
    · exact below_set (below_set (below_set (below_set hB5 (by omega)) hw0) hw0) hw0
    · exact keep_far (keep_far (keep_far (keep_far (hk4.trans hk5 (.inl rfl)) (by show _ ≤ w1.heap.size; omega) _) (Nat.le_refl _) _) (Nat.le_refl _) _) (Nat.le_refl _) _
end Go.Proofs.YtmciigdfhikdnaaDoor
