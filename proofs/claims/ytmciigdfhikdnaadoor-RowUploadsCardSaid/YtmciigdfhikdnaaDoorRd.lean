/- The reader of bytes, walked by hand: each method comes to what its plain Lean function beside it tells; no condition beside those in each theorem. -/
import Derived.Test.YtmciigdfhikdnaaDoorRwx1
import Derived.Lib.Hide
namespace Go.Proofs.YtmciigdfhikdnaaDoor
open Go.RowKit Go.Proofs.YtmciigdfhikdnaaDoorW.PrintWords Go.Proofs.YtmciigdfhikdnaaDoorW.PrintLast Go.Proofs.YtmciigdfhikdnaaDoorW.PrintMore Go.Proofs.YtmciigdfhikdnaaDoor.Rw
set_option linter.unusedVariables false
set_option linter.unusedSimpArgs false
section
variable {P : Program}
theorem cut_hm (t e : TypeId) (kh km : IntKind) {i : TypeInfo} (ht : P.underlying t = some (.slice e)) (hi : P.info? e = some i) (A : Option Addr) (n c : Nat) (j : Int) (h0 : 0 ≤ j) (hm : j ≤ n) (hc : n ≤ c) :
    ∀ W : World, (Instr.slice t (.slice A n c) none (some (.int kh j)) (some (.int km j))).run P W = .ok (.slice A j.toNat j.toNat) W := by
  intro W
  have hel : P.elem t = e := by simp [Program.elem, ht]
  have hu : P.underlying t = some (.slice (P.elem t)) := by rw [hel]; exact ht
  have ha : (A.map fun x => x.add 0) = A := by cases A <;> simp [Addr.add]
  rw [run_slice_hm W t A n c hu kh km j j h0 (Int.le_refl _) (by omega), hel]
  simp [sizeOf, typeInfo, hi, sliced, Result.andThen, ha]
end
/-- What is taken of bytes, what is left, and what is wrong then. -/
def takeR (xs : List Int) (c n : Int) : List Int × List Int × Int :=
  if c = 0 then (if n < 0 ∨ (xs.length : Int) < n then ([], xs, 3) else (xs.take n.toNat, xs.drop n.toNat, 0)) else ([], xs, c)
/-- A reader at block g: what is left, and what was wrong; its bytes were there at w0. -/
def Rdr (w0 W : World) (g : Nat) (xs : List Int) (c : Int) : Prop :=
  ∃ A cap, W.heap[g]? = some (.cells #[.slice A xs.length cap, .int .i64 c] 85 (0, 0)) ∧ w0.heap.size ≤ g ∧ xs.length ≤ cap ∧ Kd.C (Kd.int .u8) w0 A xs.length xs
theorem Rdr.lt {w0 W : World} {g : Nat} {xs : List Int} {c : Int} (h : Rdr w0 W g xs c) : g < W.heap.size := by
  obtain ⟨A, cap, hb, _⟩ := h
  exact blk_lt hb
theorem Rdr.keep {w0 W W1 : World} {g : Nat} {xs : List Int} {c : Int} (h : Rdr w0 W g xs c) (hk : W1.heap[g]? = W.heap[g]?) : Rdr w0 W1 g xs c := by
  obtain ⟨A, cap, hb, r⟩ := h
  exact ⟨A, cap, hk.trans hb, r⟩
theorem Rdr.below {w0 W W1 : World} {g : Nat} {xs : List Int} {c : Int} (h : Rdr w0 W g xs c) (hb : Below W.heap.size W W1) : Rdr w0 W1 g xs c := h.keep (hb.block g h.lt)
theorem Rdr.set_1 {w0 W : World} {g : Nat} {xs : List Int} {c : Int} (h : Rdr w0 W g xs c) (x : Int) : Rdr w0 (W.setCell ⟨g, 1, none⟩ (.int .i64 x)) g xs x := by
  obtain ⟨A, cap, hb, r⟩ := h
  exact ⟨A, cap, blk_put hb 1 _ rfl, r⟩
/-- A slice that reads as a list, in a world and in all behind it. -/
def TakeP (g : Nat) (w0 w : World) (r : List Int × List Int × Int) (e : Ending) (w' : World) : Prop :=
  ∃ A cap, e = .returned (.slice A r.1.length cap) ∧ r.1.length ≤ cap ∧ Kd.C (Kd.int .u8) w0 A r.1.length r.1 ∧ Rdr w0 w' g r.2.1 r.2.2 ∧ Below w0.heap.size w0 w' ∧ KeepBut w w' g none ∧ w'.heap.size = w.heap.size
theorem C_none (w : World) : Kd.C (Kd.int .u8) w none 0 [] := Kd.C_nil _ _
theorem take_bad (g : Nat) (xs : List Int) (c n : Int) (hc : c ≠ 0) (w0 w : World) (hI : Rdr w0 w g xs c) (hB : Below w0.heap.size w0 w) :
    Calls Tryd.prog 56 #[.pointer (some ⟨g, 0, none⟩), .int .i64 n] w (TakeP g w0 w ([], xs, c)) := by
  obtain ⟨A, cap, hb, hg, hcap, hC⟩ := hI
  have hlt := blk_lt hb
  have k0 : w.cell? ⟨g, 0, none⟩ = some (.slice A xs.length cap) := (blk_cell hb 0).trans rfl
  have k1 : w.cell? ⟨g, 1, none⟩ = some (.int .i64 c) := (blk_cell hb 1).trans rfl
  have t1 : (c == 0) = false := by simpa using hc
  have t2 : (c != 0) = true := by simpa using hc
  have fin : TakeP g w0 w ([], xs, c) (.returned (.slice none 0 0)) w := ⟨none, 0, rfl, Nat.le_refl _, C_none _, ⟨A, cap, hb, hg, hcap, hC⟩, hB, KeepBut.refl _ _ _, rfl⟩
  have F := Lib.hid fin
  clear fin
  go_enter Tryd.func56, Tryd.ntmps56
  go_wp2
  go_ret
  exact F.out
theorem take_short (g : Nat) (xs : List Int) (n : Int) (hn : n < 0 ∨ (xs.length : Int) < n) (w0 w : World) (hI : Rdr w0 w g xs 0) (hB : Below w0.heap.size w0 w) :
    Calls Tryd.prog 56 #[.pointer (some ⟨g, 0, none⟩), .int .i64 n] w (TakeP g w0 w ([], xs, 3)) := by
  have hI2 := hI
  obtain ⟨A, cap, hb, hg, hcap, hC⟩ := hI
  have hlt := blk_lt hb
  have k0 : w.cell? ⟨g, 0, none⟩ = some (.slice A xs.length cap) := (blk_cell hb 0).trans rfl
  have k1 : w.cell? ⟨g, 1, none⟩ = some (.int .i64 0) := (blk_cell hb 1).trans rfl
  have z0 := blk_frozen hb 0
  have z1 := blk_frozen hb 1
  have fin : TakeP g w0 w ([], xs, 3) (.returned (.slice none 0 0)) (w.setCell ⟨g, 1, none⟩ (.int .i64 3)) := ⟨none, 0, rfl, Nat.le_refl _, C_none _, Rdr.set_1 hI2 3, below_set hB hg, (KeepBut.refl _ _ _).set_ _ _, by simp⟩
  have F := Lib.hid fin
  clear fin hI2
  by_cases h0 : n < 0
  · have t1 : decide (n < 0) = true := decide_eq_true h0
    go_enter Tryd.func56, Tryd.ntmps56
    go_wp2
    go_ret
    exact F.out
  · have h1 : (xs.length : Int) < n := by omega
    have t1 : decide (n < 0) = false := decide_eq_false h0
    have t2 : decide ((xs.length : Int) < n) = true := decide_eq_true h1
    go_enter Tryd.func56, Tryd.ntmps56
    go_wp2
    go_ret
    exact F.out
theorem take_good (g : Nat) (xs : List Int) (n : Int) (h0 : 0 ≤ n) (h1 : n ≤ (xs.length : Int)) (w0 w : World) (hI : Rdr w0 w g xs 0) (hB : Below w0.heap.size w0 w) :
    Calls Tryd.prog 56 #[.pointer (some ⟨g, 0, none⟩), .int .i64 n] w (TakeP g w0 w (xs.take n.toNat, xs.drop n.toNat, 0)) := by
  obtain ⟨A, cap, hb, hg, hcap, hC⟩ := hI
  have hlt := blk_lt hb
  have k0 : w.cell? ⟨g, 0, none⟩ = some (.slice A xs.length cap) := (blk_cell hb 0).trans rfl
  have k1 : w.cell? ⟨g, 1, none⟩ = some (.int .i64 0) := (blk_cell hb 1).trans rfl
  have z0 := blk_frozen hb 0
  have z1 := blk_frozen hb 1
  obtain ⟨i0, hi, hz0, hz1, hz2⟩ := info_parts info5
  have r1 := cut_hm (P := Tryd.prog) 22 5 .i64 .i64 Tryd.underlying22 hi A xs.length cap n h0 h1 hcap
  have r2 := cut_from (P := Tryd.prog) 22 5 .i64 Tryd.underlying22 hi 1 hz1 A xs.length cap n h0 h1
  have t1 : decide (n < 0) = false := decide_eq_false (by omega)
  have t2 : decide ((xs.length : Int) < n) = false := decide_eq_false (by omega)
  have el : (xs.take n.toNat).length = n.toNat := by rw [List.length_take]; omega
  have ed : (xs.drop n.toNat).length = xs.length - n.toNat := by rw [List.length_drop]
  have hCt := Kd.C_take hC (m := n.toNat) (by omega)
  have hCd := Kd.C_drop hC (m := n.toNat) (by omega) hcap
  have fin : TakeP g w0 w (xs.take n.toNat, xs.drop n.toNat, 0) (.returned (.slice A n.toNat n.toNat)) (w.setCell ⟨g, 0, none⟩ (.slice (if cap = n.toNat then A else A.map (·.add (n.toNat * 1))) (xs.length - n.toNat) (cap - n.toNat))) := by
    refine ⟨A, n.toNat, by rw [el], by rw [el]; exact Nat.le_refl _, hCt, ⟨(if cap = n.toNat then A else A.map (·.add (n.toNat * 1))), cap - n.toNat, ?_, hg, by rw [ed]; omega, hCd⟩, below_set hB hg, (KeepBut.refl _ _ _).set_ _ _, by simp⟩
    rw [ed]
    exact blk_put hb 0 _ rfl
  generalize (if cap = n.toNat then A else A.map (·.add (n.toNat * 1))) = B at r2 fin
  have F := Lib.hid fin
  clear fin el ed hCt hCd hi hz0 hz1 hz2
  go_enter Tryd.func56, Tryd.ntmps56
  go_wp2
  go_ret
  exact F.out
theorem take_calls (g : Nat) (xs : List Int) (c n : Int) (w0 w : World) (hI : Rdr w0 w g xs c) (hB : Below w0.heap.size w0 w) :
    Calls Tryd.prog 56 #[.pointer (some ⟨g, 0, none⟩), .int .i64 n] w (TakeP g w0 w (takeR xs c n)) := by
  unfold takeR
  by_cases hc : c = 0
  · subst hc
    rw [if_pos rfl]
    by_cases hn : n < 0 ∨ (xs.length : Int) < n
    · rw [if_pos hn]
      exact take_short g xs n hn w0 w hI hB
    · rw [if_neg hn]
      exact take_good g xs n (by omega) (by omega) w0 w hI hB
  · rw [if_neg hc]
    exact take_bad g xs c n hc w0 w hI hB
/-- The number of bytes. -/
def getN (l : List Int) : Int := l.foldl (fun n c => Go.bits .or .u64 (IntKind.u64.wrap (n * 256)) (IntKind.u64.wrap c)) 0
theorem get_loop (l : List Int) (hl : l.length ≤ 1000000000) : ∀ (q p : List Int) (n : Int), l = p ++ q → octet_Get.l0 (q.length + 1) n l (l.length : Int) (p.length : Int) = some (q.foldl (fun n c => Go.bits .or .u64 (IntKind.u64.wrap (n * 256)) (IntKind.u64.wrap c)) n)
  | [], p, n, h => by
    rw [List.append_nil] at h
    subst h
    simp only [octet_Get.l0, List.length_nil]
    rw [if_neg (by omega)]
    rfl
  | x :: q, p, n, h => by
    have hll : l.length = p.length + q.length + 1 := by rw [h]; simp; omega
    have hx : rd l (p.length : Int) = x := by
      unfold rd
      rw [h, Int.toNat_natCast]
      simp
    have ih := get_loop l hl q (p ++ [x]) (Go.bits .or .u64 (IntKind.u64.wrap (n * 256)) (IntKind.u64.wrap x)) (by rw [h]; simp)
    rw [show (p ++ [x]).length = p.length + 1 from by simp] at ih
    show octet_Get.l0 (q.length + 1 + 1) n l (l.length : Int) (p.length : Int) = _
    simp only [octet_Get.l0]
    rw [if_pos (by omega), if_pos (by omega), if_pos (by omega), hx, show wrap64 ((p.length : Int) + 1) = ((p.length + 1 : Nat) : Int) from by unfold wrap64; omega]
    exact ih
theorem get_tell (l : List Int) (hl : l.length ≤ 1000000000) : octet_Get.f (l.length + 1) l = some (getN l) := get_loop l hl l [] 0 rfl
def numR (xs : List Int) (c n : Int) : Int × List Int × Int := (getN (takeR xs c n).1, (takeR xs c n).2.1, (takeR xs c n).2.2)
theorem takeR_len (xs : List Int) (c n : Int) : (takeR xs c n).1.length ≤ xs.length ∧ (takeR xs c n).2.1.length ≤ xs.length := by
  unfold takeR
  repeat' split
  all_goals simp
  all_goals omega
def NumP (g : Nat) (w0 w : World) (r : Int × List Int × Int) (e : Ending) (w' : World) : Prop :=
  e = .returned (.int .u64 r.1) ∧ Rdr w0 w' g r.2.1 r.2.2 ∧ Below w0.heap.size w0 w' ∧ KeepBut w w' g none ∧ w'.heap.size = w.heap.size
theorem Number_calls (g : Nat) (xs : List Int) (c n : Int) (w0 w : World) (hI : Rdr w0 w g xs c) (hB : Below w0.heap.size w0 w) (hl : xs.length ≤ 1000000000) :
    Calls Tryd.prog 40 #[.pointer (some ⟨g, 0, none⟩), .int .i64 n] w (NumP g w0 w (numR xs c n)) := by
  have H := Lib.hid (take_calls g xs c n w0 w hI hB)
  have hlt := takeR_len xs c n
  have G := Lib.hid (get_tell (takeR xs c n).1 (by omega))
  unfold numR
  generalize takeR xs c n = r at H G
  clear hlt hI
  go_enter Tryd.func40, Tryd.ntmps40
  go_wp2_with fail
  refine H.out.mono ?_
  rintro e w' ⟨A, cap, rfl, hcap, hC, hR, hB', hk, hs⟩
  have hC' := Kd.C_below hC hB'
  have GG := octet_Get.calls _ A cap r.1 _ w' hC' hcap G.out
  have hs := Lib.hid hs
  clear H hC hC' G
  go_wp2_with fail
  refine GG.mono ?_
  rintro e w2 ⟨rfl, ⟨nd, rfl⟩⟩
  have fin : NumP g w0 w (getN r.1, r.2.1, r.2.2) (.returned (.int .u64 (getN r.1))) (w'.drewN nd) := ⟨rfl, hR, pw_below_drewN hB' nd, keep_drewN hk nd, hs.out⟩
  have F := Lib.hid fin
  clear fin
  go_wp2_with fail
  go_ret
  exact F.out
/-! ### bytes, copied -/
theorem join_one_loop (l : List Int) (hl : l.length ≤ 1000000000) : octet_Join.f 5 [l] = some l := by
  unfold octet_Join.f
  have e0 : rd_L1 [l] 0 = l := rfl
  have hw : wrap64 (0 + (l.length : Int)) = (l.length : Int) := by unfold wrap64; omega
  simp only [octet_Join.l0, octet_Join.l1, List.length_singleton, e0, List.length_nil, List.nil_append]
  have h1 : wrap64 (0 + 1) = 1 := by unfold wrap64; omega
  rw [if_pos (by decide), if_pos (by decide), if_pos (by decide), h1, hw, if_neg (by decide), if_pos (by omega), if_pos (by omega), if_pos (by decide), if_pos (by decide), if_pos (by decide), if_pos (by omega), if_neg (by decide)]
def BytesP (g : Nat) (w0 w : World) (r : List Int × List Int × Int) (e : Ending) (w' : World) : Prop :=
  ∃ v, e = .returned v ∧ Kd.R (Kd.int .u8) 5 w' w.heap.size (fun _ => True) v r.1 ∧ Rdr w0 w' g r.2.1 r.2.2 ∧ Below w0.heap.size w0 w' ∧ KeepBut w w' g none
/-- A slice of slices, as it is built. -/
theorem C_rows {w : World} {g : Nat} {cs : Array Value} {xss : List (List Int)} (hb : w.heap[g]? = some (.cells cs 22 (0, 0))) (hn : xss.length ≤ 1000)
    (h : ∀ (j : Nat) (xs : List Int), xss[j]? = some xs → ∃ A c, cs[j]? = some (Value.slice A xs.length c) ∧ xs.length ≤ c ∧ Kd.C (Kd.int .u8) w A xs.length xs) :
    Kd.C (Kd.slice 5 (Kd.int .u8)) w (some ⟨g, 0, none⟩) xss.length xss := by
  refine ⟨rfl, by omega, fun _ => ⟨⟨g, 0, none⟩, rfl, fun j p hp => ?_⟩⟩
  obtain ⟨A, c, h1, h2, h3⟩ := h j p hp
  refine ⟨[.slice A p.length c], rfl, ⟨A, c, rfl, h2, h3⟩, fun i u hi => ?_⟩
  match i, hi with
  | 0, hi =>
    obtain rfl : Value.slice A p.length c = u := by simpa using hi
    show w.cell? ((⟨g, 0, none⟩ : Addr).add (j * 1 + 0)) = _
    rw [add_plain, blk_cell hb, Nat.mul_one, Nat.add_zero, h1]
theorem Bytes_calls (g : Nat) (xs : List Int) (c n : Int) (w0 w : World) (hI : Rdr w0 w g xs c) (hB : Below w0.heap.size w0 w) (hl : xs.length ≤ 1000000000) :
    Calls Tryd.prog 58 #[.pointer (some ⟨g, 0, none⟩), .int .i64 n] w (BytesP g w0 w (takeR xs c n)) := by
  have H := Lib.hid (take_calls g xs c n w0 w hI hB)
  have hlt := takeR_len xs c n
  have G := Lib.hid (join_one_loop (takeR xs c n).1 (by omega))
  generalize takeR xs c n = r at H G
  clear hlt hI
  go_enter Tryd.func58, Tryd.ntmps58
  go_wp2_with fail
  refine H.out.mono ?_
  rintro e w' ⟨A, cap, rfl, hcap, hC, hR, hB', hk, hs⟩
  have hC' := Kd.C_below hC hB'
  have h1 := C_rows (xss := [r.1]) (blk_new w' (.cells #[.slice A r.1.length cap] 22)) (by simp) (fun j xs hj => by
    match j, hj with
    | 0, hj =>
      obtain rfl : r.1 = xs := by simpa using hj
      exact ⟨A, cap, rfl, hcap, Kd.C_alloc hC' _⟩)
  have GG := octet_Join.calls _ _ 1 [r.1] r.1 _ h1 (Nat.le_refl _) G.out
  clear hs H hC hC' h1 G
  have hR2 := hR.below (below_alloc (Below.refl _ _) (.cells #[.slice A r.1.length cap] 22))
  have hB2 := below_alloc hB' (.cells #[.slice A r.1.length cap] 22)
  have hk2 := keep_alloc hk (.cells #[.slice A r.1.length cap] 22)
  go_wp2_with fail
  refine GG.mono ?_
  rintro e w2 ⟨v, rfl, hv, hb⟩
  have fin : BytesP g w0 w r (.returned v) w2 := ⟨v, rfl, Kd.R_lower hv (keep_size hk2), hR2.below hb, below_step hB2 hb, hk2.trans (KeepBut.of_below hb _ none) (.inl rfl)⟩
  have F := Lib.hid fin
  clear fin hv hb GG hR2 hB2 hk2 hR hB' hk
  go_wp2_with fail
  go_ret
  exact F.out
end Go.Proofs.YtmciigdfhikdnaaDoor
