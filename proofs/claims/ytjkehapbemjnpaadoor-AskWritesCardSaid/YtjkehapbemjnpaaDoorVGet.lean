/- Which request bytes are, walked by hand: it comes to what getS tells; each condition stands in its theorem. -/
import Derived.Test.YtjkehapbemjnpaaDoorVFirst
import Derived.Lib.SlBytesConst
namespace Go.Proofs.YtjkehapbemjnpaaDoor
open Go.RowKit Go.Proofs.YtjkehapbemjnpaaDoorW.PrintWords Go.Proofs.YtjkehapbemjnpaaDoorW.PrintLast Go.Proofs.YtjkehapbemjnpaaDoorW.PrintMore Lf Kit Cut Pl Num
set_option linter.unusedVariables false
set_option linter.unusedSimpArgs false
theorem setS_x22 (a : AskP) (ws v : List Int) (h : ws ≠ [108, 105, 115, 116]) : (setS a ws v).1.x22 = a.x22 := by
 unfold setS
 have ht : ∀ k v, (a.tSet k v).x22 = a.x22 := fun k v => by unfold AskP.tSet; split <;> rfl
 have ho : ∀ k v, (a.oSet k v).x22 = a.x22 := fun k v => by unfold AskP.oSet; split <;> rfl
 have hn : ∀ k v, (a.nSet k v).x22 = a.x22 := fun k v => by unfold AskP.nSet; split <;> rfl
 split
 ·exact ht _ _
 ·split
  ·split
   ·exact ho _ _
   ·rfl
  ·split
   ·split
    ·exact hn _ _
    ·rfl
   ·unfold otherS
    rw [if_neg h]
    split
    ·rfl
    ·split
     ·split <;> rfl
     ·rfl
theorem pre_calls2 (s p : List Int) (hs : Byt s) (hp : Byt p) (w : World) :
  Calls Tryd.prog 21 #[.string (strOfNums s), .string (strOfNums p ++ ⟨#[58, 32]⟩)] w fun e w' => e = .returned (.bool ((p ++ [58, 32]).isPrefixOf s)) ∧ w' = w := by
 have h := pre_calls s (p ++ [58, 32]) hs (hp.app (by unfold Byt; decide)) w
 rw [← str_app] at h
 exact h
def GetAt (w : World) (g2 g8 gR : Nat) (l : List (List Int)) (wr : World) (a : AskP) : Prop :=
 wr.heap[g2]? = some (.cells zA 26 (0, 0)) ∧ wr.heap[gR]? = some (.cells ((l.map strOfNums).map Value.string).toArray 9 (0, 0)) ∧ AskAt wr g8 a ∧ Below w.heap.size w wr
theorem GetAt.below {w : World} {g2 g8 gR : Nat} {l : List (List Int)} {wr w2 : World} {a : AskP} (h : GetAt w g2 g8 gR l wr a) (hb : Below wr.heap.size wr w2) : GetAt w g2 g8 gR l w2 a :=
 ⟨blk_below h.1 hb, blk_below h.2.1 hb, h.2.2.1.below hb, below_step h.2.2.2 hb⟩
theorem GetAt.drewN {w : World} {g2 g8 gR : Nat} {l : List (List Int)} {wr : World} {a : AskP} (h : GetAt w g2 g8 gR l wr a) (nd : Nat) : GetAt w g2 g8 gR l (wr.drewN nd) a := h.below (pw_below_drewN (Below.refl _ _) nd)
theorem endA {w W : World} (code : Int) (hb : Below w.heap.size w W) : AskR (fun _ => True) w (ask0, code) (.returned (.tuple #[.agg zA, .int .i64 code])) (W.setRow w.heap.size zA) :=
 ⟨zA, rfl, zA_ask _ _ _, below_row hb (Nat.le_refl _) zA⟩
theorem firstS_x22 (f : List Int) : (firstS f).1.x22 = [] := by
 unfold firstS
 split <;> rfl
theorem rows_at (l : List (List Int)) (f : List Int) (rest : List (List Int)) (h : l = f :: rest) (j : Nat) (row : List Int) (hj : rest[j]? = some row) : l[1 + j]? = some row := by
 rw [h, Nat.add_comm]
 exact hj
theorem seen_iff {rest : List (List Int)} {j : Nat} {seen : List (List Int)} (h : seen = (rest.take j).map fun r => (cutL [58, 32] r).1) (hf : ∀ r ∈ rest.take j, (cutL [58, 32] r).2.2 = true) (hj : j ≤ rest.length) {row : List Int} (hr : (cutL [58, 32] row).2.2 = true) :
  (cutL [58, 32] row).1 ∈ seen ↔ ∃ i r, i < j ∧ rest[i]? = some r ∧ ((cutL [58, 32] row).1 ++ [58, 32]).isPrefixOf r = true := by
 subst h
 constructor
 ·intro hm
  obtain ⟨r, hr1, hr2⟩ := List.mem_map.1 hm
  obtain ⟨i, hi, he⟩ := List.getElem_of_mem hr1
  have hil : i < j := by rw [List.length_take] at hi; omega
  refine ⟨i, r, hil, ?_, (twice (by simp) hr).2 ⟨hf r hr1, hr2⟩⟩
  rw [List.getElem_take] at he
  rw [List.getElem?_eq_getElem (by omega), he]
 ·rintro ⟨i, r, hi, hr1, hr2⟩
  have h2 := (twice (by simp) hr).1 hr2
  refine List.mem_map.2 ⟨r, ?_, h2.2⟩
  rw [List.mem_iff_getElem?]
  exact ⟨i, by rw [List.getElem?_take, if_pos hi, hr1]⟩
theorem rowsS_cons (seen : List (List Int)) (a : AskP) (row : List Int) (rest : List (List Int)) : rowsS seen a (row :: rest) =
  (if (cutL [58, 32] row).2.2 = false then (a, 4)
  else if (cutL [58, 32] row).1 ∈ seen then (a, 10)
  else if (setS a (cutL [58, 32] row).1 (cutL [58, 32] row).2.1).2 ≠ 0 then (a, (setS a (cutL [58, 32] row).1 (cutL [58, 32] row).2.1).2)
  else rowsS (seen ++ [(cutL [58, 32] row).1]) (setS a (cutL [58, 32] row).1 (cutL [58, 32] row).2.1).1 rest) := rfl
theorem GetAt.keep {w : World} {g2 g8 gR : Nat} {l : List (List Int)} {wr w2 : World} {a a2 : AskP} (h : GetAt w g2 g8 gR l wr a) (hk : KeepBut wr w2 g8 none) (h2 : g2 ≠ g8) (hR : gR ≠ g8) (hA : AskAt w2 g8 a2) (hB : Below w.heap.size w w2) : GetAt w g2 g8 gR l w2 a2 :=
 ⟨hk.blk h.1 h2 (by simp), hk.blk h.2.1 hR (by simp), hA, hB⟩
theorem C_rows {w : World} {g : Nat} {cs : Array Value} {xss : List (List Int)} (hb : w.heap[g]? = some (.cells cs 22 (0, 0))) (hn : xss.length ≤ 1000)
  (h : ∀ (j : Nat) (xs : List Int), xss[j]? = some xs → ∃ A c, cs[j]? = some (Value.slice A xs.length c) ∧ xs.length ≤ c ∧ Kd.C (Kd.int .u8) w A xs.length xs) :
  Kd.C (Kd.slice 5 (Kd.int .u8)) w (some ⟨g, 0, none⟩) xss.length xss := by
 refine ⟨rfl, by omega, fun _ => ⟨⟨g, 0, none⟩, rfl, fun j p hp => ?_⟩⟩
 obtain ⟨A, c, h1, h2, h3⟩ := h j p hp
 refine ⟨[.slice A p.length c], rfl, ⟨A, c, rfl, h2, h3⟩, fun i u hi => ?_⟩
 match i, hi with
 | 0, hi =>
  obtain rfl : Value.slice A p.length c = u := by simpa using hi
  show w.cell? ((⟨g, 0, none⟩ : Addr).add (j * 1 + 0)) = _
  rw [add_plain, blk_cell hb, Nat.mul_one, Nat.add_zero, h1]
theorem join_one_loop (l : List Int) (hl : l.length ≤ 1000000000) : octet_Join.f 5 [l] = some l := by
 unfold octet_Join.f
 have e0 : rd_L2 [l] 0 = l := rfl
 have hw : wrap64 (0 + (l.length : Int)) = (l.length : Int) := by unfold wrap64; omega
 simp only [octet_Join.l0, octet_Join.l1, List.length_singleton, e0, List.length_nil, List.nil_append]
 have h1 : wrap64 (0 + 1) = 1 := by unfold wrap64; omega
 rw [if_pos (by decide), if_pos (by decide), if_pos (by decide), h1, hw, if_neg (by decide), if_pos (by omega), if_pos (by omega), if_pos (by decide), if_pos (by decide), if_pos (by decide), if_pos (by omega), if_neg (by decide)]
def bringsB (n : Int) : Bool := n == 5 || n == 16
theorem brings_calls (n : Int) (w : World) : Calls Tryd.prog 23 #[.int .i64 n] w fun e w' => e = .returned (.bool (bringsB n)) ∧ ∃ nd, w' = w.drewN nd := by
 refine (ask_brings.calls n (bringsB n) w ?_).mono fun e w' ⟨h1, h2⟩ => ⟨h1, drawn_ex h2⟩
 unfold ask_brings.f bringsB
 by_cases h : n = 5
 ·rw [if_pos h, h]; rfl
 ·rw [if_neg h]
  have : (n == 5) = false := by simpa using h
  rw [this]; rfl
set_option maxRecDepth 100000 in
set_option maxHeartbeats 4000000 in
theorem get_calls (A : Option Addr) (c : Nat) (b : List Int) (w : World) (hr : Kd.C (Kd.int .u8) w A b.length b) (hc : b.length ≤ c) (hn : A = none → c = 0) (hB : Byt b) (hl : b.length ≤ 800000) (hG : GF w) :
  Calls Tryd.prog 7 #[.slice A b.length c] w (AskR (fun _ => True) w (getS b)) := by
 have hu := Tryd.underlying26
 have A0 := zA_ask w (fun _ => True) True
 have es : (w.alloc (.cells zA 26)).heap.size = w.heap.size + 1 := by simp
 have kc := Lib.run_convert_bytes_const (P := Tryd.prog) (w.alloc (.cells zA 26)) 22 5 #[.int .u8 10, .int .u8 10] 2 2 Tryd.underlying22 Tryd.underlying5
 rw [es] at kc
 have B1 : Below w.heap.size w ((w.alloc (.cells zA 26)).alloc (.cells #[.int .u8 10, .int .u8 10] 5 (2, 3))) := below_alloc (below_alloc (Below.refl _ _) _) _
 have K2 : ((w.alloc (.cells zA 26)).alloc (.cells #[.int .u8 10, .int .u8 10] 5 (2, 3))).heap[w.heap.size]? = some (.cells zA 26 (0, 0)) := heap_alloc2_old _ _ _
 have HC := bcut_calls A c b _ (w.heap.size + 1) (2, 3) (Kd.C_below hr B1) hc hn hB hl (heap_alloc2_new w (.cells zA 26) (.cells #[.int .u8 10, .int .u8 10] 5 (2, 3))) (hG.of B1)
 generalize hR : getS b = r
 unfold getS at hR
 have hbt := cutL_byt (sep := [10, 10]) hB
 have hbl := cutL_len [10, 10] b
 generalize cutL [10, 10] b = ct at HC hbt hbl hR
 obtain ⟨hd, bd, fd⟩ := ct
 simp only at hbt hbl hR
 replace hR := Lib.hid hR
 replace HC := Lib.hid HC
 replace B1 := Lib.hid B1
 replace K2 := Lib.hid K2
 replace A0 := Lib.hid A0
 have HRW := Lib.hid hr
 clear es hr
 go_enter Tryd.func7, Tryd.ntmps7
 replace hu := Lib.hid hu
 go_wp2_with (refine wpList_allocA rfl (some 2) rfl 26 rfl zA zA_info _ rfl ?_; simp only [Act.put, List.setIfInBounds_toArray, List.set_cons_zero, List.set_cons_succ])
 refine HC.out.mono ?_
 rintro e w1 ⟨A2, c2, rfl, hc2, C12, ⟨nd, rfl⟩⟩
 replace B1 := Lib.hid (pw_below_drewN B1.out nd)
 replace K2 := Lib.hid (blk_drewN K2.out nd)
 have C1 := (C12 _ (Kd.C_below HRW.out B1.out)).1
 have C2 := Lib.hid (fun W (h : Below w.heap.size w W) => (C12 W (Kd.C_below HRW.out h)).2)
 have HS := Kd.C_string (P := Tryd.prog) (src := 22) (dst := 9) (e := 5) (c := c) Tryd.underlying22 Tryd.underlying5 Tryd.underlying9 C1
 clear HC C1 C12 kc
 generalize ((w.alloc (.cells zA 26)).alloc (.cells #[.int .u8 10, .int .u8 10] 5 (2, 3))).drewN nd = w1 at *
 simp only at HS hc2
 by_cases h1 : 4096 < hd.length
 ·have t1 : decide (4096 < (hd.length : Int)) = true := decide_eq_true (by omega)
  have t2 : decide (4096 < hd.length) = true := decide_eq_true h1
  obtain rfl : r = (ask0, 17) := by
   have := hR.out
   rw [if_pos h1] at this
   exact this.symm
  go_wp2_with (first
   | (refine wpList_buildTo (o := ⟨some 30, _, _, _, _, _⟩) rfl (some 30) rfl 26 _ rfl zA (by kernel_rfl) ?_; simp only [Act.put, List.setIfInBounds_toArray, List.set_cons_zero, List.set_cons_succ])
   | (refine wpList_store_row rfl 26 (.tmp 2) (.tmp 30) rfl w.heap.size zA rfl rfl 26 zA K2.out (sizeA A0.out) (sizeAz A0.out) A0.out.one ?_))
  refine bodyPost_ret (results_ct rfl _ _ w.heap.size 26 zA (0, 0) _ rfl (blk_row K2.out zA) hu.out rfl (sizeA A0.out)) rfl ?_
  exact endA 17 B1.out
 ·have t1 : decide (4096 < (hd.length : Int)) = false := decide_eq_false (by omega)
  have t2 : decide (4096 < hd.length) = false := decide_eq_false h1
  have HP := Lib.hid (split_calls 10 (by omega) ⟨#[10]⟩ rfl hd hbt.1 (by omega) w1 (hG.of B1.out))
  have hsb := Lib.hid (fun p hp => split_byt hd.length (Nat.le_refl _) hbt.1 p hp : ∀ p ∈ splitC 10 hd, Byt p)
  have hsl := Lib.hid (fun p hp => split_part hd.length hd (Nat.le_refl _) p hp : ∀ p ∈ splitC 10 hd, p.length ≤ hd.length)
  have hne := split_ne 10 hd
  have hcnt := split_len 10 hd.length hd (Nat.le_refl _)
  replace hR := Lib.hid (by have := hR.out; rw [if_neg h1] at this; exact this)
  generalize splitC 10 hd = l at HP hsb hsl hne hcnt hR
  go_wp2_with fail
  refine HP.out.mono ?_
  rintro e w2 ⟨rfl, hw2⟩
  have B2 : Below w1.heap.size w1 w2 := hw2 ▸ below_alloc (Below.refl _ _) _
  have KR : w2.heap[w1.heap.size]? = some (.cells ((l.map strOfNums).map Value.string).toArray 9 (0, 0)) := hw2 ▸ blk_new w1 _
  replace B1 := Lib.hid (below_step B1.out B2)
  have lt2 := blk_lt K2.out
  have gR : w.heap.size < w1.heap.size := lt2
  replace K2 := Lib.hid (blk_below K2.out B2)
  clear HP hw2 HS
  replace KR := Lib.hid KR
  clear B2
  by_cases h2 : 32 < l.length
  ·have t3 : decide (32 < (l.length : Int)) = true := decide_eq_true (by omega)
   have t4 : decide (32 < l.length) = true := decide_eq_true h2
   obtain rfl : r = (ask0, 17) := by
    have := hR.out
    rw [if_pos h2] at this
    exact this.symm
   go_wp2_with (first
    | (refine wpList_buildTo (o := ⟨some 37, _, _, _, _, _⟩) rfl (some 37) rfl 26 _ rfl zA (by kernel_rfl) ?_; simp only [Act.put, List.setIfInBounds_toArray, List.set_cons_zero, List.set_cons_succ])
    | (refine wpList_store_row rfl 26 (.tmp 2) (.tmp 37) rfl w.heap.size zA rfl rfl 26 zA K2.out (sizeA A0.out) (sizeAz A0.out) A0.out.one ?_))
   refine bodyPost_ret (results_ct rfl _ _ w.heap.size 26 zA (0, 0) _ rfl (blk_row K2.out zA) hu.out rfl (sizeA A0.out)) rfl ?_
   exact endA 17 B1.out
  ·have t3 : decide (32 < (l.length : Int)) = false := decide_eq_false (by omega)
   have t4 : decide (32 < l.length) = false := decide_eq_false h2
   replace hR := Lib.hid (by have := hR.out; rw [if_neg h2] at this; exact this)
   obtain ⟨f, rest, hlr⟩ : ∃ f rest, l = f :: rest := by
    cases l with
    | nil => simp at hne
    | cons f rest => exact ⟨f, rest, rfl⟩
   have c0 : w2.cell? ⟨w1.heap.size, 0, none⟩ = some (.string (strOfNums f)) := (blk_cell KR.out 0).trans (map_str_at l 0 f (by rw [hlr]; rfl))
   have hl0 : 0 < l.length := by omega
   have hl0i : (0 : Int) < (l.length : Int) := by omega
   have hfm : f ∈ l := by rw [hlr]; simp
   have HF := Lib.hid (first_calls f (hsb.out f hfm) (by have := hsl.out f hfm; omega) w2 (hG.of B1.out))
   replace hR := Lib.hid (show (if (firstS f).2 ≠ 0 then (ask0, (firstS f).2) else if (rowsS [] (firstS f).1 rest).2 ≠ 0 then (ask0, (rowsS [] (firstS f).1 rest).2) else endS bd (rowsS [] (firstS f).1 rest).1) = r from by have := hR.out; rw [hlr] at this; exact this)
   replace hlr := Lib.hid hlr
   clear hfm
   have h22 := firstS_x22 f
   generalize firstS f = ff at HF hR h22
   obtain ⟨a0, code⟩ := ff
   simp only at h22
   replace h22 := Lib.hid h22
   go_wp2_with fail
   refine HF.out.mono ?_
   rintro e w3 ⟨cs, rfl, AC, B3⟩
   have hu2 := hu
   have B3' := below_alloc B3 (.cells cs 26)
   have At8 : AskAt (w3.alloc (.cells cs 26)) w3.heap.size a0 := ⟨cs, blk_new w3 _, (AC.step (fun _ h _ => h.elim)).mono (fun _ h => h.elim)⟩
   have GA : GetAt w w.heap.size w3.heap.size w1.heap.size l (w3.alloc (.cells cs 26)) a0 := ⟨blk_below K2.out B3', blk_below KR.out B3', At8, below_step B1.out B3'⟩
   have lt1 := blk_lt KR.out
   have g82 : w.heap.size ≠ w3.heap.size := by have := B3.size; omega
   have g8R : w1.heap.size ≠ w3.heap.size := by have := B3.size; omega
   have hg8 : w.heap.size ≤ w3.heap.size := by have := B3.size; omega
   have K9z := Lib.hid (blk_new w3 (.cells zA 26))
   replace AC := Lib.hid AC
   clear HF At8 B3 B3' K2 KR B1 hcnt c0
   replace GA := Lib.hid GA
   by_cases hcd : code = 0
   ·subst hcd
    replace hR := Lib.hid (show (if (rowsS [] a0 rest).2 ≠ 0 then (ask0, (rowsS [] a0 rest).2) else endS bd (rowsS [] a0 rest).1) = r from by have := hR.out; simpa using this)
    by_cases hn1 : l.length = 1
    ·
     obtain rfl : rest = [] := by
      have := hlr.out
      rw [this] at hn1
      simpa using hn1
     have hE := Lib.hid (show endS bd a0 = r from by have := hR.out; simpa [rowsS] using this)
     have CB := Lib.hid (C2.out _ GA.out.2.2.2)
     clear hR
     go_wp2_with (first
       | (refine wpList_allocA rfl (some 8) rfl 26 rfl zA zA_info _ rfl ?_; simp only [Act.put, List.setIfInBounds_toArray, List.set_cons_zero, List.set_cons_succ])
       | (refine wpList_store_row rfl 26 (.tmp 8) (.tmp 43) rfl w3.heap.size cs rfl rfl 26 zA K9z.out (sizeA AC.out) (sizeAz AC.out) AC.out.one ?_; rw [World.setRow_alloc_new]))
     go_loop [52] (fun s => s = .int .i64 0) (fun _ => 0)
     case atStart => exact rfl
     case round =>
      obtain rfl := hrel
      generalize w3.alloc (.cells cs 26) = W8 at *
      have LT8 := Lib.hid GA.out.2.2.1.lt
      have c8 : W8.cell? ⟨w3.heap.size, 0, none⟩ = some (.int .i64 a0.x0) := GA.out.2.2.1.mem fun cs hc => by
       obtain ⟨v, hv, rfl⟩ := hc.get 0 (by decide)
       exact hv
      by_cases hb0 : bd = []
      ·obtain rfl : r = ({ a0 with x4 := bd }, 0) := by
        have := hE.out
        unfold endS at this
        rw [if_neg (fun h => h.1 hb0)] at this
        exact this.symm
       have t7 : decide (0 < (bd.length : Int)) = false := by rw [hb0]; rfl
       have t8 : decide (0 < bd.length) = false := by rw [hb0]; rfl
       replace hb0 := Lib.hid hb0
       have hx := C_rows (xss := [bd]) (blk_new W8 (.cells #[.slice A2 bd.length c2] 22)) (by simp) (fun j xs hj => by
        match j, hj with
        | 0, hj =>
         obtain rfl : bd = xs := by simpa using hj
         exact ⟨A2, c2, rfl, hc2, Kd.C_alloc CB.out _⟩)
       have HJ := Lib.hid (octet_Join.calls _ _ 1 [bd] bd _ hx (Nat.le_refl _) (join_one_loop bd (by omega)))
       replace GA := Lib.hid (GA.out.below (below_alloc (Below.refl _ _) (.cells #[.slice A2 bd.length c2] 22)))
       clear hx CB
       go_wp2_with fail
       refine HJ.out.mono ?_
       rintro e w9 ⟨v, rfl, Rv, B9⟩
       replace GA := GA.out.below B9
       have lt8 := GA.2.2.1.lt
       have hsz : W8.heap.size + 1 = (W8.alloc (.cells #[.slice A2 bd.length c2] 22)).heap.size := by simp
       obtain ⟨Av, cv, hvv⟩ := Kd.R_slice Rv
       have lt8b := LT8.out
       replace Rv := Kd.R_V (base' := 0) (Kd.R_mono (Kd.R_bound Rv) (fun q hq => show w3.heap.size < q from by have := hq.2.1; omega))
       subst hvv
       obtain ⟨v4, c4, _⟩ := GA.2.2.1.cell 4 (by decide)
       have z4 := GA.2.2.1.frozen 4
       obtain ⟨csF, hbF, hcF⟩ := GA.2.2.1
       have hbG := blk_put hbF 4 (.slice Av bd.length cv) rfl
       have hcG := hcF.put4 (.slice Av bd.length cv) bd Rv
       have hKG := blk_far GA.1 (p := ⟨w3.heap.size, 4, none⟩) g82 (.slice Av bd.length cv)
       have hBG := below_set GA.2.2.2 (j := 4) (v := .slice Av bd.length cv) hg8
       generalize csF.setIfInBounds 4 (.slice Av bd.length cv) = cG at hbG hcG
       replace hcG := Lib.hid hcG
       replace hbG := Lib.hid hbG
       replace hKG := Lib.hid hKG
       replace hBG := Lib.hid hBG
       clear GA Rv hbF hcF HJ B9 hsz lt8b
       go_wp2_with (first
        | (refine wpList_load_row rfl 26 (.tmp 8) rfl w3.heap.size rfl 26 cG (0, 0) _ hbG.out hu.out rfl (sizeA hcG.out) ?_; simp only [Act.put, List.setIfInBounds_toArray, List.set_cons_zero, List.set_cons_succ])
        | (refine wpList_store_row rfl 26 (.tmp 2) (.tmp 106) rfl w.heap.size cG rfl rfl 26 zA hKG.out (sizeA hcG.out) (sizeAz hcG.out) hcG.out.one ?_))
       refine bodyPost_ret (results_ct rfl _ _ w.heap.size 26 cG (0, 0) _ rfl (blk_row hKG.out cG) hu.out rfl (sizeA hcG.out)) rfl ?_
       exact ⟨cG, rfl, ((hcG.out.bound.step (fun k hk hlt => (setRow_other _ _ _ k (by have := hk.1; omega)).trans ((Below.heap_setCell _ _ _ k (show k ≠ w3.heap.size by have := hk.1; omega))))).mono (fun _ _ => trivial)), below_row hBG.out (Nat.le_refl _) cG⟩
      ·have hbp := List.length_pos_iff.2 hb0
       have t7 : decide (0 < (bd.length : Int)) = true := decide_eq_true (by omega)
       have t8 : decide (0 < bd.length) = true := decide_eq_true hbp
       have HBr := fun W2 => Lib.hid (brings_calls a0.x0 W2)
       by_cases hbr : a0.x0 = 5 ∨ a0.x0 = 16
       ·obtain rfl : r = ({ a0 with x4 := bd }, 0) := by
         have := hE.out
         unfold endS at this
         rw [if_neg (fun h => by rcases hbr with h2 | h2; exact h.2.1 h2; exact h.2.2 h2)] at this
         exact this.symm
        rw [show bringsB a0.x0 = true from by unfold bringsB; rcases hbr with h2 | h2 <;> simp [h2]] at HBr
        replace hbr := Lib.hid hbr
        go_wp2_with fail
        refine (HBr _).out.mono ?_
        rintro e w8 ⟨rfl, ⟨nd8, rfl⟩⟩
        replace GA := Lib.hid (GA.out.drewN nd8)
        replace CB := Lib.hid (Kd.C_drewN CB.out nd8)
        clear c8 HBr
        replace LT8 := Lib.hid (show w3.heap.size < (W8.drewN nd8).heap.size from LT8.out)
        generalize W8.drewN nd8 = W9 at *
        have hx := C_rows (xss := [bd]) (blk_new W9 (.cells #[.slice A2 bd.length c2] 22)) (by simp) (fun j xs hj => by
         match j, hj with
         | 0, hj =>
          obtain rfl : bd = xs := by simpa using hj
          exact ⟨A2, c2, rfl, hc2, Kd.C_alloc CB.out _⟩)
        have HJ := Lib.hid (octet_Join.calls _ _ 1 [bd] bd _ hx (Nat.le_refl _) (join_one_loop bd (by omega)))
        replace GA := Lib.hid (GA.out.below (below_alloc (Below.refl _ _) (.cells #[.slice A2 bd.length c2] 22)))
        clear hx CB
        go_wp2_with fail
        refine HJ.out.mono ?_
        rintro e w9 ⟨v, rfl, Rv, B9⟩
        replace GA := GA.out.below B9
        have lt8 := GA.2.2.1.lt
        have hsz : W9.heap.size + 1 = (W9.alloc (.cells #[.slice A2 bd.length c2] 22)).heap.size := by simp
        obtain ⟨Av, cv, hvv⟩ := Kd.R_slice Rv
        have lt8b := LT8.out
        replace Rv := Kd.R_V (base' := 0) (Kd.R_mono (Kd.R_bound Rv) (fun q hq => show w3.heap.size < q from by have := hq.2.1; omega))
        subst hvv
        obtain ⟨v4, c4, _⟩ := GA.2.2.1.cell 4 (by decide)
        have z4 := GA.2.2.1.frozen 4
        obtain ⟨csF, hbF, hcF⟩ := GA.2.2.1
        have hbG := blk_put hbF 4 (.slice Av bd.length cv) rfl
        have hcG := hcF.put4 (.slice Av bd.length cv) bd Rv
        have hKG := blk_far GA.1 (p := ⟨w3.heap.size, 4, none⟩) g82 (.slice Av bd.length cv)
        have hBG := below_set GA.2.2.2 (j := 4) (v := .slice Av bd.length cv) hg8
        generalize csF.setIfInBounds 4 (.slice Av bd.length cv) = cG at hbG hcG
        replace hcG := Lib.hid hcG
        replace hbG := Lib.hid hbG
        replace hKG := Lib.hid hKG
        replace hBG := Lib.hid hBG
        clear GA Rv hbF hcF HJ B9 hsz lt8b
        go_wp2_with (first
         | (refine wpList_load_row rfl 26 (.tmp 8) rfl w3.heap.size rfl 26 cG (0, 0) _ hbG.out hu.out rfl (sizeA hcG.out) ?_; simp only [Act.put, List.setIfInBounds_toArray, List.set_cons_zero, List.set_cons_succ])
         | (refine wpList_store_row rfl 26 (.tmp 2) (.tmp 106) rfl w.heap.size cG rfl rfl 26 zA hKG.out (sizeA hcG.out) (sizeAz hcG.out) hcG.out.one ?_))
        refine bodyPost_ret (results_ct rfl _ _ w.heap.size 26 cG (0, 0) _ rfl (blk_row hKG.out cG) hu.out rfl (sizeA hcG.out)) rfl ?_
        exact ⟨cG, rfl, ((hcG.out.bound.step (fun k hk hlt => (setRow_other _ _ _ k (by have := hk.1; omega)).trans ((Below.heap_setCell _ _ _ k (show k ≠ w3.heap.size by have := hk.1; omega))))).mono (fun _ _ => trivial)), below_row hBG.out (Nat.le_refl _) cG⟩
       ·obtain rfl : r = (ask0, 4) := by
         have := hE.out
         unfold endS at this
         rw [if_pos ⟨hb0, fun h => hbr (.inl h), fun h => hbr (.inr h)⟩] at this
         exact this.symm
        rw [show bringsB a0.x0 = false from by unfold bringsB; simp; exact ⟨fun h => hbr (.inl h), fun h => hbr (.inr h)⟩] at HBr
        replace hbr := Lib.hid hbr
        go_wp2_with fail
        refine (HBr _).out.mono ?_
        rintro e w8 ⟨rfl, ⟨nd8, rfl⟩⟩
        replace GA := Lib.hid (GA.out.drewN nd8)
        clear c8 HBr CB
        have hK2 := Lib.hid GA.out.1
        go_wp2_with (first
         | (refine wpList_buildTo (o := ⟨some 101, _, _, _, _, _⟩) rfl (some 101) rfl 26 _ rfl zA (by kernel_rfl) ?_; simp only [Act.put, List.setIfInBounds_toArray, List.set_cons_zero, List.set_cons_succ])
         | (refine wpList_store_row rfl 26 (.tmp 2) (.tmp 101) rfl w.heap.size zA rfl rfl 26 zA hK2.out (sizeA A0.out) (sizeAz A0.out) A0.out.one ?_))
        refine bodyPost_ret (results_ct rfl _ _ w.heap.size 26 zA (0, 0) _ rfl (blk_row hK2.out zA) hu.out rfl (sizeA A0.out)) rfl ?_
        exact endA 4 GA.out.2.2.2
    ·have hn2 : 2 ≤ l.length := by omega
     go_wp2_with (first
       | (refine wpList_allocA rfl (some 8) rfl 26 rfl zA zA_info _ rfl ?_; simp only [Act.put, List.setIfInBounds_toArray, List.set_cons_zero, List.set_cons_succ])
       | (refine wpList_store_row rfl 26 (.tmp 8) (.tmp 43) rfl w3.heap.size cs rfl rfl 26 zA K9z.out (sizeA AC.out) (sizeAz AC.out) AC.out.one ?_; rw [World.setRow_alloc_new]))
     have hrl : rest.length = l.length - 1 := by rw [hlr.out]; rfl
     replace hsl := Lib.hid (fun p hp => Nat.le_trans (hsl.out p hp) hbl.1 : ∀ p ∈ l, p.length ≤ b.length)
     have hlm : ∀ (j : Nat) (row : List Int), rest[j]? = some row → row ∈ l := fun _ _ h => List.mem_of_getElem? (rows_at l f rest hlr.out _ _ h)
     replace hlm := Lib.hid hlm
     replace hrl := Lib.hid hrl
     have hGw := Lib.hid hG
     generalize w3.alloc (.cells cs 26) = W8 at *
     go_loopw [52] (fun s wr => ∃ (j : Nat) (seen : List (List Int)) (a : AskP), j ≤ rest.length ∧ s = .int .i64 j ∧ Hid (GetAt w w.heap.size w3.heap.size w1.heap.size l wr a) ∧ Hid (rowsS [] a0 rest = rowsS seen a (rest.drop j)) ∧ Hid (seen = (rest.take j).map fun r => (cutL [58, 32] r).1) ∧ Hid (∀ r ∈ rest.take j, (cutL [58, 32] r).2.2 = true) ∧ Hid ([108, 105, 115, 116] ∉ seen → a.x22 = [])) (fun s _ => rest.length - (intOf s).toNat)
     case atStart => exact ⟨0, [], a0, Nat.zero_le _, rfl, GA.out, rfl, rfl, fun r hr => by simp at hr, fun _ => h22.out⟩
     case round =>
      obtain ⟨j, seen, a, hj, rfl, GA, hrow, hseen, hfnd, hlist⟩ := hrel
      by_cases hjn : j < rest.length
      ·have hjl : j < l.length - 1 := by have := hrl.out; omega
       have hjli : (j : Int) < ((l.length - 1 : Nat) : Int) := by omega
       obtain ⟨row, hrw⟩ : ∃ row, rest[j]? = some row := ⟨_, List.getElem?_eq_getElem hjn⟩
       have hdrop : rest.drop j = row :: rest.drop (j + 1) := by
        rw [List.drop_eq_getElem_cons hjn]
        rw [List.getElem?_eq_getElem hjn] at hrw
        rw [Option.some.inj hrw]
       have hr1 := hrow.out.trans ((congrArg (rowsS seen a) hdrop).trans (rowsS_cons seen a row (rest.drop (j + 1))))
       have c1 : wr.cell? ⟨w1.heap.size, 1 + j, none⟩ = some (.string (strOfNums row)) := (blk_cell GA.out.2.1 (1 + j)).trans (map_str_at l (1 + j) row (rows_at l f rest hlr.out j row hrw))
       have hrb := hsb.out row (hlm.out _ _ hrw)
       have hrn := hsl.out row (hlm.out _ _ hrw)
       have HCt := Lib.hid (cut_calls [58, 32] ⟨#[58, 32]⟩ rfl (by simp) (by unfold Byt; decide) row hrb (by omega) wr (hGw.out.of GA.out.2.2.2))
       have hcb := cutL_byt (sep := [58, 32]) hrb
       have hcl := cutL_len [58, 32] row
       have htw := seen_iff hseen.out hfnd.out hj (row := row)
       have hstep : (cutL [58, 32] row).2.2 = true → (rest.take (j + 1)).map (fun r => (cutL [58, 32] r).1) = seen ++ [(cutL [58, 32] row).1] ∧ ∀ r ∈ rest.take (j + 1), (cutL [58, 32] r).2.2 = true := fun h => by
        have e : rest.take (j + 1) = rest.take j ++ [row] := by
         rw [List.take_succ_eq_append_getElem hjn]
         rw [List.getElem?_eq_getElem hjn] at hrw
         rw [Option.some.inj hrw]
        rw [e]
        exact ⟨by rw [List.map_append, ← hseen.out]; rfl, fun r hr => by
         rcases List.mem_append.1 hr with hr | hr
         ·exact hfnd.out r hr
         ·rw [List.mem_singleton.1 hr]; exact h⟩
       clear hrow hseen hfnd hdrop
       replace hrw := Lib.hid hrw
       replace hstep := Lib.hid hstep
       replace htw := Lib.hid htw
       replace hr1 := Lib.hid hr1
       replace hcb := Lib.hid hcb
       generalize cutL [58, 32] row = ct at HCt hcb hcl htw hstep hr1
       obtain ⟨word, value, found⟩ := ct
       go_wp2_with fail
       refine HCt.out.mono ?_
       rintro e w4 ⟨rfl, ⟨nd4, rfl⟩⟩
       replace GA := Lib.hid (GA.out.drewN nd4)
       replace hcb := Lib.hid (show Byt word ∧ Byt value from hcb.out)
       replace hcl : word.length ≤ row.length ∧ value.length ≤ row.length := hcl
       clear HCt c1 hrb
       generalize wr.drewN nd4 = W at *
       cases found with
       | false =>
        obtain rfl : r = (ask0, 4) := by
         have h5 := hr1.out
         rw [if_pos rfl] at h5
         have := hR.out
         rw [h5] at this
         exact this.symm
        clear hR hr1
        have hK2 := Lib.hid GA.out.1
        go_wp2_with (first
         | (refine wpList_buildTo (o := ⟨some 65, _, _, _, _, _⟩) rfl (some 65) rfl 26 _ rfl zA (by kernel_rfl) ?_; simp only [Act.put, List.setIfInBounds_toArray, List.set_cons_zero, List.set_cons_succ])
         | (refine wpList_store_row rfl 26 (.tmp 2) (.tmp 65) rfl w.heap.size zA rfl rfl 26 zA hK2.out (sizeA A0.out) (sizeAz A0.out) A0.out.one ?_))
        refine bodyPost_ret (results_ct rfl _ _ w.heap.size 26 zA (0, 0) _ rfl (blk_row hK2.out zA) hu.out rfl (sizeA A0.out)) rfl ?_
        exact endA 4 GA.out.2.2.2
       | true =>
        go_wp2_with fail
        go_loop [71] (fun s => ∃ k : Nat, k ≤ j ∧ s = .int .i64 k ∧ Hid (∀ i r, i < k → rest[i]? = some r → (word ++ [58, 32]).isPrefixOf r = false)) (fun s => j - (intOf s).toNat)
        case atStart => exact ⟨0, Nat.zero_le _, rfl, fun i _ h => by omega⟩
        case round =>
         obtain ⟨k, hk, rfl, hnp⟩ := hrel
         by_cases hkj : k < j
         ·have hkji : (k : Int) < (j : Int) := by omega
          obtain ⟨rk, hrk⟩ : ∃ rk, rest[k]? = some rk := ⟨_, List.getElem?_eq_getElem (by omega)⟩
          have c2 : W.cell? ⟨w1.heap.size, 1 + k, none⟩ = some (.string (strOfNums rk)) := (blk_cell GA.out.2.1 (1 + k)).trans (map_str_at l (1 + k) rk (rows_at l f rest hlr.out k rk hrk))
          have hws : (strOfNums word).size ≤ 800000 := by rw [strOfNums_size]; omega
          have HPr := Lib.hid (pre_calls2 rk word (hsb.out rk (hlm.out _ _ hrk)) hcb.out.1 W)
          cases hpp : (word ++ [58, 32]).isPrefixOf rk with
          | true =>
           rw [hpp] at HPr
           obtain rfl : r = (ask0, 10) := by
            have h6 := (htw.out (by trivial)).2 ⟨k, rk, hkj, hrk, hpp⟩
            have h5 := hr1.out
            rw [if_neg (by simp)] at h5
            rw [if_pos h6] at h5
            have := hR.out
            rw [h5] at this
            exact this.symm
           replace hrk := Lib.hid hrk
           clear hR hr1 hpp
           go_wp2_with fail
           refine HPr.out.mono ?_
           rintro e w5 ⟨rfl, rfl⟩
           have hK2 := Lib.hid GA.out.1
           go_wp2_with (first
            | (refine wpList_buildTo (o := ⟨some 79, _, _, _, _, _⟩) rfl (some 79) rfl 26 _ rfl zA (by kernel_rfl) ?_; simp only [Act.put, List.setIfInBounds_toArray, List.set_cons_zero, List.set_cons_succ])
            | (refine wpList_store_row rfl 26 (.tmp 2) (.tmp 79) rfl w.heap.size zA rfl rfl 26 zA hK2.out (sizeA A0.out) (sizeAz A0.out) A0.out.one ?_))
           refine bodyPost_ret (results_ct rfl _ _ w.heap.size 26 zA (0, 0) _ rfl (blk_row hK2.out zA) hu.out rfl (sizeA A0.out)) rfl ?_
           exact endA 10 GA.out.2.2.2
          | false =>
           rw [hpp] at HPr
           have hnp2 := Lib.hid (fun i r hi hr => by
            by_cases h : i = k
            ·subst h
             rw [hrk] at hr
             obtain rfl := Option.some.inj hr
             exact hpp
            ·exact hnp.out i r (by omega) hr : ∀ i r, i < k + 1 → rest[i]? = some r → (word ++ [58, 32]).isPrefixOf r = false)
           replace hrk := Lib.hid hrk
           clear hpp hnp
           go_wp2_with fail
           refine HPr.out.mono ?_
           rintro e w5 ⟨rfl, rfl⟩
           go_wp2_with fail
           go_round
           case rel => exact ⟨k + 1, by omega, by go_num, hnp2⟩
           case measure => simp [intOf]; omega
         ·have hkji : ¬ (k : Int) < (j : Int) := by omega
          have hns : word ∉ seen := fun hm => by
           obtain ⟨i, r, h1, h2, h3⟩ := (htw.out (by trivial)).1 hm
           rw [hnp.out i r (by omega) h2] at h3
           cases h3
          replace hr1 := Lib.hid (show rowsS [] a0 rest = (if (setS a word value).2 ≠ 0 then (a, (setS a word value).2) else rowsS (seen ++ [word]) (setS a word value).1 (rest.drop (j + 1))) from by
           have h5 := hr1.out
           rw [if_neg (by simp)] at h5
           rw [if_neg hns] at h5
           exact h5)
          have HSet := Lib.hid (set_calls w3.heap.size word value a w W GA.out.2.2.1 GA.out.2.2.2 hg8 hcb.out.1 hcb.out.2 (by omega) hGw.out (fun hw => hlist.out (hw ▸ hns)))
          have hx22 := fun hw => setS_x22 a word value hw
          replace hns := Lib.hid hns
          replace hx22 := Lib.hid hx22
          clear hnp
          generalize hss : setS a word value = ss at HSet hr1 hx22
          obtain ⟨a5, code5⟩ := ss
          simp only at hr1 hx22
          clear hss
          go_wp2_with fail
          refine HSet.out.mono ?_
          rintro e w5 ⟨bb, rfl, hA5, hB5, hk5⟩
          clear HSet
          simp only at hA5
          by_cases hc5 : code5 = 0
          ·subst hc5
           have GA5 := Lib.hid (GA.out.keep hk5 g82 g8R (hA5 rfl) hB5)
           replace hr1 := Lib.hid (show rowsS [] a0 rest = rowsS (seen ++ [word]) a5 (rest.drop (j + 1)) from by have := hr1.out; simpa using this)
           have hl5 := Lib.hid (fun hm => by
            have h1 : word ≠ [108, 105, 115, 116] := fun e => hm (by simp [e])
            rw [hx22.out h1]
            exact hlist.out (fun h2 => hm (by simp [h2])) : [108, 105, 115, 116] ∉ seen ++ [word] → a5.x22 = [])
           clear hA5 hB5 hk5 GA hlist hx22
           go_wp2_with fail
           go_roundw
           case rel => exact ⟨j + 1, seen ++ [word], a5, by omega, by go_num, GA5.out, hr1.out, ((hstep.out (by trivial)).1).symm, (hstep.out (by trivial)).2, hl5.out⟩
           case measure => simp [intOf]; omega
          ·obtain rfl : r = (ask0, code5) := by
            have h5 := hr1.out
            rw [if_pos hc5] at h5
            have := hR.out
            rw [h5] at this
            simp only at this
            rw [if_pos hc5] at this
            exact this.symm
           have t5 : (code5 == 0) = false := by simpa using hc5
           have t6 : (code5 != 0) = true := by simpa using hc5
           have hK5 := hk5.blk GA.out.1 g82 (by simp)
           clear hA5 hk5 hr1 hR
           replace hB5 := Lib.hid hB5
           replace hK5 := Lib.hid hK5
           go_wp2_with (first
            | (refine wpList_buildTo (o := ⟨some 89, _, _, _, _, _⟩) rfl (some 89) rfl 26 _ rfl zA (by kernel_rfl) ?_; simp only [Act.put, List.setIfInBounds_toArray, List.set_cons_zero, List.set_cons_succ])
            | (refine wpList_store_row rfl 26 (.tmp 2) (.tmp 89) rfl w.heap.size zA rfl rfl 26 zA hK5.out (sizeA A0.out) (sizeAz A0.out) A0.out.one ?_))
           refine bodyPost_ret (results_ct rfl _ _ w.heap.size 26 zA (0, 0) _ rfl (blk_row hK5.out zA) hu.out rfl (sizeA A0.out)) rfl ?_
           exact endA code5 hB5.out
      ·have hjl : ¬ j < l.length - 1 := by have := hrl.out; omega
       have hjli : ¬ (j : Int) < ((l.length - 1 : Nat) : Int) := by omega
       have hE : Hid (endS bd a = r) := by
        have h5 := hrow.out
        rw [List.drop_of_length_le (by omega)] at h5
        have := hR.out
        rw [h5] at this
        exact this
       have CB := Lib.hid (C2.out _ GA.out.2.2.2)
       clear hR hrow hseen hfnd hlist
       have LT8 := Lib.hid GA.out.2.2.1.lt
       have c8 : wr.cell? ⟨w3.heap.size, 0, none⟩ = some (.int .i64 a.x0) := GA.out.2.2.1.mem fun cs hc => by
        obtain ⟨v, hv, rfl⟩ := hc.get 0 (by decide)
        exact hv
       by_cases hb0 : bd = []
       ·obtain rfl : r = ({ a with x4 := bd }, 0) := by
         have := hE.out
         unfold endS at this
         rw [if_neg (fun h => h.1 hb0)] at this
         exact this.symm
        have t7 : decide (0 < (bd.length : Int)) = false := by rw [hb0]; rfl
        have t8 : decide (0 < bd.length) = false := by rw [hb0]; rfl
        replace hb0 := Lib.hid hb0
        have hx := C_rows (xss := [bd]) (blk_new wr (.cells #[.slice A2 bd.length c2] 22)) (by simp) (fun j xs hj => by
         match j, hj with
         | 0, hj =>
          obtain rfl : bd = xs := by simpa using hj
          exact ⟨A2, c2, rfl, hc2, Kd.C_alloc CB.out _⟩)
        have HJ := Lib.hid (octet_Join.calls _ _ 1 [bd] bd _ hx (Nat.le_refl _) (join_one_loop bd (by omega)))
        replace GA := Lib.hid (GA.out.below (below_alloc (Below.refl _ _) (.cells #[.slice A2 bd.length c2] 22)))
        clear hx CB
        go_wp2_with fail
        refine HJ.out.mono ?_
        rintro e w9 ⟨v, rfl, Rv, B9⟩
        replace GA := GA.out.below B9
        have lt8 := GA.2.2.1.lt
        have hsz : wr.heap.size + 1 = (wr.alloc (.cells #[.slice A2 bd.length c2] 22)).heap.size := by simp
        obtain ⟨Av, cv, hvv⟩ := Kd.R_slice Rv
        have lt8b := LT8.out
        replace Rv := Kd.R_V (base' := 0) (Kd.R_mono (Kd.R_bound Rv) (fun q hq => show w3.heap.size < q from by have := hq.2.1; omega))
        subst hvv
        obtain ⟨v4, c4, _⟩ := GA.2.2.1.cell 4 (by decide)
        have z4 := GA.2.2.1.frozen 4
        obtain ⟨csF, hbF, hcF⟩ := GA.2.2.1
        have hbG := blk_put hbF 4 (.slice Av bd.length cv) rfl
        have hcG := hcF.put4 (.slice Av bd.length cv) bd Rv
        have hKG := blk_far GA.1 (p := ⟨w3.heap.size, 4, none⟩) g82 (.slice Av bd.length cv)
        have hBG := below_set GA.2.2.2 (j := 4) (v := .slice Av bd.length cv) hg8
        generalize csF.setIfInBounds 4 (.slice Av bd.length cv) = cG at hbG hcG
        replace hcG := Lib.hid hcG
        replace hbG := Lib.hid hbG
        replace hKG := Lib.hid hKG
        replace hBG := Lib.hid hBG
        clear GA Rv hbF hcF HJ B9 hsz lt8b
        go_wp2_with (first
         | (refine wpList_load_row rfl 26 (.tmp 8) rfl w3.heap.size rfl 26 cG (0, 0) _ hbG.out hu.out rfl (sizeA hcG.out) ?_; simp only [Act.put, List.setIfInBounds_toArray, List.set_cons_zero, List.set_cons_succ])
         | (refine wpList_store_row rfl 26 (.tmp 2) (.tmp 106) rfl w.heap.size cG rfl rfl 26 zA hKG.out (sizeA hcG.out) (sizeAz hcG.out) hcG.out.one ?_))
        refine bodyPost_ret (results_ct rfl _ _ w.heap.size 26 cG (0, 0) _ rfl (blk_row hKG.out cG) hu.out rfl (sizeA hcG.out)) rfl ?_
        exact ⟨cG, rfl, ((hcG.out.bound.step (fun k hk hlt => (setRow_other _ _ _ k (by have := hk.1; omega)).trans ((Below.heap_setCell _ _ _ k (show k ≠ w3.heap.size by have := hk.1; omega))))).mono (fun _ _ => trivial)), below_row hBG.out (Nat.le_refl _) cG⟩
       ·have hbp := List.length_pos_iff.2 hb0
        have t7 : decide (0 < (bd.length : Int)) = true := decide_eq_true (by omega)
        have t8 : decide (0 < bd.length) = true := decide_eq_true hbp
        have HBr := fun W2 => Lib.hid (brings_calls a.x0 W2)
        by_cases hbr : a.x0 = 5 ∨ a.x0 = 16
        ·obtain rfl : r = ({ a with x4 := bd }, 0) := by
          have := hE.out
          unfold endS at this
          rw [if_neg (fun h => by rcases hbr with h2 | h2; exact h.2.1 h2; exact h.2.2 h2)] at this
          exact this.symm
         rw [show bringsB a.x0 = true from by unfold bringsB; rcases hbr with h2 | h2 <;> simp [h2]] at HBr
         replace hbr := Lib.hid hbr
         go_wp2_with fail
         refine (HBr _).out.mono ?_
         rintro e w8 ⟨rfl, ⟨nd8, rfl⟩⟩
         replace GA := Lib.hid (GA.out.drewN nd8)
         replace CB := Lib.hid (Kd.C_drewN CB.out nd8)
         clear c8 HBr
         replace LT8 := Lib.hid (show w3.heap.size < (wr.drewN nd8).heap.size from LT8.out)
         generalize wr.drewN nd8 = W9 at *
         have hx := C_rows (xss := [bd]) (blk_new W9 (.cells #[.slice A2 bd.length c2] 22)) (by simp) (fun j xs hj => by
          match j, hj with
          | 0, hj =>
           obtain rfl : bd = xs := by simpa using hj
           exact ⟨A2, c2, rfl, hc2, Kd.C_alloc CB.out _⟩)
         have HJ := Lib.hid (octet_Join.calls _ _ 1 [bd] bd _ hx (Nat.le_refl _) (join_one_loop bd (by omega)))
         replace GA := Lib.hid (GA.out.below (below_alloc (Below.refl _ _) (.cells #[.slice A2 bd.length c2] 22)))
         clear hx CB
         go_wp2_with fail
         refine HJ.out.mono ?_
         rintro e w9 ⟨v, rfl, Rv, B9⟩
         replace GA := GA.out.below B9
         have lt8 := GA.2.2.1.lt
         have hsz : W9.heap.size + 1 = (W9.alloc (.cells #[.slice A2 bd.length c2] 22)).heap.size := by simp
         obtain ⟨Av, cv, hvv⟩ := Kd.R_slice Rv
         have lt8b := LT8.out
         replace Rv := Kd.R_V (base' := 0) (Kd.R_mono (Kd.R_bound Rv) (fun q hq => show w3.heap.size < q from by have := hq.2.1; omega))
         subst hvv
         obtain ⟨v4, c4, _⟩ := GA.2.2.1.cell 4 (by decide)
         have z4 := GA.2.2.1.frozen 4
         obtain ⟨csF, hbF, hcF⟩ := GA.2.2.1
         have hbG := blk_put hbF 4 (.slice Av bd.length cv) rfl
         have hcG := hcF.put4 (.slice Av bd.length cv) bd Rv
         have hKG := blk_far GA.1 (p := ⟨w3.heap.size, 4, none⟩) g82 (.slice Av bd.length cv)
         have hBG := below_set GA.2.2.2 (j := 4) (v := .slice Av bd.length cv) hg8
         generalize csF.setIfInBounds 4 (.slice Av bd.length cv) = cG at hbG hcG
         replace hcG := Lib.hid hcG
         replace hbG := Lib.hid hbG
         replace hKG := Lib.hid hKG
         replace hBG := Lib.hid hBG
         clear GA Rv hbF hcF HJ B9 hsz lt8b
         go_wp2_with (first
          | (refine wpList_load_row rfl 26 (.tmp 8) rfl w3.heap.size rfl 26 cG (0, 0) _ hbG.out hu.out rfl (sizeA hcG.out) ?_; simp only [Act.put, List.setIfInBounds_toArray, List.set_cons_zero, List.set_cons_succ])
          | (refine wpList_store_row rfl 26 (.tmp 2) (.tmp 106) rfl w.heap.size cG rfl rfl 26 zA hKG.out (sizeA hcG.out) (sizeAz hcG.out) hcG.out.one ?_))
         refine bodyPost_ret (results_ct rfl _ _ w.heap.size 26 cG (0, 0) _ rfl (blk_row hKG.out cG) hu.out rfl (sizeA hcG.out)) rfl ?_
         exact ⟨cG, rfl, ((hcG.out.bound.step (fun k hk hlt => (setRow_other _ _ _ k (by have := hk.1; omega)).trans ((Below.heap_setCell _ _ _ k (show k ≠ w3.heap.size by have := hk.1; omega))))).mono (fun _ _ => trivial)), below_row hBG.out (Nat.le_refl _) cG⟩
        ·obtain rfl : r = (ask0, 4) := by
          have := hE.out
          unfold endS at this
          rw [if_pos ⟨hb0, fun h => hbr (.inl h), fun h => hbr (.inr h)⟩] at this
          exact this.symm
         rw [show bringsB a.x0 = false from by unfold bringsB; simp; exact ⟨fun h => hbr (.inl h), fun h => hbr (.inr h)⟩] at HBr
         replace hbr := Lib.hid hbr
         go_wp2_with fail
         refine (HBr _).out.mono ?_
         rintro e w8 ⟨rfl, ⟨nd8, rfl⟩⟩
         replace GA := Lib.hid (GA.out.drewN nd8)
         clear c8 HBr CB
         have hK2 := Lib.hid GA.out.1
         go_wp2_with (first
          | (refine wpList_buildTo (o := ⟨some 101, _, _, _, _, _⟩) rfl (some 101) rfl 26 _ rfl zA (by kernel_rfl) ?_; simp only [Act.put, List.setIfInBounds_toArray, List.set_cons_zero, List.set_cons_succ])
          | (refine wpList_store_row rfl 26 (.tmp 2) (.tmp 101) rfl w.heap.size zA rfl rfl 26 zA hK2.out (sizeA A0.out) (sizeAz A0.out) A0.out.one ?_))
         refine bodyPost_ret (results_ct rfl _ _ w.heap.size 26 zA (0, 0) _ rfl (blk_row hK2.out zA) hu.out rfl (sizeA A0.out)) rfl ?_
         exact endA 4 GA.out.2.2.2
   ·have t5 : (code == 0) = false := by simpa using hcd
    have t6 : (code != 0) = true := by simpa using hcd
    obtain rfl : r = (ask0, code) := by
     have := hR.out
     rw [if_pos hcd] at this
     exact this.symm
    have hK2 := Lib.hid GA.out.1
    go_wp2_with (first
     | (refine wpList_allocA rfl (some 8) rfl 26 rfl zA zA_info _ rfl ?_; simp only [Act.put, List.setIfInBounds_toArray, List.set_cons_zero, List.set_cons_succ])
     | (refine wpList_store_row rfl 26 (.tmp 8) (.tmp 43) rfl w3.heap.size cs rfl rfl 26 zA K9z.out (sizeA AC.out) (sizeAz AC.out) AC.out.one ?_; rw [World.setRow_alloc_new])
     | (refine wpList_buildTo (o := ⟨some 47, _, _, _, _, _⟩) rfl (some 47) rfl 26 _ rfl zA (by kernel_rfl) ?_; simp only [Act.put, List.setIfInBounds_toArray, List.set_cons_zero, List.set_cons_succ])
     | (refine wpList_store_row rfl 26 (.tmp 2) (.tmp 47) rfl w.heap.size zA rfl rfl 26 zA hK2.out (sizeA A0.out) (sizeAz A0.out) A0.out.one ?_))
    refine bodyPost_ret (results_ct rfl _ _ w.heap.size 26 zA (0, 0) _ rfl (blk_row hK2.out zA) hu.out rfl (sizeA A0.out)) rfl ?_
    exact endA code GA.out.2.2.2
end Go.Proofs.YtjkehapbemjnpaaDoor
