/- The law AskBack, walked by hand: it tells true; each condition stands in its theorem. -/
import Derived.Test.YtjkehapbemjnpaaDoorZWorks
import Derived.Test.YtjkehapbemjnpaaDoorZLight
import Derived.Test.YtjkehapbemjnpaaDoorZThere
import Derived.Deep.Cut
namespace Go.Proofs.YtjkehapbemjnpaaDoor
open Go.RowKit Go.Proofs.YtjkehapbemjnpaaDoorW.PrintWords Go.Proofs.YtjkehapbemjnpaaDoorW.PrintLast Go.Proofs.YtjkehapbemjnpaaDoorW.PrintMore Go.Proofs.YtjkehapbemjnpaaDoor.Lf Go.Proofs.YtjkehapbemjnpaaDoor.Kit Go.Proofs.YtjkehapbemjnpaaDoor.Cut Go.Proofs.YtjkehapbemjnpaaDoor.Pl Go.Proofs.YtjkehapbemjnpaaDoor.Num
set_option linter.unusedVariables false
set_option linter.unusedSimpArgs false
theorem check_ok {a : AskP} (h : checkS a = 0) : (∀ k, k < 6 → leastN k ≤ a.n k ∧ a.n k ≤ most) ∧ ∀ n ∈ a.x22, 0 ≤ n ∧ n ≤ most := by
  unfold checkS at h
  split at h
  · cases h
  · split at h
    · cases h
    · split at h
      · rename_i q
        obtain ⟨q0, q1, q2, q3, q4, q5, q6⟩ := q
        refine ⟨fun k hk => ?_, q6⟩
        match k, hk with
        | 0, _ => exact q0
        | 1, _ => exact q1
        | 2, _ => exact q2
        | 3, _ => exact q3
        | 4, _ => exact q4
        | 5, _ => exact q5
      · cases h
theorem put_byt {a : AskP} {x : List Int} (sa : AskS a) (h : putS a = (x, 0)) : Byt x ∧ x.length ≤ 70000 := by
  unfold putS at h
  split at h
  · rename_i h1
    exact absurd (congrArg Prod.snd h) h1
  · rename_i h1
    have hc : checkS a = 0 := Decidable.byContradiction h1
    have hx : x = bytesS a := by
      unfold backS at h
      split at h
      · rename_i h2
        exact absurd (congrArg Prod.snd h) h2
      · split at h
        · exact (congrArg Prod.fst h).symm
        · exact absurd (congrArg Prod.snd h) (by simp)
    rw [hx]
    obtain ⟨hn, hl⟩ := check_ok hc
    exact ⟨bytesS_byt sa.b, bytesS_len sa hn hl⟩
theorem wpList_load_rowW {P : Program} {ops : Array Oper} {rest : List Oper} {o : Oper} {a : Act} {w : World} {Q : Exit → Act → World → Prop} (hw : Region.wanted o (yielded ops a.tmps) = true) (ty : TypeId) (x : Operand) (ho : o.op = .load ty x)
    (g : Nat) (hx : a.eval x = .pointer (some ⟨g, 0, none⟩)) (t : TypeId) (cs : Array Value) (fr : Nat × Nat) (d : TypeDesc) (hg : w.heap[g]? = some (.cells cs t fr))
    (hu : P.underlying ty = some d) (hd : (match d with | .struct _ | .array _ _ => true | _ => false) = true) (hi : (P.info? ty).map (·.size) = some cs.size)
    (h : wpList P ops Q rest (a.put o.dst (.agg cs)) w) : wpList P ops Q (o :: rest) a w :=
  BigFrame.wpList_want hw fun _ hK => wp_load_row ty x ho g hx t cs fr d hg hu hd hi (hK _ _ h)
def TrueP (w : World) (e : Ending) (w' : World) : Prop := e = .returned (.bool true) ∧ Below w.heap.size w w'
set_option maxRecDepth 100000 in
set_option maxHeartbeats 8000000 in
theorem AskBack_calls (ca : Array Value) (ok : Nat → Prop) (nl : Prop) (a : AskP) (A : Option Addr) (c : Nat) (b : List Int) (w : World) (hA : AskC w ok nl ca a) {N : Nat} (na : AskN N a) (hr : Kd.C (Kd.int .u8) w A b.length b) (hc : b.length ≤ c) (hn : A = none → c = 0) (hB : Byt b) (hG : GF w) :
    Calls Tryd.prog 5 #[.agg ca, .slice A b.length c] w (TrueP w) := by
  have hu := Tryd.underlying26
  have TW := Lib.hid (OneAt.start hA)
  have HL := Lib.hid (light_calls ca _ _ a _ TW.out.1.2)
  have WK := Lib.hid works_calls
  have hls : lightS a = 0 ∨ lightS a = 1 := by unfold lightS; split <;> simp
  replace hr := Lib.hid hr
  replace hB := Lib.hid hB
  clear hA
  go_enter Tryd.func5, Tryd.ntmps5
  replace hu := Lib.hid hu
  go_wp2_with (refine wpList_load_row (o := ⟨some 15, _, _, _, _, _⟩) rfl 26 (.tmp 2) rfl w.heap.size rfl 26 ca (0, 0) _ TW.out.1.1 hu.out rfl (sizeA TW.out.1.2) ?_; simp only [Act.put, List.setIfInBounds_toArray, List.set_cons_zero, List.set_cons_succ])
  refine HL.out.mono ?_
  rintro e w1 ⟨rfl, F⟩
  replace TW := Lib.hid (TW.out.below F)
  clear HL F
  rcases hls with hl | hl
  · rw [hl]
    by_cases hb : 3000 < b.length
    · have t1 : decide (3000 < b.length) = true := decide_eq_true hb
      have t2 : decide ((3000 : Int) < (b.length : Int)) = true := decide_eq_true (by omega)
      replace hl := Lib.hid hl
      go_wp2_with fail
      refine (WK.out _ (hG.of TW.out.2)).mono ?_
      rintro e w2 ⟨rfl, F⟩
      replace TW := Lib.hid (TW.out.below F)
      clear F
      go_wp2_with fail
      go_ret
      exact ⟨rfl, TW.out.2⟩
    · have t1 : decide (3000 < b.length) = false := decide_eq_false hb
      have t2 : decide ((3000 : Int) < (b.length : Int)) = false := decide_eq_false (by omega)
      have sa := Lib.hid (light_S hl na)
      have ba := sa.out.b
      replace hl := Lib.hid hl
      have HP := put_calls ca _ _ a w1 TW.out.1.2 sa.out (hG.of TW.out.2)
      have hpb := fun x => put_byt (x := x) sa.out
      have hpg := fun x => put_get (a := a) (x := x)
      generalize putS a = pr at HP hpb hpg
      obtain ⟨x, pc⟩ := pr
      replace HP := Lib.hid HP
      go_wp2_with (refine wpList_load_row (o := ⟨some 25, _, _, _, _, _⟩) rfl 26 (.tmp 2) rfl w.heap.size rfl 26 ca (0, 0) _ TW.out.1.1 hu.out rfl (sizeA TW.out.1.2) ?_; simp only [Act.put, List.setIfInBounds_toArray, List.set_cons_zero, List.set_cons_succ])
      refine HP.out.mono ?_
      rintro e w2 ⟨P, cP, rfl, mP, nP, CP, F⟩
      replace TW := Lib.hid (TW.out.below F)
      clear HP F
      simp only at mP CP
      by_cases h0 : pc = 0
      · subst h0
        obtain ⟨xb, xl⟩ := hpb x rfl
        have HG := get_calls P cP x w2 CP mP nP xb (by omega) (hG.of TW.out.2)
        rw [hpg x rfl] at HG
        replace HG := Lib.hid HG
        clear hpb hpg
        go_wp2_with fail
        refine HG.out.mono ?_
        rintro e v ⟨cs3, rfl, AC, D⟩
        have F := below_step D (below_alloc (Below.refl v.heap.size v) (.cells cs3 26))
        replace TW := Lib.hid (TW.out.below F)
        have R3 := Lib.hid (OneAt.start AC).1
        have HS := Lib.hid (rsame_calls ca cs3 _ _ _ _ a a _ TW.out.1.2 R3.out.2 ba ba)
        rw [decide_eq_true rfl] at HS
        have K := Lib.hid (blk_new v (.cells zA 26))
        replace AC := Lib.hid AC
        clear HG D F CP mP nP xb xl
        go_wp2_with (first
          | (refine wpList_allocA rfl (some 7) rfl 26 rfl zA zA_info _ rfl ?_; simp only [Act.put, List.setIfInBounds_toArray, List.set_cons_zero, List.set_cons_succ])
          | (refine wpList_store_row rfl 26 (.tmp 7) (.tmp 34) rfl v.heap.size cs3 rfl rfl 26 zA K.out (sizeA AC.out) (sizeAz AC.out) AC.out.one ?_; rw [World.setRow_alloc_new])
          | (refine wpList_load_rowW (o := ⟨some 39, _, _, _, _, _⟩) rfl 26 (.tmp 2) rfl w.heap.size rfl 26 ca (0, 0) _ TW.out.1.1 hu.out rfl (sizeA TW.out.1.2) ?_; simp only [Act.put, List.setIfInBounds_toArray, List.set_cons_zero, List.set_cons_succ])
          | (refine wpList_load_rowW (o := ⟨some 40, _, _, _, _, _⟩) rfl 26 (.tmp 7) rfl v.heap.size rfl 26 cs3 (0, 0) _ R3.out.1 hu.out rfl (sizeA R3.out.2) ?_; simp only [Act.put, List.setIfInBounds_toArray, List.set_cons_zero, List.set_cons_succ]))
        refine HS.out.mono ?_
        rintro e w3 ⟨rfl, F⟩
        replace TW := Lib.hid (TW.out.below F)
        clear HS F R3 K AC
        go_upto_region 8 with fail
        have HG := get_calls A c b w3 (Kd.C_below hr.out TW.out.2) hc hn hB.out (by omega) (hG.of TW.out.2)
        have hgn := getS_n (N := 3000) b ⟨hB.out, by omega⟩
        have hcan := fun y => getS_canon b y
        have hpb := fun y ba => put_back (b := b) (y := y) (ba := ba)
        generalize getS b = gb at HG hgn hcan hpb
        obtain ⟨y, gc⟩ := gb
        simp only at hgn
        replace HG := Lib.hid HG
        go_wp2_with fail
        refine HG.out.mono ?_
        rintro e v9 ⟨cs9, rfl, AC9, D⟩
        have F := below_step D (below_alloc (Below.refl v9.heap.size v9) (.cells cs9 26))
        replace TW := Lib.hid (TW.out.below F)
        have R9 := Lib.hid (OneAt.start AC9).1
        have K9 := Lib.hid (blk_new v9 (.cells zA 26))
        replace AC9 := Lib.hid AC9
        clear HG D F
        by_cases h9 : gc = 0
        · subst h9
          have by_ := hgn.toB (by decide)
          have c22 := (hcan y rfl).1.c22.2
          have sy := hgn.toS (by omega)
          have hpb := hpb y by_ rfl
          clear hcan
          have hpg := fun x => put_get (a := y) (x := x)
          have HQ := put_calls cs9 _ _ y _ R9.out.2 sy (hG.of TW.out.2)
          have hqb := fun x => put_byt (x := x) sy
          generalize putS y = py at HQ hpb hpg hqb
          obtain ⟨z, zc⟩ := py
          simp only at hpb
          replace HQ := Lib.hid HQ
          go_wp2_with (first
            | (refine wpList_allocA rfl (some 9) rfl 26 rfl zA zA_info _ rfl ?_; simp only [Act.put, List.setIfInBounds_toArray, List.set_cons_zero, List.set_cons_succ])
            | (refine wpList_store_row rfl 26 (.tmp 9) (.tmp 47) rfl v9.heap.size cs9 rfl rfl 26 zA K9.out (sizeA AC9.out) (sizeAz AC9.out) AC9.out.one ?_; rw [World.setRow_alloc_new])
            | (refine wpList_load_row (o := ⟨some 53, _, _, _, _, _⟩) rfl 26 (.tmp 9) rfl v9.heap.size rfl 26 cs9 (0, 0) _ R9.out.1 hu.out rfl (sizeA R9.out.2) ?_; simp only [Act.put, List.setIfInBounds_toArray, List.set_cons_zero, List.set_cons_succ]))
          refine HQ.out.mono ?_
          rintro e w4 ⟨Z, cZ, rfl, mZ, nZ, CZ, F⟩
          replace TW := Lib.hid (TW.out.below F)
          replace R9 := Lib.hid (R9.out.below F)
          simp only at mZ CZ
          clear HQ F K9
          rcases hpb with h7 | h7
          · obtain rfl : zc = 0 := congrArg Prod.snd h7
            obtain ⟨zb, zl⟩ := hqb z rfl
            have HH := get_calls Z cZ z w4 CZ mZ nZ zb (by omega) (hG.of TW.out.2)
            rw [hpg z rfl] at HH
            replace HH := Lib.hid HH
            clear hpg hqb h7
            go_wp2_with fail
            refine HH.out.mono ?_
            rintro e v13 ⟨cs13, rfl, AC13, D⟩
            have F := below_step D (below_alloc (Below.refl v13.heap.size v13) (.cells cs13 26))
            replace TW := Lib.hid (TW.out.below F)
            replace R9 := Lib.hid (R9.out.below F)
            have R13 := Lib.hid (OneAt.start AC13).1
            have HS := rsame_calls cs9 cs13 _ _ _ _ y y _ R9.out.2 R13.out.2 by_ by_
            rw [decide_eq_true rfl] at HS
            replace HS := Lib.hid HS
            have K13 := Lib.hid (blk_new v13 (.cells zA 26))
            replace AC13 := Lib.hid AC13
            clear HH D F CZ mZ nZ zb zl
            go_wp2_with (first
              | (refine wpList_allocA rfl (some 13) rfl 26 rfl zA zA_info _ rfl ?_; simp only [Act.put, List.setIfInBounds_toArray, List.set_cons_zero, List.set_cons_succ])
              | (refine wpList_store_row rfl 26 (.tmp 13) (.tmp 63) rfl v13.heap.size cs13 rfl rfl 26 zA K13.out (sizeA AC13.out) (sizeAz AC13.out) AC13.out.one ?_; rw [World.setRow_alloc_new])
              | (refine wpList_load_rowW (o := ⟨some 72, _, _, _, _, _⟩) rfl 26 (.tmp 9) rfl v9.heap.size rfl 26 cs9 (0, 0) _ R9.out.1 hu.out rfl (sizeA R9.out.2) ?_; simp only [Act.put, List.setIfInBounds_toArray, List.set_cons_zero, List.set_cons_succ])
              | (refine wpList_load_rowW (o := ⟨some 73, _, _, _, _, _⟩) rfl 26 (.tmp 13) rfl v13.heap.size rfl 26 cs13 (0, 0) _ R13.out.1 hu.out rfl (sizeA R13.out.2) ?_; simp only [Act.put, List.setIfInBounds_toArray, List.set_cons_zero, List.set_cons_succ]))
            refine HS.out.mono ?_
            rintro e w5 ⟨rfl, F⟩
            replace TW := Lib.hid (TW.out.below F)
            clear HS F R9 R13 K13 AC13
            go_wp2_with fail
            refine (WK.out _ (hG.of TW.out.2)).mono ?_
            rintro e w6 ⟨rfl, F⟩
            replace TW := Lib.hid (TW.out.below F)
            clear F
            go_wp2_with fail
            go_ret
            exact ⟨rfl, TW.out.2⟩
          · subst h7
            clear hpg hqb CZ mZ nZ
            go_wp2_with fail
            refine (WK.out _ (hG.of TW.out.2)).mono ?_
            rintro e w6 ⟨rfl, F⟩
            replace TW := Lib.hid (TW.out.below F)
            clear F
            go_wp2_with fail
            go_ret
            exact ⟨rfl, TW.out.2⟩
        · have e9 : (gc != 0) = true := by simpa using h9
          have e8 : (gc == 0) = false := by simpa using h9
          replace h9 := Lib.hid h9
          clear hpb hcan hgn
          go_wp2_with (first
            | (refine wpList_allocA rfl (some 9) rfl 26 rfl zA zA_info _ rfl ?_; simp only [Act.put, List.setIfInBounds_toArray, List.set_cons_zero, List.set_cons_succ])
            | (refine wpList_store_row rfl 26 (.tmp 9) (.tmp 47) rfl v9.heap.size cs9 rfl rfl 26 zA K9.out (sizeA AC9.out) (sizeAz AC9.out) AC9.out.one ?_; rw [World.setRow_alloc_new]))
          refine (WK.out _ (hG.of TW.out.2)).mono ?_
          rintro e w6 ⟨rfl, F⟩
          replace TW := Lib.hid (TW.out.below F)
          clear F
          go_wp2_with fail
          go_ret
          exact ⟨rfl, TW.out.2⟩
      · have e1 : (pc == 0) = false := by simpa using h0
        replace h0 := Lib.hid h0
        clear hpb hpg mP nP CP
        generalize w2 = w3 at *
        go_upto_region 8 with fail
        have HG := get_calls A c b w3 (Kd.C_below hr.out TW.out.2) hc hn hB.out (by omega) (hG.of TW.out.2)
        have hgn := getS_n (N := 3000) b ⟨hB.out, by omega⟩
        have hcan := fun y => getS_canon b y
        have hpb := fun y ba => put_back (b := b) (y := y) (ba := ba)
        generalize getS b = gb at HG hgn hcan hpb
        obtain ⟨y, gc⟩ := gb
        simp only at hgn
        replace HG := Lib.hid HG
        go_wp2_with fail
        refine HG.out.mono ?_
        rintro e v9 ⟨cs9, rfl, AC9, D⟩
        have F := below_step D (below_alloc (Below.refl v9.heap.size v9) (.cells cs9 26))
        replace TW := Lib.hid (TW.out.below F)
        have R9 := Lib.hid (OneAt.start AC9).1
        have K9 := Lib.hid (blk_new v9 (.cells zA 26))
        replace AC9 := Lib.hid AC9
        clear HG D F
        by_cases h9 : gc = 0
        · subst h9
          have by_ := hgn.toB (by decide)
          have c22 := (hcan y rfl).1.c22.2
          have sy := hgn.toS (by omega)
          have hpb := hpb y by_ rfl
          clear hcan
          have hpg := fun x => put_get (a := y) (x := x)
          have HQ := put_calls cs9 _ _ y _ R9.out.2 sy (hG.of TW.out.2)
          have hqb := fun x => put_byt (x := x) sy
          generalize putS y = py at HQ hpb hpg hqb
          obtain ⟨z, zc⟩ := py
          simp only at hpb
          replace HQ := Lib.hid HQ
          go_wp2_with (first
            | (refine wpList_allocA rfl (some 9) rfl 26 rfl zA zA_info _ rfl ?_; simp only [Act.put, List.setIfInBounds_toArray, List.set_cons_zero, List.set_cons_succ])
            | (refine wpList_store_row rfl 26 (.tmp 9) (.tmp 47) rfl v9.heap.size cs9 rfl rfl 26 zA K9.out (sizeA AC9.out) (sizeAz AC9.out) AC9.out.one ?_; rw [World.setRow_alloc_new])
            | (refine wpList_load_row (o := ⟨some 53, _, _, _, _, _⟩) rfl 26 (.tmp 9) rfl v9.heap.size rfl 26 cs9 (0, 0) _ R9.out.1 hu.out rfl (sizeA R9.out.2) ?_; simp only [Act.put, List.setIfInBounds_toArray, List.set_cons_zero, List.set_cons_succ]))
          refine HQ.out.mono ?_
          rintro e w4 ⟨Z, cZ, rfl, mZ, nZ, CZ, F⟩
          replace TW := Lib.hid (TW.out.below F)
          replace R9 := Lib.hid (R9.out.below F)
          simp only at mZ CZ
          clear HQ F K9
          rcases hpb with h7 | h7
          · obtain rfl : zc = 0 := congrArg Prod.snd h7
            obtain ⟨zb, zl⟩ := hqb z rfl
            have HH := get_calls Z cZ z w4 CZ mZ nZ zb (by omega) (hG.of TW.out.2)
            rw [hpg z rfl] at HH
            replace HH := Lib.hid HH
            clear hpg hqb h7
            go_wp2_with fail
            refine HH.out.mono ?_
            rintro e v13 ⟨cs13, rfl, AC13, D⟩
            have F := below_step D (below_alloc (Below.refl v13.heap.size v13) (.cells cs13 26))
            replace TW := Lib.hid (TW.out.below F)
            replace R9 := Lib.hid (R9.out.below F)
            have R13 := Lib.hid (OneAt.start AC13).1
            have HS := rsame_calls cs9 cs13 _ _ _ _ y y _ R9.out.2 R13.out.2 by_ by_
            rw [decide_eq_true rfl] at HS
            replace HS := Lib.hid HS
            have K13 := Lib.hid (blk_new v13 (.cells zA 26))
            replace AC13 := Lib.hid AC13
            clear HH D F CZ mZ nZ zb zl
            go_wp2_with (first
              | (refine wpList_allocA rfl (some 13) rfl 26 rfl zA zA_info _ rfl ?_; simp only [Act.put, List.setIfInBounds_toArray, List.set_cons_zero, List.set_cons_succ])
              | (refine wpList_store_row rfl 26 (.tmp 13) (.tmp 63) rfl v13.heap.size cs13 rfl rfl 26 zA K13.out (sizeA AC13.out) (sizeAz AC13.out) AC13.out.one ?_; rw [World.setRow_alloc_new])
              | (refine wpList_load_rowW (o := ⟨some 72, _, _, _, _, _⟩) rfl 26 (.tmp 9) rfl v9.heap.size rfl 26 cs9 (0, 0) _ R9.out.1 hu.out rfl (sizeA R9.out.2) ?_; simp only [Act.put, List.setIfInBounds_toArray, List.set_cons_zero, List.set_cons_succ])
              | (refine wpList_load_rowW (o := ⟨some 73, _, _, _, _, _⟩) rfl 26 (.tmp 13) rfl v13.heap.size rfl 26 cs13 (0, 0) _ R13.out.1 hu.out rfl (sizeA R13.out.2) ?_; simp only [Act.put, List.setIfInBounds_toArray, List.set_cons_zero, List.set_cons_succ]))
            refine HS.out.mono ?_
            rintro e w5 ⟨rfl, F⟩
            replace TW := Lib.hid (TW.out.below F)
            clear HS F R9 R13 K13 AC13
            go_wp2_with fail
            refine (WK.out _ (hG.of TW.out.2)).mono ?_
            rintro e w6 ⟨rfl, F⟩
            replace TW := Lib.hid (TW.out.below F)
            clear F
            go_wp2_with fail
            go_ret
            exact ⟨rfl, TW.out.2⟩
          · subst h7
            clear hpg hqb CZ mZ nZ
            go_wp2_with fail
            refine (WK.out _ (hG.of TW.out.2)).mono ?_
            rintro e w6 ⟨rfl, F⟩
            replace TW := Lib.hid (TW.out.below F)
            clear F
            go_wp2_with fail
            go_ret
            exact ⟨rfl, TW.out.2⟩
        · have e9 : (gc != 0) = true := by simpa using h9
          have e8 : (gc == 0) = false := by simpa using h9
          replace h9 := Lib.hid h9
          clear hpb hcan hgn
          go_wp2_with (first
            | (refine wpList_allocA rfl (some 9) rfl 26 rfl zA zA_info _ rfl ?_; simp only [Act.put, List.setIfInBounds_toArray, List.set_cons_zero, List.set_cons_succ])
            | (refine wpList_store_row rfl 26 (.tmp 9) (.tmp 47) rfl v9.heap.size cs9 rfl rfl 26 zA K9.out (sizeA AC9.out) (sizeAz AC9.out) AC9.out.one ?_; rw [World.setRow_alloc_new]))
          refine (WK.out _ (hG.of TW.out.2)).mono ?_
          rintro e w6 ⟨rfl, F⟩
          replace TW := Lib.hid (TW.out.below F)
          clear F
          go_wp2_with fail
          go_ret
          exact ⟨rfl, TW.out.2⟩
  · rw [hl]
    replace hl := Lib.hid hl
    go_wp2_with fail
    refine (WK.out _ (hG.of TW.out.2)).mono ?_
    rintro e w2 ⟨rfl, F⟩
    replace TW := Lib.hid (TW.out.below F)
    clear F
    go_wp2_with fail
    go_ret
    exact ⟨rfl, TW.out.2⟩
end Go.Proofs.YtjkehapbemjnpaaDoor
