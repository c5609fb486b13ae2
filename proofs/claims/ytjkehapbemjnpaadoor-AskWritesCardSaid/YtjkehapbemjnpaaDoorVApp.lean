/- append(b, c...) where b is a string's bytes, just made; each condition stands in its theorem. -/
import Derived.Test.YtjkehapbemjnpaaDoorVRKn
import Derived.Deep.Upon
namespace Go.Proofs.YtjkehapbemjnpaaDoor
open Go.RowKit Go.Proofs.YtjkehapbemjnpaaDoorW.PrintWords Go.Proofs.YtjkehapbemjnpaaDoorW.PrintLast Go.Proofs.YtjkehapbemjnpaaDoorW.PrintMore Lf Kit
set_option linter.unusedVariables false
set_option linter.unusedSimpArgs false
theorem below_sc {B g : Nat} (hg : B ≤ g) : ∀ (vs : List Value) (o : Nat) (w : World), Below B w (w.setCells g o vs)
 | [], o, w => Below.refl _ _
 | v :: vs, o, w => ((Below.refl B w).setCell (p := ⟨g, o, none⟩) hg v).trans (below_sc hg vs (o + 1) _)
theorem cells_C {w : World} {A : Option Addr} {n : Nat} {xs : List Int} (h : Kd.C (Kd.int .u8) w A n xs) : xs.length = n ∧ (0 < n → ∃ ad, A = some ad ∧ ∀ j u, (xs.map (Value.int .u8))[j]? = some u → w.cell? (ad.add j) = some u) := by
 have hr := Kd.reads_of_C (enc := Value.int .u8) (d := (0 : Int)) (h1 := fun _ => rfl) h
 refine ⟨hr.1, fun hn => ?_⟩
 obtain ⟨ad, e, hc⟩ := hr.2.2 hn
 refine ⟨ad, e, fun j u hu => ?_⟩
 rw [List.getElem?_map] at hu
 obtain ⟨x, hx, rfl⟩ := Option.map_eq_some_iff.1 hu
 have hj := (List.getElem?_eq_some_iff.1 hx).1
 rw [hc j (by rw [← hr.1]; exact hj), List.getD_eq_getElem?_getD, hx]
 rfl
theorem C_cells {w : World} {g o n : Nat} {xs : List Int} (hl : xs.length = n) (hb : n ≤ 9223372036854775807) (h : ∀ j, j < n → w.cell? ⟨g, o + j, none⟩ = (xs.map (Value.int .u8))[j]?) : Kd.C (Kd.int .u8) w (some ⟨g, o, none⟩) n xs := by
 refine Kd.C_of_reads (enc := Value.int .u8) (d := (0 : Int)) (h1 := fun _ => rfl) ⟨hl, hb, fun hn => ⟨_, rfl, fun j hj => ?_⟩⟩
 have e : (⟨g, o, none⟩ : Addr).add j = ⟨g, o + j, none⟩ := by
  unfold Addr.add
  split
  ·rename_i h0; rw [h0]; rfl
  ·rfl
 rw [e, h j hj, List.getElem?_map, List.getD_eq_getElem?_getD, List.getElem?_eq_getElem (by rw [hl]; exact hj)]
 rfl
set_option maxRecDepth 100000 in
theorem app_bytes {WB : World} (g n cap : Nat) (L : List Int) (A4 : Option Addr) (m c4 : Nat) (M : List Int) (cur : Array Value) (hb : WB.heap[g]? = some (.cells cur 5 (cap, cap + 1))) (hcur : cur.size = cap) (hle : n ≤ cap) (hmax : cap ≤ maxLen) (h0 : 0 < n)
  (hL : Kd.C (Kd.int .u8) WB (some ⟨g, 0, none⟩) n L) (hM : Kd.C (Kd.int .u8) WB A4 m M) (hlm : n + m ≤ 1000000) (B : Nat) (hB : B ≤ g) (ty : TypeId) :
  ∃ A' c' w', (Builtin.append_ #[22, 22] ty #[.slice (some ⟨g, 0, none⟩) n cap, .slice A4 m c4]).run Tryd.prog WB = .ok (.slice A' (n + m) c') w' ∧ n + m ≤ c' ∧ A' ≠ none ∧ Kd.C (Kd.int .u8) w' A' (n + m) (L ++ M) ∧ Below B WB w' := by
 have hlt := blk_lt hb
 obtain ⟨hLn, hLc⟩ := cells_C hL
 obtain ⟨hMn, hMc⟩ := cells_C hM
 obtain ⟨i, hi, hinf⟩ := Option.map_eq_some_iff.1 info5
 simp only [Prod.mk.injEq] at hinf
 obtain ⟨hz, hs1, hby⟩ := hinf
 obtain ⟨ad0, had, hcell⟩ := hLc h0
 obtain rfl := Option.some.inj had
 have eadd : ∀ j, (⟨g, 0, none⟩ : Addr).add j = ⟨g, 0 + j, none⟩ := fun j => by
  unfold Addr.add
  split
  ·rename_i h0; rw [h0]
  ·rfl
 have hspare : ∀ j, j < (cap - n) * 1 → (WB.cell? ⟨g, 0 + n * 1 + j, none⟩).isSome = true ∧ WB.frozen? ⟨g, 0 + n * 1 + j, none⟩ = false := fun j hj => by
  have hj2 : 0 + n * 1 + j < cap := by omega
  refine ⟨?_, ?_⟩
  ·rw [cell_of_row WB g _ cur 5 _ hb, Array.getElem?_eq_getElem (by omega)]; rfl
  ·simp only [World.frozen?, hb]
   simp
   omega
 have hc : Came WB 1 (some ⟨g, 0, none⟩) g 0 n cap (L.map (Value.int .u8)) :=
  ⟨hle, fun _ => rfl, fun _ => hlt, by rw [List.length_map, hLn, Nat.mul_one], fun j u hu => by rw [← eadd]; exact hcell j u hu, hspare⟩
 have hsrc : Src Tryd.prog 1 22 (.slice A4 m c4) m (M.map (Value.int .u8)) WB := by
  cases A4 with
  | none =>
   have hm : m = 0 := by
    rcases Nat.eq_zero_or_pos m with h | h
    ·exact h
    ·obtain ⟨_, e, _⟩ := hMc h; cases e
   subst hm
   obtain rfl : M = [] := List.eq_nil_of_length_eq_zero hMn
   exact Src.ofNil WB Tryd.underlying22 c4
  | some ad =>
   refine Src.ofSlice WB Tryd.underlying22 ad m c4 _ (by rw [List.length_map, hMn, Nat.mul_one]) (fun j u hu => ?_) (fun u hu => by obtain ⟨_, _, rfl⟩ := List.mem_map.1 hu; rfl)
   rcases Nat.eq_zero_or_pos m with h | h
   ·exfalso
    rw [List.getElem?_map, List.getElem?_eq_none (by omega)] at hu
    cases hu
   ·obtain ⟨ad', e, hcl⟩ := hMc h
    obtain rfl := Option.some.inj e
    exact hcl j u hu
 obtain ⟨v', w', hrun, hU⟩ := run_append_upon hc 22 22 ty i (.int .u8 0) 1 Tryd.underlying22 hi hz hs1 hby rfl (Upon.start hc) (.slice A4 m c4) m (M.map (Value.int .u8)) hsrc (by simp only [maxLen]; omega) (by omega)
 obtain ⟨g', o', cap', hv, hcap, _, hcells⟩ := hU.value hc hmax (.inl (by omega))
 rw [Nat.zero_add] at hv hcap hcells
 rw [hv] at hrun
 refine ⟨_, cap', w', hrun, hcap, by simp, ?_, ?_⟩
 ·refine C_cells (by rw [List.length_append, hLn, hMn]) (Nat.le_trans hlm (by decide)) fun j hj => ?_
  rw [hcells j (by omega), List.nil_append, List.map_append]
 ·have hdone : ∀ x y, (Builtin.append_ #[22, 22] ty #[.slice (some ⟨g, 0, none⟩) n cap, .slice A4 m c4]).run Tryd.prog WB = .ok x y → y = w' := fun x y h => by
   rw [hrun] at h
   exact (Result.ok.inj h).2.symm
  rcases Nat.eq_zero_or_pos m with hm | hm
  ·subst hm
   obtain rfl : M = [] := List.eq_nil_of_length_eq_zero hMn
   have := run_append_nothing WB 22 22 ty 5 i Tryd.underlying22 hi (some ⟨g, 0, none⟩) n cap hle (.slice A4 0 c4) (by rw [hs1]; exact hsrc)
   rw [← hdone _ _ this]
   exact Below.refl _ _
  ·obtain ⟨ad, rfl, hcl⟩ := hMc hm
   by_cases hroom : n + m ≤ cap
   ·have hsp2 : ∀ j, j < (M.map (Value.int .u8)).length → j < (cap - n) * 1 := fun j hj => by rw [List.length_map, hMn] at hj; omega
    have := run_append_room_cells (P := Tryd.prog) WB 22 ty 5 i Tryd.underlying22 hi g 0 n cap ad m c4 (M.map (Value.int .u8)) (by rw [List.length_map, hMn, hs1, Nat.mul_one]) hcl (fun u hu => by obtain ⟨_, _, rfl⟩ := List.mem_map.1 hu; rfl) hroom (fun j hj => by rw [hs1]; exact (hspare j (hsp2 j hj)).1) (fun j hj => by rw [hs1]; exact (hspare j (hsp2 j hj)).2)
    rw [← hdone _ _ this]
    exact below_sc hB _ _ _
   ·have := run_append_grow (P := Tryd.prog) WB 22 ty 5 i (.int .u8 0) Tryd.underlying22 hi hz ⟨g, 0, none⟩ n cap (L.map (Value.int .u8)) (by rw [List.length_map, hLn, hs1, Nat.mul_one]) hcell ad m c4 (M.map (Value.int .u8)) (by rw [List.length_map, hMn, hs1, Nat.mul_one]) hcl (by omega) (by omega) (by
     rw [hby]
     exact growslice_fits (by omega) (by omega))
    rw [← hdone _ _ this]
    exact (below_alloc (below_drew (Below.refl WB.heap.size WB)) _).mono (by omega)
end Go.Proofs.YtjkehapbemjnpaaDoor
