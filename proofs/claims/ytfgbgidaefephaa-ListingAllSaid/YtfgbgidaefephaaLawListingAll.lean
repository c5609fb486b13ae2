/- The row of ListingAll: what came in is opened; the walk is printed, the pure statement is this session's. -/
import Derived.Test.YtfgbgidaefephaaRows
import Derived.Test.YtfgbgidaefephaaQListingAllx4
import Derived.Test.YtfgbgidaefephaaPureListingAll
import Derived.Test.YtfgbgidaefephaaOpen
namespace Go.Proofs.Ytfgbgidaefephaa.listingAll
open Go.ChangeShapes Go.WideShapes Go.ChangeAt Go.RowKit Go.Proofs.YtfgbgidaefephaaW.PrintWords Go.Proofs.Ytfgbgidaefephaa.QListingAll
open Go.ChangeMaps (open_string shut_string)
set_option linter.unusedVariables false
theorem own : ownKnob Try.prog.godebug = none := by kernel_rfl
theorem laidOut : laidOutB Try.prog = true := by kernel_rfl
set_option maxRecDepth 100000 in
theorem lifted (os : Os) (started : os.Started) (H : Type) (enc : TypeId × Value → H) :
    ReturnsInHanded {} Try.checked os 4 .any (Rows.listingAllSpec.pre6 enc Try.prog Try.f4 Rows.listingAllRow.domain false) (Rows.listingAllSpec.post enc Try.prog Try.f4 false true false false) := by
  refine handed_shaped (C := Try.checked) own started (by kernel_rfl) Try.func4
    (ChangeSpec.witness6 (enc := enc) (C := Try.checked) false ⟨#[], #[.slice none 0 0, .string ⟨#[]⟩, .string ⟨#[]⟩, .string ⟨#[]⟩, .int .u8 0], []⟩ 8 (by kernel_rfl) (by kernel_rfl) (by kernel_rfl) (by kernel_rfl)) ?_
  intro W args ds gs before hsh hval0 hW
  have hval : ∀ (j : Nat) t v, Try.f4.params[j]? = some t → args[j]? = some v → ∃ base, Value.okWide Try.prog W .any base t v := fun j t v h1 h2 => (hval0 j t v h1 h2).elim (fun h => ⟨_, h⟩) (fun h => h)
  have hW' := hW
  obtain ⟨p, q, hA0, hV, rfl, hfz, hnd⟩ := hW
  have hA : DataW.TrodAll enc Try.prog W 0 (fun _ => true) true Try.f4.params.toList args.toList ds p := hA0
  rw [Try.params4] at hA hval
  obtain ⟨v0, vs0, d0, ds0, p0, q0, hargs, rfl, rfl, h0, r0⟩ := trodAll_cons hA
  obtain ⟨v1, vs1, d1, ds1, p1, q1, rfl, rfl, rfl, h1, r1⟩ := trodAll_cons r0
  obtain ⟨v2, vs2, d2, ds2, p2, q2, rfl, rfl, rfl, h2, r2⟩ := trodAll_cons r1
  obtain ⟨v3, vs3, d3, ds3, p3, q3, rfl, rfl, rfl, h3, r3⟩ := trodAll_cons r2
  obtain ⟨v4, vs4, d4, ds4, p4, q4, rfl, rfl, rfl, h4, r4⟩ := trodAll_cons r3
  obtain ⟨rfl, rfl, rfl⟩ := trodAll_nil r4
  obtain rfl : args = #[v0, v1, v2, v3, v4] := by cases args; simp_all
  obtain ⟨rfl, rfl⟩ := trodVars_none hV
  obtain ⟨b0, o0⟩ := hval 0 22 v0 rfl rfl
  obtain ⟨a0, len0, cap0, rfl⟩ := okWide_slice Try.underlying22 o0
  have k0 := h0
  have lt0 : ∀ x ∈ p0, x.block < W.heap.size := by obtain ⟨m, hm⟩ := k0; exact DataW.trod_lt m _ _ _ hm
  obtain ⟨l0, rfl, hr0, hc0⟩ := open_texts h0
  obtain ⟨b1, o1⟩ := hval 1 9 v1 rfl rfl
  obtain ⟨a1, rfl, rfl, rfl, y1⟩ := open_string Try.underlying9 o1 h1
  obtain ⟨b2, o2⟩ := hval 2 9 v2 rfl rfl
  obtain ⟨a2, rfl, rfl, rfl, y2⟩ := open_string Try.underlying9 o2 h2
  obtain ⟨b3, o3⟩ := hval 3 9 v3 rfl rfl
  obtain ⟨a3, rfl, rfl, rfl, y3⟩ := open_string Try.underlying9 o3 h3
  obtain ⟨b4, o4⟩ := hval 4 5 v4 rfl rfl
  obtain ⟨a4, rfl, rfl, rfl, w4⟩ := open_int Try.underlying5 o4 h4
  obtain ⟨k, hk⟩ := Pure.ListingAll l0 a1 a2 a3 a4 w4
  refine (deedboxlaw27_ListingAll.calls k a0 cap0 l0 a1 a2 a3 a4 true W hr0 hc0 (GF.shaped hsh) hk).mono fun e W' ⟨he, bel⟩ => ?_
  subst he
  exact ⟨_, rfl, _, _, _, [], _, [], hW', trodAll_mk1 (shut_bool Try.underlying4 _), (trodAll_cons_mk (Below.trod laidOut (by kernel_rfl) (of_decide_eq_true (by kernel_rfl)) k0 bel lt0) (trodAll_cons_mk (shut_string Try.underlying9 y1) (trodAll_cons_mk (shut_string Try.underlying9 y2) (trodAll_cons_mk (shut_string Try.underlying9 y3) (trodAll_cons_mk (shut_int Try.underlying5 w4) trodAll_mk0))))), rfl, bel.frame _, fun h => by cases h⟩
theorem over : Rows.listingAllRow.holds Try.pinned (OpenSpec.ofChange Rows.listingAllSpec) :=
  OpenClaim.holds_of_wide 4 Try.f4 rfl rfl rfl rfl rfl rfl rfl ⟨rfl, rfl, rfl, rfl, rfl⟩ rfl rfl rfl rfl rfl (by kernel_rfl) Try.func4 (by kernel_rfl)
    (of_decide_eq_true (by kernel_rfl)) (by unfold Func.isWrapper; first | (rw [if_pos (by decide +kernel)]; kernel_rfl) | (rw [if_neg (by decide +kernel)]; exact ⟨rfl, rfl⟩))
    (fun os started H enc _ => lifted os started H enc)
theorem proved : Rows.ListingAllSaid := over
#print axioms proved
end Go.Proofs.Ytfgbgidaefephaa.listingAll
namespace Go.Proofs.Ytfgbgidaefephaa
/-- The row, under a short name, for the claim. -/
theorem listingAll_holds : Rows.ListingAllSaid := listingAll.proved
end Go.Proofs.Ytfgbgidaefephaa
