/- What is read of bytes is of the form that can be put; no program in sight. -/
import Derived.Test.YtjkehapbemjnpaaDoorZPutP
namespace Go.Proofs.YtjkehapbemjnpaaDoor
open Go.RowKit Go.Proofs.YtjkehapbemjnpaaDoor.Kit Go.Proofs.YtjkehapbemjnpaaDoor.Cut Go.Proofs.YtjkehapbemjnpaaDoor.Pl Go.Proofs.YtjkehapbemjnpaaDoor.Num
set_option linter.unusedVariables false
def NT (l : List Int) : Prop := 10 ∉ l
def NP (l : List Int) : Prop := 10 ∉ l ∧ 47 ∉ l
def N0 (n : Int) : Prop := 0 ≤ n ∧ n ≤ most
def N1 (n : Int) : Prop := -1 ≤ n ∧ n ≤ most
def X0 (n : Int) : Prop := 1 ≤ n ∧ n ≤ 20
def NL (l : List Int) : Prop := (∀ n ∈ l, 0 ≤ n ∧ n ≤ most) ∧ l.length ≤ 32
def NS (n : Int) : Prop := 0 ≤ n ∧ n ≤ 2
structure Canon (a : AskP) : Prop where
  c0 : X0 a.x0
  c1 : NP a.x1
  c2 : NT a.x2
  c3 : N1 a.x3
  c6 : NT a.x6
  c7 : NT a.x7
  c8 : NT a.x8
  c11 : N0 a.x11
  c12 : NT a.x12
  c13 : NT a.x13
  c14 : NT a.x14
  c15 : N0 a.x15
  c16 : NP a.x16
  c17 : NT a.x17
  c18 : N1 a.x18
  c20 : N0 a.x20
  c21 : N0 a.x21
  c22 : NL a.x22
  c23 : NS a.x23
theorem Canon.w1 {a : AskP} (h : Canon a) {v : List Int} (hv : NP v) : Canon { a with x1 := v } := ⟨h.c0, hv, h.c2, h.c3, h.c6, h.c7, h.c8, h.c11, h.c12, h.c13, h.c14, h.c15, h.c16, h.c17, h.c18, h.c20, h.c21, h.c22, h.c23⟩
theorem Canon.w2 {a : AskP} (h : Canon a) {v : List Int} (hv : NT v) : Canon { a with x2 := v } := ⟨h.c0, h.c1, hv, h.c3, h.c6, h.c7, h.c8, h.c11, h.c12, h.c13, h.c14, h.c15, h.c16, h.c17, h.c18, h.c20, h.c21, h.c22, h.c23⟩
theorem Canon.w3 {a : AskP} (h : Canon a) {v : Int} (hv : N1 v) : Canon { a with x3 := v } := ⟨h.c0, h.c1, h.c2, hv, h.c6, h.c7, h.c8, h.c11, h.c12, h.c13, h.c14, h.c15, h.c16, h.c17, h.c18, h.c20, h.c21, h.c22, h.c23⟩
theorem Canon.w6 {a : AskP} (h : Canon a) {v : List Int} (hv : NT v) : Canon { a with x6 := v } := ⟨h.c0, h.c1, h.c2, h.c3, hv, h.c7, h.c8, h.c11, h.c12, h.c13, h.c14, h.c15, h.c16, h.c17, h.c18, h.c20, h.c21, h.c22, h.c23⟩
theorem Canon.w7 {a : AskP} (h : Canon a) {v : List Int} (hv : NT v) : Canon { a with x7 := v } := ⟨h.c0, h.c1, h.c2, h.c3, h.c6, hv, h.c8, h.c11, h.c12, h.c13, h.c14, h.c15, h.c16, h.c17, h.c18, h.c20, h.c21, h.c22, h.c23⟩
theorem Canon.w8 {a : AskP} (h : Canon a) {v : List Int} (hv : NT v) : Canon { a with x8 := v } := ⟨h.c0, h.c1, h.c2, h.c3, h.c6, h.c7, hv, h.c11, h.c12, h.c13, h.c14, h.c15, h.c16, h.c17, h.c18, h.c20, h.c21, h.c22, h.c23⟩
theorem Canon.w11 {a : AskP} (h : Canon a) {v : Int} (hv : N0 v) : Canon { a with x11 := v } := ⟨h.c0, h.c1, h.c2, h.c3, h.c6, h.c7, h.c8, hv, h.c12, h.c13, h.c14, h.c15, h.c16, h.c17, h.c18, h.c20, h.c21, h.c22, h.c23⟩
theorem Canon.w12 {a : AskP} (h : Canon a) {v : List Int} (hv : NT v) : Canon { a with x12 := v } := ⟨h.c0, h.c1, h.c2, h.c3, h.c6, h.c7, h.c8, h.c11, hv, h.c13, h.c14, h.c15, h.c16, h.c17, h.c18, h.c20, h.c21, h.c22, h.c23⟩
theorem Canon.w13 {a : AskP} (h : Canon a) {v : List Int} (hv : NT v) : Canon { a with x13 := v } := ⟨h.c0, h.c1, h.c2, h.c3, h.c6, h.c7, h.c8, h.c11, h.c12, hv, h.c14, h.c15, h.c16, h.c17, h.c18, h.c20, h.c21, h.c22, h.c23⟩
theorem Canon.w14 {a : AskP} (h : Canon a) {v : List Int} (hv : NT v) : Canon { a with x14 := v } := ⟨h.c0, h.c1, h.c2, h.c3, h.c6, h.c7, h.c8, h.c11, h.c12, h.c13, hv, h.c15, h.c16, h.c17, h.c18, h.c20, h.c21, h.c22, h.c23⟩
theorem Canon.w15 {a : AskP} (h : Canon a) {v : Int} (hv : N0 v) : Canon { a with x15 := v } := ⟨h.c0, h.c1, h.c2, h.c3, h.c6, h.c7, h.c8, h.c11, h.c12, h.c13, h.c14, hv, h.c16, h.c17, h.c18, h.c20, h.c21, h.c22, h.c23⟩
theorem Canon.w16 {a : AskP} (h : Canon a) {v : List Int} (hv : NP v) : Canon { a with x16 := v } := ⟨h.c0, h.c1, h.c2, h.c3, h.c6, h.c7, h.c8, h.c11, h.c12, h.c13, h.c14, h.c15, hv, h.c17, h.c18, h.c20, h.c21, h.c22, h.c23⟩
theorem Canon.w17 {a : AskP} (h : Canon a) {v : List Int} (hv : NT v) : Canon { a with x17 := v } := ⟨h.c0, h.c1, h.c2, h.c3, h.c6, h.c7, h.c8, h.c11, h.c12, h.c13, h.c14, h.c15, h.c16, hv, h.c18, h.c20, h.c21, h.c22, h.c23⟩
theorem Canon.w18 {a : AskP} (h : Canon a) {v : Int} (hv : N1 v) : Canon { a with x18 := v } := ⟨h.c0, h.c1, h.c2, h.c3, h.c6, h.c7, h.c8, h.c11, h.c12, h.c13, h.c14, h.c15, h.c16, h.c17, hv, h.c20, h.c21, h.c22, h.c23⟩
theorem Canon.w20 {a : AskP} (h : Canon a) {v : Int} (hv : N0 v) : Canon { a with x20 := v } := ⟨h.c0, h.c1, h.c2, h.c3, h.c6, h.c7, h.c8, h.c11, h.c12, h.c13, h.c14, h.c15, h.c16, h.c17, h.c18, hv, h.c21, h.c22, h.c23⟩
theorem Canon.w21 {a : AskP} (h : Canon a) {v : Int} (hv : N0 v) : Canon { a with x21 := v } := ⟨h.c0, h.c1, h.c2, h.c3, h.c6, h.c7, h.c8, h.c11, h.c12, h.c13, h.c14, h.c15, h.c16, h.c17, h.c18, h.c20, hv, h.c22, h.c23⟩
theorem Canon.w22 {a : AskP} (h : Canon a) {v : List Int} (hv : NL v) : Canon { a with x22 := v } := ⟨h.c0, h.c1, h.c2, h.c3, h.c6, h.c7, h.c8, h.c11, h.c12, h.c13, h.c14, h.c15, h.c16, h.c17, h.c18, h.c20, h.c21, hv, h.c23⟩
theorem Canon.w23 {a : AskP} (h : Canon a) {v : Int} (hv : NS v) : Canon { a with x23 := v } := ⟨h.c0, h.c1, h.c2, h.c3, h.c6, h.c7, h.c8, h.c11, h.c12, h.c13, h.c14, h.c15, h.c16, h.c17, h.c18, h.c20, h.c21, h.c22, hv⟩
theorem Canon.w4 {a : AskP} (h : Canon a) {v : List Int} : Canon { a with x4 := v } := ⟨h.c0, h.c1, h.c2, h.c3, h.c6, h.c7, h.c8, h.c11, h.c12, h.c13, h.c14, h.c15, h.c16, h.c17, h.c18, h.c20, h.c21, h.c22, h.c23⟩
theorem Canon.w5 {a : AskP} (h : Canon a) {v : List Int} : Canon { a with x5 := v } := ⟨h.c0, h.c1, h.c2, h.c3, h.c6, h.c7, h.c8, h.c11, h.c12, h.c13, h.c14, h.c15, h.c16, h.c17, h.c18, h.c20, h.c21, h.c22, h.c23⟩
theorem Canon.w9 {a : AskP} (h : Canon a) {v : List Int} : Canon { a with x9 := v } := ⟨h.c0, h.c1, h.c2, h.c3, h.c6, h.c7, h.c8, h.c11, h.c12, h.c13, h.c14, h.c15, h.c16, h.c17, h.c18, h.c20, h.c21, h.c22, h.c23⟩
theorem Canon.w10 {a : AskP} (h : Canon a) {v : List Int} : Canon { a with x10 := v } := ⟨h.c0, h.c1, h.c2, h.c3, h.c6, h.c7, h.c8, h.c11, h.c12, h.c13, h.c14, h.c15, h.c16, h.c17, h.c18, h.c20, h.c21, h.c22, h.c23⟩
theorem Canon.w19 {a : AskP} (h : Canon a) {v : List Int} : Canon { a with x19 := v } := ⟨h.c0, h.c1, h.c2, h.c3, h.c6, h.c7, h.c8, h.c11, h.c12, h.c13, h.c14, h.c15, h.c16, h.c17, h.c18, h.c20, h.c21, h.c22, h.c23⟩
theorem NT.cut {sep s : List Int} (h : NT s) : NT (cutL sep s).1 ∧ NT (cutL sep s).2.1 := by
  cases hc : (cutL sep s).2.2 with
  | true =>
    have := cutL_found hc
    unfold NT at *
    rw [this] at h
    simp only [List.mem_append, not_or] at h
    exact ⟨h.1.1, h.2⟩
  | false =>
    obtain ⟨h1, h2⟩ := cutL_not hc
    rw [h1, h2]
    exact ⟨h, by simp [NT]⟩
theorem Canon.tSet {a : AskP} (h : Canon a) (k : Nat) {v : List Int} (hv : NT v) : Canon (a.tSet k v) := by
  unfold AskP.tSet
  split
  · exact h.w6 hv
  · exact h.w7 hv
  · exact h.w8 hv
  · exact h.w12 hv
  · exact h.w13 hv
  · exact h.w14 hv
  · exact h
theorem Canon.oSet {a : AskP} (h : Canon a) (k : Nat) {v : List Int} : Canon (a.oSet k v) := by
  unfold AskP.oSet
  split
  · exact h.w5
  · exact h.w9
  · exact h.w10
  · exact h.w19
  · exact h
theorem N0.n1 {n : Int} (h : N0 n) : N1 n := ⟨by have := h.1; omega, h.2⟩
theorem Canon.nSet {a : AskP} (h : Canon a) (k : Nat) {v : Int} (hv : N0 v) : Canon (a.nSet k v) := by
  unfold AskP.nSet
  split
  · exact h.w3 hv.n1
  · exact h.w11 hv
  · exact h.w15 hv
  · exact h.w18 hv.n1
  · exact h.w20 hv
  · exact h.w21 hv
  · exact h
theorem numO_n0 {s : List Int} {n : Int} (h : numO s = some n) : N0 n := by
  unfold numO at h
  split at h
  · rename_i hq
    obtain rfl := Option.some.inj h
    exact ⟨vfrom_nonneg hq.1.2.1, hq.2⟩
  · cases h
theorem numsO_n0 : ∀ {ps : List (List Int)} {l : List Int}, numsO ps = some l → ∀ n ∈ l, 0 ≤ n ∧ n ≤ most
  | [], l, h => by
    simp only [numsO, Option.some.injEq] at h
    subst h
    intro n hn
    cases hn
  | p :: ps, l, h => by
    unfold numsO at h
    split at h
    · cases h
    · rename_i n hn
      cases hq : numsO ps with
      | none => rw [hq] at h; cases h
      | some l2 =>
        rw [hq] at h
        obtain rfl := Option.some.inj h
        intro m hm
        rcases List.mem_cons.1 hm with rfl | hm
        · exact numO_n0 hn
        · exact numsO_n0 hq m hm
theorem setS_canon {a : AskP} (h : Canon a) (ws : List Int) {v : List Int} (hv : NT v) (h0 : (setS a ws v).2 = 0) : Canon (setS a ws v).1 := by
  unfold setS at h0 ⊢
  split
  · exact h.tSet _ hv
  · split
    · split
      · exact h.oSet _
      · exact h
    · split
      · split
        · rename_i hn
          exact h.nSet _ (numO_n0 hn)
        · exact h
      · unfold otherS
        split
        · exact (h.w16 ⟨hv.cut.1, cutL_one_free _⟩).w17 hv.cut.2
        · split
          · split
            · rename_i l hl
              split
              · rename_i hlen
                exact h.w22 ⟨numsO_n0 hl, hlen⟩
              · exact h
            · exact h
          · split
            · split
              · rename_i k hk
                have := (findW_some hk).1
                have h3 : sL.length = 3 := rfl
                exact h.w23 ⟨by omega, by omega⟩
              · exact h
            · exact h
theorem rowsS_canon : ∀ (l : List (List Int)) (seen : List (List Int)) (a : AskP), Canon a → (∀ r ∈ l, NT r) → (rowsS seen a l).2 = 0 → Canon (rowsS seen a l).1
  | [], seen, a, h, _, _ => h
  | r :: l, seen, a, h, hl, h0 => by
    rw [rowsS_cons] at h0 ⊢
    have hr := hl r (by simp)
    split
    · exact h
    · split
      · exact h
      · split
        · exact h
        · rename_i g1 g2 g3
          rw [if_neg g1, if_neg g2, if_neg g3] at h0
          exact rowsS_canon l _ _ (setS_canon h _ hr.cut.2 (Decidable.byContradiction fun h => g3 h)) (fun x hx => hl x (List.mem_cons_of_mem _ hx)) h0
theorem n00 : N0 0 := ⟨by decide, by decide⟩
theorem n11 : N1 (-1) := ⟨by decide, by decide⟩
theorem nt0 : NT [] := by simp [NT]
theorem np0 : NP [] := by simp [NP]
theorem nl0 : NL [] := ⟨fun n hn => by simp at hn, by decide⟩
theorem ns0 : NS 0 := ⟨by decide, by decide⟩
theorem firstS_canon (f : List Int) (hf : NT f) (h0 : (firstS f).2 = 0) : Canon (firstS f).1 := by
  unfold firstS at h0 ⊢
  split
  · rename_i k hk
    have h1 := (findW_some hk).1
    have h2 : wL.tail.length = 20 := rfl
    have hc := hf.cut (sep := [32])
    have hd := hc.2.cut (sep := [47])
    exact ⟨⟨by simp only; omega, by simp only; omega⟩, ⟨hd.1, cutL_one_free _⟩, hd.2, n11, nt0, nt0, nt0, n00, nt0, nt0, nt0, n00, np0, nt0, n11, n00, n00, nl0, ns0⟩
  · rename_i hk
    simp only [hk] at h0
    exact absurd h0 (by decide)
theorem split_free : ∀ (n : Nat) (t : List Int), t.length ≤ n → ∀ p ∈ splitC 10 t, NT p
  | n, t, hn, p, hp => by
    by_cases h1 : (splitC 10 t).length = 1
    · have := split_one h1
      rw [split_no this] at hp
      rw [List.mem_singleton.1 hp]
      exact this
    · have h2 := split_ne 10 t
      obtain ⟨a, b, ha, rfl, he⟩ := split_two (show 2 ≤ (splitC 10 t).length by omega)
      rw [he] at hp
      rcases List.mem_cons.1 hp with rfl | hp
      · exact ha
      · cases n with
        | zero => simp at hn
        | succ n => exact split_free n b (by simp only [List.length_append, List.length_cons] at hn; omega) p hp
/-- What is read of bytes is of the form that can be put. -/
theorem getS_canon (b : List Int) (y : AskP) (h : getS b = (y, 0)) : Canon y ∧ ¬ (y.x4 ≠ [] ∧ y.x0 ≠ 5 ∧ y.x0 ≠ 16) := by
  unfold getS at h
  split at h
  · cases h
  · split at h
    · cases h
    · have hp := split_free _ (cutL [10, 10] b).1 (Nat.le_refl _)
      generalize splitC 10 (cutL [10, 10] b).1 = l at hp h
      cases l with
      | nil => cases h
      | cons f rest =>
        simp only [linesGet] at h
        by_cases h1 : (firstS f).2 ≠ 0
        · rw [if_pos h1] at h
          exact absurd (congrArg Prod.snd h) h1
        · rw [if_neg h1] at h
          by_cases h2 : (rowsS [] (firstS f).1 rest).2 ≠ 0
          · rw [if_pos h2] at h
            exact absurd (congrArg Prod.snd h) h2
          · rw [if_neg h2] at h
            have hc := rowsS_canon rest [] _ (firstS_canon f (hp f (by simp)) (Decidable.byContradiction h1)) (fun x hx => hp x (List.mem_cons_of_mem _ hx)) (Decidable.byContradiction h2)
            unfold endS at h
            split at h
            · cases h
            · rename_i h3
              obtain rfl := congrArg Prod.fst h
              exact ⟨hc.w4, h3⟩
end Go.Proofs.YtjkehapbemjnpaaDoor
