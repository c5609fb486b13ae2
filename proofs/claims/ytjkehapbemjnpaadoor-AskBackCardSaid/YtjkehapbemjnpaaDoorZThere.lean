/- What is put of a request's form is read as it was; no program in sight. -/
import Derived.Test.YtjkehapbemjnpaaDoorZCanon
namespace Go.Proofs.YtjkehapbemjnpaaDoor
open Go.RowKit Go.Proofs.YtjkehapbemjnpaaDoor.Kit Go.Proofs.YtjkehapbemjnpaaDoor.Cut Go.Proofs.YtjkehapbemjnpaaDoor.Pl Go.Proofs.YtjkehapbemjnpaaDoor.Num
set_option linter.unusedVariables false
/-- No two line ends side by side, nor one at the end. -/
def ND : List Int → Prop
  | [] => True
  | [x] => x ≠ 10
  | x :: y :: r => ¬ (x = 10 ∧ y = 10) ∧ ND (y :: r)
theorem cutL_dd (q : List Int) : ∀ {p : List Int}, ND p → cutL [10, 10] (p ++ 10 :: 10 :: q) = (p, q, true)
  | [], _ => by simp [cutL, List.isPrefixOf]
  | [x], h => by
    have hx : x ≠ 10 := h
    have h2 : ((10 : Int) == x) = false := by simpa using Ne.symm hx
    simp [cutL, List.isPrefixOf, h2]
  | x :: y :: r, h => by
    have ih := cutL_dd q (p := y :: r) h.2
    have h2 : (List.isPrefixOf [10, 10] (x :: y :: (r ++ 10 :: 10 :: q))) = false := by
      simp only [List.isPrefixOf, Bool.and_eq_false_iff, beq_eq_false_iff_ne, Bool.and_true]
      by_cases h3 : x = 10
      · exact .inr fun h4 => h.1 ⟨h3, h4.symm⟩
      · exact .inl (Ne.symm h3)
    show cutL [10, 10] (x :: (y :: (r ++ 10 :: 10 :: q))) = _
    have ih2 : cutL [10, 10] (y :: (r ++ 10 :: 10 :: q)) = (y :: r, q, true) := ih
    rw [cutL, if_neg (by rw [h2]; simp), ih2]
theorem ND.of_free : ∀ {p : List Int}, NT p → ND p
  | [], _ => trivial
  | [x], h => by
    intro hx
    subst hx
    exact h (by simp)
  | x :: y :: r, h => ⟨fun hx => h (by rw [hx.1]; simp), ND.of_free (p := y :: r) fun hm => h (List.mem_cons_of_mem _ hm)⟩
theorem ND.row : ∀ {p : List Int} {r : List Int}, p ≠ [] → ND p → r ≠ [] → ND r → r.head? ≠ some 10 → ND (p ++ 10 :: r)
  | [], _, hp, _, _, _, _ => absurd rfl hp
  | [x], [], _, _, hr, _, _ => absurd rfl hr
  | [x], y :: r, _, h, _, h2, h3 => by
    have hx : x ≠ 10 := h
    have hy : y ≠ 10 := fun e => h3 (by rw [e]; rfl)
    exact ⟨fun e => hx e.1, ⟨fun e => hy e.2, h2⟩⟩
  | x :: y :: p, r, _, h, hr, h2, h3 => ⟨h.1, ND.row (p := y :: p) (by simp) h.2 hr h2 h3⟩
/-- Rows, each behind a line end. -/
def rowsC (L : List (List Int)) : List Int := L.flatMap fun r => 10 :: r
theorem ND.rows : ∀ (L : List (List Int)) {p : List Int}, p ≠ [] → ND p → (∀ r ∈ L, NT r ∧ r ≠ []) → ND (p ++ rowsC L)
  | [], p, _, h, _ => by simpa [rowsC] using h
  | r :: L, p, hp, h, hl => by
    obtain ⟨h1, h2⟩ := hl r (by simp)
    have h3 : r.head? ≠ some 10 := fun e => h1 (List.mem_of_mem_head? (by rw [e]; simp))
    have := ND.rows L (p := p ++ 10 :: r) (by simp) (ND.row hp h h2 (ND.of_free h1) h3) (fun x hx => hl x (List.mem_cons_of_mem _ hx))
    simpa [rowsC, List.append_assoc] using this
theorem split_rows : ∀ (L : List (List Int)) {p : List Int}, NT p → (∀ r ∈ L, NT r) → splitC 10 (p ++ rowsC L) = p :: L
  | [], p, h, _ => by
    simp only [rowsC, List.flatMap_nil, List.append_nil]
    exact split_no h
  | r :: L, p, h, hl => by
    have := split_rows L (hl r (by simp)) (fun x hx => hl x (List.mem_cons_of_mem _ hx))
    simp only [rowsC, List.flatMap_cons, List.cons_append] at this ⊢
    rw [split_at _ h, this]
def rowW (p : List Int × List Int) : List (List Int) := if p.2 = [] then [] else [p.1 ++ 58 :: 32 :: p.2]
theorem lines_rows (a : AskP) : linesS a = rowsC ((pairsOf a).flatMap rowW) := by
  unfold linesS rowsC
  rw [List.flatMap_assoc]
  congr 1
  funext p
  unfold rowW rowL
  split
  · rfl
  · simp
/-- One pair after the other is set. -/
inductive Run : AskP → List (List Int × List Int) → AskP → Prop
  | nil (a : AskP) : Run a [] a
  | cons {a a1 a2 : AskP} {w v : List Int} {ps : List (List Int × List Int)} (hw : 58 ∉ w) (hv : v ≠ [] → setS a w v = (a1, 0)) (h0 : v = [] → a = a1) (h : Run a1 ps a2) : Run a ((w, v) :: ps) a2
theorem Run.rows {a a2 : AskP} {ps : List (List Int × List Int)} (h : Run a ps a2) : ∀ (seen : List (List Int)), (ps.map Prod.fst).Nodup → (∀ x ∈ seen, x ∉ ps.map Prod.fst) → rowsS seen a (ps.flatMap rowW) = (a2, 0) := by
  induction h with
  | nil a => intro seen _ _; rfl
  | @cons a a1 a2 w v ps hw hv h0 h ih =>
    intro seen hn hs
    rw [List.map_cons, List.nodup_cons] at hn
    by_cases hq : v = []
    · rw [h0 hq]
      have : ((w, v) :: ps).flatMap rowW = ps.flatMap rowW := by
        rw [List.flatMap_cons]
        simp [rowW, hq]
      rw [this]
      exact ih seen hn.2 fun x hx hm => hs x hx (by simp only [List.map_cons]; exact List.mem_cons_of_mem _ hm)
    · have : ((w, v) :: ps).flatMap rowW = (w ++ 58 :: 32 :: v) :: ps.flatMap rowW := by
        rw [List.flatMap_cons]
        simp [rowW, hq]
      rw [this, rowsS_cons, cutL_two_at v hw]
      have h1 : w ∉ seen := fun hm => hs w hm (by simp)
      have h2 := hv hq
      simp only [h2]
      rw [if_neg (by simp), if_neg h1, if_neg (by simp)]
      refine ih _ hn.2 fun x hx hm => ?_
      rcases List.mem_append.1 hx with hx | hx
      · exact hs x hx (by simp only [List.map_cons]; exact List.mem_cons_of_mem _ hm)
      · rw [List.mem_singleton.1 hx] at hm
        exact hn.1 hm
theorem numO_digits {n : Int} (h : 0 ≤ n) (h2 : n ≤ most) : numO (digits n.toNat) = some n := by
  have h3 := digits_val n.toNat
  have h4 : NumOk (digits n.toNat) most := ⟨digits_num _, by rw [h3]; omega⟩
  unfold numO
  rw [if_pos h4, h3]
  congr 1
  omega
theorem join_cons (x y : List Int) (r : List (List Int)) : joinL (x :: y :: r) = x ++ 44 :: joinL (y :: r) := by
  simp [joinL, List.intercalate, List.intersperse]
theorem split_join : ∀ {L : List (List Int)}, L ≠ [] → (∀ x ∈ L, 44 ∉ x) → splitC 44 (joinL L) = L
  | [], h, _ => absurd rfl h
  | [x], _, h => by
    have : joinL [x] = x := by simp [joinL, List.intercalate, List.intersperse]
    rw [this]
    exact split_no (h x (by simp))
  | x :: y :: r, _, h => by
    rw [join_cons, split_at _ (h x (by simp)), split_join (by simp) (fun z hz => h z (List.mem_cons_of_mem _ hz))]
theorem digits_free (n : Nat) (c : Int) (hc : c < 48) : c ∉ digits n := fun hm => by
  have := digits_dig n c hm
  omega
theorem numsO_digits : ∀ {l : List Int}, (∀ n ∈ l, 0 ≤ n ∧ n ≤ most) → numsO (l.map fun n => digits n.toNat) = some l
  | [], _ => rfl
  | n :: l, h => by
    have h1 := h n (by simp)
    rw [List.map_cons, numsO, numO_digits h1.1 h1.2]
    simp only
    rw [numsO_digits fun m hm => h m (List.mem_cons_of_mem _ hm)]
    rfl
theorem told_ne {n least : Int} (h : told n least ≠ []) : n ≠ least ∧ told n least = digits n.toNat := by
  unfold told at h ⊢
  split
  · rename_i he
    rw [if_pos he] at h
    exact absurd rfl h
  · rename_i he
    exact ⟨he, rfl⟩
theorem told_nil {n least : Int} (h : told n least = []) : n = least := by
  unfold told at h
  split at h
  · assumption
  · exact absurd h (digits_ne _)
theorem join_nil {l : List Int} (h : joinL (l.map fun n => digits n.toNat) = []) : l = [] := by
  cases l with
  | nil => rfl
  | cons n l =>
    exfalso
    cases l with
    | nil =>
      have : joinL [digits n.toNat] = digits n.toNat := by simp [joinL, List.intercalate, List.intersperse]
      rw [List.map_cons, List.map_nil, this] at h
      exact digits_ne _ h
    | cons m l =>
      rw [List.map_cons, List.map_cons, join_cons] at h
      simp at h
theorem run_all {y : AskP} (c : Canon y) (ba : AskB y) : Run ⟨y.x0, y.x1, y.x2, (-1), [], [], [], [], [], [], [], 0, [], [], [], 0, [], [], (-1), [], 0, 0, [], 0⟩ (pairsOf y) ⟨y.x0, y.x1, y.x2, y.x3, [], y.x5, y.x6, y.x7, y.x8, y.x9, y.x10, y.x11, y.x12, y.x13, y.x14, y.x15, y.x16, y.x17, y.x18, y.x19, y.x20, y.x21, y.x22, y.x23⟩ := by
  unfold pairsOf
  refine Run.cons (a1 := ⟨y.x0, y.x1, y.x2, (-1), [], [], y.x6, [], [], [], [], 0, [], [], [], 0, [], [], (-1), [], 0, 0, [], 0⟩) (by decide) ?_ ?_ ?_
  · intro _; rfl
  · intro h; rw [h]
  refine Run.cons (a1 := ⟨y.x0, y.x1, y.x2, (-1), [], [], y.x6, y.x7, [], [], [], 0, [], [], [], 0, [], [], (-1), [], 0, 0, [], 0⟩) (by decide) ?_ ?_ ?_
  · intro _; rfl
  · intro h; rw [h]
  refine Run.cons (a1 := ⟨y.x0, y.x1, y.x2, (-1), [], [], y.x6, y.x7, y.x8, [], [], 0, [], [], [], 0, [], [], (-1), [], 0, 0, [], 0⟩) (by decide) ?_ ?_ ?_
  · intro _; rfl
  · intro h; rw [h]
  refine Run.cons (a1 := ⟨y.x0, y.x1, y.x2, (-1), [], [], y.x6, y.x7, y.x8, [], [], 0, y.x12, [], [], 0, [], [], (-1), [], 0, 0, [], 0⟩) (by decide) ?_ ?_ ?_
  · intro _; rfl
  · intro h; rw [h]
  refine Run.cons (a1 := ⟨y.x0, y.x1, y.x2, (-1), [], [], y.x6, y.x7, y.x8, [], [], 0, y.x12, y.x13, [], 0, [], [], (-1), [], 0, 0, [], 0⟩) (by decide) ?_ ?_ ?_
  · intro _; rfl
  · intro h; rw [h]
  refine Run.cons (a1 := ⟨y.x0, y.x1, y.x2, (-1), [], [], y.x6, y.x7, y.x8, [], [], 0, y.x12, y.x13, y.x14, 0, [], [], (-1), [], 0, 0, [], 0⟩) (by decide) ?_ ?_ ?_
  · intro _; rfl
  · intro h; rw [h]
  refine Run.cons (a1 := ⟨y.x0, y.x1, y.x2, (-1), [], y.x5, y.x6, y.x7, y.x8, [], [], 0, y.x12, y.x13, y.x14, 0, [], [], (-1), [], 0, 0, [], 0⟩) (by decide) ?_ ?_ ?_
  · intro _
    unfold setS
    rw [show findW tL _ = none from by decide]
    simp only
    rw [show findW oL _ = some 0 from by decide]
    simp only
    rw [Six.dec_enc ba.b5.1]
    rfl
  · intro h; rw [(enc_nil_iff _).1 h]
  refine Run.cons (a1 := ⟨y.x0, y.x1, y.x2, (-1), [], y.x5, y.x6, y.x7, y.x8, y.x9, [], 0, y.x12, y.x13, y.x14, 0, [], [], (-1), [], 0, 0, [], 0⟩) (by decide) ?_ ?_ ?_
  · intro _
    unfold setS
    rw [show findW tL _ = none from by decide]
    simp only
    rw [show findW oL _ = some 1 from by decide]
    simp only
    rw [Six.dec_enc ba.b9.1]
    rfl
  · intro h; rw [(enc_nil_iff _).1 h]
  refine Run.cons (a1 := ⟨y.x0, y.x1, y.x2, (-1), [], y.x5, y.x6, y.x7, y.x8, y.x9, y.x10, 0, y.x12, y.x13, y.x14, 0, [], [], (-1), [], 0, 0, [], 0⟩) (by decide) ?_ ?_ ?_
  · intro _
    unfold setS
    rw [show findW tL _ = none from by decide]
    simp only
    rw [show findW oL _ = some 2 from by decide]
    simp only
    rw [Six.dec_enc ba.b10.1]
    rfl
  · intro h; rw [(enc_nil_iff _).1 h]
  refine Run.cons (a1 := ⟨y.x0, y.x1, y.x2, (-1), [], y.x5, y.x6, y.x7, y.x8, y.x9, y.x10, 0, y.x12, y.x13, y.x14, 0, [], [], (-1), y.x19, 0, 0, [], 0⟩) (by decide) ?_ ?_ ?_
  · intro _
    unfold setS
    rw [show findW tL _ = none from by decide]
    simp only
    rw [show findW oL _ = some 3 from by decide]
    simp only
    rw [Six.dec_enc ba.b19.1]
    rfl
  · intro h; rw [(enc_nil_iff _).1 h]
  refine Run.cons (a1 := ⟨y.x0, y.x1, y.x2, y.x3, [], y.x5, y.x6, y.x7, y.x8, y.x9, y.x10, 0, y.x12, y.x13, y.x14, 0, [], [], (-1), y.x19, 0, 0, [], 0⟩) (by decide) ?_ ?_ ?_
  · intro h
    obtain ⟨h1, h2⟩ := told_ne h
    rw [h2]
    unfold setS
    rw [show findW tL _ = none from by decide]
    simp only
    rw [show findW oL _ = none from by decide]
    simp only
    rw [show findW nL _ = some 0 from by decide]
    simp only
    rw [numO_digits (by have := c.c3.1; omega) c.c3.2]
    rfl
  · intro h; rw [told_nil h]
  refine Run.cons (a1 := ⟨y.x0, y.x1, y.x2, y.x3, [], y.x5, y.x6, y.x7, y.x8, y.x9, y.x10, y.x11, y.x12, y.x13, y.x14, 0, [], [], (-1), y.x19, 0, 0, [], 0⟩) (by decide) ?_ ?_ ?_
  · intro h
    obtain ⟨h1, h2⟩ := told_ne h
    rw [h2]
    unfold setS
    rw [show findW tL _ = none from by decide]
    simp only
    rw [show findW oL _ = none from by decide]
    simp only
    rw [show findW nL _ = some 1 from by decide]
    simp only
    rw [numO_digits (by have := c.c11.1; omega) c.c11.2]
    rfl
  · intro h; rw [told_nil h]
  refine Run.cons (a1 := ⟨y.x0, y.x1, y.x2, y.x3, [], y.x5, y.x6, y.x7, y.x8, y.x9, y.x10, y.x11, y.x12, y.x13, y.x14, y.x15, [], [], (-1), y.x19, 0, 0, [], 0⟩) (by decide) ?_ ?_ ?_
  · intro h
    obtain ⟨h1, h2⟩ := told_ne h
    rw [h2]
    unfold setS
    rw [show findW tL _ = none from by decide]
    simp only
    rw [show findW oL _ = none from by decide]
    simp only
    rw [show findW nL _ = some 2 from by decide]
    simp only
    rw [numO_digits (by have := c.c15.1; omega) c.c15.2]
    rfl
  · intro h; rw [told_nil h]
  refine Run.cons (a1 := ⟨y.x0, y.x1, y.x2, y.x3, [], y.x5, y.x6, y.x7, y.x8, y.x9, y.x10, y.x11, y.x12, y.x13, y.x14, y.x15, [], [], y.x18, y.x19, 0, 0, [], 0⟩) (by decide) ?_ ?_ ?_
  · intro h
    obtain ⟨h1, h2⟩ := told_ne h
    rw [h2]
    unfold setS
    rw [show findW tL _ = none from by decide]
    simp only
    rw [show findW oL _ = none from by decide]
    simp only
    rw [show findW nL _ = some 3 from by decide]
    simp only
    rw [numO_digits (by have := c.c18.1; omega) c.c18.2]
    rfl
  · intro h; rw [told_nil h]
  refine Run.cons (a1 := ⟨y.x0, y.x1, y.x2, y.x3, [], y.x5, y.x6, y.x7, y.x8, y.x9, y.x10, y.x11, y.x12, y.x13, y.x14, y.x15, [], [], y.x18, y.x19, y.x20, 0, [], 0⟩) (by decide) ?_ ?_ ?_
  · intro h
    obtain ⟨h1, h2⟩ := told_ne h
    rw [h2]
    unfold setS
    rw [show findW tL _ = none from by decide]
    simp only
    rw [show findW oL _ = none from by decide]
    simp only
    rw [show findW nL _ = some 4 from by decide]
    simp only
    rw [numO_digits (by have := c.c20.1; omega) c.c20.2]
    rfl
  · intro h; rw [told_nil h]
  refine Run.cons (a1 := ⟨y.x0, y.x1, y.x2, y.x3, [], y.x5, y.x6, y.x7, y.x8, y.x9, y.x10, y.x11, y.x12, y.x13, y.x14, y.x15, [], [], y.x18, y.x19, y.x20, y.x21, [], 0⟩) (by decide) ?_ ?_ ?_
  · intro h
    obtain ⟨h1, h2⟩ := told_ne h
    rw [h2]
    unfold setS
    rw [show findW tL _ = none from by decide]
    simp only
    rw [show findW oL _ = none from by decide]
    simp only
    rw [show findW nL _ = some 5 from by decide]
    simp only
    rw [numO_digits (by have := c.c21.1; omega) c.c21.2]
    rfl
  · intro h; rw [told_nil h]
  refine Run.cons (a1 := ⟨y.x0, y.x1, y.x2, y.x3, [], y.x5, y.x6, y.x7, y.x8, y.x9, y.x10, y.x11, y.x12, y.x13, y.x14, y.x15, y.x16, y.x17, y.x18, y.x19, y.x20, y.x21, [], 0⟩) (by decide) ?_ ?_ ?_
  · intro h
    have h1 : (if y.x16 = [] ∧ y.x17 = [] then ([] : List Int) else y.x16 ++ 47 :: y.x17) = y.x16 ++ 47 :: y.x17 := by
      split
      · rename_i he
        rw [if_pos he] at h
        exact absurd rfl h
      · rfl
    rw [h1]
    unfold setS
    rw [show findW tL _ = none from by decide]
    simp only
    rw [show findW oL _ = none from by decide]
    simp only
    rw [show findW nL _ = none from by decide]
    simp only
    unfold otherS
    rw [if_pos rfl, cutL_one_at _ c.c16.2]
  · intro h
    split at h
    · rename_i he
      rw [he.1, he.2]
    · simp at h
  refine Run.cons (a1 := ⟨y.x0, y.x1, y.x2, y.x3, [], y.x5, y.x6, y.x7, y.x8, y.x9, y.x10, y.x11, y.x12, y.x13, y.x14, y.x15, y.x16, y.x17, y.x18, y.x19, y.x20, y.x21, y.x22, 0⟩) (by decide) ?_ ?_ ?_
  · intro h
    have hne : y.x22 ≠ [] := fun e => h (by rw [e]; rfl)
    unfold setS
    rw [show findW tL _ = none from by decide]
    simp only
    rw [show findW oL _ = none from by decide]
    simp only
    rw [show findW nL _ = none from by decide]
    simp only
    unfold otherS
    rw [if_neg (by decide), if_pos rfl, split_join (by simpa using hne) (fun x hx => by
      obtain ⟨n, _, rfl⟩ := List.mem_map.1 hx
      exact digits_free _ _ (by decide)), numsO_digits c.c22.1]
    simp only
    rw [if_pos c.c22.2]
  · intro h; rw [join_nil h]
  refine Run.cons (a1 := ⟨y.x0, y.x1, y.x2, y.x3, [], y.x5, y.x6, y.x7, y.x8, y.x9, y.x10, y.x11, y.x12, y.x13, y.x14, y.x15, y.x16, y.x17, y.x18, y.x19, y.x20, y.x21, y.x22, y.x23⟩) (by decide) ?_ ?_ ?_
  · intro h
    have h1 : y.x23 = 1 ∨ y.x23 = 2 := by
      have := c.c23.1
      have := c.c23.2
      have : y.x23 ≠ 0 := fun e => h (by rw [if_pos e])
      omega
    rcases h1 with h1 | h1 <;> rw [h1] <;> rfl
  · intro h
    have : y.x23 = 0 := Decidable.byContradiction fun h1 => by
      rw [if_neg h1] at h
      have h2 : y.x23 = 1 ∨ y.x23 = 2 := by
        have := c.c23.1
        have := c.c23.2
        omega
      rcases h2 with h2 | h2 <;> rw [h2] at h <;> exact absurd h (by decide)
    rw [this]
  exact Run.nil _
theorem NT.app {a b : List Int} (h : NT a) (h2 : NT b) : NT (a ++ b) := fun hm => (List.mem_append.1 hm).elim h h2
theorem NT.cons {x : Int} {b : List Int} (h : x ≠ 10) (h2 : NT b) : NT (x :: b) := fun hm => (List.mem_cons.1 hm).elim (fun e => h e.symm) h2
theorem told_nt (n l : Int) : NT (told n l) := by
  unfold told
  split
  · exact nt0
  · exact digits_free _ _ (by decide)
theorem join_nt : ∀ {L : List (List Int)}, (∀ x ∈ L, NT x) → NT (joinL L)
  | [], _ => nt0
  | [x], h => by
    have : joinL [x] = x := by simp [joinL, List.intercalate, List.intersperse]
    rw [this]
    exact h x (by simp)
  | x :: y :: r, h => by
    rw [join_cons]
    exact (h x (by simp)).app (NT.cons (by decide) (join_nt fun z hz => h z (List.mem_cons_of_mem _ hz)))
theorem word_fact : ∀ k : Fin 20, findW wL.tail (wL.getD (k.1 + 1) []) = some k.1 ∧ 32 ∉ wL.getD (k.1 + 1) [] ∧ 10 ∉ wL.getD (k.1 + 1) [] ∧ wL.getD (k.1 + 1) [] ≠ [] := by decide +kernel
theorem word_at {x : Int} (h : X0 x) : ∃ k : Nat, k < 20 ∧ x = (k : Int) + 1 ∧ wordS x = wL.getD (k + 1) [] := by
  refine ⟨x.toNat - 1, ?_, ?_, ?_⟩
  · have := h.1; have := h.2; omega
  · have := h.1; omega
  · have h1 := h.1
    have h2 := h.2
    unfold wordS
    rw [if_neg (by omega)]
    congr 1
    omega
theorem first_head {y : AskP} (c : Canon y) : firstS (headS y) = (⟨y.x0, y.x1, y.x2, -1, [], [], [], [], [], [], [], 0, [], [], [], 0, [], [], -1, [], 0, 0, [], 0⟩, 0) ∧ NT (headS y) ∧ headS y ≠ [] := by
  obtain ⟨k, hk, hx, hw⟩ := word_at c.c0
  obtain ⟨f1, f2, f3, f4⟩ := word_fact ⟨k, hk⟩
  simp only at f1 f2 f3 f4
  unfold headS
  rw [hw]
  refine ⟨?_, ?_, fun e => f4 (List.append_eq_nil_iff.1 (List.append_eq_nil_iff.1 e).1).1⟩
  · have key : ∀ (t : List Int), cutL [32] t = (wL.getD (k + 1) [], (cutL [32] t).2.1, (cutL [32] t).2.2) → (cutL [47] (cutL [32] t).2.1).1 = y.x1 → (cutL [47] (cutL [32] t).2.1).2.1 = y.x2 → firstS t = (⟨y.x0, y.x1, y.x2, -1, [], [], [], [], [], [], [], 0, [], [], [], 0, [], [], -1, [], 0, 0, [], 0⟩, 0) := fun t h1 h2 h3 => by
      unfold firstS
      rw [h2, h3, h1]
      simp only [f1]
      rw [hx]
      rfl
    by_cases h1 : y.x1 = [] ∧ y.x2 = []
    · rw [if_pos h1, if_pos h1.2, List.append_nil, List.append_nil]
      have hc := cutL_one_no f2
      refine key _ (by rw [hc]) ?_ ?_
      · rw [hc, h1.1]; rfl
      · rw [hc, h1.2]; rfl
    · rw [if_neg h1]
      by_cases h2 : y.x2 = []
      · rw [if_pos h2, List.append_nil]
        have hc := cutL_one_at y.x1 f2
        have hd := cutL_one_no c.c1.2
        refine key _ (by rw [hc]) ?_ ?_
        · rw [hc]; simp only; rw [hd]
        · rw [hc]; simp only; rw [hd, h2]
      · rw [if_neg h2, List.append_assoc]
        have hc := cutL_one_at (y.x1 ++ 47 :: y.x2) f2
        have hd := cutL_one_at y.x2 c.c1.2
        refine key _ (by rw [List.cons_append, hc]) ?_ ?_
        · rw [List.cons_append, hc]; simp only; rw [hd]
        · rw [List.cons_append, hc]; simp only; rw [hd]
  · refine (NT.app (NT.app f3 ?_) ?_)
    · split
      · exact nt0
      · exact NT.cons (by decide) c.c1.1
    · split
      · exact nt0
      · exact NT.cons (by decide) c.c2
theorem L_ten (n : Int) (h : 0 ≤ n) : Six.L n ≠ 10 := by
  unfold Six.L
  repeat' split
  all_goals omega
theorem enc_nt : ∀ {xs : List Int}, Byt xs → NT (Six.enc xs)
  | [], _ => nt0
  | [a], h => by
    have ha := h.cons.1
    exact .cons (L_ten _ (by omega)) (.cons (L_ten _ (by omega)) (.cons (by decide) (.cons (by decide) nt0)))
  | [a, b], h => by
    have ha := h.cons.1
    have hb := h.cons.2.cons.1
    exact .cons (L_ten _ (by omega)) (.cons (L_ten _ (by omega)) (.cons (L_ten _ (by omega)) (.cons (by decide) nt0)))
  | a :: b :: c :: r, h => by
    have ha := h.cons.1
    have hb := h.cons.2.cons.1
    have hc := h.cons.2.cons.2.cons.1
    have ih := enc_nt h.cons.2.cons.2.cons.2
    exact .cons (L_ten _ (by omega)) (.cons (L_ten _ (by omega)) (.cons (L_ten _ (by omega)) (.cons (L_ten _ (by omega)) ih)))
theorem pairs_nt {y : AskP} (c : Canon y) (ba : AskB y) : ∀ p ∈ pairsOf y, NT p.1 ∧ NT p.2 := by
  intro p hp
  unfold pairsOf at hp
  simp only [List.mem_cons, List.not_mem_nil, or_false] at hp
  rcases hp with rfl | rfl | rfl | rfl | rfl | rfl | rfl | rfl | rfl | rfl | rfl | rfl | rfl | rfl | rfl | rfl | rfl | rfl | rfl
  · exact ⟨by simp [NT], c.c6⟩
  · exact ⟨by simp [NT], c.c7⟩
  · exact ⟨by simp [NT], c.c8⟩
  · exact ⟨by simp [NT], c.c12⟩
  · exact ⟨by simp [NT], c.c13⟩
  · exact ⟨by simp [NT], c.c14⟩
  · exact ⟨by simp [NT], enc_nt ba.b5.1⟩
  · exact ⟨by simp [NT], enc_nt ba.b9.1⟩
  · exact ⟨by simp [NT], enc_nt ba.b10.1⟩
  · exact ⟨by simp [NT], enc_nt ba.b19.1⟩
  · exact ⟨by simp [NT], told_nt _ _⟩
  · exact ⟨by simp [NT], told_nt _ _⟩
  · exact ⟨by simp [NT], told_nt _ _⟩
  · exact ⟨by simp [NT], told_nt _ _⟩
  · exact ⟨by simp [NT], told_nt _ _⟩
  · exact ⟨by simp [NT], told_nt _ _⟩
  · refine ⟨by simp [NT], ?_⟩
    simp only
    split
    · exact nt0
    · exact NT.app c.c16.1 (NT.cons (by decide) c.c17)
  · refine ⟨by simp [NT], join_nt fun x hx => ?_⟩
    obtain ⟨n, _, rfl⟩ := List.mem_map.1 hx
    exact digits_free _ _ (by decide)
  · refine ⟨by simp [NT], ?_⟩
    simp only
    split
    · exact nt0
    · have h1 : y.x23 = 1 ∨ y.x23 = 2 := by
        have := c.c23.1
        have := c.c23.2
        omega
      rcases h1 with h1 | h1 <;> rw [h1] <;> (simp [NT, sL])
theorem rowW_len (l : List (List Int × List Int)) : (l.flatMap rowW).length ≤ l.length := by
  induction l with
  | nil => simp
  | cons p l ih =>
    rw [List.flatMap_cons, List.length_append, List.length_cons]
    have : (rowW p).length ≤ 1 := by unfold rowW; split <;> simp
    omega
/-- What is put of a request's form is read as it was, or it is too long. -/
theorem get_back {y : AskP} (c : Canon y) (ba : AskB y) (hx : ¬ (y.x4 ≠ [] ∧ y.x0 ≠ 5 ∧ y.x0 ≠ 16)) : getS (bytesS y) = (y, 0) ∨ getS (bytesS y) = (ask0, 17) := by
  obtain ⟨h1, h2, h3⟩ := first_head c
  have hr : ∀ r ∈ (pairsOf y).flatMap rowW, NT r ∧ r ≠ [] := fun r hr => by
    obtain ⟨p, hp, hq⟩ := List.mem_flatMap.1 hr
    obtain ⟨n1, n2⟩ := pairs_nt c ba p hp
    unfold rowW at hq
    split at hq
    · cases hq
    · rw [List.mem_singleton.1 hq]
      exact ⟨n1.app (NT.cons (by decide) (NT.cons (by decide) n2)), by simp⟩
  have hnd := ND.rows ((pairsOf y).flatMap rowW) h3 (ND.of_free h2) hr
  have hsp := split_rows ((pairsOf y).flatMap rowW) h2 (fun r h => (hr r h).1)
  have hb : bytesS y = (headS y ++ rowsC ((pairsOf y).flatMap rowW)) ++ 10 :: 10 :: y.x4 := by
    unfold bytesS
    rw [lines_rows, List.append_assoc (headS y ++ _)]
    rfl
  have hc := cutL_dd y.x4 hnd
  rw [← hb] at hc
  have hl : ((pairsOf y).flatMap rowW).length ≤ 19 := rowW_len _
  have hrun := (run_all c ba).rows [] (by unfold pairsOf; simp only [List.map_cons, List.map_nil]; decide) (fun x hx => by cases hx)
  unfold getS
  rw [hc]
  simp only
  split
  · exact .inr rfl
  · left
    rw [hsp, if_neg (by simp only [List.length_cons]; omega)]
    simp only [linesGet, h1]
    rw [if_neg (by simp), hrun]
    simp only
    rw [if_neg (by simp)]
    unfold endS
    rw [if_neg hx]
/-- A request that was read can be bytes, unless these are too long. -/
theorem put_back {b : List Int} {y : AskP} (h : getS b = (y, 0)) (ba : AskB y) : putS y = (bytesS y, 0) ∨ (putS y).2 = 17 := by
  obtain ⟨c, hx⟩ := getS_canon b y h
  have hck : checkS y = 0 := by
    obtain ⟨k, hk, hx0, hw⟩ := word_at c.c0
    refine check_yes (by rw [hw]; exact (word_fact ⟨k, hk⟩).2.2.2) c.c23 (fun k hk => ?_) c.c22.1
    match k, hk with
    | 0, _ => exact c.c3
    | 1, _ => exact c.c11
    | 2, _ => exact c.c15
    | 3, _ => exact c.c18
    | 4, _ => exact c.c20
    | 5, _ => exact c.c21
  unfold putS
  rw [if_neg (by simp [hck])]
  unfold backS
  rcases get_back c ba hx with h1 | h1
  · left
    rw [h1]
    simp
  · right
    rw [h1]
    simp
theorem put_get {a : AskP} {x : List Int} (h : putS a = (x, 0)) : getS x = (a, 0) := by
  unfold putS at h
  split at h
  · rename_i h1
    exact absurd (congrArg Prod.snd h) h1
  · unfold backS at h
    split at h
    · rename_i h1
      exact absurd (congrArg Prod.snd h) h1
    · rename_i h1
      split at h
      · rename_i h2
        obtain rfl := congrArg Prod.fst h
        have h3 : (getS (bytesS a)).2 = 0 := Decidable.byContradiction h1
        exact Prod.ext h2.symm h3
      · exact absurd (congrArg Prod.snd h) (by simp)
end Go.Proofs.YtjkehapbemjnpaaDoor
