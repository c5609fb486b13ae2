/- The pure statement of ListingCovers: what the walk tells answers as the chapter says. -/
import Derived.Test.YtfgbgidaefephaaQListingCoversx4
import Derived.Test.YtfgbgidaefephaaLst
namespace Go.Proofs.Ytfgbgidaefephaa.Pure
open Go.RowKit Go.Lib Go.Proofs.Ytfgbgidaefephaa.QListingCovers Go.Proofs.Ytfgbgidaefephaa.Lst Go.Proofs.YtfgbgidaefephaaW.PrintWords Go.Proofs.YtfgbgidaefephaaW.PrintLast
set_option linter.unusedVariables false
set_option linter.unusedSimpArgs false

/-! ### texts as lists -/
theorem Ev.succ {α : Type} {g : Nat → Option α} {r : α} (h : Ev (fun k => g (k + 1)) r) : Ev g r := Ev.step (fun _ => rfl) h
theorem Ev.none_bind {α β : Type} {x : α} {f : Nat → α → Option β} {r : β} (h : Ev (fun k => f k x) r) : Ev (fun k => (some x).bind (f k)) r := h
def mkB (l : Tx) : ByteArray := ⟨l.toArray⟩
def mkL (l : List Tx) : List ByteArray := l.map mkB
theorem mkB_data (l : Tx) : (mkB l).data.toList = l := Eq.trans (b := l.toArray.toList) rfl List.toList_toArray
theorem Ev.fin {α : Type} {g : Nat → Option α} {r : α} (h : ∀ k, g (k + 1) = some r) : Ev g r := Ev.step h (Ev.now _)
theorem Ev.give {α : Type} {g : Nat → Option α} {r : α} (h : ∀ k, g k = some r) : Ev g r := Ev.congr h (Ev.now _)
theorem mkB_of (b : ByteArray) : mkB b.data.toList = b := rfl
theorem mkB_toList (l : Tx) : (mkB l).toList = l := (Go.Lib.toList_data _).trans rfl
theorem mkB_size (l : Tx) : (mkB l).size = l.length := Eq.trans (b := l.toArray.size) rfl List.size_toArray
theorem mkB_cut (l : Tx) (i j : Nat) : (mkB l).extract i j = mkB ((l.drop i).take (j - i)) := by
  have := Go.Lib.extract_data (mkB l) i j
  rw [mkB_data] at this
  rw [← this]
  rfl
theorem mkB_inj {a b : Tx} (h : mkB a = mkB b) : a = b := by rw [← mkB_data a, h, mkB_data]
theorem mkL_len (xs : List Tx) : (mkL xs).length = xs.length := List.length_map ..
theorem mkL_of (l : List ByteArray) : mkL (l.map fun b => b.data.toList) = l := by
  unfold mkL
  rw [List.map_map]
  exact (List.map_congr_left fun b _ => mkB_of b).trans (List.map_id l)
theorem mkL_snoc (xs : List Tx) (x : Tx) : mkL xs ++ [mkB x] = mkL (xs ++ [x]) := by simp [mkL]
theorem mkL_app (xs ys : List Tx) : mkL xs ++ mkL ys = mkL (xs ++ ys) := by simp [mkL]
theorem rd_mkL (xs : List Tx) (i : Int) (h : i.toNat < xs.length) : rdOf ByteArray.empty (mkL xs) i = mkB (xs[i.toNat]'h) := by
  unfold rdOf mkL
  rw [List.getD_eq_getElem?_getD, List.getElem?_map, List.getElem?_eq_getElem h]
  rfl
theorem rd_nat (xs : List Tx) (i : Nat) (h : i < xs.length) : rdOf ByteArray.empty (mkL xs) (i : Int) = mkB xs[i] := rd_mkL xs i h
theorem mkB_nil : (⟨#[]⟩ : ByteArray) = mkB [] := rfl
theorem wr {n : Int} (h0 : -9223372036854775808 ≤ n) (h1 : n ≤ 9223372036854775807) : wrap64 n = n := by unfold wrap64; omega
theorem next_lt {i n : Nat} (h : n < 10000000) (hi : i < n) : wrap64 ((i : Int) + 1) = ((i + 1 : Nat) : Int) := by rw [wr (by omega) (by omega)]; rfl
theorem isPre_take (p s : Tx) : p.isPrefixOf s = (decide (p.length ≤ s.length) && (s.take p.length == p)) := by
  cases h : p.isPrefixOf s with
  | true =>
    obtain ⟨t, rfl⟩ := List.isPrefixOf_iff_prefix.1 h
    simp
  | false =>
    symm
    rw [Bool.and_eq_false_iff]
    by_cases hl : p.length ≤ s.length
    · refine .inr (beq_eq_false_iff_ne.2 fun he => ?_)
      rw [List.isPrefixOf_iff_prefix.2 (he ▸ List.take_prefix _ _)] at h
      cases h
    · exact .inl (decide_eq_false hl)
theorem has_prefix (s p : Tx) : strings_HasPrefix.f (mkB s) (mkB p) = some (p.isPrefixOf s) := by
  unfold strings_HasPrefix.f stringslite_HasPrefix.f
  simp only [mkB_size, mkB_cut, mkB_toList]
  rw [isPre_take]
  by_cases h : p.length ≤ s.length
  · rw [if_pos (by omega), if_pos (by omega), if_pos (by omega)]
    simp [h]
  · rw [if_neg (by omega)]
    simp [h]
theorem cut_prefix (s p : Tx) : strings_CutPrefix.f (mkB s) (mkB p) = some (if p.isPrefixOf s = true then (mkB (s.drop p.length), true) else (mkB s, false)) := by
  have h := has_prefix s p
  unfold strings_HasPrefix.f at h
  have h2 : stringslite_HasPrefix.f (mkB s) (mkB p) = some (p.isPrefixOf s) := by
    cases h3 : stringslite_HasPrefix.f (mkB s) (mkB p) with
    | none => rw [h3] at h; cases h
    | some x => rw [h3] at h; exact h
  unfold strings_CutPrefix.f stringslite_CutPrefix.f
  rw [h2]
  simp only [Option.bind_some, mkB_size, mkB_cut]
  cases hb : p.isPrefixOf s with
  | true =>
    have hl := (List.isPrefixOf_iff_prefix.1 hb).length_le
    rw [if_pos rfl, if_pos (by omega), if_pos (by omega), if_pos rfl]
    simp only [Int.toNat_natCast, Option.bind_some]
    rw [List.take_of_length_le (by simp)]
  | false => simp
theorem group_tell (pfx sign after name : Tx) (most : Int) (hp : pfx.isPrefixOf name = true) (hn : name.length < 1000) (hs : sign.length < 1000) :
    Ev (fun k => listing_Ask_group.f k (mkB pfx) (mkB sign) (mkB after) most (mkB name)) (mkB (grp pfx.length sign name).1, (grp pfx.length sign name).2) := by
  have hpl := (List.isPrefixOf_iff_prefix.1 hp).length_le
  simp only [listing_Ask_group.f, cut_prefix, hp, if_true, Option.bind_some]
  refine Ev.succ ?_
  simp only [listing_Ask_group.j0, mkB_toList, mkB_size, strings_Index.f, mkB_data]
  have h1 : (name.drop pfx.length).length < 4294967281 := by rw [List.length_drop]; omega
  unfold grp
  by_cases h : sign = []
  · simp only [h, beq_self_eq_true, if_true]
    exact Ev.now _
  · have hb : (sign == []) = false := beq_eq_false_iff_ne.2 h
    simp only [hb, Bool.false_eq_true, if_false, h, h1, if_true, Option.bind_some]
    have hge := index_ge (name.drop pfx.length) sign
    have hro := index_room (name.drop pfx.length) sign
    rw [List.length_drop] at hro
    generalize index (name.drop pfx.length) sign = i at *
    by_cases hi : i < 0
    · simp only [hi, if_true]
      exact Ev.now _
    · have hro := hro (by omega)
      simp only [hi, if_false]
      refine Ev.give fun k => ?_
      rw [wr (n := (pfx.length : Int) + i) (by omega) (by omega), wr (by omega) (by omega), if_pos (by omega), if_pos (by omega), mkB_cut]
      simp only [List.drop_zero, Nat.sub_zero]
      rw [show ((pfx.length : Int) + i + (sign.length : Int)).toNat = pfx.length + i.toNat + sign.length by omega]
theorem index_tell (xs : List Tx) (x : Tx) (hl : xs.length < 100000) : ∀ (d i : Nat), i + d = xs.length → ∃ r : Int, Ev (fun k => slices_Index_string_string.l0 k (mkL xs) (mkB x) (xs.length : Int) (i : Int)) r ∧ (0 ≤ r ↔ x ∈ xs.drop i)
  | 0, i, h => by
    refine ⟨-1, Ev.fin fun k => ?_, ?_⟩
    · simp only [slices_Index_string_string.l0]
      rw [if_neg (by omega)]
    · rw [List.drop_eq_nil_of_le (by omega)]
      simp
  | d + 1, i, h => by
    have hi : i < xs.length := by omega
    rw [List.drop_eq_getElem_cons hi]
    by_cases he : x = xs[i]
    · refine ⟨i, Ev.fin fun k => ?_, ?_⟩
      · simp only [slices_Index_string_string.l0, mkL_len]
        rw [if_pos (by omega), if_pos (by omega), if_pos (by omega), rd_nat xs i hi, if_pos (by rw [← he])]
      · rw [← he]
        simp
    · obtain ⟨r, hr, hm⟩ := index_tell xs x hl d (i + 1) (by omega)
      refine ⟨r, Ev.step (fun k => ?_) hr, ?_⟩
      · simp only [slices_Index_string_string.l0, mkL_len]
        rw [if_pos (by omega), if_pos (by omega), if_pos (by omega), rd_nat xs i hi, mkB_toList, mkB_toList, if_neg he, next_lt (n := xs.length) (by omega) hi]
      · rw [hm, List.mem_cons]
        exact ⟨.inr, fun h => h.resolve_left he⟩
theorem contains_tell (xs : List Tx) (x : Tx) (hl : xs.length < 100000) : Ev (fun k => slices_Contains_string_string.f k (mkL xs) (mkB x)) (decide (x ∈ xs)) := by
  obtain ⟨r, hr, hm⟩ := index_tell xs x hl xs.length 0 (by omega)
  unfold slices_Contains_string_string.f slices_Index_string_string.f
  simp only [mkL_len]
  refine Ev.bind hr ?_
  rw [show decide (x ∈ xs) = decide (r ≥ 0) from decide_eq_decide.2 (by rw [ge_iff_le, hm, List.drop_zero])]
  exact Ev.now _
def lastOf (acc : List It) : Tx := (acc.getLast?.map (·.1)).getD []
theorem lastOf_snoc (acc : List It) (x : It) : lastOf (acc ++ [x]) = x.1 := by simp [lastOf]
theorem U_snoc (acc : List It) (x : It) : U (acc ++ [x]) = if x.2 = true then U acc else U acc ++ [x.1] := by
  rcases x with ⟨x, _ | _⟩ <;> simp [U]
theorem P_snoc (acc : List It) (x : It) : P (acc ++ [x]) = if x.2 = true then P acc ++ [x.1] else P acc := by
  rcases x with ⟨x, _ | _⟩ <;> simp [P]
/-- A page, as the walk tells it. -/
def out (r : List It × Bool) : List ByteArray × List ByteArray × ByteArray × Bool := (mkL (U r.1), mkL (P r.1), if r.2 = true then mkB (lastOf r.1) else mkB [], r.2)
section
variable {names : List Tx} {pfx sign after : Tx} {most : Int} {n : Nat}
theorem page_loop (hn : names.length ≤ 60) (hw : ∀ x ∈ names, x.length ≤ 60) (hs : sign.length ≤ 20) (hm : mn (mx most 0) 1000 = (n : Int)) :
    ∀ (l done : List Tx) (acc : List It), names = done ++ l → acc.length ≤ done.length → Inv acc (raws pfx sign after l) →
    Ev (fun k => listing_Page.l0 k (acc.length : Int) (mkB (lastOf acc)) (mkL names) (names.length : Int) (done.length : Int) (mkB pfx) (mkB sign) (mkB after) most (mkL (U acc)) (mkL (P acc)) (mkB []) false) (out (pageGo n (raws pfx sign after l) acc))
  | [], done, acc, he, ha, hi => by
    subst he
    refine Ev.fin fun k => ?_
    simp only [listing_Page.l0, List.append_nil]
    rw [if_neg (by omega)]
    rfl
  | x :: l, done, acc, he, ha, hi => by
    have hlt : done.length < names.length := by rw [he]; simp
    have hx : names[done.length] = x := by simp [he]
    have hmem : x ∈ names := by rw [he]; simp
    have hxl := hw x hmem
    have hnext := next_lt (n := names.length) (by omega) hlt
    have ih := fun (acc : List It) (h1 : acc.length ≤ done.length + 1) (h2 : Inv acc (raws pfx sign after l)) => page_loop hn hw hs hm l (done ++ [x]) acc (by rw [he]; simp) (by simpa using h1) h2
    simp only [List.length_append, List.length_cons, List.length_nil, Nat.zero_add] at ih
    refine Ev.succ ?_
    simp only [listing_Page.l0, mkL_len]
    simp only [if_pos (show (done.length : Int) < (names.length : Int) by omega), if_pos (show (0 : Int) ≤ (done.length : Int) by omega), rd_nat names done.length hlt, hx, has_prefix, Option.bind_some, hnext]
    cases hp : pfx.isPrefixOf x with
    | false =>
      rw [raws_skip hp] at hi ⊢
      exact ih acc (by omega) hi
    | true =>
      simp only [if_true]
      refine Ev.bind (group_tell pfx sign after x most hp (by omega) (by omega)) ?_
      -- the rest behind the group
      have tail : ∀ b : Bool, (b = true → raws pfx sign after (x :: l) = raws pfx sign after l) → (b = false → raws pfx sign after (x :: l) = grp pfx.length sign x :: raws pfx sign after l) →
          Ev (fun k => listing_Page.j1 k (acc.length : Int) (mkB (lastOf acc)) (mkB (grp pfx.length sign x).1) (grp pfx.length sign x).2 (mkL names) (names.length : Int) (done.length : Int) b (mkB pfx) (mkB sign) (mkB after) most (mkL (U acc)) (mkL (P acc)) (mkB []) false) (out (pageGo n (raws pfx sign after (x :: l)) acc)) := by
        intro b hb1 hb2
        refine Ev.succ ?_
        simp only [listing_Page.j1, hnext]
        cases b with
        | true =>
          rw [hb1 rfl] at hi ⊢
          exact ih acc (by omega) hi
        | false =>
          rw [hb2 rfl] at hi ⊢
          generalize hg : grp pfx.length sign x = g at hi ⊢
          have hsh := hi.shared
          have hst := hi.step
          have hU := UP_length acc
          simp only [Bool.false_eq_true, if_false]
          -- behind the check whether it was told already
          have last : ∀ c : Bool, (c = true ↔ g.1 ∈ acc.map (·.1)) → Ev (fun k => listing_Page.j2 k (acc.length : Int) (mkB (lastOf acc)) (mkB g.1) g.2 (mkL names) (names.length : Int) (done.length : Int) c (mkB pfx) (mkB sign) (mkB after) most (mkL (U acc)) (mkL (P acc)) (mkB []) false) (out (pageGo n (g :: raws pfx sign after l) acc)) := by
            intro c hc
            refine Ev.succ ?_
            simp only [listing_Page.j2, hnext, hm, mkL_len]
            unfold pageGo
            cases c with
            | true =>
              have hin := hc.1 rfl
              rw [if_pos hin]
              rw [step_old hin] at hst
              exact ih acc (by omega) hst
            | false =>
              have hin : ¬ g.1 ∈ acc.map (·.1) := fun h => by have := hc.2 h; cases this
              rw [if_neg hin]
              rw [step_new hin] at hst
              simp only [Bool.false_eq_true, if_false]
              by_cases hmo : n ≤ acc.length
              · rw [if_pos hmo]
                simp only [if_pos (show (acc.length : Int) ≥ (n : Int) by omega)]
                exact Ev.give fun k => rfl
              · rw [if_neg hmo]
                simp only [if_neg (show ¬ (acc.length : Int) ≥ (n : Int) by omega), next_lt (n := names.length) (by omega) (show acc.length < names.length by omega), if_pos (show (P acc).length < 8796093022208 by omega), if_pos (show (U acc).length < 8796093022208 by omega), mkL_snoc]
                have := ih (acc ++ [g]) (by simp; omega) hst
                rw [U_snoc, P_snoc, lastOf_snoc, List.length_append, List.length_singleton] at this
                cases h2 : g.2 with
                | true =>
                  rw [h2] at this
                  exact this
                | false =>
                  rw [h2] at this
                  exact this
          cases h2 : g.2 with
          | false =>
            have hin : ¬ g.1 ∈ acc.map (·.1) := fun h => by have := (hsh.1 h).1; rw [h2] at this; cases this
            have := last false ⟨(by intro h; cases h), fun h => absurd h hin⟩
            rw [h2] at this
            exact this
          | true =>
            simp only [if_true]
            refine Ev.bind (contains_tell (P acc) g.1 (by omega)) ?_
            have := last (decide (g.1 ∈ P acc)) (by rw [decide_eq_true_eq, hsh, h2]; simp [P])
            rw [h2] at this
            exact this
      simp only [mkB_toList]
      by_cases haf : after = []
      · simp only [haf, if_true]
        have := tail false (by intro h; cases h) fun _ => raws_take hp (.inl haf)
        rw [haf] at this
        exact this
      · simp only [haf, if_false]
        cases hb : Op.bytesLess after (grp pfx.length sign x).1 with
        | true => exact tail false (by intro h; cases h) fun _ => raws_take hp (.inr hb)
        | false => exact tail true (fun _ => raws_past hp haf hb) (by intro h; cases h)
/-- A page of names that rise. -/
theorem page_tell (hr : Rise names) (hn : names.length ≤ 60) (hw : ∀ x ∈ names, x.length ≤ 60) (hs : sign.length ≤ 20) (hm : mn (mx most 0) 1000 = (n : Int)) :
    Ev (fun k => listing_Page.f k (mkL names) (mkB pfx) (mkB sign) (mkB after) most) (out ((items pfx sign after names).take n, decide (n < (items pfx sign after names).length))) := by
  have h := page_loop (pfx := pfx) (after := after) hn hw hs hm names [] [] rfl (Nat.le_refl _) (Inv.start (raws_R hr pfx sign after))
  rw [pageGo_eq n _ [] (Nat.zero_le _)] at h
  unfold listing_Page.f
  simp only [mkL_len]
  exact h
end
theorem works_tells : Ev (fun k => deedboxlaw27_works.f k) true := Ev.of deedboxlaw27_works.mono (show deedboxlaw27_works.f 60 = some true by decide +kernel)
theorem works_end {f : Nat → Option Bool} (h : ∀ k, f k = (deedboxlaw27_works.f k).bind fun t => some t) : Ev f true :=
  Ev.congr (fun k => by rw [h]; cases deedboxlaw27_works.f k <;> rfl) works_tells
/-- What is asked of the names. -/
theorem rise_loop (xs : List Tx) (hl : xs.length ≤ 60) : ∀ (d i : Nat), i + d = xs.length → ∃ b : Bool, Ev (fun k => deedboxlaw27_rise.l0 k (mkL xs) (i : Int)) b ∧
    (b = true → ∀ j, i ≤ j → (hj : j < xs.length) → 1 ≤ xs[j].length ∧ xs[j].length ≤ 60 ∧ (0 < j → Lt xs[j - 1] xs[j]))
  | 0, i, h => by
    refine ⟨true, Ev.fin fun k => ?_, fun _ j h1 h2 => by omega⟩
    simp only [deedboxlaw27_rise.l0, mkL_len]
    rw [if_neg (by omega)]
  | d + 1, i, h => by
    have hi : i < xs.length := by omega
    obtain ⟨b, hb, hr⟩ := rise_loop xs hl d (i + 1) (by omega)
    have bad : ∀ {g : Nat → Option Bool}, (∀ k, g (k + 1) = some false) → Ev g false := fun h => Ev.step h (Ev.now _)
    by_cases h1 : xs[i].length < 1
    · refine ⟨false, bad fun k => ?_, by intro h; cases h⟩
      simp only [deedboxlaw27_rise.l0, mkL_len]
      rw [if_pos (by omega), if_pos (by omega), rd_nat xs i hi, mkB_size, if_pos (by omega)]
    by_cases h2 : xs[i].length > 60
    · refine ⟨false, bad fun k => ?_, by intro h; cases h⟩
      simp only [deedboxlaw27_rise.l0, mkL_len]
      rw [if_pos (by omega), if_pos (by omega), rd_nat xs i hi, mkB_size, if_neg (by omega), if_pos (by omega)]
    have good : ∀ hlt : 0 < i → Lt xs[i - 1] xs[i], ∀ (hbt : b = true) j, i ≤ j → (hj : j < xs.length) → 1 ≤ xs[j].length ∧ xs[j].length ≤ 60 ∧ (0 < j → Lt xs[j - 1] xs[j]) := by
      intro hlt hbt j h3 h4
      by_cases hji : j = i
      · subst hji
        exact ⟨by omega, by omega, hlt⟩
      · exact hr hbt j (by omega) h4
    by_cases h3 : 0 < i
    · have e1 : wrap64 ((i : Int) - 1) = ((i - 1 : Nat) : Int) := by rw [wr (by omega) (by omega)]; omega
      have hi1 : i - 1 < xs.length := by omega
      by_cases h4 : Op.bytesLess xs[i - 1] xs[i] = true
      · refine ⟨b, Ev.step (f := fun k => deedboxlaw27_rise.l0 k (mkL xs) ((i + 1 : Nat) : Int)) (fun k => ?_) hb, good fun _ => h4⟩
        simp only [deedboxlaw27_rise.l0, mkL_len]
        rw [if_pos (by omega), if_pos (by omega), rd_nat xs i hi, mkB_size, if_neg (by omega), if_neg (by omega), if_pos (by omega), e1, if_pos (by omega), if_pos (by omega), rd_nat xs (i - 1) hi1, mkB_toList, mkB_toList, if_pos h4, next_lt (n := xs.length) (by omega) hi]
      · refine ⟨false, bad fun k => ?_, by intro h; cases h⟩
        simp only [deedboxlaw27_rise.l0, mkL_len]
        rw [if_pos (by omega), if_pos (by omega), rd_nat xs i hi, mkB_size, if_neg (by omega), if_neg (by omega), if_pos (by omega), e1, if_pos (by omega), if_pos (by omega), rd_nat xs (i - 1) hi1, mkB_toList, mkB_toList, if_neg h4]
    · refine ⟨b, Ev.step (f := fun k => deedboxlaw27_rise.l0 k (mkL xs) ((i + 1 : Nat) : Int)) (fun k => ?_) hb, good fun h => absurd h h3⟩
      simp only [deedboxlaw27_rise.l0, mkL_len]
      rw [if_pos (by omega), if_pos (by omega), rd_nat xs i hi, mkB_size, if_neg (by omega), if_neg (by omega), if_neg (by omega), next_lt (n := xs.length) (by omega) hi]
structure Good (xs : List Tx) : Prop where
  len : xs.length ≤ 60
  one : ∀ x ∈ xs, x.length ≤ 60
  some : ∀ x ∈ xs, x ≠ []
  up : Rise xs
theorem rise_tell (xs : List Tx) : ∃ b : Bool, Ev (fun k => deedboxlaw27_rise.f k (mkL xs)) b ∧ (b = true → Good xs) := by
  unfold deedboxlaw27_rise.f
  simp only [mkL_len]
  by_cases hl : (xs.length : Int) > 60
  · simp only [hl, if_true]
    exact ⟨false, Ev.now _, by intro h; cases h⟩
  · simp only [hl, if_false]
    obtain ⟨b, hb, hr⟩ := rise_loop xs (by omega) xs.length 0 (by omega)
    refine ⟨b, hb, fun h => ?_⟩
    have hr := hr h
    refine ⟨by omega, fun x hx => ?_, fun x hx => ?_, ?_⟩
    · obtain ⟨j, hj, rfl⟩ := List.mem_iff_getElem.1 hx
      exact (hr j (Nat.zero_le _) hj).2.1
    · obtain ⟨j, hj, rfl⟩ := List.mem_iff_getElem.1 hx
      have := (hr j (Nat.zero_le _) hj).1
      intro h0
      rw [h0] at this
      simp at this
    · unfold Rise
      rw [List.pairwise_iff_getElem]
      intro i j hi hj hij
      obtain ⟨d, rfl⟩ : ∃ d, j = i + d + 1 := ⟨j - i - 1, by omega⟩
      clear hij
      induction d with
      | zero => exact (hr (i + 1) (Nat.zero_le _) hj).2.2 (by omega)
      | succ d ih => exact lt_trans (ih (by omega)) ((hr (i + (d + 1) + 1) (Nat.zero_le _) hj).2.2 (by omega))
theorem begins_tell (s p : Tx) : deedboxref27_Begins.f (mkB s) (mkB p) = some (p.isPrefixOf s) := by
  unfold deedboxref27_Begins.f
  simp only [mkB_size, mkB_cut, mkB_toList]
  rw [isPre_take]
  by_cases h : p.length ≤ s.length
  · rw [if_pos (by omega), if_pos (by omega), if_pos (by omega)]
    simp [h]
  · rw [if_neg (by omega)]
    simp [h]
theorem take_one {α : Type} (p : List α) (i : Nat) (h : i < p.length) : p.take (i + 1) = p.take i ++ [p[i]] := by
  rw [List.take_add_one, List.getElem?_eq_getElem h]
  rfl
section
variable {names : List Tx} {pfx sign : Tx}
/-- How often a name is told by itself, and how often by a beginning. -/
def eqs (u : List Tx) (a : Tx) : Nat := (u.filter fun q => q == a).length
def pres (p : List Tx) (a : Tx) : Nat := (p.filter fun q => q.isPrefixOf a).length
def mets (u l : List Tx) : Nat := ((l.filter fun n => pfx.isPrefixOf n).map (eqs u)).sum
theorem l2_loop (u p : List Tx) (hl : names.length ≤ 60) (hp : p.length ≤ 60) {i m n : Nat} (hi : i < names.length) (hn : n ≤ 100) (hm : m ≤ 100000) (g : n + pres p names[i] = 1)
    (next : Ev (fun k => deedboxlaw27_ListingCovers.l0 k (mkL names) (mkB pfx) (mkB sign) (m : Int) ((i + 1 : Nat) : Int) (mkL u) (mkL p) (mkB []) false) true) :
    ∀ (d j : Nat), j + d = p.length → Ev (fun k => deedboxlaw27_ListingCovers.l2 k (mkL names) (mkB pfx) (mkB sign) (m : Int) (i : Int) ((n + pres (p.take j) names[i] : Nat) : Int) (j : Int) (mkL u) (mkL p) (mkB []) false) true
  | 0, j, h => by
    refine Ev.step (fun k => ?_) next
    simp only [deedboxlaw27_ListingCovers.l2, mkL_len]
    rw [if_neg (by omega), List.take_of_length_le (by omega), if_pos (by omega), next_lt (n := names.length) (by omega) hi]
  | d + 1, j, h => by
    have hj : j < p.length := by omega
    have ih := l2_loop u p hl hp hi hn hm g next d (j + 1) (by omega)
    have hle : pres (p.take j) names[i] ≤ 60 := Nat.le_trans (List.length_filter_le _ _) (by have := List.length_take_le j p; omega)
    have e : pres (p.take (j + 1)) names[i] = pres (p.take j) names[i] + if p[j].isPrefixOf names[i] = true then 1 else 0 := by
      unfold pres
      rw [take_one p j hj, List.filter_append, List.length_append, List.filter_cons, List.filter_nil]
      split <;> rfl
    rw [e] at ih
    refine Ev.step (fun k => ?_) ih
    simp only [deedboxlaw27_ListingCovers.l2, mkL_len]
    rw [if_pos (by omega), if_pos (by omega), if_pos (by omega), if_pos (by omega), rd_nat names i hi, rd_nat p j hj, begins_tell, Option.bind_some, next_lt (n := p.length) (by omega) hj]
    cases p[j].isPrefixOf names[i] with
    | true =>
      rw [if_pos rfl, if_pos rfl, next_lt (n := 1000) (by omega) (by omega)]
      rfl
    | false =>
      rw [if_neg (by simp), if_neg (by simp)]
      rfl
theorem l1_loop (u p : List Tx) (hl : names.length ≤ 60) (hu : u.length ≤ 60) (hp : p.length ≤ 60) {i m : Nat} (hi : i < names.length) (hm : m ≤ 10000) (g : eqs u names[i] + pres p names[i] = 1)
    (next : Ev (fun k => deedboxlaw27_ListingCovers.l0 k (mkL names) (mkB pfx) (mkB sign) ((m + eqs u names[i] : Nat) : Int) ((i + 1 : Nat) : Int) (mkL u) (mkL p) (mkB []) false) true) :
    ∀ (d j : Nat), j + d = u.length → Ev (fun k => deedboxlaw27_ListingCovers.l1 k (mkL names) (mkB pfx) (mkB sign) ((m + eqs (u.take j) names[i] : Nat) : Int) (i : Int) ((eqs (u.take j) names[i] : Nat) : Int) (j : Int) (mkL u) (mkL p) (mkB []) false) true
  | 0, j, h => by
    have hle : eqs u names[i] ≤ 60 := Nat.le_trans (List.length_filter_le _ _) hu
    have := l2_loop u p hl hp hi (n := eqs u names[i]) (m := m + eqs u names[i]) (by omega) (by omega) g next p.length 0 (by omega)
    refine Ev.step (fun k => ?_) this
    simp only [deedboxlaw27_ListingCovers.l1, mkL_len]
    rw [if_neg (by omega), List.take_of_length_le (show u.length ≤ j by omega)]
    rfl
  | d + 1, j, h => by
    have hj : j < u.length := by omega
    have ih := l1_loop u p hl hu hp hi hm g next d (j + 1) (by omega)
    have hle : eqs (u.take j) names[i] ≤ 60 := Nat.le_trans (List.length_filter_le _ _) (by have := List.length_take_le j u; omega)
    have e : eqs (u.take (j + 1)) names[i] = eqs (u.take j) names[i] + if u[j] = names[i] then 1 else 0 := by
      unfold eqs
      rw [take_one u j hj, List.filter_append, List.length_append, List.filter_cons, List.filter_nil]
      by_cases h : u[j] = names[i]
      · rw [if_pos h, if_pos (by simp [h])]
        rfl
      · rw [if_neg h, if_neg (by simp [h])]
        rfl
    rw [e] at ih
    refine Ev.step (fun k => ?_) ih
    simp only [deedboxlaw27_ListingCovers.l1, mkL_len]
    rw [if_pos (by omega), if_pos (by omega), if_pos (by omega), if_pos (by omega), rd_nat names i hi, rd_nat u j hj, mkB_toList, mkB_toList, next_lt (n := u.length) (by omega) hj]
    by_cases h : u[j] = names[i]
    · rw [if_pos h, if_pos h, next_lt (n := 100000) (by omega) (by omega), next_lt (n := 1000) (by omega) (by omega)]
      rfl
    · rw [if_neg h, if_neg h]
      rfl
theorem l0_loop (u p : List Tx) (hl : names.length ≤ 60) (hu : u.length ≤ 60) (hp : p.length ≤ 60) (g : ∀ a ∈ names, pfx.isPrefixOf a = true → eqs u a + pres p a = 1) (hall : mets (pfx := pfx) u names = u.length) (hsp : sign = [] → p = []) :
    ∀ (l done : List Tx), names = done ++ l → Ev (fun k => deedboxlaw27_ListingCovers.l0 k (mkL names) (mkB pfx) (mkB sign) ((mets (pfx := pfx) u done : Nat) : Int) (done.length : Int) (mkL u) (mkL p) (mkB []) false) true
  | [], done, he => by
    rw [List.append_nil] at he
    subst he
    refine Ev.succ ?_
    simp only [deedboxlaw27_ListingCovers.l0, mkL_len, mkB_toList]
    simp only [if_neg (show ¬ (names.length : Int) < (names.length : Int) by omega), hall, if_true]
    by_cases hs : sign = []
    · simp only [hs, if_true, hsp hs, List.length_nil]
      exact works_end fun k => rfl
    · simp only [hs, if_false]
      exact works_end fun k => rfl
  | x :: l, done, he => by
    have hlt : done.length < names.length := by rw [he]; simp
    have hx : names[done.length] = x := by simp [he]
    have hmem : x ∈ names := by rw [he]; simp
    have ih := l0_loop u p hl hu hp g hall hsp l (done ++ [x]) (by rw [he]; simp)
    rw [List.length_append, List.length_singleton] at ih
    have hmle : mets (pfx := pfx) u done ≤ 3600 := by
      have h1 : ∀ q : List Nat, (∀ a ∈ q, a ≤ 60) → q.sum ≤ q.length * 60 := by
        intro q
        induction q with
        | nil => intro _; simp
        | cons a q ih =>
          intro h
          have := ih fun b hb => h b (List.mem_cons_of_mem _ hb)
          have := h a (List.mem_cons_self ..)
          rw [List.sum_cons, List.length_cons]
          omega
      refine Nat.le_trans (h1 _ fun a ha => ?_) ?_
      · obtain ⟨b, _, rfl⟩ := List.mem_map.1 ha
        exact Nat.le_trans (List.length_filter_le _ _) hu
      · rw [List.length_map]
        have := List.length_filter_le (fun n => pfx.isPrefixOf n) done
        omega
    refine Ev.succ ?_
    simp only [deedboxlaw27_ListingCovers.l0, mkL_len]
    simp only [if_pos (show (done.length : Int) < (names.length : Int) by omega), if_pos (show (0 : Int) ≤ (done.length : Int) by omega), rd_nat names done.length hlt, hx, begins_tell, Option.bind_some, next_lt (n := names.length) (by omega) hlt]
    have e : mets (pfx := pfx) u (done ++ [x]) = mets (pfx := pfx) u done + if pfx.isPrefixOf x = true then eqs u x else 0 := by
      unfold mets
      rw [List.filter_append, List.map_append, List.sum_append, List.filter_cons, List.filter_nil]
      split <;> simp
    rw [e] at ih
    cases hpx : pfx.isPrefixOf x with
    | false =>
      rw [hpx, if_neg (by simp), Nat.add_zero] at ih
      exact ih
    | true =>
      rw [hpx, if_pos rfl] at ih
      have gx := g x hmem hpx
      simp only [if_true]
      have := l1_loop (pfx := pfx) (sign := sign) u p hl hu hp hlt (m := mets (pfx := pfx) u done) (by omega) (by rw [hx]; exact gx) (by rw [hx]; exact ih) u.length 0 (by omega)
      exact this
end
/-- The law. -/
theorem ListingCovers (l0 : List ByteArray) (a1 a2 : ByteArray) : ∃ k, deedboxlaw27_ListingCovers.f k l0 a1 a2 = some true := by
  refine Ev.rounds ?_
  obtain ⟨names, rfl⟩ : ∃ names, l0 = mkL names := ⟨_, (mkL_of l0).symm⟩
  obtain ⟨pfx, rfl⟩ : ∃ p, a1 = mkB p := ⟨_, (mkB_of a1).symm⟩
  obtain ⟨sign, rfl⟩ : ∃ p, a2 = mkB p := ⟨_, (mkB_of a2).symm⟩
  obtain ⟨b, hb, hg⟩ := rise_tell names
  have free : Ev (fun k => deedboxlaw27_ListingCovers.j0 k (mkL names) (mkB pfx) (mkB sign) true) true := Ev.succ (by
    simp only [deedboxlaw27_ListingCovers.j0, if_true]
    exact works_end fun k => rfl)
  unfold deedboxlaw27_ListingCovers.f
  refine Ev.bind hb ?_
  cases b with
  | false => exact free
  | true =>
    obtain ⟨g1, g2, g3, g4⟩ := hg rfl
    simp only [if_true, mkB_size]
    by_cases h1 : (pfx.length : Int) > 60
    · simp only [h1, if_true]
      exact free
    · simp only [h1, if_false]
      by_cases h2 : (sign.length : Int) > 20
      · simp only [h2, decide_true]
        exact free
      · simp only [h2, decide_false]
        have hlen := items_len (names := names) pfx sign []
        have hUP := UP_length (items pfx sign [] names)
        refine Ev.succ ?_
        simp only [deedboxlaw27_ListingCovers.j0, Bool.false_eq_true, if_false]
        have hpage := page_tell (names := names) (pfx := pfx) (sign := sign) (after := []) (most := 1000) (n := 1000) g4 g1 g2 (by omega) (by decide)
        refine Ev.bind hpage ?_
        simp only [out, List.take_of_length_le (show (items pfx sign [] names).length ≤ 1000 by omega), decide_eq_false (show ¬ 1000 < (items pfx sign [] names).length by omega), Bool.false_eq_true, if_false]
        refine l0_loop (U (items pfx sign [] names)) (P (items pfx sign [] names)) g1 (by omega) (by omega) (fun a ha hp => ?_) ?_ (fun hs => ?_) names [] rfl
        · obtain ⟨e1, e2⟩ := told_once g4 pfx sign ha hp
          unfold eqs pres
          rw [e1, e2]
          split <;> rfl
        · have := met_all g4 pfx sign names fun a ha => ha
          rw [← items_U g4 pfx sign] at this
          exact this
        · subst hs
          exact P_none g4 pfx

end Go.Proofs.Ytfgbgidaefephaa.Pure
