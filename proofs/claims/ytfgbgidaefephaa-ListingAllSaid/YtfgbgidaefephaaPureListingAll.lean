/- The pure statement of ListingAll: what the walk tells answers as the chapter says. -/
import Derived.Test.YtfgbgidaefephaaQListingAllx4
import Derived.Test.YtfgbgidaefephaaLst
namespace Go.Proofs.Ytfgbgidaefephaa.Pure
open Go.RowKit Go.Lib Go.Proofs.Ytfgbgidaefephaa.QListingAll Go.Proofs.Ytfgbgidaefephaa.Lst Go.Proofs.YtfgbgidaefephaaW.PrintWords Go.Proofs.YtfgbgidaefephaaW.PrintLast
set_option linter.unusedVariables false
set_option linter.unusedSimpArgs false

/-! ### texts as lists -/
theorem Ev.succ {α : Type} {g : Nat → Option α} {r : α} (h : Ev (fun k => g (k + 1)) r) : Ev g r := Ev.step (fun _ => rfl) h
theorem Ev.none_bind {α β : Type} {x : α} {f : Nat → α → Option β} {r : β} (h : Ev (fun k => f k x) r) : Ev (fun k => (some x).bind (f k)) r := h
def mkB (l : Tx) : ByteArray := ⟨l.toArray⟩
def mkL (l : List Tx) : List ByteArray := l.map mkB
theorem mkB_data (l : Tx) : (mkB l).data.toList = l := Eq.trans (b := l.toArray.toList) rfl List.toList_toArray
theorem Ev.fin {α : Type} {g : Nat → Option α} {r : α} (h : ∀ k, g (k + 1) = some r) : Ev g r := Ev.step h (Ev.now _)
theorem Ev.give {α : Type} {g : Nat → Option α} {r : α} (h : ∀ k, g k = some r) : Ev g r := Ev.congr h (Ev.now _)
theorem mkB_of (b : ByteArray) : mkB b.data.toList = b := rfl
theorem mkB_toList (l : Tx) : (mkB l).toList = l := (Go.Lib.toList_data _).trans rfl
theorem mkB_size (l : Tx) : (mkB l).size = l.length := Eq.trans (b := l.toArray.size) rfl List.size_toArray
theorem mkB_cut (l : Tx) (i j : Nat) : (mkB l).extract i j = mkB ((l.drop i).take (j - i)) := by
  have := Go.Lib.extract_data (mkB l) i j
  rw [mkB_data] at this
  rw [← this]
  rfl
theorem mkB_inj {a b : Tx} (h : mkB a = mkB b) : a = b := by rw [← mkB_data a, h, mkB_data]
theorem mkL_len (xs : List Tx) : (mkL xs).length = xs.length := List.length_map ..
theorem mkL_of (l : List ByteArray) : mkL (l.map fun b => b.data.toList) = l := by
  unfold mkL
  rw [List.map_map]
  exact (List.map_congr_left fun b _ => mkB_of b).trans (List.map_id l)
theorem mkL_snoc (xs : List Tx) (x : Tx) : mkL xs ++ [mkB x] = mkL (xs ++ [x]) := by simp [mkL]
theorem mkL_app (xs ys : List Tx) : mkL xs ++ mkL ys = mkL (xs ++ ys) := by simp [mkL]
theorem rd_mkL (xs : List Tx) (i : Int) (h : i.toNat < xs.length) : rdOf ByteArray.empty (mkL xs) i = mkB (xs[i.toNat]'h) := by
  unfold rdOf mkL
  rw [List.getD_eq_getElem?_getD, List.getElem?_map, List.getElem?_eq_getElem h]
  rfl
theorem rd_nat (xs : List Tx) (i : Nat) (h : i < xs.length) : rdOf ByteArray.empty (mkL xs) (i : Int) = mkB xs[i] := rd_mkL xs i h
theorem mkB_nil : (⟨#[]⟩ : ByteArray) = mkB [] := rfl
theorem wr {n : Int} (h0 : -9223372036854775808 ≤ n) (h1 : n ≤ 9223372036854775807) : wrap64 n = n := by unfold wrap64; omega
theorem next_lt {i n : Nat} (h : n < 10000000) (hi : i < n) : wrap64 ((i : Int) + 1) = ((i + 1 : Nat) : Int) := by rw [wr (by omega) (by omega)]; rfl
theorem isPre_take (p s : Tx) : p.isPrefixOf s = (decide (p.length ≤ s.length) && (s.take p.length == p)) := by
  cases h : p.isPrefixOf s with
  | true =>
    obtain ⟨t, rfl⟩ := List.isPrefixOf_iff_prefix.1 h
    simp
  | false =>
    symm
    rw [Bool.and_eq_false_iff]
    by_cases hl : p.length ≤ s.length
    · refine .inr (beq_eq_false_iff_ne.2 fun he => ?_)
      rw [List.isPrefixOf_iff_prefix.2 (he ▸ List.take_prefix _ _)] at h
      cases h
    · exact .inl (decide_eq_false hl)
theorem has_prefix (s p : Tx) : strings_HasPrefix.f (mkB s) (mkB p) = some (p.isPrefixOf s) := by
  unfold strings_HasPrefix.f stringslite_HasPrefix.f
  simp only [mkB_size, mkB_cut, mkB_toList]
  rw [isPre_take]
  by_cases h : p.length ≤ s.length
  · rw [if_pos (by omega), if_pos (by omega), if_pos (by omega)]
    simp [h]
  · rw [if_neg (by omega)]
    simp [h]
theorem cut_prefix (s p : Tx) : strings_CutPrefix.f (mkB s) (mkB p) = some (if p.isPrefixOf s = true then (mkB (s.drop p.length), true) else (mkB s, false)) := by
  have h := has_prefix s p
  unfold strings_HasPrefix.f at h
  have h2 : stringslite_HasPrefix.f (mkB s) (mkB p) = some (p.isPrefixOf s) := by
    cases h3 : stringslite_HasPrefix.f (mkB s) (mkB p) with
    | none => rw [h3] at h; cases h
    | some x => rw [h3] at h; exact h
  unfold strings_CutPrefix.f stringslite_CutPrefix.f
  rw [h2]
  simp only [Option.bind_some, mkB_size, mkB_cut]
  cases hb : p.isPrefixOf s with
  | true =>
    have hl := (List.isPrefixOf_iff_prefix.1 hb).length_le
    rw [if_pos rfl, if_pos (by omega), if_pos (by omega), if_pos rfl]
    simp only [Int.toNat_natCast, Option.bind_some]
    rw [List.take_of_length_le (by simp)]
  | false => simp
theorem group_tell (pfx sign after name : Tx) (most : Int) (hp : pfx.isPrefixOf name = true) (hn : name.length < 1000) (hs : sign.length < 1000) :
    Ev (fun k => listing_Ask_group.f k (mkB pfx) (mkB sign) (mkB after) most (mkB name)) (mkB (grp pfx.length sign name).1, (grp pfx.length sign name).2) := by
  have hpl := (List.isPrefixOf_iff_prefix.1 hp).length_le
  simp only [listing_Ask_group.f, cut_prefix, hp, if_true, Option.bind_some]
  refine Ev.succ ?_
  simp only [listing_Ask_group.j0, mkB_toList, mkB_size, strings_Index.f, mkB_data]
  have h1 : (name.drop pfx.length).length < 4294967281 := by rw [List.length_drop]; omega
  unfold grp
  by_cases h : sign = []
  · simp only [h, beq_self_eq_true, if_true]
    exact Ev.now _
  · have hb : (sign == []) = false := beq_eq_false_iff_ne.2 h
    simp only [hb, Bool.false_eq_true, if_false, h, h1, if_true, Option.bind_some]
    have hge := index_ge (name.drop pfx.length) sign
    have hro := index_room (name.drop pfx.length) sign
    rw [List.length_drop] at hro
    generalize index (name.drop pfx.length) sign = i at *
    by_cases hi : i < 0
    · simp only [hi, if_true]
      exact Ev.now _
    · have hro := hro (by omega)
      simp only [hi, if_false]
      refine Ev.give fun k => ?_
      rw [wr (n := (pfx.length : Int) + i) (by omega) (by omega), wr (by omega) (by omega), if_pos (by omega), if_pos (by omega), mkB_cut]
      simp only [List.drop_zero, Nat.sub_zero]
      rw [show ((pfx.length : Int) + i + (sign.length : Int)).toNat = pfx.length + i.toNat + sign.length by omega]
theorem index_tell (xs : List Tx) (x : Tx) (hl : xs.length < 100000) : ∀ (d i : Nat), i + d = xs.length → ∃ r : Int, Ev (fun k => slices_Index_string_string.l0 k (mkL xs) (mkB x) (xs.length : Int) (i : Int)) r ∧ (0 ≤ r ↔ x ∈ xs.drop i)
  | 0, i, h => by
    refine ⟨-1, Ev.fin fun k => ?_, ?_⟩
    · simp only [slices_Index_string_string.l0]
      rw [if_neg (by omega)]
    · rw [List.drop_eq_nil_of_le (by omega)]
      simp
  | d + 1, i, h => by
    have hi : i < xs.length := by omega
    rw [List.drop_eq_getElem_cons hi]
    by_cases he : x = xs[i]
    · refine ⟨i, Ev.fin fun k => ?_, ?_⟩
      · simp only [slices_Index_string_string.l0, mkL_len]
        rw [if_pos (by omega), if_pos (by omega), if_pos (by omega), rd_nat xs i hi, if_pos (by rw [← he])]
      · rw [← he]
        simp
    · obtain ⟨r, hr, hm⟩ := index_tell xs x hl d (i + 1) (by omega)
      refine ⟨r, Ev.step (fun k => ?_) hr, ?_⟩
      · simp only [slices_Index_string_string.l0, mkL_len]
        rw [if_pos (by omega), if_pos (by omega), if_pos (by omega), rd_nat xs i hi, mkB_toList, mkB_toList, if_neg he, next_lt (n := xs.length) (by omega) hi]
      · rw [hm, List.mem_cons]
        exact ⟨.inr, fun h => h.resolve_left he⟩
theorem contains_tell (xs : List Tx) (x : Tx) (hl : xs.length < 100000) : Ev (fun k => slices_Contains_string_string.f k (mkL xs) (mkB x)) (decide (x ∈ xs)) := by
  obtain ⟨r, hr, hm⟩ := index_tell xs x hl xs.length 0 (by omega)
  unfold slices_Contains_string_string.f slices_Index_string_string.f
  simp only [mkL_len]
  refine Ev.bind hr ?_
  rw [show decide (x ∈ xs) = decide (r ≥ 0) from decide_eq_decide.2 (by rw [ge_iff_le, hm, List.drop_zero])]
  exact Ev.now _
def lastOf (acc : List It) : Tx := (acc.getLast?.map (·.1)).getD []
theorem lastOf_snoc (acc : List It) (x : It) : lastOf (acc ++ [x]) = x.1 := by simp [lastOf]
theorem U_snoc (acc : List It) (x : It) : U (acc ++ [x]) = if x.2 = true then U acc else U acc ++ [x.1] := by
  rcases x with ⟨x, _ | _⟩ <;> simp [U]
theorem P_snoc (acc : List It) (x : It) : P (acc ++ [x]) = if x.2 = true then P acc ++ [x.1] else P acc := by
  rcases x with ⟨x, _ | _⟩ <;> simp [P]
/-- A page, as the walk tells it. -/
def out (r : List It × Bool) : List ByteArray × List ByteArray × ByteArray × Bool := (mkL (U r.1), mkL (P r.1), if r.2 = true then mkB (lastOf r.1) else mkB [], r.2)
section
variable {names : List Tx} {pfx sign after : Tx} {most : Int} {n : Nat}
theorem page_loop (hn : names.length ≤ 60) (hw : ∀ x ∈ names, x.length ≤ 60) (hs : sign.length ≤ 20) (hm : mn (mx most 0) 1000 = (n : Int)) :
    ∀ (l done : List Tx) (acc : List It), names = done ++ l → acc.length ≤ done.length → Inv acc (raws pfx sign after l) →
    Ev (fun k => listing_Page.l0 k (acc.length : Int) (mkB (lastOf acc)) (mkL names) (names.length : Int) (done.length : Int) (mkB pfx) (mkB sign) (mkB after) most (mkL (U acc)) (mkL (P acc)) (mkB []) false) (out (pageGo n (raws pfx sign after l) acc))
  | [], done, acc, he, ha, hi => by
    subst he
    refine Ev.fin fun k => ?_
    simp only [listing_Page.l0, List.append_nil]
    rw [if_neg (by omega)]
    rfl
  | x :: l, done, acc, he, ha, hi => by
    have hlt : done.length < names.length := by rw [he]; simp
    have hx : names[done.length] = x := by simp [he]
    have hmem : x ∈ names := by rw [he]; simp
    have hxl := hw x hmem
    have hnext := next_lt (n := names.length) (by omega) hlt
    have ih := fun (acc : List It) (h1 : acc.length ≤ done.length + 1) (h2 : Inv acc (raws pfx sign after l)) => page_loop hn hw hs hm l (done ++ [x]) acc (by rw [he]; simp) (by simpa using h1) h2
    simp only [List.length_append, List.length_cons, List.length_nil, Nat.zero_add] at ih
    refine Ev.succ ?_
    simp only [listing_Page.l0, mkL_len]
    simp only [if_pos (show (done.length : Int) < (names.length : Int) by omega), if_pos (show (0 : Int) ≤ (done.length : Int) by omega), rd_nat names done.length hlt, hx, has_prefix, Option.bind_some, hnext]
    cases hp : pfx.isPrefixOf x with
    | false =>
      rw [raws_skip hp] at hi ⊢
      exact ih acc (by omega) hi
    | true =>
      simp only [if_true]
      refine Ev.bind (group_tell pfx sign after x most hp (by omega) (by omega)) ?_
      -- the rest behind the group
      have tail : ∀ b : Bool, (b = true → raws pfx sign after (x :: l) = raws pfx sign after l) → (b = false → raws pfx sign after (x :: l) = grp pfx.length sign x :: raws pfx sign after l) →
          Ev (fun k => listing_Page.j1 k (acc.length : Int) (mkB (lastOf acc)) (mkB (grp pfx.length sign x).1) (grp pfx.length sign x).2 (mkL names) (names.length : Int) (done.length : Int) b (mkB pfx) (mkB sign) (mkB after) most (mkL (U acc)) (mkL (P acc)) (mkB []) false) (out (pageGo n (raws pfx sign after (x :: l)) acc)) := by
        intro b hb1 hb2
        refine Ev.succ ?_
        simp only [listing_Page.j1, hnext]
        cases b with
        | true =>
          rw [hb1 rfl] at hi ⊢
          exact ih acc (by omega) hi
        | false =>
          rw [hb2 rfl] at hi ⊢
          generalize hg : grp pfx.length sign x = g at hi ⊢
          have hsh := hi.shared
          have hst := hi.step
          have hU := UP_length acc
          simp only [Bool.false_eq_true, if_false]
          -- behind the check whether it was told already
          have last : ∀ c : Bool, (c = true ↔ g.1 ∈ acc.map (·.1)) → Ev (fun k => listing_Page.j2 k (acc.length : Int) (mkB (lastOf acc)) (mkB g.1) g.2 (mkL names) (names.length : Int) (done.length : Int) c (mkB pfx) (mkB sign) (mkB after) most (mkL (U acc)) (mkL (P acc)) (mkB []) false) (out (pageGo n (g :: raws pfx sign after l) acc)) := by
            intro c hc
            refine Ev.succ ?_
            simp only [listing_Page.j2, hnext, hm, mkL_len]
            unfold pageGo
            cases c with
            | true =>
              have hin := hc.1 rfl
              rw [if_pos hin]
              rw [step_old hin] at hst
              exact ih acc (by omega) hst
            | false =>
              have hin : ¬ g.1 ∈ acc.map (·.1) := fun h => by have := hc.2 h; cases this
              rw [if_neg hin]
              rw [step_new hin] at hst
              simp only [Bool.false_eq_true, if_false]
              by_cases hmo : n ≤ acc.length
              · rw [if_pos hmo]
                simp only [if_pos (show (acc.length : Int) ≥ (n : Int) by omega)]
                exact Ev.give fun k => rfl
              · rw [if_neg hmo]
                simp only [if_neg (show ¬ (acc.length : Int) ≥ (n : Int) by omega), next_lt (n := names.length) (by omega) (show acc.length < names.length by omega), if_pos (show (P acc).length < 8796093022208 by omega), if_pos (show (U acc).length < 8796093022208 by omega), mkL_snoc]
                have := ih (acc ++ [g]) (by simp; omega) hst
                rw [U_snoc, P_snoc, lastOf_snoc, List.length_append, List.length_singleton] at this
                cases h2 : g.2 with
                | true =>
                  rw [h2] at this
                  exact this
                | false =>
                  rw [h2] at this
                  exact this
          cases h2 : g.2 with
          | false =>
            have hin : ¬ g.1 ∈ acc.map (·.1) := fun h => by have := (hsh.1 h).1; rw [h2] at this; cases this
            have := last false ⟨(by intro h; cases h), fun h => absurd h hin⟩
            rw [h2] at this
            exact this
          | true =>
            simp only [if_true]
            refine Ev.bind (contains_tell (P acc) g.1 (by omega)) ?_
            have := last (decide (g.1 ∈ P acc)) (by rw [decide_eq_true_eq, hsh, h2]; simp [P])
            rw [h2] at this
            exact this
      simp only [mkB_toList]
      by_cases haf : after = []
      · simp only [haf, if_true]
        have := tail false (by intro h; cases h) fun _ => raws_take hp (.inl haf)
        rw [haf] at this
        exact this
      · simp only [haf, if_false]
        cases hb : Op.bytesLess after (grp pfx.length sign x).1 with
        | true => exact tail false (by intro h; cases h) fun _ => raws_take hp (.inr hb)
        | false => exact tail true (fun _ => raws_past hp haf hb) (by intro h; cases h)
/-- A page of names that rise. -/
theorem page_tell (hr : Rise names) (hn : names.length ≤ 60) (hw : ∀ x ∈ names, x.length ≤ 60) (hs : sign.length ≤ 20) (hm : mn (mx most 0) 1000 = (n : Int)) :
    Ev (fun k => listing_Page.f k (mkL names) (mkB pfx) (mkB sign) (mkB after) most) (out ((items pfx sign after names).take n, decide (n < (items pfx sign after names).length))) := by
  have h := page_loop (pfx := pfx) (after := after) hn hw hs hm names [] [] rfl (Nat.le_refl _) (Inv.start (raws_R hr pfx sign after))
  rw [pageGo_eq n _ [] (Nat.zero_le _)] at h
  unfold listing_Page.f
  simp only [mkL_len]
  exact h
end
theorem works_tells : Ev (fun k => deedboxlaw27_works.f k) true := Ev.of deedboxlaw27_works.mono (show deedboxlaw27_works.f 60 = some true by decide +kernel)
theorem works_end {f : Nat → Option Bool} (h : ∀ k, f k = (deedboxlaw27_works.f k).bind fun t => some t) : Ev f true :=
  Ev.congr (fun k => by rw [h]; cases deedboxlaw27_works.f k <;> rfl) works_tells
/-- What is asked of the names. -/
theorem rise_loop (xs : List Tx) (hl : xs.length ≤ 60) : ∀ (d i : Nat), i + d = xs.length → ∃ b : Bool, Ev (fun k => deedboxlaw27_rise.l0 k (mkL xs) (i : Int)) b ∧
    (b = true → ∀ j, i ≤ j → (hj : j < xs.length) → 1 ≤ xs[j].length ∧ xs[j].length ≤ 60 ∧ (0 < j → Lt xs[j - 1] xs[j]))
  | 0, i, h => by
    refine ⟨true, Ev.fin fun k => ?_, fun _ j h1 h2 => by omega⟩
    simp only [deedboxlaw27_rise.l0, mkL_len]
    rw [if_neg (by omega)]
  | d + 1, i, h => by
    have hi : i < xs.length := by omega
    obtain ⟨b, hb, hr⟩ := rise_loop xs hl d (i + 1) (by omega)
    have bad : ∀ {g : Nat → Option Bool}, (∀ k, g (k + 1) = some false) → Ev g false := fun h => Ev.step h (Ev.now _)
    by_cases h1 : xs[i].length < 1
    · refine ⟨false, bad fun k => ?_, by intro h; cases h⟩
      simp only [deedboxlaw27_rise.l0, mkL_len]
      rw [if_pos (by omega), if_pos (by omega), rd_nat xs i hi, mkB_size, if_pos (by omega)]
    by_cases h2 : xs[i].length > 60
    · refine ⟨false, bad fun k => ?_, by intro h; cases h⟩
      simp only [deedboxlaw27_rise.l0, mkL_len]
      rw [if_pos (by omega), if_pos (by omega), rd_nat xs i hi, mkB_size, if_neg (by omega), if_pos (by omega)]
    have good : ∀ hlt : 0 < i → Lt xs[i - 1] xs[i], ∀ (hbt : b = true) j, i ≤ j → (hj : j < xs.length) → 1 ≤ xs[j].length ∧ xs[j].length ≤ 60 ∧ (0 < j → Lt xs[j - 1] xs[j]) := by
      intro hlt hbt j h3 h4
      by_cases hji : j = i
      · subst hji
        exact ⟨by omega, by omega, hlt⟩
      · exact hr hbt j (by omega) h4
    by_cases h3 : 0 < i
    · have e1 : wrap64 ((i : Int) - 1) = ((i - 1 : Nat) : Int) := by rw [wr (by omega) (by omega)]; omega
      have hi1 : i - 1 < xs.length := by omega
      by_cases h4 : Op.bytesLess xs[i - 1] xs[i] = true
      · refine ⟨b, Ev.step (f := fun k => deedboxlaw27_rise.l0 k (mkL xs) ((i + 1 : Nat) : Int)) (fun k => ?_) hb, good fun _ => h4⟩
        simp only [deedboxlaw27_rise.l0, mkL_len]
        rw [if_pos (by omega), if_pos (by omega), rd_nat xs i hi, mkB_size, if_neg (by omega), if_neg (by omega), if_pos (by omega), e1, if_pos (by omega), if_pos (by omega), rd_nat xs (i - 1) hi1, mkB_toList, mkB_toList, if_pos h4, next_lt (n := xs.length) (by omega) hi]
      · refine ⟨false, bad fun k => ?_, by intro h; cases h⟩
        simp only [deedboxlaw27_rise.l0, mkL_len]
        rw [if_pos (by omega), if_pos (by omega), rd_nat xs i hi, mkB_size, if_neg (by omega), if_neg (by omega), if_pos (by omega), e1, if_pos (by omega), if_pos (by omega), rd_nat xs (i - 1) hi1, mkB_toList, mkB_toList, if_neg h4]
    · refine ⟨b, Ev.step (f := fun k => deedboxlaw27_rise.l0 k (mkL xs) ((i + 1 : Nat) : Int)) (fun k => ?_) hb, good fun h => absurd h h3⟩
      simp only [deedboxlaw27_rise.l0, mkL_len]
      rw [if_pos (by omega), if_pos (by omega), rd_nat xs i hi, mkB_size, if_neg (by omega), if_neg (by omega), if_neg (by omega), next_lt (n := xs.length) (by omega) hi]
structure Good (xs : List Tx) : Prop where
  len : xs.length ≤ 60
  one : ∀ x ∈ xs, x.length ≤ 60
  some : ∀ x ∈ xs, x ≠ []
  up : Rise xs
theorem rise_tell (xs : List Tx) : ∃ b : Bool, Ev (fun k => deedboxlaw27_rise.f k (mkL xs)) b ∧ (b = true → Good xs) := by
  unfold deedboxlaw27_rise.f
  simp only [mkL_len]
  by_cases hl : (xs.length : Int) > 60
  · simp only [hl, if_true]
    exact ⟨false, Ev.now _, by intro h; cases h⟩
  · simp only [hl, if_false]
    obtain ⟨b, hb, hr⟩ := rise_loop xs (by omega) xs.length 0 (by omega)
    refine ⟨b, hb, fun h => ?_⟩
    have hr := hr h
    refine ⟨by omega, fun x hx => ?_, fun x hx => ?_, ?_⟩
    · obtain ⟨j, hj, rfl⟩ := List.mem_iff_getElem.1 hx
      exact (hr j (Nat.zero_le _) hj).2.1
    · obtain ⟨j, hj, rfl⟩ := List.mem_iff_getElem.1 hx
      have := (hr j (Nat.zero_le _) hj).1
      intro h0
      rw [h0] at this
      simp at this
    · unfold Rise
      rw [List.pairwise_iff_getElem]
      intro i j hi hj hij
      obtain ⟨d, rfl⟩ : ∃ d, j = i + d + 1 := ⟨j - i - 1, by omega⟩
      clear hij
      induction d with
      | zero => exact (hr (i + 1) (Nat.zero_le _) hj).2.2 (by omega)
      | succ d ih => exact lt_trans (ih (by omega)) ((hr (i + (d + 1) + 1) (Nat.zero_le _) hj).2.2 (by omega))
theorem same_loop (xs : List Tx) (hl : xs.length < 100000) : ∀ (d i : Nat), i + d = xs.length → Ev (fun k => deedboxref27_SameTexts.l0 k (mkL xs) (mkL xs) (i : Int)) true
  | 0, i, h => by
    refine Ev.fin fun k => ?_
    simp only [deedboxref27_SameTexts.l0, mkL_len]
    rw [if_neg (by omega)]
  | d + 1, i, h => by
    refine Ev.step (fun k => ?_) (same_loop xs hl d (i + 1) (by omega))
    simp only [deedboxref27_SameTexts.l0, mkL_len]
    rw [if_pos (by omega), if_pos (by omega), if_pos (by omega), if_pos trivial, next_lt (n := xs.length) (by omega) (by omega)]
theorem same_tell (xs : List Tx) (hl : xs.length < 100000) : Ev (fun k => deedboxref27_SameTexts.f k (mkL xs) (mkL xs)) true := by
  simp only [deedboxref27_SameTexts.f, if_true]
  exact same_loop xs hl xs.length 0 (by omega)
/-! ### all pages -/
def pgs (m : Nat) : Nat → List It → List (List It × Bool)
  | 0, _ => []
  | f + 1, L => if m < L.length then (L.take m, true) :: pgs m f (L.drop m) else [(L, false)]
def toS (r : List It × Bool) : S26 := ⟨mkL (U r.1), mkL (P r.1), if r.2 = true then mkB (lastOf r.1) else mkB [], r.2⟩
theorem pgs_ne (m : Nat) {f : Nat} {L : List It} (h : L.length < f) : pgs m f L ≠ [] := by
  cases f with
  | zero => omega
  | succ f => unfold pgs; split <;> simp
theorem pgs_all (m : Nat) (hm : 0 < m) : ∀ (f : Nat) (L : List It), L.length < f → ((pgs m f L).map (·.1)).flatten = L
  | 0, L, h => by omega
  | f + 1, L, h => by
    unfold pgs
    split
    · rw [List.map_cons, List.flatten_cons, pgs_all m hm f _ (by rw [List.length_drop]; omega), List.take_append_drop]
    · simp
theorem pgs_more (m : Nat) (hm : 0 < m) : ∀ (f : Nat) (L : List It), L.length < f → ∀ (i : Nat) (h : i < (pgs m f L).length), (pgs m f L)[i].2 = decide (i + 1 < (pgs m f L).length) ∧ ((pgs m f L)[i].2 = true → (pgs m f L)[i].1.length = m)
  | 0, L, h => by omega
  | f + 1, L, h => by
    intro i hi
    unfold pgs at hi ⊢
    split
    · next hl =>
      have hne := List.length_pos_iff.2 (pgs_ne m (f := f) (L := L.drop m) (by rw [List.length_drop]; omega))
      cases i with
      | zero =>
        simp only [List.getElem_cons_zero, List.length_cons]
        exact ⟨(decide_eq_true (by omega)).symm, fun _ => by rw [List.length_take]; omega⟩
      | succ i =>
        rw [if_pos hl] at hi
        simp only [List.getElem_cons_succ, List.length_cons]
        have := pgs_more m hm f (L.drop m) (by rw [List.length_drop]; omega) i (by simpa using hi)
        refine ⟨this.1.trans (decide_eq_decide.2 (by omega)), this.2⟩
    · next hl =>
      rw [if_neg hl] at hi
      simp only [List.length_singleton] at hi
      obtain rfl : i = 0 := by omega
      exact ⟨by simp, fun h => by simp at h⟩
theorem pgs_len (m : Nat) : ∀ (f : Nat) (L : List It), (pgs m f L).length ≤ f
  | 0, _ => Nat.le_refl _
  | f + 1, L => by
    unfold pgs
    split
    · have := pgs_len m f (L.drop m)
      simp only [List.length_cons]
      omega
    · simp
section
variable {names : List Tx} {pfx sign : Tx} {m : Nat}
theorem lastOf_take (L : List It) (n : Nat) (h0 : 0 < n) (h : n ≤ L.length) : lastOf (L.take n) = (L[n - 1]'(by omega)).1 := by
  obtain ⟨m, rfl⟩ : ∃ m, n = m + 1 := ⟨n - 1, by omega⟩
  rw [List.take_add_one, List.getElem?_eq_getElem (by omega), Option.toList_some, lastOf_snoc]
  rfl
theorem all_loop (hr : Rise names) (hn : names.length ≤ 60) (hw : ∀ x ∈ names, x.length ≤ 60) (hne : ∀ x ∈ names, x ≠ []) (hs : sign.length ≤ 20) (hm : 0 < m) (hm2 : m ≤ 100) :
    ∀ (f c : Nat) (af : Tx) (pg : List (List It × Bool)), c + f = names.length + 1 → (items pfx sign af names).length < f → pg.length ≤ c →
    Ev (fun k => listing_All.l0 k (mkL names) (pg.map toS) ((names.length : Int) + 1) (c : Int) (mkB pfx) (mkB sign) (mkB af) (m : Int)) ((pg ++ pgs m f (items pfx sign af names)).map toS, 0)
  | 0, c, af, pg, h1, h2, h3 => by omega
  | f + 1, c, af, pg, h1, h2, h3 => by
    refine Ev.succ ?_
    simp only [listing_All.l0, mkL_len, List.length_map]
    simp only [if_pos (show (c : Int) < (names.length : Int) + 1 by omega), if_pos (show pg.length < 1954687338268 by omega)]
    refine Ev.bind (page_tell (n := m) hr hn hw hs (by unfold mn mx; split <;> split <;> omega)) ?_
    simp only [Option.bind_some, next_lt (n := 100) (by omega) (show c < 100 by omega)]
    unfold pgs
    by_cases hl : m < (items pfx sign af names).length
    · have hx : (items pfx sign af names)[m - 1]? = some (items pfx sign af names)[m - 1] := List.getElem?_eq_getElem (by omega)
      have hnx := items_after hr hx (item_ne hr hne (List.mem_of_getElem? hx))
      rw [show m - 1 + 1 = m by omega] at hnx
      have hla := lastOf_take (items pfx sign af names) m hm (by omega)
      rw [← hla] at hnx
      rw [if_pos hl]
      have ih := all_loop hr hn hw hne hs hm hm2 f (c + 1) (lastOf ((items pfx sign af names).take m)) (pg ++ [((items pfx sign af names).take m, true)]) (by omega) (by rw [hnx, List.length_drop]; omega) (by simp; omega)
      rw [hnx] at ih
      simp only [out, decide_eq_true hl, if_true]
      simpa [toS, List.append_assoc] using ih
    · rw [if_neg hl, List.take_of_length_le (by omega)]
      simp only [out, decide_eq_false hl, Bool.false_eq_true, if_false]
      refine Ev.give fun k => ?_
      simp [toS]
theorem all_tell {after : Tx} (hr : Rise names) (hn : names.length ≤ 60) (hw : ∀ x ∈ names, x.length ≤ 60) (hne : ∀ x ∈ names, x ≠ []) (hs : sign.length ≤ 20) (hm : 0 < m) (hm2 : m ≤ 100) :
    Ev (fun k => listing_All.f k (mkL names) (mkB pfx) (mkB sign) (mkB after) (m : Int)) ((pgs m (names.length + 1) (items pfx sign after names)).map toS, 0) := by
  have hlen := items_len (names := names) pfx sign after
  have h := all_loop (pfx := pfx) hr hn hw hne hs hm hm2 (names.length + 1) 0 after [] (by omega) (by omega) (Nat.le_refl _)
  unfold listing_All.f
  simp only [if_neg (show ¬ (m : Int) < 1 by omega), mkL_len, wr (show -9223372036854775808 ≤ (names.length : Int) + 1 by omega) (show (names.length : Int) + 1 ≤ 9223372036854775807 by omega)]
  exact h
end
theorem rd_S (p : List (List It × Bool)) (i : Nat) (h : i < p.length) : rd_T26 (p.map toS) (i : Int) = toS p[i] := by
  unfold rd_T26
  rw [Int.toNat_natCast, List.getD_eq_getElem?_getD, List.getElem?_map, List.getElem?_eq_getElem h]
  rfl
theorem take_one {α : Type} (p : List α) (i : Nat) (h : i < p.length) : p.take (i + 1) = p.take i ++ [p[i]] := by
  rw [List.take_add_one, List.getElem?_eq_getElem h]
  rfl
section
variable {names : List Tx} {pfx sign after : Tx} {m : Nat}
theorem law_loop (hr : Rise names) (hn : names.length ≤ 60) (hw : ∀ x ∈ names, x.length ≤ 60) (hs : sign.length ≤ 20) (p : List (List It × Bool)) (hp : (p.map (·.1)).flatten = items pfx sign after names)
    (hpl : p.length ≤ 100) (hq : ∀ (i : Nat) (h : i < p.length), p[i].2 = decide (i + 1 < p.length) ∧ (p[i].2 = true → p[i].1.length = m)) :
    ∀ (d i : Nat), i + d = p.length → Ev (fun k => deedboxlaw27_ListingAll.l0 k (mkL names) (p.map toS) (mkL (U ((p.take i).map (·.1)).flatten)) (mkL (P ((p.take i).map (·.1)).flatten)) (i : Int) (mkB pfx) (mkB sign) (mkB after) (m : Int)) true
  | 0, i, h => by
    have hlen := items_len (names := names) pfx sign after
    have hUP := UP_length (items pfx sign after names)
    refine Ev.succ ?_
    simp only [deedboxlaw27_ListingAll.l0, List.length_map]
    simp only [if_neg (show ¬ (i : Int) < (p.length : Int) by omega)]
    rw [List.take_of_length_le (by omega), hp]
    refine Ev.bind (page_tell (n := 1000) hr hn hw hs (by decide)) ?_
    simp only [out, List.take_of_length_le (show (items pfx sign after names).length ≤ 1000 by omega), decide_eq_false (show ¬ 1000 < (items pfx sign after names).length by omega), Bool.false_eq_true, if_false]
    refine Ev.bind (same_tell _ (by omega)) ?_
    simp only [if_true]
    refine Ev.bind (same_tell _ (by omega)) ?_
    simp only [if_true]
    exact works_end fun k => rfl
  | d + 1, i, h => by
    have hlen := items_len (names := names) pfx sign after
    have hi : i < p.length := by omega
    have ih := law_loop hr hn hw hs p hp hpl hq d (i + 1) (by omega)
    have hUP := UP_length (items pfx sign after names)
    have hsub : ((p.take (i + 1)).map (·.1)).flatten.length ≤ (items pfx sign after names).length := by
      rw [← hp]
      conv => rhs; rw [← List.take_append_drop (i + 1) p]
      rw [List.map_append, List.flatten_append, List.length_append]
      omega
    have e : ((p.take (i + 1)).map (·.1)).flatten = ((p.take i).map (·.1)).flatten ++ p[i].1 := by
      rw [take_one p i hi, List.map_append, List.flatten_append]
      simp
    have h1 := UP_length ((p.take (i + 1)).map (·.1)).flatten
    have h2 := UP_length p[i].1
    rw [e, U_append, P_append, List.length_append, List.length_append] at h1
    rw [e, List.length_append] at hsub
    rw [e, U_append, P_append, ← mkL_app, ← mkL_app] at ih
    obtain ⟨q1, q2⟩ := hq i hi
    refine Ev.step (fun k => ?_) ih
    rw [List.length_append] at h1
    simp only [deedboxlaw27_ListingAll.l0, List.length_map]
    rw [if_pos (by omega), if_pos (by omega), rd_S p i hi]
    simp only [toS, mkL_len, Option.bind_some]
    rw [if_pos (by omega), if_pos (by omega), next_lt (n := p.length) (by omega) hi, wr (n := (p.length : Int) - 1) (by omega) (by omega)]
    have hd : decide ((i : Int) < (p.length : Int) - 1) = p[i].2 := by rw [q1]; exact decide_eq_decide.2 (by omega)
    rw [hd]
    cases hb : p[i].2 with
    | false => simp
    | true =>
      have q2 := q2 hb
      simp only [bne_self_eq_false, Bool.false_eq_true, if_false, if_true]
      rw [wr (by omega) (by omega), if_pos (by omega)]
end
/-- The law. -/
theorem ListingAll (l0 : List ByteArray) (a1 a2 a3 : ByteArray) (n : Int) (hwf : (Lit.int .u8 n).wf = true) : ∃ k, deedboxlaw27_ListingAll.f k l0 a1 a2 a3 n = some true := by
  have hn : 0 ≤ n ∧ n ≤ 255 := by
    simp [Lit.wf, IntKind.min, IntKind.max, IntKind.signed, IntKind.bits] at hwf
    omega
  refine Ev.rounds ?_
  obtain ⟨names, rfl⟩ : ∃ names, l0 = mkL names := ⟨_, (mkL_of l0).symm⟩
  obtain ⟨pfx, rfl⟩ : ∃ p, a1 = mkB p := ⟨_, (mkB_of a1).symm⟩
  obtain ⟨sign, rfl⟩ : ∃ p, a2 = mkB p := ⟨_, (mkB_of a2).symm⟩
  obtain ⟨after, rfl⟩ : ∃ p, a3 = mkB p := ⟨_, (mkB_of a3).symm⟩
  obtain ⟨b, hb, hg⟩ := rise_tell names
  have free : Ev (fun k => deedboxlaw27_ListingAll.j0 k (mkL names) (mkB pfx) (mkB sign) (mkB after) n true) true := Ev.succ (by
    simp only [deedboxlaw27_ListingAll.j0, if_true]
    exact works_end fun k => rfl)
  unfold deedboxlaw27_ListingAll.f
  refine Ev.bind hb ?_
  cases b with
  | false => exact free
  | true =>
    obtain ⟨g1, g2, g3, g4⟩ := hg rfl
    simp only [if_true, mkB_size]
    by_cases h1 : (pfx.length : Int) > 60
    · simp only [h1, if_true]
      exact free
    · simp only [h1, if_false]
      by_cases h2 : (sign.length : Int) > 20
      · simp only [h2, if_true]
        exact free
      · simp only [h2, if_false]
        by_cases h3 : (after.length : Int) > 60
        · simp only [h3, decide_true]
          exact free
        · simp only [h3, decide_false]
          obtain ⟨v, rfl⟩ := Int.eq_ofNat_of_zero_le hn.1
          have hw : wrap64 (1 + Int.tmod (wrap64 (v : Int)) 9) = ((1 + v % 9 : Nat) : Int) := by
            rw [wr (n := (v : Int)) (by omega) (by omega), Int.tmod_eq_emod_of_nonneg (by omega), wr (by omega) (by omega)]
            omega
          have hlen := items_len (names := names) pfx sign after
          refine Ev.succ ?_
          simp only [deedboxlaw27_ListingAll.j0, Bool.false_eq_true, if_false, hw]
          refine Ev.bind (all_tell g4 g1 g2 g3 (by omega) (by omega) (by omega)) ?_
          simp only [if_true, List.length_map]
          have hne := List.length_pos_iff.2 (pgs_ne (1 + v % 9) (f := names.length + 1) (L := items pfx sign after names) (by omega))
          have hl2 := pgs_len (1 + v % 9) (names.length + 1) (items pfx sign after names)
          have hz : (((pgs (1 + v % 9) (names.length + 1) (items pfx sign after names)).length : Int) == 0) = false := beq_eq_false_iff_ne.2 (by omega)
          rw [hz]
          refine Ev.succ ?_
          simp only [deedboxlaw27_ListingAll.j1, Bool.false_eq_true, if_false]
          exact law_loop g4 g1 g2 (by omega) _ (pgs_all _ (by omega) _ _ (by omega)) (by omega) (pgs_more _ (by omega) _ _ (by omega)) _ 0 (Nat.zero_add _)

end Go.Proofs.Ytfgbgidaefephaa.Pure
