/- The pure statement of CondBack: what the walk tells answers as the chapter says. -/
import Derived.Test.YtkjmffhkchlkeaaDoorQCondBackx3
import Derived.Test.YtkjmffhkchlkeaaDoorCond
namespace Go.Proofs.YtkjmffhkchlkeaaDoor.Pure
open Go.RowKit Go.Proofs.YtkjmffhkchlkeaaDoor.QCondBack Go.Proofs.YtkjmffhkchlkeaaDoor.Cond Go.Proofs.YtkjmffhkchlkeaaDoor.Kit Go.Proofs.YtkjmffhkchlkeaaDoor.Num Go.Proofs.YtkjmffhkchlkeaaDoor.Cut Go.Proofs.YtkjmffhkchlkeaaDoorW.PrintWords Go.Proofs.YtkjmffhkchlkeaaDoorW.PrintLast Go.Proofs.YtkjmffhkchlkeaaDoorW.PrintMore
set_option linter.unusedVariables false
set_option linter.unusedSimpArgs false

theorem Ev.fin {α : Type} {g : Nat → Option α} {r : α} (h : ∀ k, g (k + 1) = some r) : Ev g r := ⟨1, fun n hn => by
  obtain ⟨m, rfl⟩ : ∃ m, n = m + 1 := ⟨n - 1, by omega⟩
  exact h m⟩
theorem next_w {n : Nat} (h : n < 1000000) : wrap64 ((n : Int) + 1) = ((n + 1 : Nat) : Int) := by rw [wr (by omega) (by omega)]; rfl
theorem rd_at (p q : List Int) (c : Int) : rd (p ++ c :: q) (p.length : Int) = c := by unfold rd; rw [Int.toNat_natCast]; simp
theorem works_tells : Ev (fun k => deedboxlaw23_works.f k) true := Ev.of deedboxlaw23_works.mono (show deedboxlaw23_works.f 60 = some true by decide +kernel)
theorem works_end {f : Nat → Option Bool} (h : ∀ k, f k = (deedboxlaw23_works.f k).bind fun t => some t) : Ev f true :=
  Ev.congr (fun k => by rw [h]; cases deedboxlaw23_works.f k <;> rfl) works_tells

/-! ### Digits -/
theorem enc_digit (d : Nat) (h : d < 10) : Go.Utf8.encode (wrap32 (wrap64 (48 + (d : Int)))) = strOfNums [48 + (d : Int)] := by
  have : ∀ d : _root_.Fin 10, (Go.Utf8.encode (wrap32 (wrap64 (48 + (d.1 : Int))))).data = (strOfNums [48 + (d.1 : Int)]).data := by decide +kernel
  exact ByteArray.ext (this ⟨d, h⟩)
theorem digits_l0 : ∀ (m n : Nat) (acc : List Int), n < 10 ^ m → n < 9223372036854775808 → acc.length + m ≤ 1000000 →
    Ev (fun k => name_Digits.l0 k (n : Int) (strOfNums acc)) (strOfNums (digits n ++ acc)) := by
  intro m
  induction m with
  | zero =>
    intro n acc hm hn hl
    have hz : n = 0 := by rw [Nat.pow_zero] at hm; omega
    subst hz
    have e1 : Int.tmod ((0 : Nat) : Int) 10 = ((0 : Nat) : Int) := rfl
    have e2 : Int.tdiv ((0 : Nat) : Int) 10 = ((0 : Nat) : Int) := rfl
    have hsz : (strOfNums [48 + ((0 : Nat) : Int)]).size + (strOfNums acc).size ≤ 9223372036854775807 := by rw [strOfNums_size, strOfNums_size]; simp only [List.length_cons, List.length_nil]; omega
    refine Ev.step (f := fun _ => some (strOfNums (digits 0 ++ acc))) (fun k => ?_) (Ev.now _)
    simp only [name_Digits.l0]
    rw [e1, e2, enc_digit 0 (by omega), if_pos hsz, wr (n := ((0 : Nat) : Int)) (by omega) (by omega), if_pos (by omega), str_app, digits_lt (by omega)]
  | succ m ih =>
    intro n acc hm hn hl
    have e1 : Int.tmod (n : Int) 10 = ((n % 10 : Nat) : Int) := by rw [Int.tmod_eq_emod_of_nonneg (by omega)]; omega
    have e2 : Int.tdiv (n : Int) 10 = ((n / 10 : Nat) : Int) := by rw [Int.tdiv_eq_ediv_of_nonneg (by omega)]; omega
    have hsz : (strOfNums [48 + ((n % 10 : Nat) : Int)]).size + (strOfNums acc).size ≤ 9223372036854775807 := by rw [strOfNums_size, strOfNums_size]; simp only [List.length_cons, List.length_nil]; omega
    by_cases h : n < 10
    · refine Ev.step (f := fun _ => some (strOfNums (digits n ++ acc))) (fun k => ?_) (Ev.now _)
      simp only [name_Digits.l0]
      rw [e1, e2, enc_digit _ (by omega), if_pos hsz, wr (n := ((n / 10 : Nat) : Int)) (by omega) (by omega), if_pos (by omega), str_app, digits_lt h, show n % 10 = n by omega]
    · have i := ih (n / 10) ([48 + ((n % 10 : Nat) : Int)] ++ acc) (by rw [Nat.pow_succ] at hm; omega) (by omega) (by simp only [List.length_append, List.length_cons, List.length_nil]; omega)
      rw [digits_ge h, List.append_assoc]
      refine Ev.step (fun k => ?_) i
      simp only [name_Digits.l0]
      rw [e1, e2, enc_digit _ (by omega), if_pos hsz, wr (n := ((n / 10 : Nat) : Int)) (by omega) (by omega), if_neg (by omega), str_app]
theorem digits_tell (n : Int) (h0 : 0 ≤ n) (h1 : n ≤ 9223372036854775807) : Ev (fun k => name_Digits.f k n) (strOfNums (digits n.toNat)) := by
  obtain ⟨m, rfl⟩ := Int.eq_ofNat_of_zero_le h0
  have := digits_l0 20 m [] (by omega) (by omega) (by simp)
  rw [List.append_nil] at this
  exact this


/-! ### A list as a line -/
def tailL (ts : List Int) : List Int := ts.flatMap fun t => 44 :: 32 :: tagL t
def lineL : List Int → List Int
  | [] => []
  | t :: ts => tagL t ++ tailL ts
def Tags (ts : List Int) : Prop := ∀ t ∈ ts, 0 ≤ t ∧ t ≤ 9223372036854775807
theorem tagL_byt (n : Int) : Byt (tagL n) := by
  intro x hx
  simp only [tagL, List.mem_cons, List.mem_append, List.not_mem_nil, or_false] at hx
  rcases hx with h | h | h | h
  · omega
  · omega
  · have := digits_dig n.toNat x h
    omega
  · omega
theorem tagL_len {n : Int} (h0 : 0 ≤ n) (h : n ≤ 9223372036854775807) : (tagL n).length ≤ 24 := by
  have := digits_len n.toNat 20 (by omega)
  simp only [tagL, List.length_cons, List.length_append, List.length_nil]
  omega
theorem tail_len : ∀ {ts : List Int}, Tags ts → (tailL ts).length ≤ 26 * ts.length
  | [], _ => by simp [tailL]
  | t :: ts, h => by
    have h1 := tagL_len (h t (by simp)).1 (h t (by simp)).2
    have h2 := tail_len (ts := ts) fun x hx => h x (List.mem_cons_of_mem _ hx)
    simp only [tailL, List.flatMap_cons, List.length_append, List.length_cons] at h2 ⊢
    omega
theorem tail_byt (ts : List Int) : Byt (tailL ts) := by
  intro x hx
  obtain ⟨t, ht, hx⟩ := List.mem_flatMap.1 hx
  rcases List.mem_cons.1 hx with rfl | hx
  · omega
  · rcases List.mem_cons.1 hx with rfl | hx
    · omega
    · exact tagL_byt t x hx
theorem line_byt : ∀ (ts : List Int), Byt (lineL ts)
  | [] => Byt.nil
  | t :: ts => (tagL_byt t).app (tail_byt ts)
theorem line_len : ∀ {ts : List Int}, Tags ts → (lineL ts).length ≤ 26 * ts.length
  | [], _ => by simp [lineL]
  | t :: ts, h => by
    have h1 := tagL_len (h t (by simp)).1 (h t (by simp)).2
    have h2 := tail_len (ts := ts) fun x hx => h x (List.mem_cons_of_mem _ hx)
    simp only [lineL, List.length_append, List.length_cons]
    omega
theorem tag_str (n : Int) : ((⟨#[34, 118]⟩ : ByteArray) ++ strOfNums (digits n.toNat)) ++ (⟨#[34]⟩ : ByteArray) = strOfNums (tagL n) := by
  rw [show (⟨#[34, 118]⟩ : ByteArray) = strOfNums [34, 118] from by apply ByteArray.ext; rfl, show (⟨#[34]⟩ : ByteArray) = strOfNums [34] from by apply ByteArray.ext; rfl, str_app, str_app]
  rfl
theorem tag_tell {n : Int} (h0 : 0 ≤ n) (h : n ≤ 9223372036854775807) : Ev (fun k => cond_Tag.f k n) (strOfNums (tagL n)) := by
  have hl := digits_len n.toNat 20 (by omega)
  refine Ev.bind (digits_tell n h0 h) (Ev.congr (fun k => ?_) (Ev.now _))
  have hs : (strOfNums (digits n.toNat)).size = (digits n.toNat).length := strOfNums_size _
  rw [if_pos (by omega), if_pos (by omega), tag_str]
def u8s (xs : List Int) : List UInt8 := xs.map fun n => UInt8.ofNat n.toNat
theorem tail_join : ∀ (ts : List Int), Lib.joinTail [44, 32] (ts.map fun t => u8s (tagL t)) = u8s (tailL ts)
  | [] => rfl
  | t :: ts => by
    have ih := tail_join ts
    unfold Lib.joinTail at ih ⊢
    rw [List.map_cons, List.map_cons, List.flatten_cons, ih]
    simp [tailL, u8s]
theorem join_tags : ∀ (ts : List Int), Lib.join (ts.map fun t => u8s (tagL t)) [44, 32] = u8s (lineL ts)
  | [] => rfl
  | t :: ts => by
    rw [List.map_cons, Lib.join_cons, tail_join]
    simp [lineL, u8s]
theorem join_tell {ts : List Int} (h : Tags ts) (hl : ts.length ≤ 1000) : strings_Join.f (ts.map fun t => strOfNums (tagL t)) (⟨#[44, 32]⟩ : ByteArray) = some (strOfNums (lineL ts)) := by
  have e : Lib.join ((ts.map fun t => strOfNums (tagL t)).map (·.data.toList)) (⟨#[44, 32]⟩ : ByteArray).data.toList = u8s (lineL ts) := by
    rw [List.map_map]
    exact join_tags ts
  have hll := line_len h
  unfold strings_Join.f
  rw [e, if_pos ⟨by rw [List.length_map]; omega, by unfold u8s; rw [List.length_map]; omega⟩]
  rfl
theorem line_loop : ∀ (q p : List Int), Tags (p ++ q) → (p ++ q).length ≤ 1000 →
    Ev (fun k => cond_List_Line.l0 k (p.map fun t => strOfNums (tagL t)) (p ++ q) (((p ++ q).length : Nat) : Int) (p.length : Int)) (strOfNums (lineL (p ++ q)))
  | [], p, h, hl => by
    simp only [List.append_nil] at h hl ⊢
    refine Ev.fin fun k => ?_
    simp only [cond_List_Line.l0]
    rw [if_neg (by omega), join_tell h hl]
    rfl
  | c :: q, p, h, hl => by
    have e : p ++ c :: q = (p ++ [c]) ++ q := by simp
    have hc := h c (by simp)
    have ih := line_loop q (p ++ [c]) (by rw [← e]; exact h) (by rw [← e]; exact hl)
    rw [← e, show (p ++ [c]).length = p.length + 1 from by simp, List.map_append, List.map_singleton] at ih
    have hl2 := hl
    simp only [List.length_append, List.length_cons] at hl2
    refine Ev.step (f := fun k => (cond_Tag.f k c).bind fun t => cond_List_Line.l0 k ((p.map fun t => strOfNums (tagL t)) ++ [t]) (p ++ c :: q) (((p ++ c :: q).length : Nat) : Int) ((p.length + 1 : Nat) : Int)) (fun k => ?_) (Ev.bind (tag_tell hc.1 hc.2) ih)
    simp only [cond_List_Line.l0]
    rw [if_pos (by simp only [List.length_append, List.length_cons]; omega), if_pos (by omega), if_pos (by simp only [List.length_append, List.length_cons]; omega), rd_at, next_w (by omega)]
    congr 1
    funext t
    rw [if_pos (by rw [List.length_map]; omega)]
/-- The line of a list. -/
def lineOf (g a : Bool) (ts : List Int) : List Int := if g = true then (if a = true then [42] else lineL ts) else []
theorem line_tell (g a : Bool) {ts : List Int} (h : Tags ts) (hl : ts.length ≤ 1000) : Ev (fun k => cond_List_Line.f k g a ts) (strOfNums (lineOf g a ts)) := by
  unfold cond_List_Line.f lineOf
  cases g with
  | false => exact Ev.congr (fun k => by simp only [Bool.false_eq_true, if_false]; rfl) (Ev.now _)
  | true =>
    cases a with
    | true => exact Ev.congr (fun k => by simp only [if_true]; rfl) (Ev.now _)
    | false =>
      have := line_loop ts [] h hl
      simp only [if_true, Bool.false_eq_true, if_false]
      exact this

theorem same_loop (g a : Bool) : ∀ (q p : List Int), p.length + q.length < 1000000 → Ev (fun k => deedboxref23_Same.l0 k (p.length : Int) g a (p ++ q) g a (p ++ q)) true
  | [], p, h => by
    refine Ev.fin fun k => ?_
    simp only [deedboxref23_Same.l0]
    rw [if_neg (by simp)]
  | c :: q, p, h => by
    simp only [List.length_cons] at h
    have e : p ++ c :: q = (p ++ [c]) ++ q := by simp
    have ih := same_loop g a q (p ++ [c]) (by simp only [List.length_append, List.length_singleton]; omega)
    rw [← e, show (p ++ [c]).length = p.length + 1 from by simp] at ih
    refine Ev.step (fun k => ?_) ih
    simp only [deedboxref23_Same.l0]
    have hl : (p ++ c :: q).length = p.length + q.length + 1 := by simp; omega
    rw [if_pos (by omega), if_pos (by omega), if_pos (by omega), if_pos trivial, next_w (by omega)]
theorem same_tell (g a : Bool) (ts : List Int) (h : ts.length < 1000000) : Ev (fun k => deedboxref23_Same.f k g a ts g a ts) true := by
  have := same_loop g a ts [] (by simpa using h)
  refine Ev.congr (f := fun k => deedboxref23_Same.j0 k false g a ts g a ts) (fun k => ?_) (Ev.step (fun k => ?_) this)
  · unfold deedboxref23_Same.f
    simp
  · simp only [deedboxref23_Same.j0, Bool.false_eq_true, if_false]
    rfl

theorem no_comma (n : Int) : (44 : Int) ∉ tagL n := by
  intro h
  simp only [tagL, List.mem_cons, List.mem_append, List.not_mem_nil, or_false] at h
  rcases h with h | h | h | h
  · omega
  · omega
  · have := digits_dig n.toNat 44 h
    omega
  · omega
theorem pcs_tail : ∀ (ts : List Int) {p : List Int}, (44 : Int) ∉ p → p ≠ [] → pcs (p ++ tailL ts) = p :: ts.map fun t => 32 :: tagL t
  | [], p, h, hn => by
    rw [show tailL [] = [] from rfl, List.append_nil, pcs_no h hn]
    rfl
  | t :: ts, p, h, hn => by
    rw [show tailL (t :: ts) = 44 :: ((32 :: tagL t) ++ tailL ts) from by simp [tailL], pcs_at _ h, pcs_tail ts (p := 32 :: tagL t) (fun h => by
      rcases List.mem_cons.1 h with h | h
      · omega
      · exact no_comma t h) (by simp)]
    rfl
theorem tag_head (n : Int) : (tagL n).head? ≠ some 32 := by simp [tagL]
theorem tag_last (n : Int) : (tagL n).getLast? ≠ some 32 := by
  rw [show tagL n = (34 :: 118 :: digits n.toNat) ++ [34] from rfl, List.getLast?_concat]
  simp
theorem trim_tag (n : Int) : trimI (tagL n) = tagL n := ((trimI_Trim _).unique ⟨[], [], by simp, by simp, by simp, tag_head n, tag_last n⟩)
theorem trim_blank (n : Int) : trimI (32 :: tagL n) = tagL n := ((trimI_Trim _).unique ⟨[32], [], by simp, by simp, by simp, tag_head n, tag_last n⟩)
/-- A list that may be. -/
def may (g a : Bool) (ts : List Int) : Prop := (g = false ∧ a = false ∧ ts = []) ∨ (g = true ∧ a = true ∧ ts = []) ∨ (g = true ∧ a = false ∧ ts ≠ [])
theorem back_spec {g a : Bool} {ts : List Int} (h : may g a ts) (hT : ∀ t ∈ ts, 0 ≤ t ∧ t ≤ MX) (hl : ts.length ≤ 8) : spec (lineOf g a ts) (g, a, ts, 0) := by
  rcases h with ⟨rfl, rfl, rfl⟩ | ⟨rfl, rfl, rfl⟩ | ⟨rfl, rfl, h⟩
  · exact .inl ⟨rfl, rfl⟩
  · exact .inr (.inl ⟨by decide, by decide, rfl⟩)
  · cases ts with
    | nil => exact absurd rfl h
    | cons t ts =>
      have hp : pcs (lineL (t :: ts)) = tagL t :: ts.map fun t => 32 :: tagL t := pcs_tail ts (no_comma t) (by simp [tagL])
      have hm : (pcs (lineL (t :: ts))).map trimI = (t :: ts).map tagL := by
        rw [hp, List.map_cons, List.map_map, trim_tag, List.map_cons]
        congr 1
        exact List.map_congr_left fun u _ => trim_blank u
      refine .inr (.inr (.inl ⟨by simp [lineOf, lineL, tagL], fun e => ?_, ⟨?_, ?_⟩, ?_⟩))
      · obtain ⟨b, c, hbc, hb, hc, _⟩ := trimI_Trim (lineOf true false (t :: ts))
        rw [e] at hbc
        have h34 : (34 : Int) ∈ lineOf true false (t :: ts) := by simp [lineOf, lineL, tagL]
        rw [hbc] at h34
        rcases List.mem_append.1 h34 with h | h
        · rcases List.mem_append.1 h with h | h
          · have := hb _ h
            omega
          · have := List.mem_singleton.1 h
            omega
        · have := hc _ h
          omega
      · intro p hp'
        rw [show lineOf true false (t :: ts) = lineL (t :: ts) from rfl, hm] at hp'
        obtain ⟨u, hu, rfl⟩ := List.mem_map.1 hp'
        exact (tagL_Tag (hT u hu).1 (hT u hu).2).1
      · rw [show lineOf true false (t :: ts) = lineL (t :: ts) from rfl, hp]
        simpa using hl
      · rw [show lineOf true false (t :: ts) = lineL (t :: ts) from rfl]
        have e : (pcs (lineL (t :: ts))).map (fun p => tval (trimI p)) = ((t :: ts).map tagL).map tval := by rw [← hm, List.map_map]; rfl
        rw [e, List.map_map]
        congr 3
        symm
        conv => rhs; rw [← List.map_id (t :: ts)]
        exact List.map_congr_left fun u hu => (tagL_Tag (hT u hu).1 (hT u hu).2).2
theorem back_tell {g a : Bool} {ts : List Int} (h : may g a ts) (hT : ∀ t ∈ ts, 0 ≤ t ∧ t ≤ 4294967295) (hl : ts.length ≤ 8) : Ev (fun k => deedboxlaw23_CondBack.j3 k g a ts) true := by
  have hT1 : Tags ts := fun t ht => ⟨(hT t ht).1, by have := (hT t ht).2; omega⟩
  have hs := back_spec h (fun t ht => ⟨(hT t ht).1, by have := (hT t ht).2; unfold MX; omega⟩) hl
  have hB : Byt (lineOf g a ts) := by
    unfold lineOf
    split
    · split
      · unfold Byt; decide
      · exact line_byt ts
    · exact Byt.nil
  have hlen : (lineOf g a ts).length ≤ 300 := by
    have := line_len hT1
    unfold lineOf
    split
    · split
      · simp
      · omega
    · simp
  obtain ⟨r, hr, hsr⟩ := parse_str hB (by omega)
  obtain rfl := spec_unique hsr hs
  apply Ev.step
  · intro k
    simp only [deedboxlaw23_CondBack.j3]
    rfl
  · refine Ev.bind (line_tell g a hT1 (by omega)) ?_
    simp only [hr, Option.bind_some, deedboxlaw23_Ref.f, if_true]
    refine Ev.bind (same_tell g a ts (by omega)) ?_
    simp only [if_true]
    exact works_end fun k => rfl
theorem CondBack : deedboxlaw23_CondBack.Pure := by
  intro given all tags hm hm4 hwf
  refine Ev.rounds ?_
  have hT : ∀ t ∈ tags, 0 ≤ t ∧ t ≤ 4294967295 := fun t ht => by
    have := hwf t ht
    simp [Lit.wf, IntKind.min, IntKind.max, IntKind.signed, IntKind.bits] at this
    omega
  unfold deedboxlaw23_CondBack.f
  by_cases h8 : (tags.length : Int) > 8
  · simp only [if_pos h8]
    exact works_end fun k => rfl
  · simp only [if_neg h8]
    -- the tags are taken one by one
    have loop : ∀ (q p : List Int), tags = p ++ q → tags ≠ [] → Ev (fun k => deedboxlaw23_CondBack.l0 k true tags (p.length : Int) true false p) true := by
      intro q
      induction q with
      | nil =>
        intro p hp hne
        rw [List.append_nil] at hp
        subst hp
        refine Ev.step (fun k => ?_) (back_tell (g := true) (a := false) (.inr (.inr ⟨rfl, rfl, hne⟩)) hT (by omega))
        simp only [deedboxlaw23_CondBack.l0]
        rw [if_neg (by omega)]
      | cons c q ih =>
        intro p hp hne
        have hl : tags.length = p.length + q.length + 1 := by rw [hp]; simp; omega
        have hrd : rd tags (p.length : Int) = c := by rw [hp, rd_at]
        have hc := hT c (by rw [hp]; simp)
        have := ih (p ++ [c]) (by rw [hp]; simp) hne
        rw [show (p ++ [c]).length = p.length + 1 from by simp] at this
        refine Ev.step (fun k => ?_) this
        simp only [deedboxlaw23_CondBack.l0]
        rw [if_pos (by omega), if_pos trivial, if_neg (by simp), if_pos (by omega), if_pos (by omega), hrd, next_w (by omega), wr (n := c) (by omega) (by omega)]
    have j1 : ∀ a, (a = true ∨ tags ≠ []) → Ev (fun k => deedboxlaw23_CondBack.j1 k true tags true a) true := by
      intro a ha
      refine Ev.step (fun k => ?_) (f := fun k => deedboxlaw23_CondBack.l0 k true tags 0 true a []) ?_
      · simp only [deedboxlaw23_CondBack.j1]
      · cases a with
        | true =>
          refine Ev.step (fun k => ?_) (back_tell (g := true) (a := true) (ts := []) (.inr (.inl ⟨rfl, rfl, rfl⟩)) (by simp) (by simp))
          simp only [deedboxlaw23_CondBack.l0, if_true, ite_self]
        | false => exact loop tags [] rfl (ha.resolve_left (by simp))
    cases given with
    | false =>
      simp only [Bool.false_eq_true, if_false]
      refine Ev.step (f := fun k => deedboxlaw23_CondBack.j1 k false tags false false) (fun k => ?_) (Ev.step (f := fun k => deedboxlaw23_CondBack.l0 k false tags 0 false false []) (fun k => ?_) (Ev.step (fun k => ?_) (back_tell (g := false) (a := false) (ts := []) (.inl ⟨rfl, rfl, rfl⟩) (by simp) (by simp))))
      · simp only [deedboxlaw23_CondBack.j0, Bool.false_eq_true, if_false]
      · simp only [deedboxlaw23_CondBack.j1]
      · simp only [deedboxlaw23_CondBack.l0, Bool.false_eq_true, if_false, ite_self]
    | true =>
      have j0 : ∀ b, (b = true ∨ tags ≠ []) → Ev (fun k => deedboxlaw23_CondBack.j0 k true tags b true false) true := by
        intro b hb
        cases b with
        | true =>
          refine Ev.step (fun k => ?_) (j1 true (.inl rfl))
          simp only [deedboxlaw23_CondBack.j0, if_true]
        | false =>
          refine Ev.step (fun k => ?_) (j1 false (.inr (hb.resolve_left (by simp))))
          simp only [deedboxlaw23_CondBack.j0, Bool.false_eq_true, if_false]
      simp only [if_true]
      cases all with
      | true => simpa only [if_true] using j0 true (.inl rfl)
      | false =>
        simp only [Bool.false_eq_true, if_false]
        refine j0 _ ?_
        by_cases h0 : tags = []
        · exact .inl (by subst h0; rfl)
        · exact .inr h0


end Go.Proofs.YtkjmffhkchlkeaaDoor.Pure
