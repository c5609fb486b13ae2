/- Texts in their order, names told with their beginnings, and the list of what is told: plain laws, with no program. -/
import Derived.Lib.IndexMore
import Derived.WalkMore
namespace Go.Proofs.Ytfgbgidaefephaa.Lst
open Go.Lib

abbrev Tx := List UInt8
def Lt (a b : Tx) : Prop := Op.bytesLess a b = true
instance (a b : Tx) : Decidable (Lt a b) := inferInstanceAs (Decidable (_ = true))

theorem lt_nil (a : Tx) : ¬ Lt a [] := by cases a <;> simp [Lt, Op.bytesLess]
theorem nil_lt {a : Tx} (h : a ≠ []) : Lt [] a := by cases a with
  | nil => exact absurd rfl h
  | cons x l => simp [Lt, Op.bytesLess]
theorem lt_cons {x y : UInt8} {a b : Tx} : Lt (x :: a) (y :: b) ↔ x < y ∨ (x = y ∧ Lt a b) := by simp [Lt, Op.bytesLess]
theorem lt_irrefl : ∀ a : Tx, ¬ Lt a a
  | [] => lt_nil _
  | x :: a => by
    rw [lt_cons]
    rintro (h | ⟨_, h⟩)
    · exact absurd h (UInt8.lt_irrefl x)
    · exact lt_irrefl a h
theorem lt_trans : ∀ {a b c : Tx}, Lt a b → Lt b c → Lt a c
  | _, _, [], _, h => absurd h (lt_nil _)
  | _, [], _ :: _, h, _ => absurd h (lt_nil _)
  | [], _ :: _, _ :: _, _, _ => by simp [Lt, Op.bytesLess]
  | x :: a, y :: b, z :: c, h1, h2 => by
    rw [lt_cons] at *
    rcases h1 with h1 | ⟨rfl, h1⟩
    · rcases h2 with h2 | ⟨rfl, h2⟩
      · exact .inl (UInt8.lt_trans h1 h2)
      · exact .inl h1
    · rcases h2 with h2 | ⟨rfl, h2⟩
      · exact .inl h2
      · exact .inr ⟨rfl, lt_trans h1 h2⟩
theorem lt_total : ∀ a b : Tx, Lt a b ∨ a = b ∨ Lt b a
  | [], [] => .inr (.inl rfl)
  | [], _ :: _ => .inl (by simp [Lt, Op.bytesLess])
  | _ :: _, [] => .inr (.inr (by simp [Lt, Op.bytesLess]))
  | x :: a, y :: b => by
    simp only [lt_cons]
    rcases Nat.lt_trichotomy x.toNat y.toNat with h | h | h
    · exact .inl (.inl (UInt8.lt_iff_toNat_lt.2 h))
    · obtain rfl := UInt8.toNat_inj.1 h
      rcases lt_total a b with h | rfl | h
      · exact .inl (.inr ⟨rfl, h⟩)
      · exact .inr (.inl rfl)
      · exact .inr (.inr (.inr ⟨rfl, h⟩))
    · exact .inr (.inr (.inl (UInt8.lt_iff_toNat_lt.2 h)))
theorem lt_asymm {a b : Tx} (h : Lt a b) : ¬ Lt b a := fun h2 => lt_irrefl a (lt_trans h h2)
theorem le_lt {a b c : Tx} (h : ¬ Lt b a) (h2 : Lt b c) : Lt a c := by
  rcases lt_total a b with h1 | rfl | h1
  · exact lt_trans h1 h2
  · exact h2
  · exact absurd h1 h
theorem lt_le {a b c : Tx} (h : Lt a b) (h2 : ¬ Lt c b) : Lt a c := by
  rcases lt_total b c with h1 | rfl | h1
  · exact lt_trans h h1
  · exact h
  · exact absurd h1 h2
theorem le_le {a b c : Tx} (h : ¬ Lt b a) (h2 : ¬ Lt c b) : ¬ Lt c a := fun h3 => by
  rcases lt_total a b with h1 | rfl | h1
  · exact lt_asymm (lt_le h1 h2) h3
  · exact h2 h3
  · exact h h1
theorem le_antisymm {a b : Tx} (h : ¬ Lt b a) (h2 : ¬ Lt a b) : a = b := by
  rcases lt_total a b with h1 | rfl | h1
  · exact absurd h1 h2
  · rfl
  · exact absurd h1 h
/-- A beginning isn't behind what it begins. -/
theorem pre_le : ∀ {p a : Tx}, p <+: a → ¬ Lt a p
  | [], a, _ => lt_nil a
  | x :: p, [], h => by simp at h
  | x :: p, y :: a, h => by
    rw [List.cons_prefix_cons] at h
    obtain ⟨rfl, h⟩ := h
    rw [lt_cons]
    rintro (h1 | ⟨_, h1⟩)
    · exact UInt8.lt_irrefl x h1
    · exact pre_le h h1
/-- What stands between a beginning and what it begins has this beginning. -/
theorem pre_between : ∀ {p b c : Tx}, ¬ Lt b p → Lt b c → p <+: c → p <+: b
  | [], _, _, _, _, _ => List.nil_prefix
  | x :: p, [], c, h1, _, _ => absurd (by simp [Lt, Op.bytesLess]) h1
  | x :: p, y :: b, [], _, _, h => by simp at h
  | x :: p, y :: b, z :: c, h1, h2, h => by
    rw [List.cons_prefix_cons] at h
    obtain ⟨rfl, h⟩ := h
    rw [lt_cons] at h1 h2
    rcases h2 with h2 | ⟨rfl, h2⟩
    · exact absurd (.inl h2) h1
    · exact List.cons_prefix_cons.2 ⟨rfl, pre_between (fun h3 => h1 (.inr ⟨rfl, h3⟩)) h2 h⟩

/-- With what a name is told: 'p' is how long the beginning is that is asked for. -/
structure Grp (p : Nat) (sign name it : Tx) (sh : Bool) : Prop where
  no : sh = false → it = name ∧ (sign = [] ∨ ∀ j, p ≤ j → ¬ sign <+: name.drop j)
  yes : sh = true → sign ≠ [] ∧ ∃ i, p ≤ i ∧ it = name.take (i + sign.length) ∧ sign <+: name.drop i ∧ ∀ j, p ≤ j → j < i → ¬ sign <+: name.drop j
theorem Grp.unique {p : Nat} {sign name it it2 : Tx} {sh sh2 : Bool} (h : Grp p sign name it sh) (h2 : Grp p sign name it2 sh2) : it = it2 ∧ sh = sh2 := by
  cases sh <;> cases sh2
  · exact ⟨(h.no rfl).1.trans (h2.no rfl).1.symm, rfl⟩
  · obtain ⟨_, h⟩ := h.no rfl
    obtain ⟨hn, i, hi, _, hit, _⟩ := h2.yes rfl
    exact (h.elim hn fun h => h i hi hit).elim
  · obtain ⟨_, h2⟩ := h2.no rfl
    obtain ⟨hn, i, hi, _, hit, _⟩ := h.yes rfl
    exact (h2.elim hn fun h => h i hi hit).elim
  · obtain ⟨hn, i, hi, rfl, hit, hb⟩ := h.yes rfl
    obtain ⟨_, i2, hi2, rfl, hit2, hb2⟩ := h2.yes rfl
    rcases Nat.lt_trichotomy i i2 with h | rfl | h
    · exact absurd hit (hb2 i hi h)
    · exact ⟨rfl, rfl⟩
    · exact absurd hit2 (hb i2 hi2 h)
theorem Grp.pre {p : Nat} {sign name it : Tx} {sh : Bool} (h : Grp p sign name it sh) : it <+: name := by
  cases sh
  · exact (h.no rfl).1 ▸ List.prefix_refl _
  · obtain ⟨_, i, _, rfl, _⟩ := h.yes rfl
    exact List.take_prefix _ _
theorem hit_iff {sign t u : Tx} {j : Nat} (h : j + sign.length ≤ t.length) : sign <+: (t ++ u).drop j ↔ sign <+: t.drop j := by
  rw [List.drop_append_of_le_length (by omega)]
  constructor
  · intro h2
    exact List.prefix_of_prefix_length_le h2 (List.prefix_append _ _) (by rw [List.length_drop]; omega)
  · exact fun h2 => h2.trans (List.prefix_append _ _)
/-- Whatever begins with a shared beginning is told with it. -/
theorem Grp.of_pre {p : Nat} {sign a b it : Tx} (h : Grp p sign b it true) (ha : it <+: a) : Grp p sign a it true := by
  refine ⟨(by intro h; cases h), fun _ => ?_⟩
  obtain ⟨hn, i, hi, he, hit, hb⟩ := h.yes rfl
  have hroom : i + sign.length ≤ b.length := by
    have := hit.length_le
    rw [List.length_drop] at this
    have h0 : 0 < sign.length := List.length_pos_iff.2 hn
    omega
  have hl : it.length = i + sign.length := by rw [he, List.length_take]; omega
  have hpb : it <+: b := he ▸ List.take_prefix _ _
  obtain ⟨t, rfl⟩ := ha
  obtain ⟨u, rfl⟩ := hpb
  refine ⟨hn, i, hi, ?_, ?_, fun j hj hji => ?_⟩
  · rw [← hl, List.take_left]
  · rw [hit_iff (by omega)] at hit ⊢
    exact hit
  · have := hb j hj hji
    rw [hit_iff (by omega)] at this ⊢
    exact this
/-- What is told of names that rise rises; what is told of two is shared. -/
theorem Grp.mono {p : Nat} {sign a b ia ib : Tx} {sa sb : Bool} (ha : Grp p sign a ia sa) (hb : Grp p sign b ib sb) (h : Lt a b) : ¬ Lt ib ia ∧ (ia = ib → sa = true ∧ sb = true) := by
  have hpa := ha.pre
  have hpb := hb.pre
  constructor
  · intro hlt
    cases sb with
    | false =>
      obtain ⟨rfl, _⟩ := hb.no rfl
      exact lt_asymm h (lt_le hlt (pre_le hpa))
    | true =>
      have h1 : ib <+: a := pre_between (lt_asymm (lt_le hlt (pre_le hpa))) h hpb
      obtain ⟨rfl, _⟩ := ha.unique (hb.of_pre h1)
      exact lt_irrefl _ hlt
  · rintro rfl
    cases sb with
    | false =>
      obtain ⟨rfl, _⟩ := hb.no rfl
      exact absurd h (pre_le hpa)
    | true => exact ⟨(ha.unique (hb.of_pre hpa)).2, rfl⟩
/-- 'grp': with what a name is told. -/
def grp (p : Nat) (sign name : Tx) : Tx × Bool :=
  if sign = [] then (name, false) else
  if index (name.drop p) sign < 0 then (name, false) else (name.take (p + (index (name.drop p) sign).toNat + sign.length), true)
theorem grp_Grp (p : Nat) (sign name : Tx) : Grp p sign name (grp p sign name).1 (grp p sign name).2 := by
  unfold grp
  by_cases h : sign = []
  · rw [if_pos h]
    exact ⟨fun _ => ⟨rfl, .inl h⟩, by intro h; cases h⟩
  · rw [if_neg h]
    rcases index_spec (name.drop p) sign with ⟨h1, h2⟩ | ⟨i, h1, h2, h3, h4⟩
    · rw [if_pos (by omega)]
      refine ⟨fun _ => ⟨rfl, .inr fun j hj hp => ?_⟩, by intro h; cases h⟩
      by_cases hl : j - p ≤ (name.drop p).length
      · have := h2 (j - p) hl
        simp only [occAt, List.drop_drop] at this
        rw [show p + (j - p) = j by omega] at this
        rw [List.isPrefixOf_iff_prefix.2 hp] at this
        cases this
      · rw [List.drop_eq_nil_of_le (by simp at hl ⊢; omega)] at hp
        exact h (List.prefix_nil.1 hp)
    · rw [if_neg (by omega), h1]
      refine ⟨(by intro h; cases h), fun _ => ⟨h, p + i, by omega, rfl, ?_, fun j hj hji hp => ?_⟩⟩
      · simp only [occAt, List.drop_drop] at h3
        exact List.isPrefixOf_iff_prefix.1 h3
      · have := h4 (j - p) (by omega)
        simp only [occAt, List.drop_drop] at this
        rw [show p + (j - p) = j by omega] at this
        rw [List.isPrefixOf_iff_prefix.2 hp] at this
        cases this

abbrev It := Tx × Bool
/-- What is told, name by name. -/
def raws (pfx sign after : Tx) (names : List Tx) : List It :=
  ((names.filter fun n => pfx.isPrefixOf n).map (grp pfx.length sign)).filter fun x => decide (after = []) || Op.bytesLess after x.1
def step (acc : List It) (x : It) : List It := if x.1 ∈ acc.map (·.1) then acc else acc ++ [x]
def items (pfx sign after : Tx) (names : List Tx) : List It := (raws pfx sign after names).foldl step []
def R (x y : It) : Prop := ¬ Lt y.1 x.1 ∧ (x.1 = y.1 → x.2 = true ∧ y.2 = true)
theorem raws_nil (pfx sign after : Tx) : raws pfx sign after [] = [] := rfl
theorem raws_skip {pfx sign after n : Tx} {l : List Tx} (h : pfx.isPrefixOf n = false) : raws pfx sign after (n :: l) = raws pfx sign after l := by simp [raws, h]
theorem raws_past {pfx sign after n : Tx} {l : List Tx} (h : pfx.isPrefixOf n = true) (h1 : after ≠ []) (h2 : Op.bytesLess after (grp pfx.length sign n).1 = false) : raws pfx sign after (n :: l) = raws pfx sign after l := by simp [raws, h, h1, h2]
theorem raws_take {pfx sign after n : Tx} {l : List Tx} (h : pfx.isPrefixOf n = true) (h1 : after = [] ∨ Op.bytesLess after (grp pfx.length sign n).1 = true) : raws pfx sign after (n :: l) = grp pfx.length sign n :: raws pfx sign after l := by
  rcases h1 with h1 | h1 <;> simp [raws, h, h1]
def Rise (l : List Tx) : Prop := l.Pairwise Lt
theorem raws_R {names : List Tx} (h : Rise names) (pfx sign after : Tx) : (raws pfx sign after names).Pairwise R := by
  refine List.Pairwise.filter _ ?_
  rw [List.pairwise_map]
  exact (List.Pairwise.filter _ h).imp fun {a b} hab => (grp_Grp pfx.length sign a).mono (grp_Grp pfx.length sign b) hab
/-- What holds along the way: of what is told, and of what follows. -/
structure Inv (acc rest : List It) : Prop where
  up : acc.Pairwise fun x y => Lt x.1 y.1
  rel : rest.Pairwise R
  next : ∀ a ∈ acc, ∀ x ∈ rest, R a x
theorem Inv.start {rest : List It} (h : rest.Pairwise R) : Inv [] rest := ⟨List.Pairwise.nil, h, fun _ h => by cases h⟩
theorem step_old {acc : List It} {x : It} (h : x.1 ∈ acc.map (·.1)) : step acc x = acc := if_pos h
theorem step_new {acc : List It} {x : It} (h : ¬ x.1 ∈ acc.map (·.1)) : step acc x = acc ++ [x] := if_neg h
theorem Inv.step {acc rest : List It} {x : It} (h : Inv acc (x :: rest)) : Inv (step acc x) rest := by
  have hr := List.pairwise_cons.1 h.rel
  by_cases hm : x.1 ∈ acc.map (·.1)
  · rw [step_old hm]
    exact ⟨h.up, hr.2, fun a ha y hy => h.next a ha y (List.mem_cons_of_mem _ hy)⟩
  · rw [step_new hm]
    refine ⟨?_, hr.2, fun a ha y hy => ?_⟩
    · rw [List.pairwise_append]
      refine ⟨h.up, List.pairwise_singleton _ _, fun a ha y hy => ?_⟩
      obtain rfl : y = x := by simpa using hy
      rcases lt_total a.1 y.1 with h1 | h1 | h1
      · exact h1
      · exact absurd (List.mem_map.2 ⟨a, ha, h1⟩) hm
      · exact absurd h1 (h.next a ha y (List.mem_cons_self ..)).1
    · rcases List.mem_append.1 ha with ha | ha
      · exact h.next a ha y (List.mem_cons_of_mem _ hy)
      · obtain rfl : a = x := by simpa using ha
        exact hr.1 y hy
theorem up_last {acc : List It} (h : acc.Pairwise fun x y => Lt x.1 y.1) {z : It} (hz : acc.getLast? = some z) {a : It} (ha : a ∈ acc) : ¬ Lt z.1 a.1 := by
  obtain ⟨l, rfl⟩ : ∃ l, acc = l ++ [z] := by
    have := List.getLast?_eq_some_iff.1 hz
    exact this
  rw [List.pairwise_append] at h
  rcases List.mem_append.1 ha with h1 | h1
  · exact lt_asymm (h.2.2 a h1 z (by simp))
  · obtain rfl : a = z := by simpa using h1
    exact lt_irrefl _
/-- What was told already is what was told last. -/
theorem Inv.last {acc rest : List It} {x : It} (h : Inv acc (x :: rest)) : x.1 ∈ acc.map (·.1) ↔ ∃ z, acc.getLast? = some z ∧ z.1 = x.1 := by
  constructor
  · intro hm
    obtain ⟨a, ha, he⟩ := List.mem_map.1 hm
    cases hz : acc.getLast? with
    | none => rw [List.getLast?_eq_none_iff] at hz; subst hz; cases ha
    | some z =>
      refine ⟨z, rfl, ?_⟩
      have h1 := up_last h.up hz ha
      have h2 := (h.next z (List.mem_of_getLast? hz) x (List.mem_cons_self ..)).1
      exact le_antisymm h2 (by rw [← he]; exact h1)
  · rintro ⟨z, hz, he⟩
    exact List.mem_map.2 ⟨z, List.mem_of_getLast? hz, he⟩
/-- What was told already is shared, and stands among what is shared. -/
theorem Inv.shared {acc rest : List It} {x : It} (h : Inv acc (x :: rest)) : x.1 ∈ acc.map (·.1) ↔ x.2 = true ∧ x.1 ∈ (acc.filter (·.2)).map (·.1) := by
  constructor
  · intro hm
    obtain ⟨a, ha, he⟩ := List.mem_map.1 hm
    have := (h.next a ha x (List.mem_cons_self ..)).2 he
    exact ⟨this.2, List.mem_map.2 ⟨a, List.mem_filter.2 ⟨ha, this.1⟩, he⟩⟩
  · rintro ⟨_, hm⟩
    obtain ⟨a, ha, he⟩ := List.mem_map.1 hm
    exact List.mem_map.2 ⟨a, (List.mem_filter.1 ha).1, he⟩
theorem foldl_pre (l : List It) : ∀ acc : List It, acc <+: l.foldl step acc := by
  induction l with
  | nil => exact fun acc => List.prefix_refl _
  | cons x l ih =>
    intro acc
    refine List.IsPrefix.trans ?_ (ih (step acc x))
    unfold step
    split
    · exact List.prefix_refl _
    · exact List.prefix_append _ _
theorem foldl_inv {rest : List It} : ∀ {acc : List It}, Inv acc rest → (rest.foldl step acc).Pairwise fun x y => Lt x.1 y.1 := by
  induction rest with
  | nil => exact fun h => h.up
  | cons x l ih => exact fun h => ih h.step
theorem items_up {names : List Tx} (h : Rise names) (pfx sign after : Tx) : (items pfx sign after names).Pairwise fun x y => Lt x.1 y.1 := foldl_inv (Inv.start (raws_R h pfx sign after))
theorem mem_foldl {rest : List It} : ∀ {acc : List It}, Inv acc rest → ∀ x, x ∈ rest.foldl step acc ↔ x ∈ acc ∨ x ∈ rest := by
  induction rest with
  | nil => intro acc _ x; simp
  | cons y l ih =>
    intro acc h x
    rw [List.foldl_cons, ih h.step]
    by_cases hm : y.1 ∈ acc.map (·.1)
    · rw [step_old hm, List.mem_cons]
      constructor
      · rintro (h1 | h1)
        · exact .inl h1
        · exact .inr (.inr h1)
      · rintro (h1 | rfl | h1)
        · exact .inl h1
        · obtain ⟨a, ha, he⟩ := List.mem_map.1 hm
          have := (h.next a ha x (List.mem_cons_self ..)).2 he
          have : a = x := Prod.ext he (this.1.trans this.2.symm)
          exact .inl (this ▸ ha)
        · exact .inr h1
    · rw [step_new hm, List.mem_append, List.mem_singleton, List.mem_cons]
      constructor
      · rintro ((h1 | h1) | h1)
        · exact .inl h1
        · exact .inr (.inl h1)
        · exact .inr (.inr h1)
      · rintro (h1 | h1 | h1)
        · exact .inl (.inl h1)
        · exact .inl (.inr h1)
        · exact .inr h1
theorem mem_items {names : List Tx} (h : Rise names) (pfx sign after : Tx) (x : It) : x ∈ items pfx sign after names ↔ x ∈ raws pfx sign after names := by
  unfold items
  rw [mem_foldl (Inv.start (raws_R h pfx sign after))]
  simp

/-- A page, item by item: what is told; does more follow? -/
def pageGo (n : Nat) : List It → List It → List It × Bool
  | [], acc => (acc, false)
  | x :: r, acc => if x.1 ∈ acc.map (·.1) then pageGo n r acc else if n ≤ acc.length then (acc, true) else pageGo n r (acc ++ [x])
theorem pageGo_eq (n : Nat) (rest : List It) : ∀ acc : List It, acc.length ≤ n → pageGo n rest acc = ((rest.foldl step acc).take n, decide (n < (rest.foldl step acc).length)) := by
  induction rest with
  | nil =>
    intro acc h
    rw [List.foldl_nil, List.take_of_length_le h, decide_eq_false (by omega)]
    rfl
  | cons x l ih =>
    intro acc h
    rw [List.foldl_cons]
    unfold pageGo
    by_cases hm : x.1 ∈ acc.map (·.1)
    · rw [if_pos hm, step_old hm, ih _ h]
    · rw [if_neg hm, step_new hm]
      by_cases hn : n ≤ acc.length
      · rw [if_pos hn]
        obtain ⟨t, ht⟩ := foldl_pre l (acc ++ [x])
        rw [← ht, List.append_assoc, List.take_append_of_le_length (by omega), List.take_of_length_le h, decide_eq_true (by simp; omega)]
      · rw [if_neg hn, ih _ (by simp; omega)]
/-- What is told behind an item is what follows it. -/
theorem step_filter (f : Tx → Bool) (acc : List It) (x : It) : (step acc x).filter (fun y => f y.1) = if f x.1 = true then step (acc.filter fun y => f y.1) x else acc.filter fun y => f y.1 := by
  by_cases hm : x.1 ∈ acc.map (·.1)
  · rw [step_old hm]
    split
    · next h =>
      rw [step_old]
      obtain ⟨a, ha, he⟩ := List.mem_map.1 hm
      exact List.mem_map.2 ⟨a, List.mem_filter.2 ⟨ha, by rw [he]; exact h⟩, he⟩
    · rfl
  · rw [step_new hm, List.filter_append]
    split
    · next h =>
      rw [step_new, List.filter_cons_of_pos (by exact h), List.filter_nil]
      intro hm2
      obtain ⟨a, ha, he⟩ := List.mem_map.1 hm2
      exact hm (List.mem_map.2 ⟨a, (List.mem_filter.1 ha).1, he⟩)
    · next h => rw [List.filter_cons_of_neg (by exact h), List.filter_nil, List.append_nil]
theorem foldl_filter (f : Tx → Bool) (l : List It) : ∀ acc : List It, (l.foldl step acc).filter (fun y => f y.1) = (l.filter fun y => f y.1).foldl step (acc.filter fun y => f y.1) := by
  induction l with
  | nil => exact fun _ => rfl
  | cons x l ih =>
    intro acc
    rw [List.foldl_cons, ih, step_filter]
    by_cases h : f x.1 = true
    · rw [if_pos h, List.filter_cons_of_pos (by exact h), List.foldl_cons]
    · rw [if_neg h, List.filter_cons_of_neg (by exact h)]
theorem drop_of_lt {l : List It} (h : l.Pairwise fun x y => Lt x.1 y.1) {k : Nat} {x : It} (hx : l[k]? = some x) : l.filter (fun y => Op.bytesLess x.1 y.1) = l.drop (k + 1) := by
  obtain ⟨hk, rfl⟩ := List.getElem?_eq_some_iff.1 hx
  rw [List.pairwise_iff_getElem] at h
  generalize hz : l[k].1 = z
  have e : l.filter (fun y => Op.bytesLess z y.1) = (l.take (k + 1)).filter (fun y => Op.bytesLess z y.1) ++ (l.drop (k + 1)).filter (fun y => Op.bytesLess z y.1) := by
    rw [← List.filter_append, List.take_append_drop]
  subst hz
  rw [e]
  have h1 : (l.take (k + 1)).filter (fun y => Op.bytesLess l[k].1 y.1) = [] := by
    rw [List.filter_eq_nil_iff]
    intro a ha
    obtain ⟨i, hi, rfl⟩ := List.mem_iff_getElem.1 ha
    have hi' : i < k + 1 := by simp at hi; omega
    rw [List.getElem_take]
    rcases Nat.lt_or_ge i k with h2 | h2
    · exact lt_asymm (h i k (by omega) hk h2)
    · obtain rfl : i = k := by omega
      exact lt_irrefl _
  have h2 : (l.drop (k + 1)).filter (fun y => Op.bytesLess l[k].1 y.1) = l.drop (k + 1) := by
    rw [List.filter_eq_self]
    intro a ha
    obtain ⟨i, hi, rfl⟩ := List.mem_iff_getElem.1 ha
    rw [List.getElem_drop]
    exact h k (k + 1 + i) hk (by simp at hi; omega) (by omega)
  rw [h1, h2, List.nil_append]
theorem items_after {names : List Tx} (h : Rise names) {pfx sign after : Tx} {k : Nat} {x : It} (hx : (items pfx sign after names)[k]? = some x) (hne : x.1 ≠ []) :
    items pfx sign x.1 names = (items pfx sign after names).drop (k + 1) := by
  rw [← drop_of_lt (items_up h pfx sign after) hx]
  unfold items
  rw [foldl_filter (Op.bytesLess x.1), List.filter_nil]
  congr 1
  have hm := (mem_items h pfx sign after x).1 (List.mem_of_getElem? hx)
  unfold raws at hm ⊢
  rw [List.filter_filter]
  refine List.filter_congr fun y _ => ?_
  have ha := (List.mem_filter.1 hm).2
  simp only [Bool.or_eq_true, decide_eq_true_eq] at ha
  rw [decide_eq_false hne, Bool.false_or]
  cases hb : Op.bytesLess x.1 y.1 with
  | false => simp
  | true =>
    rcases ha with rfl | ha
    · simp
    · have : Op.bytesLess after y.1 = true := lt_trans (a := after) ha hb
      simp [this]

/-! what is told of each name, once -/
def U (l : List It) : List Tx := (l.filter fun x => !x.2).map (·.1)
def P (l : List It) : List Tx := (l.filter fun x => x.2).map (·.1)
theorem U_append (a b : List It) : U (a ++ b) = U a ++ U b := by simp [U]
theorem P_append (a b : List It) : P (a ++ b) = P a ++ P b := by simp [P]
theorem UP_length (l : List It) : (U l).length + (P l).length = l.length := by
  induction l with
  | nil => rfl
  | cons x l ih =>
    unfold U P at *
    rcases x with ⟨x, _ | _⟩ <;> simp at * <;> omega
theorem foldl_U {rest : List It} : ∀ {acc : List It}, Inv acc rest → U (rest.foldl step acc) = U acc ++ U rest := by
  induction rest with
  | nil => intro acc _; simp [U]
  | cons x l ih =>
    intro acc h
    rw [List.foldl_cons, ih h.step]
    by_cases hm : x.1 ∈ acc.map (·.1)
    · rw [step_old hm]
      have h2 := (h.shared.1 hm).1
      simp [U, h2]
    · rw [step_new hm, U_append, List.append_assoc]
      congr 1
      rw [← U_append]
      rfl
theorem grp_no {p : Nat} {sign n : Tx} (h : (grp p sign n).2 = false) : (grp p sign n).1 = n := ((grp_Grp p sign n).no h).1
theorem items_U {names : List Tx} (h : Rise names) (pfx sign : Tx) : U (items pfx sign [] names) = (names.filter fun n => pfx.isPrefixOf n).filter fun n => !(grp pfx.length sign n).2 := by
  unfold items
  rw [foldl_U (Inv.start (raws_R h pfx sign []))]
  simp only [raws, U, decide_true, Bool.true_or, List.filter_nil, List.map_nil, List.nil_append]
  generalize names.filter (fun n => pfx.isPrefixOf n) = l
  induction l with
  | nil => rfl
  | cons n l ih =>
    simp only [List.map_cons, List.filter_cons, if_true]
    cases hb : (grp pfx.length sign n).2 with
    | true => simpa [hb] using ih
    | false =>
      simp only [Bool.not_false, if_true, List.map_cons]
      rw [grp_no hb, ih]
theorem mem_raws {names : List Tx} {pfx sign : Tx} {x : It} : x ∈ raws pfx sign [] names ↔ ∃ n ∈ names, pfx.isPrefixOf n = true ∧ x = grp pfx.length sign n := by
  simp only [raws, decide_true, Bool.true_or, List.mem_filter, List.mem_map]
  constructor
  · rintro ⟨⟨n, ⟨h1, h2⟩, h3⟩, _⟩
    exact ⟨n, h1, h2, h3.symm⟩
  · rintro ⟨n, h1, h2, h3⟩
    exact ⟨⟨n, ⟨h1, h2⟩, h3.symm⟩, trivial⟩
theorem count_one {l : List Tx} (h : l.Pairwise Lt) {a : Tx} (ha : a ∈ l) (f : Tx → Bool) (hf : f a = true) (ho : ∀ q ∈ l, f q = true → q = a) : (l.filter f).length = 1 := by
  induction l with
  | nil => cases ha
  | cons x l ih =>
    rw [List.pairwise_cons] at h
    by_cases hx : x = a
    · subst hx
      rw [List.filter_cons_of_pos hf, List.length_cons]
      have : l.filter f = [] := List.filter_eq_nil_iff.2 fun q hq hfq => by
        have := ho q (List.mem_cons_of_mem _ hq) hfq
        subst this
        exact lt_irrefl _ (h.1 q hq)
      rw [this]
      rfl
    · have hfx : ¬ f x = true := fun hfx => hx (ho x (List.mem_cons_self ..) hfx)
      rw [List.filter_cons_of_neg hfx]
      exact ih h.2 ((List.mem_cons.1 ha).resolve_left (Ne.symm hx)) fun q hq => ho q (List.mem_cons_of_mem _ hq)
theorem count_none {l : List Tx} (f : Tx → Bool) (h : ∀ q ∈ l, f q = false) : (l.filter f).length = 0 := by
  rw [List.filter_eq_nil_iff.2 fun q hq => by rw [h q hq]; exact Bool.false_ne_true]
  rfl
theorem sub_up {l : List It} (h : l.Pairwise fun x y => Lt x.1 y.1) (f : It → Bool) : ((l.filter f).map (·.1)).Pairwise Lt := by
  rw [List.pairwise_map]
  exact List.Pairwise.filter _ h
section
variable {names : List Tx} (h : Rise names) (pfx sign : Tx)
include h
theorem mem_U {q : Tx} : q ∈ U (items pfx sign [] names) ↔ q ∈ names ∧ pfx.isPrefixOf q = true ∧ (grp pfx.length sign q).2 = false := by
  rw [items_U h, List.mem_filter, List.mem_filter]
  simp [and_assoc]
theorem mem_P {q : Tx} : q ∈ P (items pfx sign [] names) ↔ ∃ n ∈ names, pfx.isPrefixOf n = true ∧ grp pfx.length sign n = (q, true) := by
  unfold P
  rw [List.mem_map]
  constructor
  · rintro ⟨x, hx, rfl⟩
    obtain ⟨hx, h2⟩ := List.mem_filter.1 hx
    rw [mem_items h, mem_raws] at hx
    obtain ⟨n, h3, h4, h5⟩ := hx
    exact ⟨n, h3, h4, by rw [← h5]; exact Prod.ext rfl h2⟩
  · rintro ⟨n, h1, h2, h3⟩
    exact ⟨(q, true), List.mem_filter.2 ⟨(mem_items h _ _ _ _).2 (mem_raws.2 ⟨n, h1, h2, h3.symm⟩), rfl⟩, rfl⟩
/-- Each name is told once: itself, or by one beginning. -/
theorem told_once {a : Tx} (ha : a ∈ names) (hp : pfx.isPrefixOf a = true) :
    ((U (items pfx sign [] names)).filter fun q => q == a).length = (if (grp pfx.length sign a).2 = true then 0 else 1) ∧
    ((P (items pfx sign [] names)).filter fun q => q.isPrefixOf a).length = (if (grp pfx.length sign a).2 = true then 1 else 0) := by
  have hU := sub_up (items_up h pfx sign []) fun x => !x.2
  have hP := sub_up (items_up h pfx sign []) fun x => x.2
  cases hb : (grp pfx.length sign a).2 with
  | false =>
    rw [if_neg (by simp), if_neg (by simp)]
    refine ⟨count_one hU ((mem_U h pfx sign).2 ⟨ha, hp, hb⟩) _ (by simp) fun q _ hq => by simpa using hq, count_none _ fun q hq => ?_⟩
    obtain ⟨n, h1, h2, h3⟩ := (mem_P h pfx sign).1 hq
    cases hc : q.isPrefixOf a with
    | false => rfl
    | true =>
      have g := grp_Grp pfx.length sign n
      rw [h3] at g
      have := ((grp_Grp pfx.length sign a).unique (g.of_pre (List.isPrefixOf_iff_prefix.1 hc))).2
      rw [hb] at this
      cases this
  | true =>
    rw [if_pos rfl, if_pos rfl]
    refine ⟨count_none _ fun q hq => ?_, count_one (a := (grp pfx.length sign a).1) hP ?_ _ ?_ fun q hq hc => ?_⟩
    · have := ((mem_U h pfx sign).1 hq).2.2
      rw [beq_eq_false_iff_ne]
      rintro rfl
      rw [hb] at this
      cases this
    · exact (mem_P h pfx sign).2 ⟨a, ha, hp, Prod.ext rfl hb⟩
    · exact List.isPrefixOf_iff_prefix.2 (grp_Grp pfx.length sign a).pre
    · obtain ⟨n, h1, h2, h3⟩ := (mem_P h pfx sign).1 hq
      have g := grp_Grp pfx.length sign n
      rw [h3] at g
      exact ((grp_Grp pfx.length sign a).unique (g.of_pre (List.isPrefixOf_iff_prefix.1 hc))).1.symm
end
/-- So many names are told by themselves. -/
theorem met_all {names : List Tx} (h : Rise names) (pfx sign : Tx) : ∀ l : List Tx, (∀ a ∈ l, a ∈ names) →
    ((l.filter fun n => pfx.isPrefixOf n).map fun a => ((U (items pfx sign [] names)).filter fun q => q == a).length).sum = ((l.filter fun n => pfx.isPrefixOf n).filter fun n => !(grp pfx.length sign n).2).length
  | [], _ => rfl
  | a :: l, hl => by
    have ih := met_all h pfx sign l fun a ha => hl a (List.mem_cons_of_mem _ ha)
    cases hp : pfx.isPrefixOf a with
    | false => rw [List.filter_cons_of_neg (by simp [hp]), ih]
    | true =>
      rw [List.filter_cons_of_pos hp, List.map_cons, List.sum_cons, ih, (told_once h pfx sign (hl a (List.mem_cons_self ..)) hp).1]
      cases hb : (grp pfx.length sign a).2 with
      | false => rw [List.filter_cons_of_pos (by simp [hb]), List.length_cons, if_neg (by simp)]; exact Nat.add_comm _ _
      | true => rw [List.filter_cons_of_neg (by simp [hb]), if_pos rfl]; exact Nat.zero_add _
theorem P_none {names : List Tx} (h : Rise names) (pfx : Tx) : P (items pfx [] [] names) = [] := by
  refine List.eq_nil_iff_forall_not_mem.2 fun q hq => ?_
  obtain ⟨n, _, _, h3⟩ := (mem_P h pfx []).1 hq
  simp [grp] at h3
theorem items_len {names : List Tx} (pfx sign after : Tx) : (items pfx sign after names).length ≤ names.length := by
  have h1 : ∀ (l acc : List It), (l.foldl step acc).length ≤ acc.length + l.length := by
    intro l
    induction l with
    | nil => intro acc; simp
    | cons x l ih =>
      intro acc
      rw [List.foldl_cons]
      have := ih (step acc x)
      have h2 : (step acc x).length ≤ acc.length + 1 := by unfold step; split <;> simp
      simp only [List.length_cons]
      omega
  refine Nat.le_trans (h1 _ _) ?_
  rw [List.length_nil, Nat.zero_add]
  unfold raws
  refine Nat.le_trans (List.length_filter_le _ _) ?_
  rw [List.length_map]
  exact List.length_filter_le _ _
theorem item_ne {names : List Tx} (h : Rise names) (hne : ∀ n ∈ names, n ≠ []) {pfx sign after : Tx} {x : It} (hx : x ∈ items pfx sign after names) : x.1 ≠ [] := by
  have hm := (mem_items h _ _ _ _).1 hx
  obtain ⟨n, hn, rfl⟩ := List.mem_map.1 (List.mem_filter.1 hm).1
  have hn := (List.mem_filter.1 hn).1
  have g := grp_Grp pfx.length sign n
  cases hb : (grp pfx.length sign n).2 with
  | false => rw [(g.no hb).1]; exact hne n hn
  | true =>
    obtain ⟨hs, i, _, he, hit, _⟩ := g.yes hb
    rw [he]
    have := hit.length_le
    have h0 : 0 < sign.length := List.length_pos_iff.2 hs
    intro h1
    have h2 := congrArg List.length h1
    rw [List.length_take] at h2
    rw [List.length_drop] at this
    rw [List.length_nil] at h2
    omega
end Go.Proofs.Ytfgbgidaefephaa.Lst
