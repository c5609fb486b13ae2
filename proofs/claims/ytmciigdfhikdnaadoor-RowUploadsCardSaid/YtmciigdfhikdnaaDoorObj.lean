/- Names in a bucket: the program's way and the reference's come to the same; no program in sight. -/
import Derived.Test.YtmciigdfhikdnaaDoorRwx1
import Derived.Test.YtmciigdfhikdnaaDoorRfx2
import Derived.Test.YtmciigdfhikdnaaDoorSplitCore
namespace Go.Proofs.YtmciigdfhikdnaaDoor
open Go.RowKit Go.Proofs.YtmciigdfhikdnaaDoorW.PrintWords Go.Proofs.YtmciigdfhikdnaaDoorW.PrintLast Go.Proofs.YtmciigdfhikdnaaDoorW.PrintMore Go.Proofs.YtmciigdfhikdnaaDoor.Rw Go.Proofs.YtmciigdfhikdnaaDoor.Rf Go.Proofs.YtmciigdfhikdnaaDoor.Kit Go.Proofs.YtmciigdfhikdnaaDoor.Cut
set_option linter.unusedVariables false
set_option linter.unusedSimpArgs false
/-! ### Split at a sign of one byte -/
def one (c : Int) : ByteArray := strOfNums [c]
theorem one_size (c : Int) : (one c).size = 1 := by unfold one; rw [strOfNums_size]; rfl
theorem one_get (c : Int) : (one c).data.toList.getD 0 0 = UInt8.ofNat c.toNat := by unfold one; rw [data_str]; rfl
theorem one_ne (c : Int) : ¬ (one c).toList = [] := fun h => by have := toList_nil h; simp at this

theorem index_walk_at {c : Int} (hc : 0 ≤ c ∧ c < 256) {p : List Int} (q : List Int) (hp : Byt p) (h : c ∉ p) : strings_Index.f (strOfNums (p ++ c :: q)) (one c) = some (p.length : Int) := by
  unfold strings_Index.f stringslite_Index.f
  rw [if_pos (one_size c), one_get, index_at hc q hp h]; rfl
theorem index_walk_no {c : Int} (hc : 0 ≤ c ∧ c < 256) {p : List Int} (hp : Byt p) (h : c ∉ p) : strings_Index.f (strOfNums p) (one c) = some (-1) := by
  unfold strings_Index.f stringslite_Index.f
  rw [if_pos (one_size c), one_get, index_no hc hp h]; rfl

theorem gen_last {c n i : Int} {a done : List ByteArray} {t : List Int} (hi0 : 0 ≤ i) (hn : i = n - 1) (hl : (a.length : Int) = n) (hd : a.take i.toNat = done) (hb : n < 10000000) :
    Ev (fun k => strings_genSplit.l0 k (strOfNums t) (one c) 0 (n - 1) a i) (done ++ [strOfNums t]) := by
  refine Ev.step (f := fun _ => some (done ++ [strOfNums t])) (fun k => ?_) (Ev.now _)
  simp only [strings_genSplit.l0]
  rw [if_neg (by omega), if_pos hi0, if_pos (by omega), wr (n := i + 1) (by omega) (by omega), if_pos (by omega), if_pos (by omega), show (i + 1).toNat = i.toNat + 1 by omega, take_set a i.toNat _ (by omega), hd]
theorem gen_next {c n i : Int} (hc : 0 ≤ c ∧ c < 256) {a : List ByteArray} {p q : List Int} {r : List ByteArray} (hB : Byt (p ++ c :: q)) (hp : c ∉ p) (hi0 : 0 ≤ i) (hn : i < n - 1) (hl : (a.length : Int) = n) (hb : n < 10000000) (hlen : (p ++ c :: q).length < 10000000)
    (g : Ev (fun k => strings_genSplit.l0 k (strOfNums q) (one c) 0 (n - 1) (a.set i.toNat (strOfNums p)) (i + 1)) r) :
    Ev (fun k => strings_genSplit.l0 k (strOfNums (p ++ c :: q)) (one c) 0 (n - 1) a i) r := by
  have hsz := str_size (p ++ c :: q)
  have hlen2 := hlen
  simp only [List.length_append, List.length_cons] at hsz hlen2
  refine Ev.step (fun k => ?_) g
  simp only [strings_genSplit.l0]
  have h1 : ((one c).size : Int) = 1 := by rw [one_size]; rfl
  rw [if_pos hn, index_walk_at hc q hB.left hp, Option.bind_some, if_neg (by omega), h1, Int.add_zero, wr (n := (p.length : Int)) (by omega) (by omega), if_pos (by omega), if_pos (by omega), if_pos hi0, if_pos (by omega), wr (n := (p.length : Int) + 1) (by omega) (by omega), if_pos (by omega), if_pos (by omega), wr (n := i + 1) (by omega) (by omega), str_cut, str_cut]
  have e1 : ((p ++ c :: q).take (strOfNums (p ++ c :: q)).size).drop ((p.length : Int) + 1).toNat = q := by
    rw [List.take_of_length_le (by simp only [List.length_append, List.length_cons]; omega), show ((p.length : Int) + 1).toNat = p.length + 1 by omega]
    simp
  have e2 : ((p ++ c :: q).take (p.length : Int).toNat).drop 0 = p := by
    rw [Int.toNat_natCast]; simp
  rw [e1, e2]

theorem gen_all {c : Int} (hc : 0 ≤ c ∧ c < 256) : ∀ (d : Nat) (t : List Int) (a done : List ByteArray) (i n : Int), (splitC c t).length = d + 1 → Byt t → 0 ≤ i → i + d + 1 = n → (a.length : Int) = n → a.take i.toNat = done → n < 10000000 → t.length < 10000000 →
    Ev (fun k => strings_genSplit.l0 k (strOfNums t) (one c) 0 (n - 1) a i) (done ++ (splitC c t).map strOfNums)
  | 0, t, a, done, i, n, hd, hB, hi0, hn, hl, hda, hb, ht => by
    rw [split_no (split_one hd)]
    exact gen_last hi0 (by omega) hl hda hb
  | d + 1, t, a, done, i, n, hd, hB, hi0, hn, hl, hda, hb, ht => by
    obtain ⟨p, q, hp, rfl, e⟩ := split_two (c := c) (t := t) (by omega)
    rw [e] at hd ⊢
    simp only [List.length_append, List.length_cons] at hd ht
    have ih := gen_all hc d q (a.set i.toNat (strOfNums p)) (done ++ [strOfNums p]) (i + 1) n (by omega) hB.right.cons.2 (by omega) (by omega) (by simpa using hl) (by
      rw [show (i + 1).toNat = i.toNat + 1 by omega, take_set a i.toNat _ (by omega), hda]) hb (by omega)
    refine gen_next hc hB hp hi0 (by omega) hl hb (by simp only [List.length_append, List.length_cons]; omega) ?_
    simpa [List.append_assoc] using ih

theorem split_tell {c : Int} (hc : 0 ≤ c ∧ c < 256) (t : List Int) (hB : Byt t) (ht : t.length < 1000000) : Ev (fun k => strings_Split.f k (strOfNums t) (one c)) ((splitC c t).map strOfNums) := by
  have hcount := count_split hc t hB
  have hlen := split_len c t.length t (Nat.le_refl _)
  have hne := split_ne c t
  have hsz := str_size t
  unfold strings_Split.f
  refine Ev.bind ?_ (Ev.now _)
  unfold strings_genSplit.f
  have hC : strings_Count.f (strOfNums t) (one c) = some (((splitC c t).length : Int) - 1) := by
    unfold strings_Count.f
    rw [if_pos (one_size c), one_get]
    congr 1; omega
  refine Ev.congr (f := fun k => strings_genSplit.j0 k (strOfNums t) (one c) 0 ((splitC c t).length : Int)) (fun k => ?_) ?_
  · rw [if_neg (by omega), if_neg (one_ne c), if_pos (by omega), hC, Option.bind_some, wr (by omega) (by omega), show ((splitC c t).length : Int) - 1 + 1 = ((splitC c t).length : Int) by omega]
  · have hmn : mn ((splitC c t).length : Int) (wrap64 (((strOfNums t).size : Int) + 1)) = ((splitC c t).length : Int) := by
      rw [wr (by omega) (by omega)]
      unfold mn
      rw [if_neg (by omega)]
    have g := gen_all hc ((splitC c t).length - 1) t (List.replicate (splitC c t).length (⟨#[]⟩ : ByteArray)) [] 0 ((splitC c t).length : Int) (by omega) hB (by omega) (by omega) (by simp) (by simp) (by omega) (by omega)
    rw [List.nil_append] at g
    refine Ev.step (fun k => ?_) g
    simp only [strings_genSplit.j0]
    rw [hmn, if_pos (by omega), Int.toNat_natCast, if_pos (by omega), wr (n := ((splitC c t).length : Int) - 1) (by omega) (by omega)]

theorem ite_same {α : Type} {b c : Prop} [Decidable b] [Decidable c] {x y u v : α} (h : b ↔ c) (h1 : x = u) (h2 : y = v) : ite b x y = ite c u v := by
  subst h1 h2
  by_cases k : b
  · rw [if_pos k, if_pos (h.1 k)]
  · rw [if_neg k, if_neg (fun q => k (h.2 q))]

/-- A code: 0 where it holds, else 11. -/
def Code (C : Prop) (r : Int) : Prop := (C → r = 0) ∧ (¬ C → r = 11)
theorem code_same {C D : Prop} {r q : Int} (h : C ↔ D) (hr : Code C r) (hq : Code D q) : r = q := by
  by_cases c : C
  · rw [hr.1 c, hq.1 (h.1 c)]
  · rw [hr.2 c, hq.2 (fun d => c (h.2 d))]
theorem code_no {C : Prop} (h : ¬ C) : Code C 11 := ⟨fun c => absurd c h, fun _ => rfl⟩
theorem code_yes {C : Prop} (h : C) : Code C 0 := ⟨fun _ => rfl, fun c => absurd h c⟩
theorem code_iff {C D : Prop} {r : Int} (h : C ↔ D) (hr : Code C r) : Code D r := ⟨fun d => hr.1 (h.2 d), fun d => hr.2 (fun c => d (h.1 c))⟩

/-- A sign that can be seen. -/
def Vis (c : Int) : Prop := 33 ≤ c ∧ c ≤ 126
/-- All are such. -/
def AllVis (t : List Int) : Prop := ∀ c ∈ t, Vis c
theorem allvis_cons {c : Int} {t : List Int} : AllVis (c :: t) ↔ Vis c ∧ AllVis t :=
  ⟨fun h => ⟨h c (by simp), fun x hx => h x (by simp [hx])⟩, fun h x hx => by
    rcases List.mem_cons.1 hx with rfl | hx
    · exact h.1
    · exact h.2 x hx⟩
/-- A part that may be. -/
def PartOk (p : List Int) : Prop := p ≠ [46] ∧ p ≠ [46, 46]
def PartsOk (l : List (List Int)) : Prop := ∀ p ∈ l, PartOk p
theorem parts_cons {p : List Int} {l : List (List Int)} : PartsOk (p :: l) ↔ PartOk p ∧ PartsOk l :=
  ⟨fun h => ⟨h p (by simp), fun x hx => h x (by simp [hx])⟩, fun h x hx => by
    rcases List.mem_cons.1 hx with rfl | hx
    · exact h.1
    · exact h.2 x hx⟩
theorem dot1 : strOfNums [46] = (⟨#[46]⟩ : ByteArray) := rfl
theorem part_eq {p : List Int} (hB : Byt p) : ((strOfNums p).toList = [46]) = (p = [46]) ∧ ((strOfNums p).toList = [46, 46]) = (p = [46, 46]) := by
  have h1 := toList_eq hB (ys := [46]) (by unfold Byt; decide)
  have h2 := toList_eq hB (ys := [46, 46]) (by unfold Byt; decide)
  rw [toList_str [46]] at h1
  rw [toList_str [46, 46]] at h2
  exact ⟨h1, h2⟩

theorem visible_yes {c : Int} (h0 : 0 ≤ c ∧ c < 256) (h : Vis c) : name_visible.f c = some true := by
  unfold Vis at h
  unfold name_visible.f
  rw [show wrap32 c = c by unfold wrap32; omega, if_pos (by omega), decide_eq_true (by omega)]
theorem visible_no {c : Int} (h0 : 0 ≤ c ∧ c < 256) (h : ¬ Vis c) : name_visible.f c = some false := by
  unfold Vis at h
  unfold name_visible.f
  rw [show wrap32 c = c by unfold wrap32; omega]
  by_cases q : c > 32
  · rw [if_pos q, decide_eq_false (by omega)]
  · rw [if_neg q]

/-! ### Object -/
theorem obj_l1 : ∀ (l d : List (List Int)), (∀ p ∈ d ++ l, Byt p) → (d ++ l).length < 1000000 →
    ∃ r, Ev (fun k => name_Object.l1 k ((d ++ l).map strOfNums) ((d ++ l).length : Int) (d.length : Int)) r ∧ Code (PartsOk l) r
  | [], d, hB, hl => ⟨0, Ev.step (f := fun _ => some 0) (fun k => by simp only [name_Object.l1]; rw [if_neg (by simp)]) (Ev.now _), code_yes (fun p hp => by simp at hp)⟩
  | p :: l, d, hB, hl => by
    have hp := part_eq (hB p (by simp))
    have hlen : ((d ++ p :: l).length : Int) = (d.length : Int) + 1 + (l.length : Int) := by simp only [List.length_append, List.length_cons]; omega
    have hrd : rdOf ByteArray.empty ((d ++ p :: l).map strOfNums) (d.length : Int) = strOfNums p := by
      unfold rdOf
      rw [Int.toNat_natCast, List.getD_eq_getElem?_getD, List.map_append, List.getElem?_append_right (by simp)]
      simp
    have head : ∀ k, name_Object.l1 (k + 1) ((d ++ p :: l).map strOfNums) ((d ++ p :: l).length : Int) (d.length : Int) = if p = [46] then some 11 else if p = [46, 46] then some 11 else name_Object.l1 k ((d ++ p :: l).map strOfNums) ((d ++ p :: l).length : Int) ((d.length : Int) + 1) := fun k => by
      simp only [name_Object.l1]
      rw [if_pos (by omega), if_pos (by omega), if_pos (by rw [List.length_map]; omega), hrd]
      exact ite_same (iff_of_eq hp.1) rfl (ite_same (iff_of_eq hp.2) rfl (by rw [wr (n := (d.length : Int) + 1) (by omega) (by omega)]))
    by_cases a : p = [46]
    · exact ⟨11, Ev.step (f := fun _ => some 11) (fun k => by rw [head, if_pos a]) (Ev.now _), code_no (fun q => (parts_cons.1 q).1.1 a)⟩
    · by_cases b : p = [46, 46]
      · exact ⟨11, Ev.step (f := fun _ => some 11) (fun k => by rw [head, if_neg a, if_pos b]) (Ev.now _), code_no (fun q => (parts_cons.1 q).1.2 b)⟩
      · obtain ⟨r, hr, hC⟩ := obj_l1 l (d ++ [p]) (by simpa using hB) (by simp only [List.length_append, List.length_cons, List.length_nil] at hl ⊢; omega)
        simp only [List.append_assoc, List.cons_append, List.nil_append] at hr
        rw [show ((d ++ [p]).length : Int) = (d.length : Int) + 1 by simp] at hr
        exact ⟨r, Ev.step (fun k => by rw [head, if_neg a, if_neg b]) hr, code_iff ⟨fun q => parts_cons.2 ⟨⟨a, b⟩, q⟩, fun q => (parts_cons.1 q).2⟩ hC⟩

theorem obj_l0 : ∀ (t p : List Int), Byt (p ++ t) → (p ++ t).length < 100000 →
    ∃ r, Ev (fun k => name_Object.l0 k (strOfNums (p ++ t)) ((p ++ t).length : Int) (p.length : Int)) r ∧ Code (AllVis t ∧ PartsOk (splitC 47 (p ++ t))) r
  | [], p, hB, hl => by
    rw [List.append_nil] at hB hl ⊢
    have hs := split_tell (c := 47) (by omega) p hB (by omega)
    have hsl := split_len 47 p.length p (Nat.le_refl _)
    obtain ⟨r, hr, hC⟩ := obj_l1 (splitC 47 p) [] (fun q hq => split_byt p.length (Nat.le_refl _) hB q (by simpa using hq)) (by simp only [List.nil_append]; omega)
    refine ⟨r, ?_, code_iff ⟨fun q => ⟨fun x hx => by simp at hx, q⟩, fun q => q.2⟩ hC⟩
    apply Ev.step
    · intro k
      simp only [name_Object.l0]
      rw [if_neg (by omega)]
    · refine Ev.bind hs ?_
      simpa using hr
  | c :: t, p, hB, hl => by
    have hsz := str_size (p ++ c :: t)
    have hlen : ((p ++ c :: t).length : Int) = (p.length : Int) + 1 + (t.length : Int) := by simp only [List.length_append, List.length_cons]; omega
    have e := bt_next hB
    have hcb := hB c (by simp)
    have head : ∀ k, name_Object.l0 (k + 1) (strOfNums (p ++ c :: t)) ((p ++ c :: t).length : Int) (p.length : Int) = (name_visible.f c).bind fun t125 => (if t125 = true then (name_Object.l0 k (strOfNums (p ++ c :: t)) ((p ++ c :: t).length : Int) ((p.length : Int) + 1)) else (some 11)) := fun k => by
      simp only [name_Object.l0]
      rw [if_pos (by omega), if_pos (by omega), if_pos (by omega), e, wr (n := (p.length : Int) + 1) (by omega) (by omega)]
    by_cases v : Vis c
    · obtain ⟨r, hr, hC⟩ := obj_l0 t (p ++ [c]) (by simpa using hB) (by simpa using hl)
      simp only [List.append_assoc, List.cons_append, List.nil_append] at hr hC
      rw [show ((p ++ [c]).length : Int) = (p.length : Int) + 1 by simp] at hr
      refine ⟨r, Ev.step (fun k => by rw [head, visible_yes hcb v]; rfl) hr, code_iff ⟨fun q => ⟨allvis_cons.2 ⟨v, q.1⟩, q.2⟩, fun q => ⟨(allvis_cons.1 q.1).2, q.2⟩⟩ hC⟩
    · exact ⟨11, Ev.step (f := fun _ => some 11) (fun k => by rw [head, visible_no hcb v]; rfl) (Ev.now _), code_no (fun q => v (allvis_cons.1 q.1).1)⟩

/-- A name in a bucket. -/
def ObjOk (t : List Int) : Prop := 1 ≤ t.length ∧ t.length ≤ 40 ∧ AllVis t ∧ PartsOk (splitC 47 t)
theorem object_tells (t : List Int) (hB : Byt t) (hl : t.length < 100000) : ∃ r, Ev (fun k => name_Object.f k (strOfNums t)) r ∧ Code (ObjOk t) r := by
  have stop : Ev (fun k => name_Object.j0 k (strOfNums t) true) 11 := Ev.step (f := fun _ => some 11) (fun k => by simp only [name_Object.j0, if_true]) (Ev.now _)
  have hsz := str_size t
  unfold name_Object.f
  by_cases a : t = []
  · subst a
    exact ⟨11, Ev.congr (fun k => by rw [if_pos (by rw [toList_str]; rfl)]) stop, code_no (fun q => by have := q.1; simp at this)⟩
  · have e0 : ¬ (strOfNums t).toList = [] := fun h => a (toList_nil h)
    have h1 : 1 ≤ t.length := List.length_pos_iff.2 a
    by_cases b : t.length > 40
    · exact ⟨11, Ev.congr (fun k => by rw [if_neg e0, decide_eq_true (by omega)]) stop, code_no (fun q => by have := q.2.1; omega)⟩
    · obtain ⟨r, hr, hC⟩ := obj_l0 t [] hB hl
      refine ⟨r, Ev.congr (f := fun k => name_Object.j0 k (strOfNums t) false) (fun k => by rw [if_neg e0, decide_eq_false (by omega)]) (Ev.step (fun k => ?_) hr), code_iff ⟨fun q => ⟨h1, by omega, q⟩, fun q => q.2.2⟩ hC⟩
      simp only [name_Object.j0, Bool.false_eq_true, if_false]
      rw [hsz]; rfl

theorem signs_l0 : ∀ (t p : List Int), Byt (p ++ t) → (p ++ t).length < 100000 →
    ∃ b, Ev (fun k => deedboxref21_signs.l0 k (strOfNums (p ++ t)) (p.length : Int)) b ∧ (b = true ↔ AllVis t)
  | [], p, hB, hl => ⟨true, Ev.step (f := fun _ => some true) (fun k => by simp only [deedboxref21_signs.l0]; rw [str_size, if_neg (by simp)]) (Ev.now _), ⟨fun _ x hx => by simp at hx, fun _ => rfl⟩⟩
  | c :: t, p, hB, hl => by
    have hsz := str_size (p ++ c :: t)
    have hlen : ((p ++ c :: t).length : Int) = (p.length : Int) + 1 + (t.length : Int) := by simp only [List.length_append, List.length_cons]; omega
    have e := bt_next hB
    have head : ∀ k, deedboxref21_signs.l0 (k + 1) (strOfNums (p ++ c :: t)) (p.length : Int) = if c < 33 then some false else if c > 126 then some false else deedboxref21_signs.l0 k (strOfNums (p ++ c :: t)) ((p.length : Int) + 1) := fun k => by
      simp only [deedboxref21_signs.l0]
      rw [if_pos (by omega), if_pos (by omega), e, wr (n := (p.length : Int) + 1) (by omega) (by omega)]
    by_cases a : c < 33
    · exact ⟨false, Ev.step (f := fun _ => some false) (fun k => by rw [head, if_pos a]) (Ev.now _), ⟨fun h => by simp at h, fun h => by have := (allvis_cons.1 h).1; unfold Vis at this; omega⟩⟩
    · by_cases b : c > 126
      · exact ⟨false, Ev.step (f := fun _ => some false) (fun k => by rw [head, if_neg a, if_pos b]) (Ev.now _), ⟨fun h => by simp at h, fun h => by have := (allvis_cons.1 h).1; unfold Vis at this; omega⟩⟩
      · obtain ⟨r, hr, hC⟩ := signs_l0 t (p ++ [c]) (by simpa using hB) (by simpa using hl)
        simp only [List.append_assoc, List.cons_append, List.nil_append] at hr
        rw [show ((p ++ [c]).length : Int) = (p.length : Int) + 1 by simp] at hr
        exact ⟨r, Ev.step (fun k => by rw [head, if_neg a, if_neg b]) hr, hC.trans ⟨fun q => allvis_cons.2 ⟨by unfold Vis; omega, q⟩, fun q => (allvis_cons.1 q).2⟩⟩
theorem signs_tells (t : List Int) (hB : Byt t) (hl : t.length < 100000) : ∃ b, Ev (fun k => deedboxref21_signs.f k (strOfNums t)) b ∧ (b = true ↔ AllVis t) := signs_l0 t [] hB hl

theorem robj_l0 : ∀ (t cur pre : List Int), Byt (pre ++ cur ++ t) → (pre ++ cur ++ t).length < 100000 → 47 ∉ cur →
    ∃ r, Ev (fun k => deedboxref21_Object.l0 k (strOfNums (pre ++ cur ++ t)) (pre.length : Int) ((pre.length : Int) + (cur.length : Int))) r ∧ Code (PartsOk (splitC 47 (cur ++ t))) r
  | [], cur, pre, hB, hl, hc => by
    have hsz := str_size (pre ++ cur ++ [])
    simp only [List.length_append, List.length_nil] at hsz hl
    have hp := part_eq hB.left.right
    have ecut : (strOfNums (pre ++ cur ++ [])).extract (pre.length : Int).toNat ((pre.length : Int) + (cur.length : Int)).toNat = strOfNums cur := by
      rw [str_cut, Int.toNat_natCast, show ((pre.length : Int) + (cur.length : Int)).toNat = pre.length + cur.length by omega, List.append_nil, List.take_of_length_le (by simp)]
      simp
    have g : ∀ {r}, Ev (fun k => deedboxref21_Object.j2 k (strOfNums (pre ++ cur ++ [])) (pre.length : Int) ((pre.length : Int) + (cur.length : Int)) true) r → Ev (fun k => deedboxref21_Object.l0 k (strOfNums (pre ++ cur ++ [])) (pre.length : Int) ((pre.length : Int) + (cur.length : Int))) r := fun h =>
      Ev.step (fun k => by simp only [deedboxref21_Object.l0]; rw [if_pos (by omega), if_pos (by omega)]) h
    have j : ∀ k, deedboxref21_Object.j2 (k + 1) (strOfNums (pre ++ cur ++ [])) (pre.length : Int) ((pre.length : Int) + (cur.length : Int)) true = if cur = [46] then some 11 else if cur = [46, 46] then some 11 else deedboxref21_Object.l0 k (strOfNums (pre ++ cur ++ [])) ((pre.length : Int) + (cur.length : Int) + 1) ((pre.length : Int) + (cur.length : Int) + 1) := fun k => by
      simp only [deedboxref21_Object.j2, if_true]
      rw [if_pos (by omega), if_pos (by omega), if_pos (by omega), ecut]
      exact ite_same (iff_of_eq hp.1) rfl (ite_same (iff_of_eq hp.2) rfl (by rw [wr (n := (pre.length : Int) + (cur.length : Int) + 1) (by omega) (by omega)]))
    rw [List.append_nil cur, split_no hc]
    by_cases a : cur = [46]
    · exact ⟨11, g (Ev.step (f := fun _ => some 11) (fun k => by rw [j, if_pos a]) (Ev.now _)), code_no (fun q => (parts_cons.1 q).1.1 a)⟩
    · by_cases b : cur = [46, 46]
      · exact ⟨11, g (Ev.step (f := fun _ => some 11) (fun k => by rw [j, if_neg a, if_pos b]) (Ev.now _)), code_no (fun q => (parts_cons.1 q).1.2 b)⟩
      · refine ⟨0, g (Ev.step (fun k => by rw [j, if_neg a, if_neg b]) (Ev.step (f := fun _ => some 0) (fun k => ?_) (Ev.now _))), code_yes (parts_cons.2 ⟨⟨a, b⟩, fun p hp => by simp at hp⟩)⟩
        simp only [deedboxref21_Object.l0]
        rw [if_neg (by omega)]
  | c :: t, cur, pre, hB, hl, hc => by
    have hsz := str_size (pre ++ cur ++ c :: t)
    have hl2 := hl
    simp only [List.length_append, List.length_cons] at hsz hl2
    have hp := part_eq hB.left.right
    have e : bt (strOfNums (pre ++ cur ++ c :: t)) ((pre.length : Int) + (cur.length : Int)) = c := by
      have := bt_next (p := pre ++ cur) (t := t) (c := c) hB
      simpa using this
    have ecut : (strOfNums (pre ++ cur ++ c :: t)).extract (pre.length : Int).toNat ((pre.length : Int) + (cur.length : Int)).toNat = strOfNums cur := by
      rw [str_cut, Int.toNat_natCast, show ((pre.length : Int) + (cur.length : Int)).toNat = pre.length + cur.length by omega]
      have : (pre ++ cur ++ c :: t).take (pre.length + cur.length) = pre ++ cur := by
        rw [← List.length_append, List.take_left]
      rw [this]; simp
    have g : ∀ {r}, Ev (fun k => deedboxref21_Object.j2 k (strOfNums (pre ++ cur ++ c :: t)) (pre.length : Int) ((pre.length : Int) + (cur.length : Int)) (c == 47)) r → Ev (fun k => deedboxref21_Object.l0 k (strOfNums (pre ++ cur ++ c :: t)) (pre.length : Int) ((pre.length : Int) + (cur.length : Int))) r := fun h =>
      Ev.step (fun k => by simp only [deedboxref21_Object.l0]; rw [if_pos (by omega), if_neg (by omega), if_pos (by omega), if_pos (by omega), e]) h
    by_cases h47 : c = 47
    · subst h47
      have j : ∀ k, deedboxref21_Object.j2 (k + 1) (strOfNums (pre ++ cur ++ 47 :: t)) (pre.length : Int) ((pre.length : Int) + (cur.length : Int)) ((47 : Int) == 47) = if cur = [46] then some 11 else if cur = [46, 46] then some 11 else deedboxref21_Object.l0 k (strOfNums (pre ++ cur ++ 47 :: t)) ((pre.length : Int) + (cur.length : Int) + 1) ((pre.length : Int) + (cur.length : Int) + 1) := fun k => by
        simp only [deedboxref21_Object.j2, beq_self_eq_true, if_true]
        rw [if_pos (by omega), if_pos (by omega), if_pos (by omega), ecut]
        exact ite_same (iff_of_eq hp.1) rfl (ite_same (iff_of_eq hp.2) rfl (by rw [wr (n := (pre.length : Int) + (cur.length : Int) + 1) (by omega) (by omega)]))
      rw [split_at t hc]
      by_cases a : cur = [46]
      · exact ⟨11, g (Ev.step (f := fun _ => some 11) (fun k => by rw [j, if_pos a]) (Ev.now _)), code_no (fun q => (parts_cons.1 q).1.1 a)⟩
      · by_cases b : cur = [46, 46]
        · exact ⟨11, g (Ev.step (f := fun _ => some 11) (fun k => by rw [j, if_neg a, if_pos b]) (Ev.now _)), code_no (fun q => (parts_cons.1 q).1.2 b)⟩
        · obtain ⟨r, hr, hC⟩ := robj_l0 t [] (pre ++ cur ++ [47]) (by simpa using hB) (by simpa using hl) (by simp)
          have el : ((pre ++ cur ++ [47]).length : Int) = (pre.length : Int) + (cur.length : Int) + 1 := by simp only [List.length_append, List.length_cons, List.length_nil]; omega
          rw [el] at hr
          have e2 : pre ++ cur ++ [47] ++ [] ++ t = pre ++ cur ++ 47 :: t := by simp
          rw [e2, show ((List.length ([] : List Int) : Nat) : Int) = 0 from rfl, Int.add_zero] at hr
          exact ⟨r, g (Ev.step (fun k => by rw [j, if_neg a, if_neg b]) hr), code_iff ⟨fun q => parts_cons.2 ⟨⟨a, b⟩, q⟩, fun q => (parts_cons.1 q).2⟩ hC⟩
    · obtain ⟨r, hr, hC⟩ := robj_l0 t (cur ++ [c]) pre (by simpa using hB) (by simpa using hl) (fun m => by
        rcases List.mem_append.1 m with m | m
        · exact hc m
        · exact h47 (List.mem_singleton.1 m).symm)
      have el : (pre.length : Int) + ((cur ++ [c]).length : Int) = (pre.length : Int) + (cur.length : Int) + 1 := by simp only [List.length_append, List.length_cons, List.length_nil]; omega
      rw [el] at hr
      have e2 : pre ++ (cur ++ [c]) ++ t = pre ++ cur ++ c :: t := by simp
      rw [e2] at hr
      have e3 : cur ++ [c] ++ t = cur ++ c :: t := by simp
      rw [e3] at hC
      refine ⟨r, g ?_, hC⟩
      have hb : (c == (47 : Int)) = false := by simp [h47]
      rw [hb]
      refine Ev.step (fun k => ?_) hr
      simp only [deedboxref21_Object.j2, Bool.false_eq_true, if_false]
      rw [wr (n := (pre.length : Int) + (cur.length : Int) + 1) (by omega) (by omega)]

theorem refobject_tells (t : List Int) (hB : Byt t) (hl : t.length < 100000) : ∃ r, Ev (fun k => deedboxref21_Object.f k (strOfNums t)) r ∧ Code (ObjOk t) r := by
  have stop : Ev (fun k => deedboxref21_Object.j0 k (strOfNums t) true) 11 := Ev.step (f := fun _ => some 11) (fun k => by simp only [deedboxref21_Object.j0, if_true]) (Ev.now _)
  have hsz := str_size t
  unfold deedboxref21_Object.f
  by_cases a : t.length < 1
  · exact ⟨11, Ev.congr (fun k => by rw [if_pos (by omega)]) stop, code_no (fun q => by have := q.1; omega)⟩
  · by_cases b : t.length > 40
    · exact ⟨11, Ev.congr (fun k => by rw [if_neg (by omega), if_pos (by omega)]) stop, code_no (fun q => by have := q.2.1; omega)⟩
    · obtain ⟨v, hv, hvis⟩ := signs_tells t hB hl
      by_cases c : AllVis t
      · obtain ⟨r, hr, hC⟩ := robj_l0 t [] [] (by simpa using hB) (by simpa using hl) (by simp)
        refine ⟨r, Ev.congr (fun k => by rw [if_neg (by omega), if_neg (by omega)]) (Ev.bind hv ?_), code_iff ⟨fun q => ⟨by omega, by omega, c, q⟩, fun q => q.2.2.2⟩ (by simpa using hC)⟩
        rw [hvis.2 c]
        refine Ev.step (fun k => ?_) hr
        simp only [deedboxref21_Object.j0, Bool.not_true, Bool.false_eq_true, if_false]
        rfl
      · have : v = false := by
          cases v with
          | false => rfl
          | true => exact absurd (hvis.1 rfl) c
        refine ⟨11, Ev.congr (fun k => by rw [if_neg (by omega), if_neg (by omega)]) (Ev.bind hv ?_), code_no (fun q => c q.2.2.1)⟩
        rw [this]; exact stop

instance (t : List Int) : Decidable (ObjOk t) := by unfold ObjOk AllVis PartsOk PartOk Vis; infer_instance
/-- A name's code. -/
def objC (t : List Int) : Int := if ObjOk t then 0 else 11
theorem code_objC {t : List Int} {r : Int} (h : Code (ObjOk t) r) : r = objC t := by
  unfold objC
  split
  · exact h.1 ‹_›
  · exact h.2 ‹_›
theorem obj_tell (t : List Int) (hB : Byt t) (hl : t.length < 100000) : Ev (fun k => name_Object.f k (strOfNums t)) (objC t) ∧ Ev (fun k => deedboxref21_Object.f k (strOfNums t)) (objC t) := by
  obtain ⟨r, hr, hc⟩ := object_tells t hB hl
  obtain ⟨q, hq, hd⟩ := refobject_tells t hB hl
  rw [code_objC hc] at hr
  rw [code_objC hd] at hq
  exact ⟨hr, hq⟩
end Go.Proofs.YtmciigdfhikdnaaDoor
