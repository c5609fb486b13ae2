/- Whether any text is a bucket's name is what the chapter says: the statement, with no condition beside its own. -/
import Derived.Test.YtdihaaiaenhpgaaDoorQNameBucketsx5
import Derived.Test.YtdihaaiaenhpgaaDoorNumCore
namespace Go.Proofs.YtdihaaiaenhpgaaDoor.Pure
open Go.RowKit Go.Proofs.YtdihaaiaenhpgaaDoor.QNameBuckets Go.Proofs.YtdihaaiaenhpgaaDoorW.PrintWords Go.Proofs.YtdihaaiaenhpgaaDoorW.PrintLast Go.Proofs.YtdihaaiaenhpgaaDoor.Kit Go.Proofs.YtdihaaiaenhpgaaDoor.Num
set_option linter.unusedVariables false
set_option linter.unusedSimpArgs false


theorem works_tells : Ev (fun k => deedboxlaw21_works.f k) true :=
  Ev.of (deedboxlaw21_works.mono) (show deedboxlaw21_works.f 60 = some true by decide +kernel)

/-- A small letter, or a digit. -/
def Low (c : Int) : Prop := (97 ≤ c ∧ c ≤ 122) ∨ (48 ≤ c ∧ c ≤ 57)
theorem lower_yes {c : Int} (h : Low c) : name_lower.f c = some true := by
  unfold Low at h
  unfold name_lower.f
  repeat' split
  all_goals first | rfl | (simp; omega) | (exfalso; omega)
theorem lower_no {c : Int} (h : ¬ Low c) : name_lower.f c = some false := by
  unfold Low at h
  unfold name_lower.f
  repeat' split
  all_goals first | rfl | (simp; omega) | (exfalso; omega)
theorem small_yes {c : Int} (h : Low c) : deedboxref21_small.f c = some true := by
  unfold Low at h
  unfold deedboxref21_small.f
  repeat' split
  all_goals first | rfl | (simp; omega) | (exfalso; omega)
theorem small_no {c : Int} (h : ¬ Low c) : deedboxref21_small.f c = some false := by
  unfold Low at h
  unfold deedboxref21_small.f
  repeat' split
  all_goals first | rfl | (simp; omega) | (exfalso; omega)

/-- A code: 0 where it holds, else 11. -/
def Code (C : Prop) (r : Int) : Prop := (C → r = 0) ∧ (¬ C → r = 11)
theorem code_same {C D : Prop} {r q : Int} (h : C ↔ D) (hr : Code C r) (hq : Code D q) : r = q := by
  by_cases c : C
  · rw [hr.1 c, hq.1 (h.1 c)]
  · rw [hr.2 c, hq.2 (fun d => c (h.2 d))]
theorem code_no {C : Prop} (h : ¬ C) : Code C 11 := ⟨fun c => absurd c h, fun _ => rfl⟩
theorem code_yes {C : Prop} (h : C) : Code C 0 := ⟨fun _ => rfl, fun c => absurd h c⟩
theorem code_iff {C D : Prop} {r : Int} (h : C ↔ D) (hr : Code C r) : Code D r := ⟨fun d => hr.1 (h.2 d), fun d => hr.2 (fun c => d (h.1 c))⟩

/-- What the program asks of each byte; what the reference asks. -/
def P (x : List Int) (i : Int) : Prop := Low (rd x i) ∨ rd x i = 45 ∨ (rd x i = 46 ∧ rd x (i - 1) ≠ 46 ∧ rd x (i - 1) ≠ 45 ∧ rd x (i + 1) ≠ 45)
def Q (x : List Int) (i : Int) : Prop := (Low (rd x i) ∨ rd x i = 45 ∨ rd x i = 46) ∧ ¬ (i > 0 ∧ rd x i = 46 ∧ (rd x (i - 1) = 46 ∨ rd x (i - 1) = 45)) ∧ ¬ (i > 0 ∧ rd x i = 45 ∧ rd x (i - 1) = 46)
def AllFrom (C : Int → Prop) (i n : Int) : Prop := ∀ j, i ≤ j → j < n → C j
theorem all_next {C : Int → Prop} {i n : Int} (h : C i) (hi : i < n) : AllFrom C (i + 1) n ↔ AllFrom C i n :=
  ⟨fun a j h1 h2 => by
    by_cases e : j = i
    · rw [e]; exact h
    · exact a j (by omega) h2, fun a j h1 h2 => a j (by omega) h2⟩
theorem all_not {C : Int → Prop} {i n : Int} (h : ¬ C i) (hi : i < n) : ¬ AllFrom C i n := fun a => h (a i (Int.le_refl _) hi)

theorem low_45 : ¬ Low 45 := by unfold Low; omega
theorem low_46 : ¬ Low 46 := by unfold Low; omega

theorem bucket_l0 {x : List Int} (hB : Byt x) (hn : x.length < 1000000) (hf : Low (rd x 0)) (hl : Low (rd x ((x.length : Int) - 1))) : ∀ (d : Nat) (i : Int), 0 ≤ i → i + d = (x.length : Int) →
    ∃ r, Ev (fun k => name_Bucket.l0 k (strOfNums x) (x.length : Int) i) r ∧ Code (AllFrom (P x) i (x.length : Int)) r
  | 0, i, h0, hd => ⟨0, Ev.step (f := fun _ => some 0) (fun k => by simp only [name_Bucket.l0]; rw [if_neg (by omega)]) (Ev.now _), code_yes (fun j h1 h2 => by omega)⟩
  | d + 1, i, h0, hd => by
    have hsz := str_size x
    obtain ⟨r, hr, hC⟩ := bucket_l0 hB hn hf hl d (i + 1) (by omega) (by omega)
    have e : bt (strOfNums x) i = rd x i := bt_str hB i
    have head : ∀ (b : Bool) {q : Int}, (Low (rd x i) → b = true) → (¬ Low (rd x i) → b = (rd x i == 45)) → Ev (fun k => name_Bucket.j2 k (strOfNums x) i (rd x i) (x.length : Int) i b) q → Ev (fun k => name_Bucket.l0 k (strOfNums x) (x.length : Int) i) q := by
      intro b q h1 h2 g
      by_cases hL : Low (rd x i)
      · rw [h1 hL] at g
        refine Ev.step (fun k => ?_) g
        simp only [name_Bucket.l0]
        rw [if_pos (by omega), if_pos h0, if_pos (by omega), e, lower_yes hL]
        rfl
      · rw [h2 hL] at g
        refine Ev.step (fun k => ?_) g
        simp only [name_Bucket.l0]
        rw [if_pos (by omega), if_pos h0, if_pos (by omega), e, lower_no hL]
        rfl
    have on : Ev (fun k => name_Bucket.j2 k (strOfNums x) i (rd x i) (x.length : Int) i true) r := by
      refine Ev.step (fun k => ?_) hr
      simp only [name_Bucket.j2, if_true]
      rw [wr (n := i + 1) (by omega) (by omega)]
    by_cases hL : Low (rd x i)
    · exact ⟨r, head true (fun _ => rfl) (fun h => absurd hL h) on, code_iff (all_next (.inl hL) (by omega)) hC⟩
    · by_cases h45 : rd x i = 45
      · exact ⟨r, head true (fun _ => rfl) (fun _ => by simp [h45]) on, code_iff (all_next (.inr (.inl h45)) (by omega)) hC⟩
      · have hb : (rd x i == 45) = false := by simp [h45]
        by_cases h46 : rd x i = 46
        · have i1 : 1 ≤ i := by
            by_cases z : i = 0
            · rw [z] at h46; rw [h46] at hf; exact absurd hf low_46
            · omega
          have i2 : i + 1 < (x.length : Int) := by
            by_cases z : i = (x.length : Int) - 1
            · rw [← z, h46] at hl; exact absurd hl low_46
            · omega
          have em : bt (strOfNums x) (i - 1) = rd x (i - 1) := bt_str hB _
          have ep : bt (strOfNums x) (i + 1) = rd x (i + 1) := bt_str hB _
          have dot : ∀ k, name_Bucket.j2 (k + 1) (strOfNums x) i (rd x i) (x.length : Int) i false = if rd x (i - 1) = 46 then some 11 else if rd x (i - 1) = 45 then some 11 else if rd x (i + 1) = 45 then some 11 else name_Bucket.l0 k (strOfNums x) (x.length : Int) (i + 1) := fun k => by
            simp only [name_Bucket.j2, Bool.false_eq_true, if_false]
            rw [if_pos h46, wr (n := i - 1) (by omega) (by omega), if_pos (by omega), if_pos (by omega), em, wr (n := i + 1) (by omega) (by omega), if_pos (by omega : (0 : Int) ≤ i + 1), if_pos (by omega : i + 1 < ((strOfNums x).size : Int)), ep]
          by_cases a : rd x (i - 1) = 46
          · exact ⟨11, head false (fun h => absurd h hL) (fun _ => hb.symm) (Ev.step (f := fun _ => some 11) (fun k => by rw [dot, if_pos a]) (Ev.now _)), code_no (all_not (fun p => Or.elim p (fun p => hL p) (fun p => Or.elim p (fun p => h45 p) (fun p => p.2.1 a))) (by omega))⟩
          · by_cases b : rd x (i - 1) = 45
            · exact ⟨11, head false (fun h => absurd h hL) (fun _ => hb.symm) (Ev.step (f := fun _ => some 11) (fun k => by rw [dot, if_neg a, if_pos b]) (Ev.now _)), code_no (all_not (fun p => Or.elim p (fun p => hL p) (fun p => Or.elim p (fun p => h45 p) (fun p => p.2.2.1 b))) (by omega))⟩
            · by_cases c : rd x (i + 1) = 45
              · exact ⟨11, head false (fun h => absurd h hL) (fun _ => hb.symm) (Ev.step (f := fun _ => some 11) (fun k => by rw [dot, if_neg a, if_neg b, if_pos c]) (Ev.now _)), code_no (all_not (fun p => Or.elim p (fun p => hL p) (fun p => Or.elim p (fun p => h45 p) (fun p => p.2.2.2 c))) (by omega))⟩
              · exact ⟨r, head false (fun h => absurd h hL) (fun _ => hb.symm) (Ev.step (fun k => by rw [dot, if_neg a, if_neg b, if_neg c]) hr), code_iff (all_next (.inr (.inr ⟨h46, a, b, c⟩)) (by omega)) hC⟩
        · refine ⟨11, head false (fun h => absurd h hL) (fun _ => hb.symm) (Ev.step (f := fun _ => some 11) (fun k => ?_) (Ev.now _)), code_no (all_not (fun p => Or.elim p (fun p => hL p) (fun p => Or.elim p (fun p => h45 p) (fun p => h46 p.1))) (by omega))⟩
          simp only [name_Bucket.j2, Bool.false_eq_true, if_false]
          rw [if_neg h46]

theorem refbucket_l0 {x : List Int} (hB : Byt x) (hn : x.length < 1000000) : ∀ (d : Nat) (i : Int), 0 ≤ i → i + d = (x.length : Int) →
    ∃ r, Ev (fun k => deedboxref21_Bucket.l0 k (strOfNums x) i) r ∧ Code (AllFrom (Q x) i (x.length : Int)) r
  | 0, i, h0, hd => ⟨0, Ev.step (f := fun _ => some 0) (fun k => by simp only [deedboxref21_Bucket.l0]; rw [str_size, if_neg (by omega)]) (Ev.now _), code_yes (fun j h1 h2 => by omega)⟩
  | d + 1, i, h0, hd => by
    have hsz := str_size x
    obtain ⟨r, hr, hC⟩ := refbucket_l0 hB hn d (i + 1) (by omega) (by omega)
    have e : bt (strOfNums x) i = rd x i := bt_str hB i
    have em : bt (strOfNums x) (i - 1) = rd x (i - 1) := bt_str hB _
    have head : ∀ (b : Bool) {q : Int}, (b = true ↔ ¬ (Low (rd x i) ∨ rd x i = 45 ∨ rd x i = 46)) → Ev (fun k => deedboxref21_Bucket.j3 k (strOfNums x) i b) q → Ev (fun k => deedboxref21_Bucket.l0 k (strOfNums x) i) q := by
      intro b q hb g
      by_cases hL : Low (rd x i)
      · have : b = false := by
          cases b with
          | false => rfl
          | true => exact absurd (.inl hL) (hb.1 rfl)
        rw [this] at g
        refine Ev.step (fun k => ?_) g
        simp only [deedboxref21_Bucket.l0]
        rw [if_pos (by omega), if_pos h0, e, small_yes hL]
        rfl
      · by_cases h45 : rd x i = 45
        · have : b = false := by
            cases b with
            | false => rfl
            | true => exact absurd (.inr (.inl h45)) (hb.1 rfl)
          rw [this] at g
          refine Ev.step (fun k => ?_) g
          simp only [deedboxref21_Bucket.l0]
          rw [if_pos (by omega), if_pos h0, e, small_no hL]
          simp only [Option.bind_some, Bool.false_eq_true, if_false]
          rw [if_pos h45]
        · have : b = (rd x i != 46) := by
            by_cases h46 : rd x i = 46
            · cases b with
              | false => simp [h46]
              | true => exact absurd (.inr (.inr h46)) (hb.1 rfl)
            · rw [hb.2 (fun q => Or.elim q (fun q => hL q) (fun q => Or.elim q (fun q => h45 q) (fun q => h46 q)))]
              simp [h46]
          rw [this] at g
          refine Ev.step (fun k => ?_) g
          simp only [deedboxref21_Bucket.l0]
          rw [if_pos (by omega), if_pos h0, e, small_no hL]
          simp only [Option.bind_some, Bool.false_eq_true, if_false]
          rw [if_neg h45]
    by_cases c1 : Low (rd x i) ∨ rd x i = 45 ∨ rd x i = 46
    · have h1 := fun {q : Int} (g : Ev (fun k => deedboxref21_Bucket.j3 k (strOfNums x) i false) q) => head false (q := q) ⟨fun h => by simp at h, fun h => absurd c1 h⟩ g
      have j3 : ∀ (b : Bool) {q : Int}, (b = true ↔ (i > 0 ∧ rd x i = 46 ∧ (rd x (i - 1) = 46 ∨ rd x (i - 1) = 45))) → Ev (fun k => deedboxref21_Bucket.j4 k (strOfNums x) i b) q → Ev (fun k => deedboxref21_Bucket.j3 k (strOfNums x) i false) q := by
        intro b q hb g
        by_cases i0 : i > 0
        · by_cases h46 : rd x i = 46
          · by_cases hm : rd x (i - 1) = 46
            · rw [hb.2 ⟨i0, h46, .inl hm⟩] at g
              refine Ev.step (fun k => ?_) g
              simp only [deedboxref21_Bucket.j3, Bool.false_eq_true, if_false]
              rw [if_pos i0, if_pos h0, if_pos (by omega), e, if_pos h46, wr (n := i - 1) (by omega) (by omega), if_pos (by omega), if_pos (by omega), em, if_pos hm]
            · have : b = (rd x (i - 1) == 45) := by
                by_cases z : rd x (i - 1) = 45
                · rw [hb.2 ⟨i0, h46, .inr z⟩]; simp [z]
                · cases b with
                  | false => simp [z]
                  | true =>
                    rcases (hb.1 rfl).2.2 with q | q
                    · exact absurd q hm
                    · exact absurd q z
              rw [this] at g
              refine Ev.step (fun k => ?_) g
              simp only [deedboxref21_Bucket.j3, Bool.false_eq_true, if_false]
              rw [if_pos i0, if_pos h0, if_pos (by omega), e, if_pos h46, wr (n := i - 1) (by omega) (by omega), if_pos (by omega), if_pos (by omega), em, if_neg hm]
          · have : b = false := by
              cases b with
              | false => rfl
              | true => exact absurd (hb.1 rfl).2.1 h46
            rw [this] at g
            refine Ev.step (fun k => ?_) g
            simp only [deedboxref21_Bucket.j3, Bool.false_eq_true, if_false]
            rw [if_pos i0, if_pos h0, if_pos (by omega), e, if_neg h46]
        · have : b = false := by
            cases b with
            | false => rfl
            | true => exact absurd (hb.1 rfl).1 i0
          rw [this] at g
          refine Ev.step (fun k => ?_) g
          simp only [deedboxref21_Bucket.j3, Bool.false_eq_true, if_false]
          rw [if_neg i0]
      by_cases c2 : i > 0 ∧ rd x i = 46 ∧ (rd x (i - 1) = 46 ∨ rd x (i - 1) = 45)
      · exact ⟨11, h1 (j3 true ⟨fun _ => c2, fun _ => rfl⟩ (Ev.step (f := fun _ => some 11) (fun k => by simp only [deedboxref21_Bucket.j4, if_true]) (Ev.now _))), code_no (all_not (fun q => q.2.1 c2) (by omega))⟩
      · have h2 := fun {q : Int} (g : Ev (fun k => deedboxref21_Bucket.j4 k (strOfNums x) i false) q) => h1 (j3 false (q := q) ⟨fun h => by simp at h, fun h => absurd h c2⟩ g)
        by_cases c3 : i > 0 ∧ rd x i = 45 ∧ rd x (i - 1) = 46
        · refine ⟨11, h2 (Ev.step (f := fun _ => some 11) (fun k => ?_) (Ev.now _)), code_no (all_not (fun q => q.2.2 c3) (by omega))⟩
          simp only [deedboxref21_Bucket.j4, Bool.false_eq_true, if_false]
          rw [if_pos c3.1, if_pos h0, if_pos (by omega), e, if_pos c3.2.1, wr (n := i - 1) (by omega) (by omega), if_pos (by omega), if_pos (by omega), em, if_pos c3.2.2]
        · refine ⟨r, h2 (Ev.step (fun k => ?_) hr), code_iff (all_next ⟨c1, c2, c3⟩ (by omega)) hC⟩
          simp only [deedboxref21_Bucket.j4, Bool.false_eq_true, if_false]
          rw [wr (n := i + 1) (by omega) (by omega)]
          by_cases i0 : i > 0
          · rw [if_pos i0, if_pos h0, if_pos (by omega), e]
            by_cases h45 : rd x i = 45
            · rw [if_pos h45, wr (n := i - 1) (by omega) (by omega), if_pos (by omega), if_pos (by omega), em, if_neg (fun z => c3 ⟨i0, h45, z⟩)]
            · rw [if_neg h45]
          · rw [if_neg i0]
    · exact ⟨11, head true ⟨fun _ => c1, fun _ => rfl⟩ (Ev.step (f := fun _ => some 11) (fun k => by simp only [deedboxref21_Bucket.j3, if_true]) (Ev.now _)), code_no (all_not (fun q => c1 q.1) (by omega))⟩

/-- The whole condition, as the program has it, and as the reference has it. -/
def Okb (C : List Int → Int → Prop) (x : List Int) : Prop := 3 ≤ x.length ∧ x.length ≤ 20 ∧ Low (rd x 0) ∧ Low (rd x ((x.length : Int) - 1)) ∧ AllFrom (C x) 0 (x.length : Int)

theorem bucket_tells (x : List Int) (hB : Byt x) (hn : x.length < 1000000) : ∃ r, Ev (fun k => name_Bucket.f k (strOfNums x)) r ∧ Code (Okb P x) r := by
  have stop : Ev (fun k => name_Bucket.j0 k (strOfNums x) true) 11 := Ev.step (f := fun _ => some 11) (fun k => by simp only [name_Bucket.j0, if_true]) (Ev.now _)
  have hsz := str_size x
  unfold name_Bucket.f
  by_cases a : x.length < 3
  · exact ⟨11, Ev.congr (fun k => by rw [if_pos (by omega)]) stop, code_no (fun q => by have := q.1; omega)⟩
  · by_cases b : x.length > 20
    · exact ⟨11, Ev.congr (fun k => by rw [if_neg (by omega), if_pos (by omega)]) stop, code_no (fun q => by have := q.2.1; omega)⟩
    · have e0 : bt (strOfNums x) 0 = rd x 0 := bt_str hB 0
      have e1 : bt (strOfNums x) ((x.length : Int) - 1) = rd x ((x.length : Int) - 1) := bt_str hB _
      by_cases c : Low (rd x 0)
      · by_cases d : Low (rd x ((x.length : Int) - 1))
        · obtain ⟨r, hr, hC⟩ := bucket_l0 hB hn c d x.length 0 (by omega) (by omega)
          refine ⟨r, Ev.congr (f := fun k => name_Bucket.j0 k (strOfNums x) false) (fun k => ?_) (Ev.step (fun k => ?_) hr), code_iff ⟨fun q => ⟨by omega, by omega, c, d, q⟩, fun q => q.2.2.2.2⟩ hC⟩
          · rw [hsz, if_neg (by omega), if_neg (by omega), if_pos (by omega), e0, lower_yes c, Option.bind_some, if_pos rfl, wr (n := (x.length : Int) - 1) (by omega) (by omega), if_pos (by omega), if_pos (by omega), e1, lower_yes d]
            rfl
          · simp only [name_Bucket.j0, Bool.false_eq_true, if_false]
            rw [hsz]
        · refine ⟨11, Ev.congr (f := fun k => name_Bucket.j0 k (strOfNums x) true) (fun k => ?_) stop, code_no (fun q => d q.2.2.2.1)⟩
          rw [hsz, if_neg (by omega), if_neg (by omega), if_pos (by omega), e0, lower_yes c, Option.bind_some, if_pos rfl, wr (n := (x.length : Int) - 1) (by omega) (by omega), if_pos (by omega), if_pos (by omega), e1, lower_no d]
          rfl
      · refine ⟨11, Ev.congr (f := fun k => name_Bucket.j0 k (strOfNums x) true) (fun k => ?_) stop, code_no (fun q => c q.2.2.1)⟩
        rw [hsz, if_neg (by omega), if_neg (by omega), if_pos (by omega), e0, lower_no c]
        rfl

theorem refbucket_tells (x : List Int) (hB : Byt x) (hn : x.length < 1000000) : ∃ r, Ev (fun k => deedboxref21_Bucket.f k (strOfNums x)) r ∧ Code (Okb Q x) r := by
  have stop : Ev (fun k => deedboxref21_Bucket.j0 k (strOfNums x) true) 11 := Ev.step (f := fun _ => some 11) (fun k => by simp only [deedboxref21_Bucket.j0, if_true]) (Ev.now _)
  have stop1 : Ev (fun k => deedboxref21_Bucket.j1 k (strOfNums x) true) 11 := Ev.step (f := fun _ => some 11) (fun k => by simp only [deedboxref21_Bucket.j1, if_true]) (Ev.now _)
  have hsz := str_size x
  unfold deedboxref21_Bucket.f
  by_cases a : x.length < 3
  · exact ⟨11, Ev.congr (fun k => by rw [if_pos (by omega)]) stop, code_no (fun q => by have := q.1; omega)⟩
  · by_cases b : x.length > 20
    · exact ⟨11, Ev.congr (fun k => by rw [if_neg (by omega), decide_eq_true (by omega)]) stop, code_no (fun q => by have := q.2.1; omega)⟩
    · have e0 : bt (strOfNums x) 0 = rd x 0 := bt_str hB 0
      have e1 : bt (strOfNums x) ((x.length : Int) - 1) = rd x ((x.length : Int) - 1) := bt_str hB _
      have down : ∀ {q : Int}, Ev (fun k => deedboxref21_Bucket.j0 k (strOfNums x) false) q → Ev (fun k => if ((strOfNums x).size : Int) < 3 then deedboxref21_Bucket.j0 k (strOfNums x) true else deedboxref21_Bucket.j0 k (strOfNums x) (decide (((strOfNums x).size : Int) > 20))) q := fun g =>
        Ev.congr (fun k => by rw [if_neg (by omega), decide_eq_false (by omega)]) g
      by_cases c : Low (rd x 0)
      · by_cases d : Low (rd x ((x.length : Int) - 1))
        · obtain ⟨r, hr, hC⟩ := refbucket_l0 hB hn x.length 0 (by omega) (by omega)
          refine ⟨r, down (Ev.step (f := fun k => deedboxref21_Bucket.j1 k (strOfNums x) false) (fun k => ?_) (Ev.step (fun k => by simp only [deedboxref21_Bucket.j1, Bool.false_eq_true, if_false]) hr)), code_iff ⟨fun q => ⟨by omega, by omega, c, d, q⟩, fun q => q.2.2.2.2⟩ hC⟩
          simp only [deedboxref21_Bucket.j0, Bool.false_eq_true, if_false]
          rw [hsz, if_pos (by omega), e0, small_yes c, Option.bind_some, if_pos rfl, wr (n := (x.length : Int) - 1) (by omega) (by omega), if_pos (by omega), if_pos (by omega), e1, small_yes d]
          rfl
        · refine ⟨11, down (Ev.step (f := fun k => deedboxref21_Bucket.j1 k (strOfNums x) true) (fun k => ?_) stop1), code_no (fun q => d q.2.2.2.1)⟩
          simp only [deedboxref21_Bucket.j0, Bool.false_eq_true, if_false]
          rw [hsz, if_pos (by omega), e0, small_yes c, Option.bind_some, if_pos rfl, wr (n := (x.length : Int) - 1) (by omega) (by omega), if_pos (by omega), if_pos (by omega), e1, small_no d]
          rfl
      · refine ⟨11, down (Ev.step (f := fun k => deedboxref21_Bucket.j1 k (strOfNums x) true) (fun k => ?_) stop1), code_no (fun q => c q.2.2.1)⟩
        simp only [deedboxref21_Bucket.j0, Bool.false_eq_true, if_false]
        rw [hsz, if_pos (by omega), e0, small_no c]
        rfl

/-- Both ask the same. -/
theorem ok_same (x : List Int) : Okb P x ↔ Okb Q x := by
  constructor
  · rintro ⟨a, b, c, d, h⟩
    refine ⟨a, b, c, d, fun j h1 h2 => ?_⟩
    have hj := h j h1 h2
    refine ⟨?_, ?_, ?_⟩
    · rcases hj with q | q | q
      · exact .inl q
      · exact .inr (.inl q)
      · exact .inr (.inr q.1)
    · rintro ⟨i0, h46, hm⟩
      rcases hj with q | q | q
      · rw [h46] at q; exact low_46 q
      · omega
      · rcases hm with hm | hm
        · exact q.2.1 hm
        · exact q.2.2.1 hm
    · rintro ⟨i0, h45, hm⟩
      have hp := h (j - 1) (by omega) (by omega)
      rcases hp with q | q | q
      · rw [hm] at q; exact low_46 q
      · omega
      · have := q.2.2.2
        rw [show j - 1 + 1 = j by omega] at this
        exact this h45
  · rintro ⟨a, b, c, d, h⟩
    refine ⟨a, b, c, d, fun j h1 h2 => ?_⟩
    have hj := h j h1 h2
    rcases hj.1 with q | q | q
    · exact .inl q
    · exact .inr (.inl q)
    · refine .inr (.inr ⟨q, ?_, ?_, ?_⟩)
      · intro hm
        by_cases z : j = 0
        · rw [z] at q; rw [q] at c; exact low_46 c
        · exact hj.2.1 ⟨by omega, q, .inl hm⟩
      · intro hm
        by_cases z : j = 0
        · rw [z] at q; rw [q] at c; exact low_46 c
        · exact hj.2.1 ⟨by omega, q, .inr hm⟩
      · intro hm
        by_cases z : j = (x.length : Int) - 1
        · rw [← z, q] at d; exact low_46 d
        · exact (h (j + 1) (by omega) (by omega)).2.2 ⟨by omega, hm, by rw [show j + 1 - 1 = j by omega]; exact q⟩

/-- The law. -/
theorem NameBuckets : deedboxlaw21_NameBuckets.Pure := by
  intro s h2
  obtain ⟨xs, hx, rfl, hlen⟩ := str_of s
  apply Ev.rounds
  unfold deedboxlaw21_NameBuckets.f
  rw [str_size]
  by_cases hl : (xs.length : Int) > 200
  · refine Ev.congr (fun k => by rw [if_pos hl]) ?_
    exact Ev.bind works_tells (Ev.now _)
  · refine Ev.congr (fun k => by rw [if_neg hl]) ?_
    obtain ⟨r, hr, hC⟩ := bucket_tells xs hx (by omega)
    obtain ⟨q, hq, hD⟩ := refbucket_tells xs hx (by omega)
    refine Ev.bind hr ?_
    refine Ev.bind hq ?_
    refine Ev.congr (fun k => by rw [if_pos (code_same (ok_same xs) hC hD)]) ?_
    exact Ev.bind works_tells (Ev.now _)

end Go.Proofs.YtdihaaiaenhpgaaDoor.Pure
