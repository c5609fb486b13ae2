/- The pure statement of FeedDoes, where there may be such a room. -/
import Derived.Test.YtllhmnohmdgblaaQFeedDoesx4
import Derived.Test.YtllhmnohmdgblaaNumCore
namespace Go.Proofs.Ytllhmnohmdgblaa.Pure
open Go.RowKit Go.Proofs.Ytllhmnohmdgblaa.QFeedDoes Go.Proofs.Ytllhmnohmdgblaa.Kit Go.Proofs.Ytllhmnohmdgblaa.Num Go.Proofs.YtllhmnohmdgblaaW.PrintWords Go.Proofs.YtllhmnohmdgblaaW.PrintLast
set_option linter.unusedVariables false
set_option linter.unusedSimpArgs false

/-! ### Digits -/
theorem enc_digit (d : Nat) (h : d < 10) : Go.Utf8.encode (wrap32 (wrap64 (48 + (d : Int)))) = strOfNums [48 + (d : Int)] := by
  have : ∀ d : Fin 10, (Go.Utf8.encode (wrap32 (wrap64 (48 + (d.1 : Int))))).data = (strOfNums [48 + (d.1 : Int)]).data := by decide +kernel
  exact ByteArray.ext (this ⟨d, h⟩)
theorem digits_l0 : ∀ (m n : Nat) (acc : List Int), n < 10 ^ m → n < 9223372036854775808 → acc.length + m ≤ 1000000 →
    Ev (fun k => name_Digits.l0 k (n : Int) (strOfNums acc)) (strOfNums (digits n ++ acc)) := by
  intro m
  induction m with
  | zero =>
    intro n acc hm hn hl
    have hz : n = 0 := by rw [Nat.pow_zero] at hm; omega
    subst hz
    have e1 : Int.tmod ((0 : Nat) : Int) 10 = ((0 : Nat) : Int) := rfl
    have e2 : Int.tdiv ((0 : Nat) : Int) 10 = ((0 : Nat) : Int) := rfl
    have hsz : (strOfNums [48 + ((0 : Nat) : Int)]).size + (strOfNums acc).size ≤ 9223372036854775807 := by rw [strOfNums_size, strOfNums_size]; simp only [List.length_cons, List.length_nil]; omega
    refine Ev.step (f := fun _ => some (strOfNums (digits 0 ++ acc))) (fun k => ?_) (Ev.now _)
    simp only [name_Digits.l0]
    rw [e1, e2, enc_digit 0 (by omega), if_pos hsz, wr (n := ((0 : Nat) : Int)) (by omega) (by omega), if_pos (by omega), str_app, digits_lt (by omega)]
  | succ m ih =>
    intro n acc hm hn hl
    have e1 : Int.tmod (n : Int) 10 = ((n % 10 : Nat) : Int) := by rw [Int.tmod_eq_emod_of_nonneg (by omega)]; omega
    have e2 : Int.tdiv (n : Int) 10 = ((n / 10 : Nat) : Int) := by rw [Int.tdiv_eq_ediv_of_nonneg (by omega)]; omega
    have hsz : (strOfNums [48 + ((n % 10 : Nat) : Int)]).size + (strOfNums acc).size ≤ 9223372036854775807 := by rw [strOfNums_size, strOfNums_size]; simp only [List.length_cons, List.length_nil]; omega
    by_cases h : n < 10
    · refine Ev.step (f := fun _ => some (strOfNums (digits n ++ acc))) (fun k => ?_) (Ev.now _)
      simp only [name_Digits.l0]
      rw [e1, e2, enc_digit _ (by omega), if_pos hsz, wr (n := ((n / 10 : Nat) : Int)) (by omega) (by omega), if_pos (by omega), str_app, digits_lt h, show n % 10 = n by omega]
    · have i := ih (n / 10) ([48 + ((n % 10 : Nat) : Int)] ++ acc) (by rw [Nat.pow_succ] at hm; omega) (by omega) (by simp only [List.length_append, List.length_cons, List.length_nil]; omega)
      rw [digits_ge h, List.append_assoc]
      refine Ev.step (fun k => ?_) i
      simp only [name_Digits.l0]
      rw [e1, e2, enc_digit _ (by omega), if_pos hsz, wr (n := ((n / 10 : Nat) : Int)) (by omega) (by omega), if_neg (by omega), str_app]
theorem digits_tell (n : Int) (h0 : 0 ≤ n) (h1 : n ≤ 9223372036854775807) : Ev (fun k => name_Digits.f k n) (strOfNums (digits n.toNat)) := by
  obtain ⟨m, rfl⟩ := Int.eq_ofNat_of_zero_le h0
  have := digits_l0 20 m [] (by omega) (by omega) (by simp)
  rw [List.append_nil] at this
  exact this

/-! ### The reference's Digits and Number -/
def dtab : ByteArray := ⟨#[48, 49, 50, 51, 52, 53, 54, 55, 56, 57]⟩
theorem dtab_cut (d : Nat) (h : d < 10) : dtab.extract d (d + 1) = strOfNums [48 + (d : Int)] := by
  have : ∀ d : Fin 10, (dtab.extract d.1 (d.1 + 1)).data = (strOfNums [48 + (d.1 : Int)]).data := by decide +kernel
  exact ByteArray.ext (this ⟨d, h⟩)
theorem refdigits_nat : ∀ (m n : Nat), n < 10 ^ m → m < 1000000 → n < 9223372036854775808 → Ev (fun k => deedboxref21_Digits.f k (n : Int)) (strOfNums (digits n)) := by
  have low : ∀ n : Nat, n < 10 → Ev (fun k => deedboxref21_Digits.f k (n : Int)) (strOfNums (digits n)) := by
    intro n h
    refine Ev.step (f := fun _ => some (strOfNums (digits n))) (fun k => ?_) (Ev.now _)
    simp only [deedboxref21_Digits.f]
    rw [if_pos (by omega), if_pos (by omega), wr (n := (n : Int) + 1) (by omega) (by omega), if_pos (by omega), if_pos (by omega), show ((n : Int) + 1).toNat = n + 1 by omega, Int.toNat_natCast, digits_lt h]
    exact congrArg some (dtab_cut n h)
  intro m
  induction m with
  | zero =>
    intro n hm _ _
    exact low n (by rw [Nat.pow_zero] at hm; omega)
  | succ m ih =>
    intro n hm hm2 hn
    by_cases h : n < 10
    · exact low n h
    · have e1 : Int.tmod (n : Int) 10 = ((n % 10 : Nat) : Int) := by rw [Int.tmod_eq_emod_of_nonneg (by omega)]; omega
      have e2 : Int.tdiv (n : Int) 10 = ((n / 10 : Nat) : Int) := by rw [Int.tdiv_eq_ediv_of_nonneg (by omega)]; omega
      have i := ih (n / 10) (by rw [Nat.pow_succ] at hm; omega) (by omega) (by omega)
      have hlen := digits_len (n / 10) 30 (by omega)
      apply Ev.step
      · intro k
        simp only [deedboxref21_Digits.f]
        rw [if_neg (by omega), e2, wr (n := ((n / 10 : Nat) : Int)) (by omega) (by omega)]
      · refine Ev.bind i ?_
        refine Ev.congr (fun k => ?_) (Ev.now _)
        rw [e1, if_pos (by omega), wr (n := ((n % 10 : Nat) : Int) + 1) (by omega) (by omega), if_pos (by omega), if_pos (by omega), show (((n % 10 : Nat) : Int) + 1).toNat = n % 10 + 1 by omega, Int.toNat_natCast]
        have e3 := dtab_cut (n % 10) (by omega)
        unfold dtab at e3
        rw [e3, if_pos (by rw [strOfNums_size, strOfNums_size]; simp only [List.length_cons, List.length_nil]; omega), str_app, digits_ge h]
theorem refdigits_tell (n : Int) (h0 : 0 ≤ n) (h1 : n ≤ 9223372036854775807) : Ev (fun k => deedboxref21_Digits.f k n) (strOfNums (digits n.toNat)) := by
  obtain ⟨m, rfl⟩ := Int.eq_ofNat_of_zero_le h0
  exact refdigits_nat 20 m (by omega) (by omega) (by omega)

theorem works_tells : Ev (fun k => deedboxlaw39_works.f k) true := Ev.of deedboxlaw39_works.mono (show deedboxlaw39_works.f 60 = some true by decide +kernel)
def tup (s : S34) : FNews := (s.f0, s.f1, s.f2, s.f3)
theorem wr64 {n : Int} (h0 : -9223372036854775808 ≤ n) (h1 : n ≤ 9223372036854775807) : wrap64 n = n := IntWalk.wrap64_in n ⟨h0, h1⟩
theorem own_is (a : Int) (b c : ByteArray) (d : Int) : deedboxlaw39_own.f a b c d = some (a, b, c, d) := rfl
theorem hear_cons (c : Int) (n : FNews) (l : List FNews) (t o : Int) : feed_Feed_Hear.f c (n :: l) t o = some (n.1, n.2.1, n.2.2.1, n.2.2.2, true, c, l, t, o) := rfl
theorem hear_nil (c t o : Int) : feed_Feed_Hear.f c [] t o = some (0, ⟨#[]⟩, ⟨#[]⟩, 0, false, c, [], t, o) := rfl
theorem tell_room {c : Int} {l : List FNews} {t o a : Int} {b d : ByteArray} {e : Int} (h : l.length < c.toNat) : feed_Feed_Tell.f c l t o a b d e = some (true, c, l ++ [(a, b, d, e)], wrap64 (t + 1), o) := by
  unfold feed_Feed_Tell.f; rw [if_pos h]
theorem rd_at (xs : List S34) (i : Nat) (h : i < xs.length) : rd_T34 xs (i : Int) = xs[i] := by
  unfold rd_T34
  rw [Int.toNat_natCast, List.getD_eq_getElem?_getD, List.getElem?_eq_getElem h]
  rfl

theorem tell_full {c : Int} {l : List FNews} {t o a : Int} {b d : ByteArray} {e : Int} (h : ¬ l.length < c.toNat) : feed_Feed_Tell.f c l t o a b d e = some (false, c, l, t, wrap64 (o + 1)) := by
  unfold feed_Feed_Tell.f; rw [if_neg h]
/-- What a line's number is written as. -/
def num (a : Int) : ByteArray := strOfNums (digits (mx a 0).toNat)
theorem mx_pos {a : Int} (h : ¬ a < 0) : mx a 0 = a := by unfold mx; rw [if_neg h]
theorem mx_neg {a : Int} (h : a < 0) : mx a 0 = 0 := by unfold mx; rw [if_pos h]
theorem num_size (a : Int) (h : (Lit.int .i64 a).wf = true) : (num a).size ≤ 30 := by
  have h2 : -9223372036854775808 ≤ a ∧ a ≤ 9223372036854775807 := by
    simp [Lit.wf, IntKind.min, IntKind.max, IntKind.signed, IntKind.bits] at h; omega
  unfold num
  rw [strOfNums_size]
  refine digits_len _ 29 ?_
  by_cases hn : a < 0
  · rw [mx_neg hn]; decide
  · rw [mx_pos hn]; omega
theorem num_tell (a : Int) (h : (Lit.int .i64 a).wf = true) : Ev (fun k => name_Digits.f k (mx a 0)) (num a) := by
  have h2 : -9223372036854775808 ≤ a ∧ a ≤ 9223372036854775807 := by
    simp [Lit.wf, IntKind.min, IntKind.max, IntKind.signed, IntKind.bits] at h; omega
  by_cases hn : a < 0
  · unfold num; rw [mx_neg hn]; exact digits_tell 0 (by omega) (by omega)
  · unfold num; rw [mx_pos hn]; exact digits_tell a (by omega) (by omega)
theorem refnum_tell (a : Int) (h : (Lit.int .i64 a).wf = true) : Ev (fun k => deedboxref21_Digits.f k (mx a 0)) (num a) := by
  have h2 : -9223372036854775808 ≤ a ∧ a ≤ 9223372036854775807 := by
    simp [Lit.wf, IntKind.min, IntKind.max, IntKind.signed, IntKind.bits] at h; omega
  by_cases hn : a < 0
  · unfold num; rw [mx_neg hn]; exact refdigits_tell 0 (by omega) (by omega)
  · unfold num; rw [mx_pos hn]; exact refdigits_tell a (by omega) (by omega)
def line (a : Int) (b c : ByteArray) (d : Int) : ByteArray := ((((((num a ++ (⟨#[32]⟩ : ByteArray)) ++ b) ++ (⟨#[47]⟩ : ByteArray)) ++ c) ++ (⟨#[32]⟩ : ByteArray)) ++ num d)
theorem line_tell (a : Int) (b c : ByteArray) (d : Int) (ha : (Lit.int .i64 a).wf = true) (hd : (Lit.int .i64 d).wf = true) (hb : b.size ≤ 300) (hc : c.size ≤ 300) : Ev (fun k => feed_Line.f k a b c d) (line a b c d) := by
  have na := num_size a ha
  have nd := num_size d hd
  refine Ev.bind (num_tell a ha) ?_
  refine Ev.congr (fun k => by rw [if_pos (by omega), if_pos (by omega), if_pos (by omega), if_pos (by omega), if_pos (by omega)]) ?_
  refine Ev.bind (num_tell d hd) ?_
  exact Ev.congr (fun k => by rw [if_pos (by omega)]; rfl) (Ev.now _)
theorem refline_j0 (a x : Int) (b c : ByteArray) (d y : Int) (ha : (Lit.int .i64 a).wf = true) (hx : x = mx a 0) (hd : (Lit.int .i64 d).wf = true) (hb : b.size ≤ 300) (hc : c.size ≤ 300) : Ev (fun k => deedboxref39_Line.j0 k x y b c d) (line a b c d) := by
  have na := num_size a ha
  have nd := num_size d hd
  subst hx
  have h2 := refnum_tell d hd
  by_cases hn : d < 0
  · rw [mx_neg hn] at h2
    apply Ev.step
    · intro k
      simp only [deedboxref39_Line.j0]
      rw [if_pos hn]
    refine Ev.bind (refnum_tell a ha) ?_
    refine Ev.congr (fun k => by rw [if_pos (by omega), if_pos (by omega), if_pos (by omega), if_pos (by omega), if_pos (by omega)]) ?_
    refine Ev.bind h2 ?_
    exact Ev.congr (fun k => by rw [if_pos (by omega)]; rfl) (Ev.now _)
  · rw [mx_pos hn] at h2
    apply Ev.step
    · intro k
      simp only [deedboxref39_Line.j0]
      rw [if_neg hn]
    refine Ev.bind (refnum_tell a ha) ?_
    refine Ev.congr (fun k => by rw [if_pos (by omega), if_pos (by omega), if_pos (by omega), if_pos (by omega), if_pos (by omega)]) ?_
    refine Ev.bind h2 ?_
    exact Ev.congr (fun k => by rw [if_pos (by omega)]; rfl) (Ev.now _)
theorem refline_tell (a : Int) (b c : ByteArray) (d : Int) (ha : (Lit.int .i64 a).wf = true) (hd : (Lit.int .i64 d).wf = true) (hb : b.size ≤ 300) (hc : c.size ≤ 300) : Ev (fun k => deedboxref39_Line.f k a b c d) (line a b c d) := by
  by_cases hn : a < 0
  · exact Ev.congr (fun k => by simp only [deedboxref39_Line.f]; rw [if_pos hn]) (refline_j0 a 0 b c d a ha (mx_neg hn).symm hd hb hc)
  · exact Ev.congr (fun k => by simp only [deedboxref39_Line.f]; rw [if_neg hn]) (refline_j0 a a b c d a ha (mx_pos hn).symm hd hb hc)
theorem refhear_nil (c t o : Int) : deedboxref39_Hear.f c [] t o = some (c, [], t, o, 0, ⟨#[]⟩, ⟨#[]⟩, 0, false) := rfl
theorem refhear_cons (c : Int) (x : S34) (L : List S34) (t o : Int) : deedboxref39_Hear.f c (x :: L) t o = some (c, L, t, o, x.f0, x.f1, x.f2, x.f3, true) := by
  unfold deedboxref39_Hear.f
  rw [if_neg (by simp only [List.length_cons]; omega), if_pos (by simp only [List.length_cons]; omega), if_pos (by simp only [List.length_cons]; omega)]
  rfl
theorem reftell_room {c : Int} {L : List S34} {t o a : Int} {b d : ByteArray} {e : Int} (h : (L.length : Int) < c) (hc : c ≤ 64) : deedboxref39_Tell.f c L t o a b d e = some (c, L ++ [⟨a, b, d, e⟩], wrap64 (t + 1), o, true) := by
  unfold deedboxref39_Tell.f
  rw [if_neg (by omega), if_pos (by simp only [List.length_nil]; omega)]
  simp only [Option.bind_some, List.nil_append]
  rw [if_pos (by omega)]
theorem reftell_full {c : Int} {L : List S34} {t o a : Int} {b d : ByteArray} {e : Int} (h : ¬ (L.length : Int) < c) : deedboxref39_Tell.f c L t o a b d e = some (c, L, t, wrap64 (o + 1), false) := by
  unfold deedboxref39_Tell.f
  rw [if_pos (by omega)]
theorem rd36_at (xs : List S36) (i : Nat) (h : i < xs.length) : rd_T36 xs (i : Int) = xs[i] := by
  unfold rd_T36
  rw [Int.toNat_natCast, List.getD_eq_getElem?_getD, List.getElem?_eq_getElem h]
  rfl
theorem works_end {f : Nat → Option Bool} (h : ∀ k, f k = (deedboxlaw39_works.f k).bind fun t => some t) : Ev f true :=
  Ev.congr (fun k => by rw [h]; cases deedboxlaw39_works.f k <;> rfl) works_tells
theorem round (xs : List S36) (hl : xs.length ≤ 200) (hw : ∀ x ∈ xs, (Lit.int .i64 x.f1.f0).wf = true ∧ (Lit.int .i64 x.f1.f3).wf = true) (c : Int) (hc0 : 0 ≤ c) (hc : c ≤ 64) :
    ∀ (m i : Nat), i + m = xs.length → ∀ (L : List S34) (t o : Int), (L.length : Int) ≤ c → Ev (fun k => deedboxlaw39_FeedDoes.l0 k xs 0 (i : Int) c (L.map tup) t o c L t o) true := by
  intro m
  induction m with
  | zero =>
    intro i hi L t o hL
    apply Ev.step
    · intro k
      simp only [deedboxlaw39_FeedDoes.l0]
      rw [if_neg (by omega)]
    apply Ev.step
    · intro k
      simp only [deedboxlaw39_FeedDoes.j2, Bool.false_eq_true, if_false]
      rfl
    exact works_end (fun k => rfl)
  | succ m ih =>
    intro i hi L t o hL
    have hlt : i < xs.length := by omega
    have hwi := hw xs[i] (List.getElem_mem hlt)
    have tail : ∀ (L2 : List S34) (t2 o2 : Int), (L2.length : Int) ≤ c → Ev (fun k => deedboxlaw39_FeedDoes.j4 k xs 0 (i : Int) c (L2.map tup) t2 o2 c L2 t2 o2) true := by
      intro L2 t2 o2 h2
      refine Ev.step (fun k => ?_) (ih (i + 1) (by omega) L2 t2 o2 h2)
      simp only [deedboxlaw39_FeedDoes.j4, feed_Feed_Waits.f, feed_Feed_Told.f, feed_Feed_Lost.f, Option.bind_some, List.length_map, if_true]
      rw [wr64 (by omega) (by omega)]
      rfl
    apply Ev.step
    · intro k
      simp only [deedboxlaw39_FeedDoes.l0]
      rw [if_pos (by omega), show ((0 : Int) == 0) = true from rfl]
    by_cases h1 : ((xs[i].f1.f1).size : Int) > 300
    · apply Ev.step
      · intro k
        simp only [deedboxlaw39_FeedDoes.j2, if_true]
        rw [if_pos (by omega), if_pos (by omega), rd36_at xs i hlt, if_pos h1]
      apply Ev.step
      · intro k
        simp only [deedboxlaw39_FeedDoes.j3, if_true]
        rfl
      exact works_end (fun k => rfl)
    apply Ev.step
    · intro k
      simp only [deedboxlaw39_FeedDoes.j2, if_true]
      rw [if_pos (by omega), if_pos (by omega), rd36_at xs i hlt, if_neg h1]
    by_cases h2 : ((xs[i].f1.f2).size : Int) > 300
    · rw [decide_eq_true h2]
      apply Ev.step
      · intro k
        simp only [deedboxlaw39_FeedDoes.j3, if_true]
        rfl
      exact works_end (fun k => rfl)
    rw [decide_eq_false h2]
    by_cases hh : xs[i].f0 = true
    · cases L with
      | nil =>
        refine Ev.step (fun k => ?_) (tail [] t o (by simpa using hc0))
        simp only [deedboxlaw39_FeedDoes.j3, Bool.false_eq_true, if_false]
        rw [if_pos (by omega), if_pos (by omega), rd36_at xs i hlt, if_pos hh, refhear_nil, List.map_nil, hear_nil]
        simp only [Option.bind_some, bne_self_eq_false, Bool.false_eq_true, if_false, own_is, beq_self_eq_true, Bool.not_true, Bool.or_self]
      | cons x L =>
        refine Ev.step (fun k => ?_) (tail L t o (by simp only [List.length_cons] at hL; omega))
        simp only [deedboxlaw39_FeedDoes.j3, Bool.false_eq_true, if_false]
        rw [if_pos (by omega), if_pos (by omega), rd36_at xs i hlt, if_pos hh, refhear_cons, List.map_cons, hear_cons]
        simp only [Option.bind_some, bne_self_eq_false, Bool.false_eq_true, if_false, own_is, tup, beq_self_eq_true, Bool.not_true, Bool.or_self]
    · have hline := line_tell xs[i].f1.f0 xs[i].f1.f1 xs[i].f1.f2 xs[i].f1.f3 hwi.1 hwi.2 (by omega) (by omega)
      have href := refline_tell xs[i].f1.f0 xs[i].f1.f1 xs[i].f1.f2 xs[i].f1.f3 hwi.1 hwi.2 (by omega) (by omega)
      by_cases hr : (L.length : Int) < c
      · have htl := tail (L ++ [⟨xs[i].f1.f0, xs[i].f1.f1, xs[i].f1.f2, xs[i].f1.f3⟩]) (wrap64 (t + 1)) o (by simp only [List.length_append, List.length_cons, List.length_nil]; omega)
        apply Ev.step
        · intro k
          simp only [deedboxlaw39_FeedDoes.j3, Bool.false_eq_true, if_false]
          rw [if_pos (by omega), if_pos (by omega), rd36_at xs i hlt, if_neg hh, reftell_room hr hc, own_is]
        simp only [Option.bind_some]
        have htt := fun a b d e => tell_room (c := c) (l := L.map tup) (t := t) (o := o) (a := a) (b := b) (d := d) (e := e) (by rw [List.length_map]; omega)
        simp only [htt, Option.bind_some, bne_self_eq_false, Bool.false_eq_true, if_false]
        refine Ev.bind hline ?_
        refine Ev.bind href ?_
        refine Ev.congr (fun k => by rw [if_pos rfl]) ?_
        rw [List.map_append] at htl
        exact htl
      · have htl := tail L t (wrap64 (o + 1)) hL
        apply Ev.step
        · intro k
          simp only [deedboxlaw39_FeedDoes.j3, Bool.false_eq_true, if_false]
          rw [if_pos (by omega), if_pos (by omega), rd36_at xs i hlt, if_neg hh, reftell_full hr, own_is]
        simp only [Option.bind_some]
        have htt := fun a b d e => tell_full (c := c) (l := L.map tup) (t := t) (o := o) (a := a) (b := b) (d := d) (e := e) (by rw [List.length_map]; omega)
        simp only [htt, Option.bind_some, bne_self_eq_false, Bool.false_eq_true, if_false]
        refine Ev.bind hline ?_
        refine Ev.bind href ?_
        exact Ev.congr (fun k => by rw [if_pos rfl]) htl
theorem FeedDoes (a0 : Int) (l1 : List S36) (h0 : 0 ≤ a0) (h64 : a0 ≤ 64) (hw : ∀ x ∈ l1, (Lit.int .i64 x.f1.f0).wf = true ∧ (Lit.int .i64 x.f1.f3).wf = true) : ∃ k, deedboxlaw39_FeedDoes.f k a0 l1 = some true := by
  refine Ev.rounds (g := fun k => deedboxlaw39_FeedDoes.f k a0 l1) ?_
  by_cases h : (l1.length : Int) > 200
  · exact works_end (fun k => by simp only [deedboxlaw39_FeedDoes.f]; rw [if_pos h])
  · refine Ev.congr (f := fun k => deedboxlaw39_FeedDoes.j0 k l1 0 false a0 [] 0 0 a0 [] 0 0) (fun k => ?_) ?_
    · simp only [deedboxlaw39_FeedDoes.f]
      rw [if_neg h, if_pos h0, if_pos h64, feed_NewOk.f, if_pos ⟨h0, h64⟩, deedboxref39_New.f, if_neg (by omega), if_neg (by omega)]
      rfl
    · apply Ev.step
      · intro k
        simp only [deedboxlaw39_FeedDoes.j0, Bool.false_eq_true, if_false]
        rfl
      exact round l1 (by omega) hw a0 h0 h64 l1.length 0 (by omega) [] 0 0 (by simpa using h0)

end Go.Proofs.Ytllhmnohmdgblaa.Pure
