/- The pure statement of FeedAll: what the walk tells answers as the chapter says. -/
import Derived.Test.YtllhmnohmdgblaaQFeedAllx3
namespace Go.Proofs.Ytllhmnohmdgblaa.Pure
open Go.RowKit Go.Proofs.Ytllhmnohmdgblaa.QFeedAll Go.Proofs.YtllhmnohmdgblaaW.PrintWords Go.Proofs.YtllhmnohmdgblaaW.PrintLast
set_option linter.unusedVariables false
set_option linter.unusedSimpArgs false

theorem works_tells : Ev (fun k => deedboxlaw39_works.f k) true := Ev.of deedboxlaw39_works.mono (show deedboxlaw39_works.f 60 = some true by decide +kernel)
def tup (s : S34) : FNews := (s.f0, s.f1, s.f2, s.f3)
theorem wr64 {n : Int} (h0 : -9223372036854775808 ≤ n) (h1 : n ≤ 9223372036854775807) : wrap64 n = n := IntWalk.wrap64_in n ⟨h0, h1⟩
theorem own_is (a : Int) (b c : ByteArray) (d : Int) : deedboxlaw39_own.f a b c d = some (a, b, c, d) := rfl
theorem hear_cons (c : Int) (n : FNews) (l : List FNews) (t o : Int) : feed_Feed_Hear.f c (n :: l) t o = some (n.1, n.2.1, n.2.2.1, n.2.2.2, true, c, l, t, o) := rfl
theorem hear_nil (c t o : Int) : feed_Feed_Hear.f c [] t o = some (0, ⟨#[]⟩, ⟨#[]⟩, 0, false, c, [], t, o) := rfl
theorem tell_room {c : Int} {l : List FNews} {t o a : Int} {b d : ByteArray} {e : Int} (h : l.length < c.toNat) : feed_Feed_Tell.f c l t o a b d e = some (true, c, l ++ [(a, b, d, e)], wrap64 (t + 1), o) := by
  unfold feed_Feed_Tell.f; rw [if_pos h]
theorem rd_at (xs : List S34) (i : Nat) (h : i < xs.length) : rd_T34 xs (i : Int) = xs[i] := by
  unfold rd_T34
  rw [Int.toNat_natCast, List.getD_eq_getElem?_getD, List.getElem?_eq_getElem h]
  rfl
theorem heard (xs : List S34) (hl : xs.length ≤ 64) (c t : Int) : ∀ (m i : Nat), i + m = xs.length → Ev (fun k => deedboxlaw39_FeedAll.l1 k xs (i : Int) c ((xs.drop i).map tup) t 0) true := by
  intro m
  induction m with
  | zero =>
    intro i hi
    rw [List.drop_of_length_le (by omega)]
    refine Ev.step (fun k => ?_) works_tells
    simp only [deedboxlaw39_FeedAll.l1]
    rw [if_neg (by omega), List.map_nil, hear_nil]
    simp only [Option.bind_some, Bool.false_eq_true, if_false, feed_Feed_Lost.f, if_true]
    cases deedboxlaw39_works.f k <;> rfl
  | succ m ih =>
    intro i hi
    have hlt : i < xs.length := by omega
    rw [List.drop_eq_getElem_cons hlt, List.map_cons]
    refine Ev.step (fun k => ?_) (ih (i + 1) (by omega))
    simp only [deedboxlaw39_FeedAll.l1]
    rw [if_pos (by omega), hear_cons]
    simp only [Option.bind_some, if_true]
    rw [if_pos (by omega), rd_at xs i hlt, own_is]
    simp only [Option.bind_some, tup, beq_self_eq_true, Bool.not_true, Bool.or_self, Bool.false_eq_true, if_false]
    rw [wr64 (by omega) (by omega)]
    rfl
theorem told (xs : List S34) (hl : xs.length ≤ 64) : ∀ (m i : Nat) (t : Int), i + m = xs.length → Ev (fun k => deedboxlaw39_FeedAll.l0 k xs (i : Int) (xs.length : Int) ((xs.take i).map tup) t 0) true := by
  intro m
  induction m with
  | zero =>
    intro i t hi
    rw [List.take_of_length_le (by omega)]
    refine Ev.step (fun k => ?_) (heard xs hl xs.length t xs.length 0 (by omega))
    simp only [deedboxlaw39_FeedAll.l0]
    rw [if_neg (by omega)]
    rfl
  | succ m ih =>
    intro i t hi
    have hlt : i < xs.length := by omega
    refine Ev.step (fun k => ?_) (ih (i + 1) (wrap64 (t + 1)) (by omega))
    simp only [deedboxlaw39_FeedAll.l0]
    rw [if_pos (by omega), if_pos (by omega), rd_at xs i hlt, own_is]
    simp only [Option.bind_some]
    rw [tell_room (by simp; omega)]
    simp only [Option.bind_some, if_true]
    rw [wr64 (n := (i : Int) + 1) (by omega) (by omega), List.take_succ_eq_append_getElem hlt, List.map_append]
    rfl
theorem FeedAll (l0 : List S34) (_h : ∀ x ∈ l0, (Lit.int .i64 x.f0).wf = true ∧ (Lit.int .i64 x.f3).wf = true) : ∃ k, deedboxlaw39_FeedAll.f k l0 = some true := by
  refine Ev.rounds (g := fun k => deedboxlaw39_FeedAll.f k l0) ?_
  by_cases h : (l0.length : Int) > 64
  · refine Ev.congr (fun k => ?_) works_tells
    simp only [deedboxlaw39_FeedAll.f]
    rw [if_pos h]
    cases deedboxlaw39_works.f k <;> rfl
  · refine Ev.congr (fun k => ?_) (told l0 (by omega) l0.length 0 0 (by omega))
    simp only [deedboxlaw39_FeedAll.f]
    rw [if_neg h, if_pos (by omega), if_pos (by omega), feed_NewOk.f, if_pos (by omega)]
    rfl

end Go.Proofs.Ytllhmnohmdgblaa.Pure
