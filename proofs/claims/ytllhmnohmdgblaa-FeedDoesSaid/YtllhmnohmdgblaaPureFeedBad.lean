/- The pure statement of FeedDoes, where there may be no such room. -/
import Derived.Test.YtllhmnohmdgblaaQFeedDoesBad
namespace Go.Proofs.Ytllhmnohmdgblaa.PureBad
open Go.RowKit Go.Proofs.Ytllhmnohmdgblaa.QFeedDoes Go.Proofs.Ytllhmnohmdgblaa.QFeedDoesBad Go.Proofs.YtllhmnohmdgblaaW.PrintWords Go.Proofs.YtllhmnohmdgblaaW.PrintLast
set_option linter.unusedVariables false
set_option linter.unusedSimpArgs false

theorem works_tells : Ev (fun k => deedboxlaw39_works.f k) true := Ev.of deedboxlaw39_works.mono (show deedboxlaw39_works.f 60 = some true by decide +kernel)
theorem works_end {f : Nat → Option Bool} (h : ∀ k, f k = (deedboxlaw39_works.f k).bind fun t => some t) : Ev f true :=
  Ev.congr (fun k => by rw [h]; cases deedboxlaw39_works.f k <;> rfl) works_tells
theorem end50 (xs : List S36) : Ev (fun k => deedboxlaw39_FeedDoes.j0 k xs 2 false) true := by
  apply Ev.step
  · intro k
    simp only [deedboxlaw39_FeedDoes.j0, Bool.false_eq_true, if_false]
    rfl
  apply Ev.step (f := fun k => deedboxlaw39_FeedDoes.j2 k xs 0 false)
  · intro k
    simp only [deedboxlaw39_FeedDoes.l50]
    split <;> rfl
  apply Ev.step
  · intro k
    simp only [deedboxlaw39_FeedDoes.j2, Bool.false_eq_true, if_false]
    rfl
  exact works_end (fun k => rfl)
theorem end100 (xs : List S36) : Ev (fun k => deedboxlaw39_FeedDoes.j4 k xs 2 false) true := by
  apply Ev.step
  · intro k
    simp only [deedboxlaw39_FeedDoes.j4, Bool.false_eq_true, if_false]
    rfl
  apply Ev.step (f := fun k => deedboxlaw39_FeedDoes.j6 k xs 0 false)
  · intro k
    simp only [deedboxlaw39_FeedDoes.l100]
    split <;> rfl
  apply Ev.step
  · intro k
    simp only [deedboxlaw39_FeedDoes.j6, Bool.false_eq_true, if_false]
    rfl
  exact works_end (fun k => rfl)
theorem FeedBad (a0 : Int) (l1 : List S36) (hb : ¬ (0 ≤ a0 ∧ a0 ≤ 64)) : ∃ k, deedboxlaw39_FeedDoes.f k a0 l1 = some true := by
  refine Ev.rounds (g := fun k => deedboxlaw39_FeedDoes.f k a0 l1) ?_
  by_cases h : (l1.length : Int) > 200
  · exact works_end (fun k => by simp only [deedboxlaw39_FeedDoes.f]; rw [if_pos h])
  · by_cases h0 : 0 ≤ a0
    · refine Ev.congr (fun k => ?_) (end50 l1)
      simp only [deedboxlaw39_FeedDoes.f]
      rw [if_neg h, if_pos h0, if_neg (by omega), feed_NewBad.f, if_neg hb, deedboxref39_New.f, if_neg (by omega), if_pos (by omega)]
      rfl
    · refine Ev.congr (fun k => ?_) (end100 l1)
      simp only [deedboxlaw39_FeedDoes.f]
      rw [if_neg h, if_neg h0, feed_NewBad.f, if_neg hb, deedboxref39_New.f, if_pos (by omega)]
      rfl

end Go.Proofs.Ytllhmnohmdgblaa.PureBad
