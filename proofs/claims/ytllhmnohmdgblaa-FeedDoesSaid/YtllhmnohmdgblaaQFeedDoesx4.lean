/- Walks of the program's functions that a statement of this seat reaches: each comes to what its plain Lean function beside it tells; no condition beside those in each theorem. -/
import Derived.Test.YtllhmnohmdgblaaQFeedDoesx0
import Derived.Test.YtllhmnohmdgblaaQFeedDoesx1
import Derived.Test.YtllhmnohmdgblaaQFeedDoesx2
import Derived.Test.YtllhmnohmdgblaaQFeedDoesx3
namespace Go.Proofs.Ytllhmnohmdgblaa.QFeedDoes
open Go.RowKit Go.Proofs.YtllhmnohmdgblaaW.PrintWords Go.Proofs.YtllhmnohmdgblaaW.PrintLast Go.Proofs.YtllhmnohmdgblaaW.PrintMore
attribute [local go_sem] max2_int min2_int max_two min_two max_three min_three max_four min_four   -- for this text's walks alone
set_option linter.unusedVariables false
set_option linter.unusedSimpArgs false

attribute [local go_sem high] eqA39
/-- A row of news that is only read stays where a feed and channels change. -/
theorem KeepF.V {W W1 : World} {g e base : Nat} {ok : Nat → Prop} {v : Value} {xs : List S34} (h : Kd.V k34 e W base ok v xs) (hk : KeepF W W1 g) (hok : ∀ k, ok k → k ≠ g) : Kd.V k34 e W1 base ok v xs :=
  KeepF.V_flat (fun w w1 x cs h => by rw [k34_open h]; exact k34_mk w1 x) h hk hok
/-! ### deedboxlaw39_FeedDoes: function 3 -/
mutual
def deedboxlaw39_FeedDoes.j0 : Nat → List (S36) → Int → Bool → Int → List FNews → Int → Int → Int → List (S34) → Int → Int → Option (Bool)
  | 0, _, _, _, _, _, _, _, _, _, _, _ => none
  | k + 1, x1, x8, x40, x198000, x198001, x198002, x198003, x206000, x206001, x206002, x206003 => if x40 = true then (none) else (deedboxlaw39_FeedDoes.l0 k x1 x8 0 x198000 x198001 x198002 x198003 x206000 x206001 x206002 x206003)
def deedboxlaw39_FeedDoes.l0 : Nat → List (S36) → Int → Int → Int → List FNews → Int → Int → Int → List (S34) → Int → Int → Option (Bool)
  | 0, _, _, _, _, _, _, _, _, _, _, _ => none
  | k + 1, x1, x8, x9, x198000, x198001, x198002, x198003, x206000, x206001, x206002, x206003 => if x9 < (x1.length : Int) then (deedboxlaw39_FeedDoes.j2 k x1 x8 x9 (x8 == 0) x198000 x198001 x198002 x198003 x206000 x206001 x206002 x206003) else (deedboxlaw39_FeedDoes.j2 k x1 x8 x9 false x198000 x198001 x198002 x198003 x206000 x206001 x206002 x206003)
def deedboxlaw39_FeedDoes.j2 : Nat → List (S36) → Int → Int → Bool → Int → List FNews → Int → Int → Int → List (S34) → Int → Int → Option (Bool)
  | 0, _, _, _, _, _, _, _, _, _, _, _, _ => none
  | k + 1, x1, x8, x9, x48, x198000, x198001, x198002, x198003, x206000, x206001, x206002, x206003 => if x48 = true then (if 0 ≤ x9 then (if x9 < (x1.length : Int) then (if (((rd_T36 x1 x9).f1.f1).size : Int) > 300 then (deedboxlaw39_FeedDoes.j3 k x1 x8 x9 true x198000 x198001 x198002 x198003 x206000 x206001 x206002 x206003) else (deedboxlaw39_FeedDoes.j3 k x1 x8 x9 (decide ((((rd_T36 x1 x9).f1.f2).size : Int) > 300)) x198000 x198001 x198002 x198003 x206000 x206001 x206002 x206003)) else (none)) else (none)) else ((deedboxlaw39_works.f k).bind fun t206 => (some t206))
def deedboxlaw39_FeedDoes.j3 : Nat → List (S36) → Int → Int → Bool → Int → List FNews → Int → Int → Int → List (S34) → Int → Int → Option (Bool)
  | 0, _, _, _, _, _, _, _, _, _, _, _, _ => none
  | k + 1, x1, x8, x9, x68, x198000, x198001, x198002, x198003, x206000, x206001, x206002, x206003 => if x68 = true then ((deedboxlaw39_works.f k).bind fun t209 => (some t209)) else (if 0 ≤ x9 then (if x9 < (x1.length : Int) then (if (rd_T36 x1 x9).f0 = true then ((deedboxref39_Hear.f x206000 x206001 x206002 x206003).bind fun bt211 => ((feed_Feed_Hear.f x198000 x198001 x198002 x198003).bind fun bt224 => (if (bt211.2.2.2.2.2.2.2.2 != bt224.2.2.2.2.1) = true then (none) else ((deedboxlaw39_own.f bt211.2.2.2.2.1 bt211.2.2.2.2.2.1 bt211.2.2.2.2.2.2.1 bt211.2.2.2.2.2.2.2.1).bind fun bt234 => (if (!(bt224.1 == bt234.1) || (!(bt224.2.1.toList == bt234.2.1.toList) || (!(bt224.2.2.1.toList == bt234.2.2.1.toList) || (!(bt224.2.2.2.1 == bt234.2.2.2))))) = true then (none) else (deedboxlaw39_FeedDoes.j4 k x1 x8 x9 bt224.2.2.2.2.2.1 bt224.2.2.2.2.2.2.1 bt224.2.2.2.2.2.2.2.1 bt224.2.2.2.2.2.2.2.2 bt211.1 bt211.2.1 bt211.2.2.1 bt211.2.2.2.1)))))) else ((deedboxref39_Tell.f x206000 x206001 x206002 x206003 ((rd_T36 x1 x9).f1.f0) ((rd_T36 x1 x9).f1.f1) ((rd_T36 x1 x9).f1.f2) ((rd_T36 x1 x9).f1.f3)).bind fun bt239 => ((deedboxlaw39_own.f ((rd_T36 x1 x9).f1.f0) ((rd_T36 x1 x9).f1.f1) ((rd_T36 x1 x9).f1.f2) ((rd_T36 x1 x9).f1.f3)).bind fun bt248 => ((feed_Feed_Tell.f x198000 x198001 x198002 x198003 bt248.1 bt248.2.1 bt248.2.2.1 bt248.2.2.2).bind fun bt252 => (if (bt252.1 != bt239.2.2.2.2) = true then (none) else ((deedboxlaw39_own.f ((rd_T36 x1 x9).f1.f0) ((rd_T36 x1 x9).f1.f1) ((rd_T36 x1 x9).f1.f2) ((rd_T36 x1 x9).f1.f3)).bind fun bt258 => ((feed_Line.f k bt258.1 bt258.2.1 bt258.2.2.1 bt258.2.2.2).bind fun t262 => ((deedboxref39_Line.f k ((rd_T36 x1 x9).f1.f0) ((rd_T36 x1 x9).f1.f1) ((rd_T36 x1 x9).f1.f2) ((rd_T36 x1 x9).f1.f3)).bind fun t264 => (if t262.toList = t264.toList then (deedboxlaw39_FeedDoes.j4 k x1 x8 x9 bt252.2.1 bt252.2.2.1 bt252.2.2.2.1 bt252.2.2.2.2 bt239.1 bt239.2.1 bt239.2.2.1 bt239.2.2.2.1) else (none)))))))))) else (none)) else (none))
def deedboxlaw39_FeedDoes.j4 : Nat → List (S36) → Int → Int → Int → List FNews → Int → Int → Int → List (S34) → Int → Int → Option (Bool)
  | 0, _, _, _, _, _, _, _, _, _, _, _ => none
  | k + 1, x1, x8, x9, x198000, x198001, x198002, x198003, x206000, x206001, x206002, x206003 => (feed_Feed_Waits.f x198000 x198001 x198002 x198003).bind fun bt265 => (if bt265.1 = (x206001.length : Int) then ((feed_Feed_Told.f bt265.2.1 bt265.2.2.1 bt265.2.2.2.1 bt265.2.2.2.2).bind fun bt270 => (if bt270.1 = x206002 then ((feed_Feed_Lost.f bt270.2.1 bt270.2.2.1 bt270.2.2.2.1 bt270.2.2.2.2).bind fun bt275 => (if bt275.1 = x206003 then (deedboxlaw39_FeedDoes.l0 k x1 x8 (wrap64 (x9 + 1)) bt275.2.1 bt275.2.2.1 bt275.2.2.2.1 bt275.2.2.2.2 x206000 x206001 x206002 x206003) else (none))) else (none))) else (none))
end
def deedboxlaw39_FeedDoes.f (k : Nat) (a0 : Int) (l1 : List (S36)) : Option (Bool) := if (l1.length : Int) > 200 then ((deedboxlaw39_works.f k).bind fun t192 => (some t192)) else (if 0 ≤ a0 then (if a0 ≤ 64 then ((feed_NewOk.f a0).bind fun bt193 => ((deedboxref39_New.f a0).bind fun bt198 => (if 0 = bt198.2.2.2.2 then (deedboxlaw39_FeedDoes.j0 k l1 bt198.2.2.2.2 (false != (bt198.2.2.2.2 != 0)) bt193.1 bt193.2.1 bt193.2.2.1 bt193.2.2.2 bt198.1 bt198.2.1 bt198.2.2.1 bt198.2.2.2.1) else (deedboxlaw39_FeedDoes.j0 k l1 bt198.2.2.2.2 true bt193.1 bt193.2.1 bt193.2.2.1 bt193.2.2.2 bt198.1 bt198.2.1 bt198.2.2.1 bt198.2.2.2.1)))) else (none)) else (none))
theorem deedboxlaw39_FeedDoes.mono_l : ∀ k, (∀ y0 y1 y2 y3 y4 y5 y6 y7 y8 y9 y10, LeO (deedboxlaw39_FeedDoes.j0 k y0 y1 y2 y3 y4 y5 y6 y7 y8 y9 y10) (deedboxlaw39_FeedDoes.j0 (k + 1) y0 y1 y2 y3 y4 y5 y6 y7 y8 y9 y10)) ∧ (∀ y0 y1 y2 y3 y4 y5 y6 y7 y8 y9 y10, LeO (deedboxlaw39_FeedDoes.l0 k y0 y1 y2 y3 y4 y5 y6 y7 y8 y9 y10) (deedboxlaw39_FeedDoes.l0 (k + 1) y0 y1 y2 y3 y4 y5 y6 y7 y8 y9 y10)) ∧ (∀ y0 y1 y2 y3 y4 y5 y6 y7 y8 y9 y10 y11, LeO (deedboxlaw39_FeedDoes.j2 k y0 y1 y2 y3 y4 y5 y6 y7 y8 y9 y10 y11) (deedboxlaw39_FeedDoes.j2 (k + 1) y0 y1 y2 y3 y4 y5 y6 y7 y8 y9 y10 y11)) ∧ (∀ y0 y1 y2 y3 y4 y5 y6 y7 y8 y9 y10 y11, LeO (deedboxlaw39_FeedDoes.j3 k y0 y1 y2 y3 y4 y5 y6 y7 y8 y9 y10 y11) (deedboxlaw39_FeedDoes.j3 (k + 1) y0 y1 y2 y3 y4 y5 y6 y7 y8 y9 y10 y11)) ∧ (∀ y0 y1 y2 y3 y4 y5 y6 y7 y8 y9 y10, LeO (deedboxlaw39_FeedDoes.j4 k y0 y1 y2 y3 y4 y5 y6 y7 y8 y9 y10) (deedboxlaw39_FeedDoes.j4 (k + 1) y0 y1 y2 y3 y4 y5 y6 y7 y8 y9 y10))
  | 0 => ⟨fun _ _ _ _ _ _ _ _ _ _ _ r h => by simp [deedboxlaw39_FeedDoes.j0] at h, fun _ _ _ _ _ _ _ _ _ _ _ r h => by simp [deedboxlaw39_FeedDoes.l0] at h, fun _ _ _ _ _ _ _ _ _ _ _ _ r h => by simp [deedboxlaw39_FeedDoes.j2] at h, fun _ _ _ _ _ _ _ _ _ _ _ _ r h => by simp [deedboxlaw39_FeedDoes.j3] at h, fun _ _ _ _ _ _ _ _ _ _ _ r h => by simp [deedboxlaw39_FeedDoes.j4] at h⟩
  | k + 1 => by
    obtain ⟨ih0, ih1, ih2, ih3, ih4⟩ := deedboxlaw39_FeedDoes.mono_l k
    refine ⟨?_, ?_, ?_, ?_, ?_⟩
    · intro y0 y1 y2 y3 y4 y5 y6 y7 y8 y9 y10
      unfold deedboxlaw39_FeedDoes.j0
      repeat' first
      | (with_reducible exact ih0 _ _ _ _ _ _ _ _ _ _ _)
      | (with_reducible exact ih1 _ _ _ _ _ _ _ _ _ _ _)
      | (with_reducible exact ih2 _ _ _ _ _ _ _ _ _ _ _ _)
      | (with_reducible exact ih3 _ _ _ _ _ _ _ _ _ _ _ _)
      | (with_reducible exact ih4 _ _ _ _ _ _ _ _ _ _ _)
      | (with_reducible exact deedboxlaw39_works.mono _)
      | (with_reducible exact deedboxref39_Line.mono _ _ _ _ _)
      | (with_reducible exact feed_Line.mono _ _ _ _ _)
      | (with_reducible exact LeO.refl _)
      | (with_reducible exact LeO.none _)
      | (with_reducible refine LeO.ite ?_ ?_)
      | (with_reducible refine LeO.bind ?_ (fun _ => ?_))
      | exact ih0 _ _ _ _ _ _ _ _ _ _ _
      | exact ih1 _ _ _ _ _ _ _ _ _ _ _
      | exact ih2 _ _ _ _ _ _ _ _ _ _ _ _
      | exact ih3 _ _ _ _ _ _ _ _ _ _ _ _
      | exact ih4 _ _ _ _ _ _ _ _ _ _ _
      | exact deedboxlaw39_works.mono _
      | exact deedboxref39_Line.mono _ _ _ _ _
      | exact feed_Line.mono _ _ _ _ _
      | exact LeO.none _
      | refine LeO.ite ?_ ?_
      | refine LeO.bind ?_ (fun _ => ?_)
    · intro y0 y1 y2 y3 y4 y5 y6 y7 y8 y9 y10
      unfold deedboxlaw39_FeedDoes.l0
      repeat' first
      | (with_reducible exact ih0 _ _ _ _ _ _ _ _ _ _ _)
      | (with_reducible exact ih1 _ _ _ _ _ _ _ _ _ _ _)
      | (with_reducible exact ih2 _ _ _ _ _ _ _ _ _ _ _ _)
      | (with_reducible exact ih3 _ _ _ _ _ _ _ _ _ _ _ _)
      | (with_reducible exact ih4 _ _ _ _ _ _ _ _ _ _ _)
      | (with_reducible exact deedboxlaw39_works.mono _)
      | (with_reducible exact deedboxref39_Line.mono _ _ _ _ _)
      | (with_reducible exact feed_Line.mono _ _ _ _ _)
      | (with_reducible exact LeO.refl _)
      | (with_reducible exact LeO.none _)
      | (with_reducible refine LeO.ite ?_ ?_)
      | (with_reducible refine LeO.bind ?_ (fun _ => ?_))
      | exact ih0 _ _ _ _ _ _ _ _ _ _ _
      | exact ih1 _ _ _ _ _ _ _ _ _ _ _
      | exact ih2 _ _ _ _ _ _ _ _ _ _ _ _
      | exact ih3 _ _ _ _ _ _ _ _ _ _ _ _
      | exact ih4 _ _ _ _ _ _ _ _ _ _ _
      | exact deedboxlaw39_works.mono _
      | exact deedboxref39_Line.mono _ _ _ _ _
      | exact feed_Line.mono _ _ _ _ _
      | exact LeO.none _
      | refine LeO.ite ?_ ?_
      | refine LeO.bind ?_ (fun _ => ?_)
    · intro y0 y1 y2 y3 y4 y5 y6 y7 y8 y9 y10 y11
      unfold deedboxlaw39_FeedDoes.j2
      repeat' first
      | (with_reducible exact ih0 _ _ _ _ _ _ _ _ _ _ _)
      | (with_reducible exact ih1 _ _ _ _ _ _ _ _ _ _ _)
      | (with_reducible exact ih2 _ _ _ _ _ _ _ _ _ _ _ _)
      | (with_reducible exact ih3 _ _ _ _ _ _ _ _ _ _ _ _)
      | (with_reducible exact ih4 _ _ _ _ _ _ _ _ _ _ _)
      | (with_reducible exact deedboxlaw39_works.mono _)
      | (with_reducible exact deedboxref39_Line.mono _ _ _ _ _)
      | (with_reducible exact feed_Line.mono _ _ _ _ _)
      | (with_reducible exact LeO.refl _)
      | (with_reducible exact LeO.none _)
      | (with_reducible refine LeO.ite ?_ ?_)
      | (with_reducible refine LeO.bind ?_ (fun _ => ?_))
      | exact ih0 _ _ _ _ _ _ _ _ _ _ _
      | exact ih1 _ _ _ _ _ _ _ _ _ _ _
      | exact ih2 _ _ _ _ _ _ _ _ _ _ _ _
      | exact ih3 _ _ _ _ _ _ _ _ _ _ _ _
      | exact ih4 _ _ _ _ _ _ _ _ _ _ _
      | exact deedboxlaw39_works.mono _
      | exact deedboxref39_Line.mono _ _ _ _ _
      | exact feed_Line.mono _ _ _ _ _
      | exact LeO.none _
      | refine LeO.ite ?_ ?_
      | refine LeO.bind ?_ (fun _ => ?_)
    · intro y0 y1 y2 y3 y4 y5 y6 y7 y8 y9 y10 y11
      unfold deedboxlaw39_FeedDoes.j3
      repeat' first
      | (with_reducible exact ih0 _ _ _ _ _ _ _ _ _ _ _)
      | (with_reducible exact ih1 _ _ _ _ _ _ _ _ _ _ _)
      | (with_reducible exact ih2 _ _ _ _ _ _ _ _ _ _ _ _)
      | (with_reducible exact ih3 _ _ _ _ _ _ _ _ _ _ _ _)
      | (with_reducible exact ih4 _ _ _ _ _ _ _ _ _ _ _)
      | (with_reducible exact deedboxlaw39_works.mono _)
      | (with_reducible exact deedboxref39_Line.mono _ _ _ _ _)
      | (with_reducible exact feed_Line.mono _ _ _ _ _)
      | (with_reducible exact LeO.refl _)
      | (with_reducible exact LeO.none _)
      | (with_reducible refine LeO.ite ?_ ?_)
      | (with_reducible refine LeO.bind ?_ (fun _ => ?_))
      | exact ih0 _ _ _ _ _ _ _ _ _ _ _
      | exact ih1 _ _ _ _ _ _ _ _ _ _ _
      | exact ih2 _ _ _ _ _ _ _ _ _ _ _ _
      | exact ih3 _ _ _ _ _ _ _ _ _ _ _ _
      | exact ih4 _ _ _ _ _ _ _ _ _ _ _
      | exact deedboxlaw39_works.mono _
      | exact deedboxref39_Line.mono _ _ _ _ _
      | exact feed_Line.mono _ _ _ _ _
      | exact LeO.none _
      | refine LeO.ite ?_ ?_
      | refine LeO.bind ?_ (fun _ => ?_)
    · intro y0 y1 y2 y3 y4 y5 y6 y7 y8 y9 y10
      unfold deedboxlaw39_FeedDoes.j4
      repeat' first
      | (with_reducible exact ih0 _ _ _ _ _ _ _ _ _ _ _)
      | (with_reducible exact ih1 _ _ _ _ _ _ _ _ _ _ _)
      | (with_reducible exact ih2 _ _ _ _ _ _ _ _ _ _ _ _)
      | (with_reducible exact ih3 _ _ _ _ _ _ _ _ _ _ _ _)
      | (with_reducible exact ih4 _ _ _ _ _ _ _ _ _ _ _)
      | (with_reducible exact deedboxlaw39_works.mono _)
      | (with_reducible exact deedboxref39_Line.mono _ _ _ _ _)
      | (with_reducible exact feed_Line.mono _ _ _ _ _)
      | (with_reducible exact LeO.refl _)
      | (with_reducible exact LeO.none _)
      | (with_reducible refine LeO.ite ?_ ?_)
      | (with_reducible refine LeO.bind ?_ (fun _ => ?_))
      | exact ih0 _ _ _ _ _ _ _ _ _ _ _
      | exact ih1 _ _ _ _ _ _ _ _ _ _ _
      | exact ih2 _ _ _ _ _ _ _ _ _ _ _ _
      | exact ih3 _ _ _ _ _ _ _ _ _ _ _ _
      | exact ih4 _ _ _ _ _ _ _ _ _ _ _
      | exact deedboxlaw39_works.mono _
      | exact deedboxref39_Line.mono _ _ _ _ _
      | exact feed_Line.mono _ _ _ _ _
      | exact LeO.none _
      | refine LeO.ite ?_ ?_
      | refine LeO.bind ?_ (fun _ => ?_)
theorem deedboxlaw39_FeedDoes.mono : ∀ a0 a1 k, LeO (deedboxlaw39_FeedDoes.f k a0 a1) (deedboxlaw39_FeedDoes.f (k + 1) a0 a1) := by
  intro a0 a1 k
  obtain ⟨ih0, ih1, ih2, ih3, ih4⟩ := deedboxlaw39_FeedDoes.mono_l k
  unfold deedboxlaw39_FeedDoes.f
  repeat' first
      | (with_reducible exact ih0 _ _ _ _ _ _ _ _ _ _ _)
      | (with_reducible exact ih1 _ _ _ _ _ _ _ _ _ _ _)
      | (with_reducible exact ih2 _ _ _ _ _ _ _ _ _ _ _ _)
      | (with_reducible exact ih3 _ _ _ _ _ _ _ _ _ _ _ _)
      | (with_reducible exact ih4 _ _ _ _ _ _ _ _ _ _ _)
      | (with_reducible exact deedboxlaw39_works.mono _)
      | (with_reducible exact deedboxref39_Line.mono _ _ _ _ _)
      | (with_reducible exact feed_Line.mono _ _ _ _ _)
      | (with_reducible exact LeO.refl _)
      | (with_reducible exact LeO.none _)
      | (with_reducible refine LeO.ite ?_ ?_)
      | (with_reducible refine LeO.bind ?_ (fun _ => ?_))
      | exact ih0 _ _ _ _ _ _ _ _ _ _ _
      | exact ih1 _ _ _ _ _ _ _ _ _ _ _
      | exact ih2 _ _ _ _ _ _ _ _ _ _ _ _
      | exact ih3 _ _ _ _ _ _ _ _ _ _ _ _
      | exact ih4 _ _ _ _ _ _ _ _ _ _ _
      | exact deedboxlaw39_works.mono _
      | exact deedboxref39_Line.mono _ _ _ _ _
      | exact feed_Line.mono _ _ _ _ _
      | exact LeO.none _
      | refine LeO.ite ?_ ?_
      | refine LeO.bind ?_ (fun _ => ?_)
def deedboxlaw39_FeedDoes.T16 : Bool × List (List Nat × List Nat) := (true, [([], []), ([], []), ([0, 1], [0, 1]), ([2], [2]), ([3], [3]), ([3], [3]), ([5, 3, 3], [3, 5]), ([4, 6, 3], [3, 4, 6]), ([3, 7], [3, 7])])
def deedboxlaw39_FeedDoes.B16 : List Nat := [0, 0, 3, 7, 15, 15, 47, 127, 255]
theorem deedboxlaw39_FeedDoes.tab16 : rtab .any (opsOf Try.f3 16) = deedboxlaw39_FeedDoes.T16 := by kernel_rfl
theorem deedboxlaw39_FeedDoes.bits16 : waitsOk deedboxlaw39_FeedDoes.T16.2 deedboxlaw39_FeedDoes.B16 = true := by kernel_rfl
def deedboxlaw39_FeedDoes.T18 : Bool × List (List Nat × List Nat) := (true, [([], []), ([], []), ([], []), ([1, 2], [1, 2]), ([3], [3]), ([4], [4]), ([0, 5], [0, 5]), ([6], [6]), ([7], [7]), ([7], [7]), ([], []), ([10, 8, 6, 0, 1, 2, 3, 4, 5, 6, 7, 8, 10], [8, 10]), ([9, 11, 0, 1, 2, 3, 4, 5, 6, 7, 8, 9, 10, 11], [9])])
def deedboxlaw39_FeedDoes.B18 : List Nat := [0, 0, 0, 6, 14, 30, 63, 127, 255, 255, 0, 1535, 4095]
theorem deedboxlaw39_FeedDoes.tab18 : rtab .any (opsOf Try.f3 18) = deedboxlaw39_FeedDoes.T18 := by kernel_rfl
theorem deedboxlaw39_FeedDoes.bits18 : waitsOk deedboxlaw39_FeedDoes.T18.2 deedboxlaw39_FeedDoes.B18 = true := by kernel_rfl
def deedboxlaw39_FeedDoes.T20 : Bool × List (List Nat × List Nat) := (true, [([], []), ([], []), ([], []), ([1, 2], [1, 2]), ([3], [3]), ([4], [4]), ([5], [5]), ([0, 6, 6], [0, 6]), ([], []), ([7, 8], [7, 8]), ([9, 7], [9]), ([10], [10]), ([10], [10]), ([11, 12, 10], [10, 11, 12]), ([13, 10], [10, 13]), ([14, 10], [10, 14]), ([15, 10, 10], [10, 15]), ([16, 16, 10], [10, 16]), ([10], [10]), ([10], [10]), ([18, 19, 10], [10, 18, 19]), ([20, 10], [10, 20]), ([21, 10], [10, 21]), ([22, 17, 10], [10, 22]), ([17, 23, 10], [10, 17, 23]), ([10, 24], [10, 24])])
def deedboxlaw39_FeedDoes.B20 : List Nat := [0, 0, 0, 6, 14, 30, 62, 127, 0, 511, 1023, 2047, 2047, 8191, 16383, 32767, 65535, 131071, 2047, 2047, 788479, 1837055, 3934207, 8388607, 16777215, 33554431]
theorem deedboxlaw39_FeedDoes.tab20 : rtab .any (opsOf Try.f3 20) = deedboxlaw39_FeedDoes.T20 := by kernel_rfl
theorem deedboxlaw39_FeedDoes.bits20 : waitsOk deedboxlaw39_FeedDoes.T20.2 deedboxlaw39_FeedDoes.B20 = true := by kernel_rfl
def deedboxlaw39_FeedDoes.T22 : Bool × List (List Nat × List Nat) := (true, [([], []), ([0], [0]), ([], []), ([2], [2]), ([3], [3]), ([1, 4], [1, 4]), ([5, 1], [5]), ([6], [6]), ([7, 6, 6], [6, 7]), ([6], [6]), ([9, 6], [6, 9]), ([8, 10, 6], [6, 8, 10]), ([6, 11], [6, 11]), ([12, 8], [12]), ([13], [13]), ([14, 13, 13], [13, 14]), ([13], [13]), ([16, 13], [13, 16]), ([15, 17, 13], [13, 15, 17]), ([13, 18], [13, 18])])
def deedboxlaw39_FeedDoes.B22 : List Nat := [0, 1, 0, 4, 12, 31, 63, 127, 255, 127, 639, 2047, 4095, 8191, 16383, 32767, 16383, 81919, 262143, 524287]
theorem deedboxlaw39_FeedDoes.tab22 : rtab .any (opsOf Try.f3 22) = deedboxlaw39_FeedDoes.T22 := by kernel_rfl
theorem deedboxlaw39_FeedDoes.bits22 : waitsOk deedboxlaw39_FeedDoes.T22.2 deedboxlaw39_FeedDoes.B22 = true := by kernel_rfl

end Go.Proofs.Ytllhmnohmdgblaa.QFeedDoes
