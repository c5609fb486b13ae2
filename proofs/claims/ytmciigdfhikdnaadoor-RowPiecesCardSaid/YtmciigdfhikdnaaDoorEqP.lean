/- Plain facts of parts; no program in sight. -/
import Derived.Test.YtmciigdfhikdnaaDoorEqs
import Derived.Test.YtmciigdfhikdnaaDoorRefP
import Derived.Test.YtmciigdfhikdnaaDoorRdP
namespace Go.Proofs.YtmciigdfhikdnaaDoor
open Go.RowKit Go.Proofs.YtmciigdfhikdnaaDoorW.PrintWords Go.Proofs.YtmciigdfhikdnaaDoorW.PrintLast Go.Proofs.YtmciigdfhikdnaaDoorW.PrintMore Go.Proofs.YtmciigdfhikdnaaDoor.Rw Go.Proofs.YtmciigdfhikdnaaDoor.Rf Go.Proofs.YtmciigdfhikdnaaDoor.Kit
set_option linter.unusedVariables false
set_option linter.unusedSimpArgs false
def pieceOk (a1 a2 a3 : Int) : Prop := (0 ≤ a1 ∧ a1 ≤ 1099511627776) ∧ (0 ≤ a2 ∧ a2 ≤ 4095) ∧ (0 ≤ a3 ∧ a3 ≤ 1048576)
instance (a1 a2 a3 : Int) : Decidable (pieceOk a1 a2 a3) := by unfold pieceOk; infer_instance
def pieceS (a1 a2 a3 : Int) : List Int × Int := if pieceOk a1 a2 a3 then (be 6 a1 ++ (be 2 a2 ++ be 4 a3), 0) else ([], 2)
theorem pieceS_byt (a1 a2 a3 : Int) : Byt (pieceS a1 a2 a3).1 ∧ (pieceS a1 a2 a3).1.length < 100 := by
  unfold pieceS
  split
  · exact ⟨Byt.app (be_byt _ _) (Byt.app (be_byt _ _) (be_byt _ _)), by simp [be_len]⟩
  · exact ⟨Byt.nil, by simp⟩
theorem piece_tell (a0 a1 a2 a3 : Int) : Ev (fun k => row_Piece.f k a0 a1 a2 a3) (pieceS a1 a2 a3) := by
  have stop : Ev (fun k => row_Piece.j0 k true a0 a1 a2 a3) ([], 2) := Ev.step (f := fun _ => some ([], 2)) (fun k => by simp only [row_Piece.j0, if_true]) (Ev.now _)
  unfold row_Piece.f pieceS
  by_cases h1 : 0 ≤ a1 ∧ a1 ≤ 1099511627776
  · by_cases h2 : 0 ≤ a2 ∧ a2 ≤ 4095
    · by_cases h3 : 0 ≤ a3 ∧ a3 ≤ 1048576
      · rw [if_pos (show pieceOk a1 a2 a3 from ⟨h1, h2, h3⟩)]
        refine Ev.congr (f := fun k => row_Piece.j0 k false a0 a1 a2 a3) (fun k => by rw [(within_yes h1).1, Option.bind_some, if_pos rfl, (within_yes h2).1, Option.bind_some, if_pos rfl, (within_yes h3).1]; rfl) ?_
        refine Ev.step (f := fun k => (octet_Put.f k (IntKind.u64.wrap a1) 6).bind fun t161 => (octet_Put.f k (IntKind.u64.wrap a2) 2).bind fun t164 => (octet_Put.f k (IntKind.u64.wrap a3) 4).bind fun t167 => (octet_Join.f k ([t161, t164, t167] : List (List Int))).bind fun t176 => some (t176, 0))
          (fun k => by simp only [row_Piece.j0, Bool.false_eq_true, if_false]) ?_
        refine Ev.bind (a := be 6 a1) (Ev.congr (fun k => by rw [wru (by omega) (by omega)]; rfl) (put_tell 6 a1 (by omega) (by omega))) ?_
        refine Ev.bind (a := be 2 a2) (Ev.congr (fun k => by rw [wru (by omega) (by omega)]; rfl) (put_tell 2 a2 (by omega) (by omega))) ?_
        refine Ev.bind (a := be 4 a3) (Ev.congr (fun k => by rw [wru (by omega) (by omega)]; rfl) (put_tell 4 a3 (by omega) (by omega))) ?_
        refine Ev.bind (a := be 6 a1 ++ (be 2 a2 ++ be 4 a3)) ?_ (Ev.now _)
        have hj := join_tell [be 6 a1, be 2 a2, be 4 a3] (by simp) (by simp [be_len])
        simpa using hj
      · rw [if_neg (fun h : pieceOk a1 a2 a3 => h3 h.2.2)]
        exact Ev.congr (fun k => by rw [(within_yes h1).1, Option.bind_some, if_pos rfl, (within_yes h2).1, Option.bind_some, if_pos rfl, (within_no h3).1]; rfl) stop
    · rw [if_neg (fun h : pieceOk a1 a2 a3 => h2 h.2.1)]
      exact Ev.congr (fun k => by rw [(within_yes h1).1, Option.bind_some, if_pos rfl, (within_no h2).1]; rfl) stop
  · rw [if_neg (fun h : pieceOk a1 a2 a3 => h1 h.1)]
    exact Ev.congr (fun k => by rw [(within_no h1).1]; rfl) stop
theorem rpiece_tell (a0 a1 a2 a3 : Int) : Ev (fun k => deedboxref24_Piece.f k a0 a1 a2 a3) (pieceS a1 a2 a3) := by
  have stop : Ev (fun k => deedboxref24_Piece.j0 k true a0 a1 a2 a3) ([], 2) := Ev.step (f := fun _ => some ([], 2)) (fun k => by simp only [deedboxref24_Piece.j0, if_true]) (Ev.now _)
  unfold deedboxref24_Piece.f pieceS
  by_cases h1 : 0 ≤ a1 ∧ a1 ≤ 1099511627776
  · by_cases h2 : 0 ≤ a2 ∧ a2 ≤ 4095
    · by_cases h3 : 0 ≤ a3 ∧ a3 ≤ 1048576
      · rw [if_pos (show pieceOk a1 a2 a3 from ⟨h1, h2, h3⟩)]
        have b1 := be_len 6 a1
        have b2 := be_len 2 a2
        have b3 := be_len 4 a3
        refine Ev.congr (f := fun k => deedboxref24_Piece.j0 k false a0 a1 a2 a3) (fun k => by rw [(within_yes h1).2, Option.bind_some, if_pos rfl, (within_yes h2).2, Option.bind_some, if_pos rfl, (within_yes h3).2]; rfl) ?_
        refine Ev.step (f := fun k => (deedboxref01_Put.f k (IntKind.u64.wrap a1) 6).bind fun t111 => (deedboxref01_Put.f k (IntKind.u64.wrap a2) 2).bind fun t114 => if t111.length + t114.length < 140737488355328 then (some (t111 ++ t114 : List Int)).bind fun y117 => (deedboxref01_Put.f k (IntKind.u64.wrap a3) 4).bind fun t120 => (if y117.length + t120.length < 140737488355328 then some ((y117 ++ t120), 0) else none) else none)
          (fun k => by simp only [deedboxref24_Piece.j0, Bool.false_eq_true, if_false]) ?_
        refine Ev.bind (a := be 6 a1) (Ev.congr (fun k => by rw [wru (by omega) (by omega)]; rfl) (rput_tell 6 a1 (by omega) (by omega) (by omega))) ?_
        refine Ev.bind (a := be 2 a2) (Ev.congr (fun k => by rw [wru (by omega) (by omega)]; rfl) (rput_tell 2 a2 (by omega) (by omega) (by omega))) ?_
        refine Ev.congr (f := fun k => (deedboxref01_Put.f k (IntKind.u64.wrap a3) 4).bind fun t120 => (if (be 6 a1 ++ be 2 a2).length + t120.length < 140737488355328 then some (((be 6 a1 ++ be 2 a2) ++ t120), 0) else none)) (fun k => by rw [if_pos (by omega)]; rfl) ?_
        refine Ev.bind (a := be 4 a3) (Ev.congr (fun k => by rw [wru (by omega) (by omega)]; rfl) (rput_tell 4 a3 (by omega) (by omega) (by omega))) ?_
        refine Ev.congr (fun k => ?_) (Ev.now _)
        rw [if_pos (by simp; omega), List.append_assoc]
      · rw [if_neg (fun h : pieceOk a1 a2 a3 => h3 h.2.2)]
        exact Ev.congr (fun k => by rw [(within_yes h1).2, Option.bind_some, if_pos rfl, (within_yes h2).2, Option.bind_some, if_pos rfl, (within_no h3).2]; rfl) stop
    · rw [if_neg (fun h : pieceOk a1 a2 a3 => h2 h.2.1)]
      exact Ev.congr (fun k => by rw [(within_yes h1).2, Option.bind_some, if_pos rfl, (within_no h2).2]; rfl) stop
  · rw [if_neg (fun h : pieceOk a1 a2 a3 => h1 h.1)]
    exact Ev.congr (fun k => by rw [(within_no h1).2]; rfl) stop
/-- The part of a number and bytes. -/
def readPieceS (a0 : Int) (b : List Int) : Int × Int × Int × Int × Int :=
  if endS (row_ReadPiece.n3 b).2.1 (row_ReadPiece.n3 b).2.2 (pieceS (wrap64 (row_ReadPiece.n1 b).1) (wrap64 (row_ReadPiece.n2 b).1) (wrap64 (row_ReadPiece.n3 b).1)) b = 0
  then (a0, wrap64 (row_ReadPiece.n1 b).1, wrap64 (row_ReadPiece.n2 b).1, wrap64 (row_ReadPiece.n3 b).1, 0)
  else (0, 0, 0, 0, endS (row_ReadPiece.n3 b).2.1 (row_ReadPiece.n3 b).2.2 (pieceS (wrap64 (row_ReadPiece.n1 b).1) (wrap64 (row_ReadPiece.n2 b).1) (wrap64 (row_ReadPiece.n3 b).1)) b)
theorem readPiece_tell (a0 : Int) (b : List Int) (hb : Byt b) (hl : b.length < 100000) : Ev (fun k => row_ReadPiece.f k a0 b) (readPieceS a0 b) := by
  unfold row_ReadPiece.f readPieceS
  refine Ev.congr (fun k => if_pos (by omega)) ?_
  exact Ev.bind (end_tell (piece_tell _ _ _ _) _ _ b hb (pieceS_byt _ _ _).1 (by omega)) (Ev.now _)
theorem rP_same (b : List Int) (hb : Byt b) : rP0 b = row_ReadPiece.n1 b ∧ rP1 b = row_ReadPiece.n2 b ∧ rP2 b = row_ReadPiece.n3 b := by
  have e0 : rP0 b = row_ReadPiece.n1 b := (num_same b 0 6 hb (by omega) (by omega)).symm
  have b0 : Byt (row_ReadPiece.n1 b).2.1 := numR_byt _ _ _ hb
  have e1 : rP1 b = row_ReadPiece.n2 b := by unfold rP1 row_ReadPiece.n2; rw [e0]; exact (num_same _ _ 2 b0 (by omega) (by omega)).symm
  have b1 : Byt (row_ReadPiece.n2 b).2.1 := numR_byt _ _ _ b0
  have e2 : rP2 b = row_ReadPiece.n3 b := by unfold rP2 row_ReadPiece.n3; rw [e1]; exact (num_same _ _ 4 b1 (by omega) (by omega)).symm
  exact ⟨e0, e1, e2⟩
theorem rreadPiece_tell (a0 : Int) (b : List Int) (hb : Byt b) (hl : b.length < 100000) : Ev (fun k => deedboxref24_ReadPiece.f k a0 b) (readPieceS a0 b) := by
  obtain ⟨e0, e1, e2⟩ := rP_same b hb
  unfold deedboxref24_ReadPiece.f readPieceS
  rw [e0, e1, e2]
  refine Ev.congr (fun k => if_pos (by omega)) ?_
  exact Ev.bind (rpiece_tell _ _ _ _) (Ev.bind (done_tell _ _ _ b (by omega)) (Ev.now _))
theorem piece_back (a0 a1 a2 a3 : Int) (h : (pieceS a1 a2 a3).2 = 0) : readPieceS a0 (pieceS a1 a2 a3).1 = (a0, a1, a2, a3, 0) := by
  have hk : pieceOk a1 a2 a3 := by
    unfold pieceS at h
    split at h
    · assumption
    · simp at h
  have hk2 := hk
  obtain ⟨h1, h2, h3⟩ := hk
  have hs : pieceS a1 a2 a3 = (be 6 a1 ++ (be 2 a2 ++ be 4 a3), 0) := if_pos hk2
  rw [hs]
  simp only
  generalize hb : be 6 a1 ++ (be 2 a2 ++ be 4 a3) = b at *
  have n1 : row_ReadPiece.n1 b = (a1, be 2 a2 ++ be 4 a3, 0) := by unfold row_ReadPiece.n1; rw [← hb]; exact num_be 6 a1 _ (by omega) h1.1 (by simp; omega)
  have n2 : row_ReadPiece.n2 b = (a2, be 4 a3, 0) := by unfold row_ReadPiece.n2; rw [n1]; exact num_be 2 a2 _ (by omega) h2.1 (by simp; omega)
  have n3 : row_ReadPiece.n3 b = (a3, [], 0) := by unfold row_ReadPiece.n3; rw [n2]; have := num_be 4 a3 [] (by omega) (by omega) (by simp; omega); rwa [List.append_nil] at this
  unfold readPieceS
  rw [n1, n2, n3]
  simp only
  rw [wr (n := a1) (by omega) (by omega), wr (n := a2) (by omega) (by omega), wr (n := a3) (by omega) (by omega), hs]
  have e : endS [] 0 (b, 0) b = 0 := by simp [endS, endC]
  rw [e, if_pos rfl]
end Go.Proofs.YtmciigdfhikdnaaDoor
