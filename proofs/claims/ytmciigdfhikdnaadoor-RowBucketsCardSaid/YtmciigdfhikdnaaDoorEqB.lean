/- Plain facts of buckets; no program in sight. -/
import Derived.Test.YtmciigdfhikdnaaDoorEqs
import Derived.Test.YtmciigdfhikdnaaDoorRefB
namespace Go.Proofs.YtmciigdfhikdnaaDoor
open Go.RowKit Go.Proofs.YtmciigdfhikdnaaDoorW.PrintWords Go.Proofs.YtmciigdfhikdnaaDoorW.PrintLast Go.Proofs.YtmciigdfhikdnaaDoorW.PrintMore Go.Proofs.YtmciigdfhikdnaaDoor.Rw Go.Proofs.YtmciigdfhikdnaaDoor.Rf Go.Proofs.YtmciigdfhikdnaaDoor.Kit
set_option linter.unusedVariables false
set_option linter.unusedSimpArgs false
/-! ### Buckets -/
def bucketOk (a0 a1 a2 a3 : Int) : Prop := (0 ≤ a0 ∧ a0 ≤ 65535) ∧ (0 ≤ a1 ∧ a1 ≤ 2) ∧ (0 ≤ a2 ∧ a2 ≤ 65534) ∧ (-1 ≤ a3 ∧ a3 ≤ 65534)
instance (a0 a1 a2 a3 : Int) : Decidable (bucketOk a0 a1 a2 a3) := by unfold bucketOk; infer_instance
def bucketS (a0 a1 a2 a3 : Int) : List Int × Int := if bucketOk a0 a1 a2 a3 then (be 2 a0 ++ (be 1 a1 ++ (be 2 a2 ++ be 2 (a3 + 1))), 0) else ([], 2)
theorem bucketS_byt (a0 a1 a2 a3 : Int) : Byt (bucketS a0 a1 a2 a3).1 ∧ (bucketS a0 a1 a2 a3).1.length < 100 := by
  unfold bucketS
  split
  · exact ⟨Byt.app (be_byt _ _) (Byt.app (be_byt _ _) (Byt.app (be_byt _ _) (be_byt _ _))), by simp [be_len]⟩
  · exact ⟨Byt.nil, by simp⟩
theorem bucket_tell (a0 a1 a2 a3 : Int) : Ev (fun k => row_Bucket.f k a0 a1 a2 a3) (bucketS a0 a1 a2 a3) := by
  have stop : Ev (fun k => row_Bucket.j0 k true a0 a1 a2 a3) ([], 2) := Ev.step (f := fun _ => some ([], 2)) (fun k => by simp only [row_Bucket.j0, if_true]) (Ev.now _)
  unfold row_Bucket.f bucketS
  by_cases h0 : 0 ≤ a0 ∧ a0 ≤ 65535
  · by_cases h1 : 0 ≤ a1 ∧ a1 ≤ 2
    · by_cases h2 : 0 ≤ a2 ∧ a2 ≤ 65534
      · by_cases h3 : -1 ≤ a3 ∧ a3 ≤ 65534
        · rw [if_pos (show bucketOk a0 a1 a2 a3 from ⟨h0, h1, h2, h3⟩)]
          refine Ev.congr (f := fun k => row_Bucket.j0 k false a0 a1 a2 a3) (fun k => by rw [(within_yes h0).1, Option.bind_some, if_pos rfl, (within_yes h1).1, Option.bind_some, if_pos rfl, (within_yes h2).1, Option.bind_some, if_pos rfl, (within_yes h3).1]; rfl) ?_
          refine Ev.step (f := fun k => (octet_Put.f k (IntKind.u64.wrap a0) 2).bind fun t161 => (octet_Put.f k (IntKind.u64.wrap a1) 1).bind fun t164 => (octet_Put.f k (IntKind.u64.wrap a2) 2).bind fun t167 => (octet_Put.f k (IntKind.u64.wrap (wrap64 (a3 + 1))) 2).bind fun t170 => (octet_Join.f k ([t161, t164, t167, t170] : List (List Int))).bind fun t176 => some (t176, 0))
            (fun k => by simp only [row_Bucket.j0, Bool.false_eq_true, if_false]) ?_
          refine Ev.bind (a := be 2 a0) (Ev.congr (fun k => by rw [wru (by omega) (by omega)]; rfl) (put_tell 2 a0 (by omega) (by omega))) ?_
          refine Ev.bind (a := be 1 a1) (Ev.congr (fun k => by rw [wru (by omega) (by omega)]; rfl) (put_tell 1 a1 (by omega) (by omega))) ?_
          refine Ev.bind (a := be 2 a2) (Ev.congr (fun k => by rw [wru (by omega) (by omega)]; rfl) (put_tell 2 a2 (by omega) (by omega))) ?_
          refine Ev.bind (a := be 2 (a3 + 1)) (Ev.congr (fun k => by rw [wr (by omega) (by omega), wru (by omega) (by omega)]; rfl) (put_tell 2 (a3 + 1) (by omega) (by omega))) ?_
          refine Ev.bind (a := be 2 a0 ++ (be 1 a1 ++ (be 2 a2 ++ be 2 (a3 + 1)))) ?_ (Ev.now _)
          have hj := join_tell [be 2 a0, be 1 a1, be 2 a2, be 2 (a3 + 1)] (by simp) (by simp [be_len])
          simpa using hj
        · rw [if_neg (fun h : bucketOk a0 a1 a2 a3 => h3 h.2.2.2)]
          exact Ev.congr (fun k => by rw [(within_yes h0).1, Option.bind_some, if_pos rfl, (within_yes h1).1, Option.bind_some, if_pos rfl, (within_yes h2).1, Option.bind_some, if_pos rfl, (within_no h3).1]; rfl) stop
      · rw [if_neg (fun h : bucketOk a0 a1 a2 a3 => h2 h.2.2.1)]
        exact Ev.congr (fun k => by rw [(within_yes h0).1, Option.bind_some, if_pos rfl, (within_yes h1).1, Option.bind_some, if_pos rfl, (within_no h2).1]; rfl) stop
    · rw [if_neg (fun h : bucketOk a0 a1 a2 a3 => h1 h.2.1)]
      exact Ev.congr (fun k => by rw [(within_yes h0).1, Option.bind_some, if_pos rfl, (within_no h1).1]; rfl) stop
  · rw [if_neg (fun h : bucketOk a0 a1 a2 a3 => h0 h.1)]
    exact Ev.congr (fun k => by rw [(within_no h0).1]; rfl) stop
theorem rbucket_tell (a0 a1 a2 a3 : Int) : Ev (fun k => deedboxref24_Bucket.f k a0 a1 a2 a3) (bucketS a0 a1 a2 a3) := by
  have stop : Ev (fun k => deedboxref24_Bucket.j0 k true a0 a1 a2 a3) ([], 2) := Ev.step (f := fun _ => some ([], 2)) (fun k => by simp only [deedboxref24_Bucket.j0, if_true]) (Ev.now _)
  unfold deedboxref24_Bucket.f bucketS
  by_cases h0 : 0 ≤ a0 ∧ a0 ≤ 65535
  · by_cases h1 : 0 ≤ a1 ∧ a1 ≤ 2
    · by_cases h2 : 0 ≤ a2 ∧ a2 ≤ 65534
      · by_cases h3 : -1 ≤ a3 ∧ a3 ≤ 65534
        · rw [if_pos (show bucketOk a0 a1 a2 a3 from ⟨h0, h1, h2, h3⟩)]
          have b0 := be_len 2 a0
          have b2 := be_len 2 a2
          have b3 := be_len 2 (a3 + 1)
          refine Ev.congr (f := fun k => deedboxref24_Bucket.j0 k false a0 a1 a2 a3) (fun k => by rw [(within_yes h0).2, Option.bind_some, if_pos rfl, (within_yes h1).2, Option.bind_some, if_pos rfl, (within_yes h2).2, Option.bind_some, if_pos rfl, (within_yes h3).2]; rfl) ?_
          refine Ev.step (f := fun k => (deedboxref01_Put.f k (IntKind.u64.wrap a0) 2).bind fun t112 => (if t112.length < 140737488355328 then ((some (t112 ++ [a1 % 256] : List Int)).bind fun y115 => ((deedboxref01_Put.f k (IntKind.u64.wrap a2) 2).bind fun t118 => (if y115.length + t118.length < 140737488355328 then ((some (y115 ++ t118 : List Int)).bind fun y121 => ((deedboxref01_Put.f k (IntKind.u64.wrap (wrap64 (a3 + 1))) 2).bind fun t124 => (if y121.length + t124.length < 140737488355328 then (some ((y121 ++ t124), 0)) else (none)))) else (none)))) else (none)))
            (fun k => by simp only [deedboxref24_Bucket.j0, Bool.false_eq_true, if_false]) ?_
          refine Ev.bind (a := be 2 a0) (Ev.congr (fun k => by rw [wru (by omega) (by omega)]; rfl) (rput_tell 2 a0 (by omega) (by omega) (by omega))) ?_
          refine Ev.congr (f := fun k => (deedboxref01_Put.f k (IntKind.u64.wrap a2) 2).bind fun t118 => (if (be 2 a0 ++ [a1 % 256]).length + t118.length < 140737488355328 then ((some ((be 2 a0 ++ [a1 % 256]) ++ t118 : List Int)).bind fun y121 => ((deedboxref01_Put.f k (IntKind.u64.wrap (wrap64 (a3 + 1))) 2).bind fun t124 => (if y121.length + t124.length < 140737488355328 then (some ((y121 ++ t124), 0)) else (none)))) else (none))) (fun k => by rw [if_pos (by omega)]; rfl) ?_
          refine Ev.bind (a := be 2 a2) (Ev.congr (fun k => by rw [wru (by omega) (by omega)]; rfl) (rput_tell 2 a2 (by omega) (by omega) (by omega))) ?_
          refine Ev.congr (f := fun k => (deedboxref01_Put.f k (IntKind.u64.wrap (wrap64 (a3 + 1))) 2).bind fun t124 => (if ((be 2 a0 ++ [a1 % 256]) ++ be 2 a2).length + t124.length < 140737488355328 then (some ((((be 2 a0 ++ [a1 % 256]) ++ be 2 a2) ++ t124), 0)) else (none))) (fun k => by rw [if_pos (by simp; omega)]; rfl) ?_
          refine Ev.bind (a := be 2 (a3 + 1)) (Ev.congr (fun k => by rw [wr (by omega) (by omega), wru (by omega) (by omega)]; rfl) (rput_tell 2 (a3 + 1) (by omega) (by omega) (by omega))) ?_
          refine Ev.congr (fun k => ?_) (Ev.now _)
          rw [if_pos (by simp; omega)]
          simp [be]
        · rw [if_neg (fun h : bucketOk a0 a1 a2 a3 => h3 h.2.2.2)]
          exact Ev.congr (fun k => by rw [(within_yes h0).2, Option.bind_some, if_pos rfl, (within_yes h1).2, Option.bind_some, if_pos rfl, (within_yes h2).2, Option.bind_some, if_pos rfl, (within_no h3).2]; rfl) stop
      · rw [if_neg (fun h : bucketOk a0 a1 a2 a3 => h2 h.2.2.1)]
        exact Ev.congr (fun k => by rw [(within_yes h0).2, Option.bind_some, if_pos rfl, (within_yes h1).2, Option.bind_some, if_pos rfl, (within_no h2).2]; rfl) stop
    · rw [if_neg (fun h : bucketOk a0 a1 a2 a3 => h1 h.2.1)]
      exact Ev.congr (fun k => by rw [(within_yes h0).2, Option.bind_some, if_pos rfl, (within_no h1).2]; rfl) stop
  · rw [if_neg (fun h : bucketOk a0 a1 a2 a3 => h0 h.1)]
    exact Ev.congr (fun k => by rw [(within_no h0).2]; rfl) stop
/-- The bucket of bytes. -/
def readBucketS (b : List Int) : Int × Int × Int × Int × Int :=
  if endS (row_ReadBucket.n4 b).2.1 (row_ReadBucket.n4 b).2.2 (bucketS (wrap64 (row_ReadBucket.n1 b).1) (wrap64 (row_ReadBucket.n2 b).1) (wrap64 (row_ReadBucket.n3 b).1) (wrap64 (wrap64 (row_ReadBucket.n4 b).1 - 1))) b = 0
  then (wrap64 (row_ReadBucket.n1 b).1, wrap64 (row_ReadBucket.n2 b).1, wrap64 (row_ReadBucket.n3 b).1, wrap64 (wrap64 (row_ReadBucket.n4 b).1 - 1), 0)
  else (0, 0, 0, 0, endS (row_ReadBucket.n4 b).2.1 (row_ReadBucket.n4 b).2.2 (bucketS (wrap64 (row_ReadBucket.n1 b).1) (wrap64 (row_ReadBucket.n2 b).1) (wrap64 (row_ReadBucket.n3 b).1) (wrap64 (wrap64 (row_ReadBucket.n4 b).1 - 1))) b)
theorem readBucket_tell (b : List Int) (hb : Byt b) (hl : b.length < 100000) : Ev (fun k => row_ReadBucket.f k b) (readBucketS b) := by
  unfold row_ReadBucket.f readBucketS
  refine Ev.congr (fun k => if_pos (by omega)) ?_
  exact Ev.bind (end_tell (bucket_tell _ _ _ _) _ _ b hb (bucketS_byt _ _ _ _).1 (by omega)) (Ev.now _)
theorem rB_same (b : List Int) (hb : Byt b) : rB0 b = row_ReadBucket.n1 b ∧ rB1 b = row_ReadBucket.n2 b ∧ rB2 b = row_ReadBucket.n3 b ∧ rB3 b = row_ReadBucket.n4 b := by
  have e0 : rB0 b = row_ReadBucket.n1 b := (num_same b 0 2 hb (by omega) (by omega)).symm
  have b0 : Byt (row_ReadBucket.n1 b).2.1 := numR_byt _ _ _ hb
  have e1 : rB1 b = row_ReadBucket.n2 b := by unfold rB1 row_ReadBucket.n2; rw [e0]; exact (num_same _ _ 1 b0 (by omega) (by omega)).symm
  have b1 : Byt (row_ReadBucket.n2 b).2.1 := numR_byt _ _ _ b0
  have e2 : rB2 b = row_ReadBucket.n3 b := by unfold rB2 row_ReadBucket.n3; rw [e1]; exact (num_same _ _ 2 b1 (by omega) (by omega)).symm
  have b2 : Byt (row_ReadBucket.n3 b).2.1 := numR_byt _ _ _ b1
  have e3 : rB3 b = row_ReadBucket.n4 b := by unfold rB3 row_ReadBucket.n4; rw [e2]; exact (num_same _ _ 2 b2 (by omega) (by omega)).symm
  exact ⟨e0, e1, e2, e3⟩
theorem rreadBucket_tell (b : List Int) (hb : Byt b) (hl : b.length < 100000) : Ev (fun k => deedboxref24_ReadBucket.f k b) (readBucketS b) := by
  obtain ⟨e0, e1, e2, e3⟩ := rB_same b hb
  unfold deedboxref24_ReadBucket.f readBucketS
  rw [e0, e1, e2, e3]
  refine Ev.congr (fun k => if_pos (by omega)) ?_
  exact Ev.bind (rbucket_tell _ _ _ _) (Ev.bind (done_tell _ _ _ b (by omega)) (Ev.now _))
theorem bucket_back (a0 a1 a2 a3 : Int) (h : (bucketS a0 a1 a2 a3).2 = 0) : readBucketS (bucketS a0 a1 a2 a3).1 = (a0, a1, a2, a3, 0) := by
  have hk : bucketOk a0 a1 a2 a3 := by
    unfold bucketS at h
    split at h
    · assumption
    · simp at h
  have hk2 := hk
  obtain ⟨h0, h1, h2, h3⟩ := hk
  have hs : bucketS a0 a1 a2 a3 = (be 2 a0 ++ (be 1 a1 ++ (be 2 a2 ++ be 2 (a3 + 1))), 0) := if_pos hk2
  rw [hs]
  simp only
  generalize hb : be 2 a0 ++ (be 1 a1 ++ (be 2 a2 ++ be 2 (a3 + 1))) = b at *
  have n1 : row_ReadBucket.n1 b = (a0, be 1 a1 ++ (be 2 a2 ++ be 2 (a3 + 1)), 0) := by unfold row_ReadBucket.n1; rw [← hb]; exact num_be 2 a0 _ (by omega) h0.1 (by simp; omega)
  have n2 : row_ReadBucket.n2 b = (a1, be 2 a2 ++ be 2 (a3 + 1), 0) := by unfold row_ReadBucket.n2; rw [n1]; exact num_be 1 a1 _ (by omega) h1.1 (by simp; omega)
  have n3 : row_ReadBucket.n3 b = (a2, be 2 (a3 + 1), 0) := by unfold row_ReadBucket.n3; rw [n2]; exact num_be 2 a2 _ (by omega) h2.1 (by simp; omega)
  have n4 : row_ReadBucket.n4 b = (a3 + 1, [], 0) := by unfold row_ReadBucket.n4; rw [n3]; have := num_be 2 (a3 + 1) [] (by omega) (by omega) (by simp; omega); rwa [List.append_nil] at this
  unfold readBucketS
  rw [n1, n2, n3, n4]
  simp only
  rw [wr (n := a0) (by omega) (by omega), wr (n := a1) (by omega) (by omega), wr (n := a2) (by omega) (by omega), wr (n := a3 + 1) (by omega) (by omega), wr (by omega) (by omega), show a3 + 1 - 1 = a3 by omega, hs]
  have e : endS [] 0 (b, 0) b = 0 := by simp [endS, endC]
  rw [e, if_pos rfl]
end Go.Proofs.YtmciigdfhikdnaaDoor
