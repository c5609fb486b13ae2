/- Plain facts of uploads; no program in sight. -/
import Derived.Test.YtmciigdfhikdnaaDoorEqs
import Derived.Test.YtmciigdfhikdnaaDoorObj
import Derived.Test.YtmciigdfhikdnaaDoorRefRU
namespace Go.Proofs.YtmciigdfhikdnaaDoor
open Go.RowKit Go.Proofs.YtmciigdfhikdnaaDoorW.PrintWords Go.Proofs.YtmciigdfhikdnaaDoorW.PrintLast Go.Proofs.YtmciigdfhikdnaaDoorW.PrintMore Go.Proofs.YtmciigdfhikdnaaDoor.Rw Go.Proofs.YtmciigdfhikdnaaDoor.Rf Go.Proofs.YtmciigdfhikdnaaDoor.Kit
set_option linter.unusedVariables false
set_option linter.unusedSimpArgs false
theorem objC_len {t : List Int} (h : objC t = 0) : 1 ≤ t.length ∧ t.length ≤ 40 := by
  unfold objC at h
  split at h
  · rename_i q; exact ⟨q.1, q.2.1⟩
  · simp at h
/-- An upload's bytes: t is its name's. -/
def uploadS (t mt : List Int) (g : Int) (no wp : List Int) : List Int × Int :=
  if objC t = 0 then (if 24 < mt.length then ([], 17) else (if (lockS g no wp).2 = true then (shortS t ++ (shortS mt ++ (lockS g no wp).1), 0) else ([], 12))) else ([], 11)
theorem uploadS_byt (t mt : List Int) (g : Int) (no wp : List Int) (ht : Byt t) (hm : Byt mt) (h1 : Byt no) (h2 : Byt wp) : Byt (uploadS t mt g no wp).1 := by
  unfold uploadS
  repeat' split
  all_goals first
    | exact Byt.nil
    | exact Byt.app (shortS_byt t ht) (Byt.app (shortS_byt mt hm) (lockS_byt g no wp h1 h2))
theorem uploadS_len (t mt : List Int) (g : Int) (no wp : List Int) : (uploadS t mt g no wp).1.length ≤ 160 := by
  have hl := lockS_len g no wp
  unfold uploadS
  repeat' split
  all_goals first
    | (simp; done)
    | (rename_i h0 h1 h2; have := objC_len h0; rw [List.length_append, List.length_append, shortS_len, shortS_len]; omega)
theorem upload_tell (a0 : Int) (t mt : List Int) (g : Int) (no wp : List Int) (ht : Byt t) (hl : t.length < 100000) : Ev (fun k => row_Upload.f k a0 (strOfNums t) mt g no wp) (uploadS t mt g no wp) := by
  have hsz := str_size t
  have hk := lockS_len g no wp
  unfold row_Upload.f uploadS
  refine Ev.congr (fun k => if_pos (by omega)) ?_
  refine Ev.bind (lock_tell g no wp) ?_
  refine Ev.bind (obj_tell t ht hl).1 ?_
  by_cases h0 : objC t = 0
  · rw [if_pos h0]
    have h40 := objC_len h0
    by_cases h1 : 24 < mt.length
    · rw [if_pos h1]
      exact Ev.congr (fun k => by rw [if_pos h0, if_pos h1]) (Ev.now _)
    · rw [if_neg h1]
      by_cases h2 : (lockS g no wp).2 = true
      · rw [if_pos h2]
        refine Ev.congr (f := fun k => (upR k (strOfNums t) mt (lockS g no wp).1).bind fun r => some (r, 0)) (fun k => by rw [if_pos h0, if_neg h1, if_pos h2]) ?_
        refine Ev.bind (a := shortS t ++ (shortS mt ++ (lockS g no wp).1)) ?_ (Ev.now _)
        unfold upR
        rw [bytesOf_str ht]
        refine Ev.bind (short_tell t (by omega)) (Ev.bind (short_tell mt (by omega)) ?_)
        have hj := join_tell [shortS t, shortS mt, (lockS g no wp).1] (by simp) (by simp [shortS_len]; omega)
        simpa using hj
      · rw [if_neg h2]
        exact Ev.congr (fun k => by rw [if_pos h0, if_neg h1, if_neg h2]) (Ev.now _)
  · rw [if_neg h0]
    exact Ev.congr (fun k => by rw [if_neg h0]) (Ev.now _)
theorem rupload_tell (a0 : Int) (t mt : List Int) (g : Int) (no wp : List Int) (ht : Byt t) (hl : t.length < 100000) : Ev (fun k => deedboxref24_Upload.f k a0 (strOfNums t) mt g no wp) (uploadS t mt g no wp) := by
  have hsz := str_size t
  have hk := lockS_len g no wp
  unfold deedboxref24_Upload.f uploadS
  refine Ev.congr (fun k => if_pos (by omega)) ?_
  refine Ev.bind (obj_tell t ht hl).2 ?_
  by_cases h0 : objC t = 0
  · rw [if_pos h0]
    have h40 := objC_len h0
    by_cases h1 : 24 < mt.length
    · rw [if_pos h1]
      exact Ev.congr (fun k => by rw [if_pos h0, if_pos h1]) (Ev.now _)
    · rw [if_neg h1]
      refine Ev.congr (f := fun k => (deedboxref24_Lock.f k g no wp).bind fun q => if q.2 = true then (refUpB (strOfNums t) mt q.1).bind fun r => some (r, 0) else some ([], 12)) (fun k => by rw [if_pos h0, if_neg h1]) ?_
      refine Ev.bind (rlock_tell g no wp) ?_
      by_cases h2 : (lockS g no wp).2 = true
      · rw [if_pos h2]
        refine Ev.congr (fun k => ?_) (Ev.now _)
        rw [if_pos h2]
        unfold refUpB
        rw [bytesOf_str ht, rshort_tell t (by omega), rshort_tell mt (by omega), Option.bind_some, Option.bind_some, if_pos (by rw [shortS_len, shortS_len]; omega), Option.bind_some, List.append_assoc]
      · rw [if_neg h2]
        exact Ev.congr (fun k => by rw [if_neg h2]) (Ev.now _)
  · rw [if_neg h0]
    exact Ev.congr (fun k => by rw [if_neg h0]) (Ev.now _)
/-- The upload of a number and bytes; the name as bytes. -/
def readUploadS (a0 : Int) (b : List Int) : Int × ByteArray × List Int × Int × List Int × List Int × Int :=
  if endS (upL b).2.2.2.1 (upL b).2.2.2.2 (uploadS (upT1 b).1 (upT2 b).1 (upL b).1 (upL b).2.1 (upL b).2.2.1) b = 0
  then (a0, strOfNums (upT1 b).1, (upT2 b).1, (upL b).1, (upL b).2.1, (upL b).2.2.1, 0)
  else (0, ⟨#[]⟩, [], 0, [], [], endS (upL b).2.2.2.1 (upL b).2.2.2.2 (uploadS (upT1 b).1 (upT2 b).1 (upL b).1 (upL b).2.1 (upL b).2.2.1) b)
theorem up_byt (b : List Int) (hb : Byt b) : Byt (upT1 b).1 ∧ Byt (upT1 b).2.1 ∧ Byt (upT2 b).1 ∧ Byt (upT2 b).2.1 ∧ Byt (upL b).2.1 ∧ Byt (upL b).2.2.1 := by
  have h1 := textR_byt b 0 1 40 hb
  have h2 := textR_byt (upT1 b).2.1 (upT1 b).2.2 1 24 h1.2
  have h3 := lockR_byt (upT2 b).2.1 (upT2 b).2.2 h2.2
  exact ⟨h1.1, h1.2, h2.1, h2.2, h3.1, h3.2.1⟩
theorem upT1_len (b : List Int) : (upT1 b).1.length ≤ b.length := textR_len1 b 0 1 40
theorem readUpload_tell (a0 : Int) (b : List Int) (hb : Byt b) (hl : b.length < 100000) : Ev (fun k => row_ReadUpload.f k a0 b) (readUploadS a0 b) := by
  obtain ⟨h1, h2, h3, h4, h5, h6⟩ := up_byt b hb
  have hn := upT1_len b
  unfold row_ReadUpload.f readUploadS
  refine Ev.congr (fun k => if_pos (by omega)) ?_
  exact Ev.bind (end_tell (upload_tell a0 _ _ _ _ _ h1 (by omega)) _ _ b hb (uploadS_byt _ _ _ _ _ h1 h3 h5 h6) (by omega)) (Ev.now _)
theorem rU_same (b : List Int) (hb : Byt b) : rU0 b = upT1 b ∧ rU1 b = upT2 b ∧ rU2 b = upL b := by
  obtain ⟨h1, h2, h3, h4, h5, h6⟩ := up_byt b hb
  have e0 : rU0 b = upT1 b := (text_same b 0 1 40 hb (by omega) (by omega)).symm
  have e1 : rU1 b = upT2 b := by unfold rU1 upT2; rw [e0]; exact (text_same _ _ 1 24 h2 (by omega) (by omega)).symm
  have e2 : rU2 b = upL b := by unfold rU2 upL; rw [e1]; exact (lock_same _ _ h4).symm
  exact ⟨e0, e1, e2⟩
theorem rreadUpload_tell (a0 : Int) (b : List Int) (hb : Byt b) (hl : b.length < 100000) : Ev (fun k => deedboxref24_ReadUpload.f k a0 b) (readUploadS a0 b) := by
  obtain ⟨h1, h2, h3, h4, h5, h6⟩ := up_byt b hb
  obtain ⟨e0, e1, e2⟩ := rU_same b hb
  have hn := upT1_len b
  unfold deedboxref24_ReadUpload.f readUploadS
  rw [e0, e1, e2]
  refine Ev.congr (fun k => if_pos (by omega)) ?_
  exact Ev.bind (rupload_tell a0 _ _ _ _ _ h1 (by omega)) (Ev.bind (done_tell _ _ _ b (by omega)) (Ev.now _))
theorem upload_back (a0 : Int) (t mt : List Int) (g : Int) (no wp : List Int) (ht : Byt t) (h : (uploadS t mt g no wp).2 = 0) : readUploadS a0 (uploadS t mt g no wp).1 = (a0, strOfNums t, mt, g, no, wp, 0) := by
  have h0 : objC t = 0 := by
    unfold uploadS at h
    split at h
    · assumption
    · simp at h
  have h1 : ¬ 24 < mt.length := by
    intro q
    unfold uploadS at h
    rw [if_pos h0, if_pos q] at h
    simp at h
  have hk : lockOk g no wp := by
    by_cases q : lockOk g no wp
    · exact q
    · unfold uploadS at h
      rw [if_pos h0, if_neg h1, lock_no g no wp q] at h
      simp at h
  have hq : lockS g no wp = (be 2 (g + 1) ++ (no ++ wp), true) := if_pos hk
  have hs : uploadS t mt g no wp = (shortS t ++ (shortS mt ++ (be 2 (g + 1) ++ (no ++ wp))), 0) := by
    unfold uploadS
    rw [if_pos h0, if_neg h1, hq, if_pos rfl]
  have h40 := objC_len h0
  rw [hs]
  simp only
  generalize hb : shortS t ++ (shortS mt ++ (be 2 (g + 1) ++ (no ++ wp))) = b at *
  have n1 : upT1 b = (t, shortS mt ++ (be 2 (g + 1) ++ (no ++ wp)), 0) := by unfold upT1; rw [← hb]; exact text_be t _ 40 (by omega) (by omega)
  have n2 : upT2 b = (mt, be 2 (g + 1) ++ (no ++ wp), 0) := by unfold upT2; rw [n1]; exact text_be mt _ 24 (by omega) (by omega)
  have n3 : upL b = (g, no, wp, [], 0) := by unfold upL; rw [n2]; have := lock_back g no wp [] hk; rwa [List.append_nil] at this
  unfold readUploadS
  rw [n1, n2, n3]
  simp only
  rw [hs]
  have e : endS [] 0 (b, 0) b = 0 := by simp [endS, endC]
  rw [e, if_pos rfl]
theorem readUploadS_len (a0 : Int) (b : List Int) : (readUploadS a0 b).2.2.1.length ≤ b.length ∧ (readUploadS a0 b).2.2.2.2.1.length ≤ b.length ∧ (readUploadS a0 b).2.2.2.2.2.1.length ≤ b.length := by
  have h1 : (upT1 b).2.1.length ≤ b.length := textR_len b 0 1 40
  have h2 : (upT2 b).1.length ≤ (upT1 b).2.1.length := textR_len1 (upT1 b).2.1 (upT1 b).2.2 1 24
  have h3 : (upT2 b).2.1.length ≤ (upT1 b).2.1.length := textR_len (upT1 b).2.1 (upT1 b).2.2 1 24
  have h4 := lockR_sizes (upT2 b).2.1 (upT2 b).2.2
  unfold readUploadS
  split
  · exact ⟨Nat.le_trans h2 h1, Nat.le_trans h4.1 (Nat.le_trans h3 h1), Nat.le_trans h4.2 (Nat.le_trans h3 h1)⟩
  · simp
end Go.Proofs.YtmciigdfhikdnaaDoor
