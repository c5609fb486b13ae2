/- Plain facts of versions; no program in sight. -/
import Derived.Test.YtmciigdfhikdnaaDoorEqs
import Derived.Test.YtmciigdfhikdnaaDoorRefRV
import Derived.Test.YtmciigdfhikdnaaDoorRdRV
namespace Go.Proofs.YtmciigdfhikdnaaDoor
open Go.RowKit Go.Proofs.YtmciigdfhikdnaaDoorW.PrintWords Go.Proofs.YtmciigdfhikdnaaDoorW.PrintLast Go.Proofs.YtmciigdfhikdnaaDoorW.PrintMore Go.Proofs.YtmciigdfhikdnaaDoor.Rw Go.Proofs.YtmciigdfhikdnaaDoor.Rf Go.Proofs.YtmciigdfhikdnaaDoor.Kit
set_option linter.unusedVariables false
set_option linter.unusedSimpArgs false
theorem flags_same (a b : Bool) : flagsV a b = flagN a b := by cases a <;> cases b <;> decide
theorem flagN_bound (a b : Bool) : 0 ≤ flagN a b ∧ flagN a b < 4 := by cases a <;> cases b <;> decide
theorem nul_flag (a b : Bool) : nulB (flagN a b) = a ∧ markB (flagN a b) = b := by cases a <;> cases b <;> decide
theorem bool_byte : ∀ v : Nat, v < 256 → nulB (v : Int) = nulF (v : Int) ∧ markB (v : Int) = markF (v : Int) := by decide +kernel
theorem nul_same (v : Int) (h : 0 ≤ v ∧ v < 256) : nulB v = nulF v ∧ markB v = markF v := by
  obtain ⟨n, rfl⟩ := Int.eq_ofNat_of_zero_le h.1
  exact bool_byte n (by omega)
theorem inB_iff (n a b : Int) : inB n a b = true ↔ a ≤ n ∧ n ≤ b := by unfold inB; simp
/-- A version's bytes ahead of its key. -/
def bodyS (nul mark : Bool) (at_ size until_ : Int) (mt tags : List Int) : List Int := be 1 (flagN nul mark) ++ (be 2 at_ ++ (be 4 size ++ (be 6 until_ ++ (shortS mt ++ shortS tags))))
theorem bodyS_len (nul mark : Bool) (at_ size until_ : Int) (mt tags : List Int) : (bodyS nul mark at_ size until_ mt tags).length = 15 + mt.length + tags.length := by
  simp only [bodyS, List.length_append, be_len, shortS_len]; omega
theorem bodyS_byt (nul mark : Bool) (at_ size until_ : Int) (mt tags : List Int) (h1 : Byt mt) (h2 : Byt tags) : Byt (bodyS nul mark at_ size until_ mt tags) :=
  Byt.app (be_byt _ _) (Byt.app (be_byt _ _) (Byt.app (be_byt _ _) (Byt.app (be_byt _ _) (Byt.app (shortS_byt _ h1) (shortS_byt _ h2)))))
/-- What may be of a version's numbers. -/
def verOk (at_ size until_ : Int) : Prop := (0 ≤ at_ ∧ at_ ≤ 4095) ∧ (0 ≤ size ∧ size ≤ 1048576) ∧ (0 ≤ until_ ∧ until_ ≤ 1099511627776)
instance (a b c : Int) : Decidable (verOk a b c) := by unfold verOk; infer_instance
theorem verOk_in (a b c : Int) : (inB a 0 4095 = true ∧ inB b 0 1048576 = true ∧ inB c 0 1099511627776 = true) ↔ verOk a b c := by
  rw [inB_iff, inB_iff, inB_iff]; exact Iff.rfl
/-- A version's bytes. -/
def versionS (nul mark : Bool) (at_ size until_ : Int) (mt tags : List Int) (g : Int) (no wp : List Int) : List Int × Int :=
  if verOk at_ size until_ then (if 24 < mt.length ∨ 24 < tags.length then ([], 17) else
    (if mark = true then (bodyS nul mark at_ size until_ mt tags, 0) else (if (lockS g no wp).2 = true then (bodyS nul mark at_ size until_ mt tags ++ (lockS g no wp).1, 0) else ([], 12)))) else ([], 2)
theorem versionS_byt (nul mark : Bool) (at_ size until_ : Int) (mt tags : List Int) (g : Int) (no wp : List Int) (h1 : Byt mt) (h2 : Byt tags) (h3 : Byt no) (h4 : Byt wp) : Byt (versionS nul mark at_ size until_ mt tags g no wp).1 := by
  have hb := bodyS_byt nul mark at_ size until_ mt tags h1 h2
  unfold versionS
  repeat' split
  all_goals first
    | exact Byt.nil
    | exact hb
    | exact Byt.app hb (lockS_byt g no wp h3 h4)
theorem versionS_len (nul mark : Bool) (at_ size until_ : Int) (mt tags : List Int) (g : Int) (no wp : List Int) : (versionS nul mark at_ size until_ mt tags g no wp).1.length ≤ 160 := by
  have hl := lockS_len g no wp
  have hb := bodyS_len nul mark at_ size until_ mt tags
  unfold versionS
  repeat' split
  all_goals first
    | (simp; done)
    | (show (bodyS _ _ _ _ _ _ _).length ≤ 160; omega)
    | (show (bodyS _ _ _ _ _ _ _ ++ _).length ≤ 160; rw [List.length_append]; omega)
theorem body_tell (nul mark : Bool) (at_ size until_ : Int) (mt tags : List Int) (h : verOk at_ size until_) (h1 : mt.length ≤ 24) (h2 : tags.length ≤ 24) :
    Ev (fun k => verB k nul mark at_ size until_ mt tags) (bodyS nul mark at_ size until_ mt tags) ∧ Ev (fun k => refVerB k nul mark at_ size until_ mt tags) (bodyS nul mark at_ size until_ mt tags) := by
  obtain ⟨ha, hs, hu⟩ := h
  have hf := flagN_bound nul mark
  constructor
  · unfold verB
    rw [flags_same]
    refine Ev.bind (put_tell 1 (flagN nul mark) (by omega) hf.1) ?_
    refine Ev.bind (a := be 2 at_) (Ev.congr (fun k => by rw [wru (by omega) (by omega)]; rfl) (put_tell 2 at_ (by omega) (by omega))) ?_
    refine Ev.bind (a := be 4 size) (Ev.congr (fun k => by rw [wru (by omega) (by omega)]; rfl) (put_tell 4 size (by omega) (by omega))) ?_
    refine Ev.bind (a := be 6 until_) (Ev.congr (fun k => by rw [wru (by omega) (by omega)]; rfl) (put_tell 6 until_ (by omega) (by omega))) ?_
    refine Ev.bind (short_tell mt (by omega)) (Ev.bind (short_tell tags (by omega)) ?_)
    have hj := join_tell [be 1 (flagN nul mark), be 2 at_, be 4 size, be 6 until_, shortS mt, shortS tags] (by simp) (by simp [shortS_len, be_len]; omega)
    simpa [bodyS] using hj
  · unfold refVerB
    have b2 := be_len 2 at_
    have b4 := be_len 4 size
    have b6 := be_len 6 until_
    have c1 := shortS_len mt
    have c2 := shortS_len tags
    refine Ev.bind (a := be 2 at_) (Ev.congr (fun k => by rw [wru (by omega) (by omega)]; rfl) (rput_tell 2 at_ (by omega) (by omega) (by omega))) ?_
    refine Ev.bind (a := be 4 size) (Ev.congr (fun k => by rw [wru (by omega) (by omega)]; rfl) (rput_tell 4 size (by omega) (by omega) (by omega))) ?_
    refine Ev.bind (a := be 6 until_) (Ev.congr (fun k => by rw [wru (by omega) (by omega)]; rfl) (rput_tell 6 until_ (by omega) (by omega) (by omega))) ?_
    refine Ev.congr (fun k => ?_) (Ev.now _)
    rw [rshort_tell mt (by omega), rshort_tell tags (by omega), Option.bind_some, Option.bind_some, if_pos (by omega)]
    have e : be 1 (flagN nul mark) = [flagN nul mark] := by simp [be]; omega
    simp [bodyS, e]
theorem version_tell (a0 : Int) (nul mark : Bool) (at_ size until_ : Int) (mt tags : List Int) (g : Int) (no wp : List Int) :
    Ev (fun k => row_Version.f k a0 nul mark at_ size until_ mt tags g no wp) (versionS nul mark at_ size until_ mt tags g no wp) ∧ Ev (fun k => deedboxref24_Version.f k a0 nul mark at_ size until_ mt tags g no wp) (versionS nul mark at_ size until_ mt tags g no wp) := by
  have hl := lockS_len g no wp
  have hbl := bodyS_len nul mark at_ size until_ mt tags
  unfold row_Version.f deedboxref24_Version.f versionS
  by_cases h : verOk at_ size until_
  · rw [if_pos h]
    have hi := (verOk_in at_ size until_).2 h
    by_cases h24 : 24 < mt.length ∨ 24 < tags.length
    · rw [if_pos h24]
      exact ⟨Ev.congr (fun k => by rw [if_pos hi, if_pos h24]) (Ev.now _), Ev.congr (fun k => by rw [if_pos hi, if_pos h24]) (Ev.now _)⟩
    · rw [if_neg h24]
      have hb := body_tell nul mark at_ size until_ mt tags h (by omega) (by omega)
      refine ⟨Ev.congr (fun k => by rw [if_pos hi, if_neg h24]) (Ev.bind hb.1 ?_), Ev.congr (fun k => by rw [if_pos hi, if_neg h24]) (Ev.bind hb.2 ?_)⟩
      · cases mark with
        | true => exact Ev.congr (fun k => by unfold verL; rw [if_pos rfl, if_pos rfl]) (Ev.now _)
        | false =>
          refine Ev.congr (f := fun k => (row_lock.f k g no wp).bind fun q => if q.2 = true then (octet_Join.f k [bodyS nul false at_ size until_ mt tags, q.1]).bind fun r => some (r, 0) else some ([], 12)) (fun k => by unfold verL; rw [if_neg (by simp)]) ?_
          rw [if_neg (by simp)]
          refine Ev.bind (lock_tell g no wp) ?_
          by_cases h2 : (lockS g no wp).2 = true
          · rw [if_pos h2]
            refine Ev.congr (f := fun k => (octet_Join.f k [bodyS nul false at_ size until_ mt tags, (lockS g no wp).1]).bind fun r => some (r, 0)) (fun k => by rw [if_pos h2]) ?_
            have hj := join_tell [bodyS nul false at_ size until_ mt tags, (lockS g no wp).1] (by simp) (by simp; omega)
            refine Ev.bind (a := bodyS nul false at_ size until_ mt tags ++ (lockS g no wp).1) (by simpa using hj) (Ev.now _)
          · rw [if_neg h2]
            exact Ev.congr (fun k => by rw [if_neg h2]) (Ev.now _)
      · cases mark with
        | true => exact Ev.congr (fun k => by unfold refVerL; rw [if_pos rfl, if_pos rfl]) (Ev.now _)
        | false =>
          refine Ev.congr (f := fun k => (deedboxref24_Lock.f k g no wp).bind fun q => if q.2 = true then (if (bodyS nul false at_ size until_ mt tags).length + q.1.length ≤ 10000000 then some (bodyS nul false at_ size until_ mt tags ++ q.1, 0) else none) else some ([], 12)) (fun k => by unfold refVerL; rw [if_neg (by simp)]) ?_
          rw [if_neg (by simp)]
          refine Ev.bind (rlock_tell g no wp) ?_
          by_cases h2 : (lockS g no wp).2 = true
          · rw [if_pos h2]
            exact Ev.congr (fun k => by rw [if_pos h2, if_pos (by omega)]) (Ev.now _)
          · rw [if_neg h2]
            exact Ev.congr (fun k => by rw [if_neg h2]) (Ev.now _)
  · rw [if_neg h]
    have hi : ¬ (inB at_ 0 4095 = true ∧ inB size 0 1048576 = true ∧ inB until_ 0 1099511627776 = true) := fun q => h ((verOk_in at_ size until_).1 q)
    exact ⟨Ev.congr (fun k => by rw [if_neg hi]) (Ev.now _), Ev.congr (fun k => by rw [if_neg hi]) (Ev.now _)⟩
/-- What reading came to. -/
def verE (b : List Int) : Int := endS (verK b).2.2.2.1 (verK b).2.2.2.2 (versionS (nulB (verN0 b).1) (markB (verN0 b).1) (wrap64 (verN1 b).1) (wrap64 (verN2 b).1) (wrap64 (verN3 b).1) (verT1 b).1 (verT2 b).1 (verK b).1 (verK b).2.1 (verK b).2.2.1) b
def readVersionS (a0 : Int) (b : List Int) : Int × Bool × Bool × Int × Int × Int × List Int × List Int × Int × List Int × List Int × Int :=
  if verE b = 0 then (a0, nulB (verN0 b).1, markB (verN0 b).1, wrap64 (verN1 b).1, wrap64 (verN2 b).1, wrap64 (verN3 b).1, (verT1 b).1, (verT2 b).1, (verK b).1, (verK b).2.1, (verK b).2.2.1, 0) else (0, false, false, 0, 0, 0, [], [], 0, [], [], verE b)
theorem ver_byt (b : List Int) (hb : Byt b) : Byt (verN0 b).2.1 ∧ Byt (verN1 b).2.1 ∧ Byt (verN2 b).2.1 ∧ Byt (verN3 b).2.1 ∧ (Byt (verT1 b).1 ∧ Byt (verT1 b).2.1) ∧ (Byt (verT2 b).1 ∧ Byt (verT2 b).2.1) ∧ Byt (verK b).2.1 ∧ Byt (verK b).2.2.1 := by
  have h0 : Byt (verN0 b).2.1 := numR_byt b 0 1 hb
  have h1 : Byt (verN1 b).2.1 := numR_byt _ _ 2 h0
  have h2 : Byt (verN2 b).2.1 := numR_byt _ _ 4 h1
  have h3 : Byt (verN3 b).2.1 := numR_byt _ _ 6 h2
  have h4 := textR_byt (verN3 b).2.1 (verN3 b).2.2 1 24 h3
  have h5 := textR_byt (verT1 b).2.1 (verT1 b).2.2 1 24 h4.2
  have h6 := lockR_byt (verT2 b).2.1 (verT2 b).2.2 h5.2
  refine ⟨h0, h1, h2, h3, h4, h5, ?_, ?_⟩
  · unfold verK
    split
    · exact Byt.nil
    · exact h6.1
  · unfold verK
    split
    · exact Byt.nil
    · exact h6.2.1
theorem verN0_bound (b : List Int) (hb : Byt b) : 0 ≤ (verN0 b).1 ∧ (verN0 b).1 < 256 := by
  have hs := takeR_size b 0 1 (by omega)
  have ht := (takeR_byt b 0 1 hb).1
  have hg := (getN_val (takeR b 0 1).1 ht (by omega)).1
  have hv := val_lt (takeR b 0 1).1 ht
  have hp := pow_le (a := (takeR b 0 1).1.length) (b := 1) (by omega)
  show 0 ≤ getN (takeR b 0 1).1 ∧ getN (takeR b 0 1).1 < 256
  rw [hg]
  have e : (256 : Int) ^ 1 = 256 := by decide
  rw [e] at hp
  omega
theorem readVersion_tell (a0 : Int) (b : List Int) (hb : Byt b) (hl : b.length < 100000) : Ev (fun k => row_ReadVersion.f k a0 b) (readVersionS a0 b) := by
  obtain ⟨h0, h1, h2, h3, h4, h5, h6, h7⟩ := ver_byt b hb
  unfold row_ReadVersion.f readVersionS
  refine Ev.congr (fun k => if_pos (by omega)) ?_
  exact Ev.bind (end_tell (version_tell a0 _ _ _ _ _ _ _ _ _ _).1 _ _ b hb (versionS_byt _ _ _ _ _ _ _ _ _ _ h4.1 h5.1 h6 h7) (by omega)) (Ev.now _)
theorem rV_same (b : List Int) (hb : Byt b) : rV0 b = verN0 b ∧ rV1 b = verN1 b ∧ rV2 b = verN2 b ∧ rV3 b = verN3 b ∧ rV4 b = verT1 b ∧ rV5 b = verT2 b ∧ rV6 b = verK b := by
  obtain ⟨h0, h1, h2, h3, h4, h5, h6, h7⟩ := ver_byt b hb
  have e0 : rV0 b = verN0 b := (num_same b 0 1 hb (by omega) (by omega)).symm
  have e1 : rV1 b = verN1 b := by unfold rV1 verN1; rw [e0]; exact (num_same _ _ 2 h0 (by omega) (by omega)).symm
  have e2 : rV2 b = verN2 b := by unfold rV2 verN2; rw [e1]; exact (num_same _ _ 4 h1 (by omega) (by omega)).symm
  have e3 : rV3 b = verN3 b := by unfold rV3 verN3; rw [e2]; exact (num_same _ _ 6 h2 (by omega) (by omega)).symm
  have e4 : rV4 b = verT1 b := by unfold rV4 verT1; rw [e3]; exact (text_same _ _ 1 24 h3 (by omega) (by omega)).symm
  have e5 : rV5 b = verT2 b := by unfold rV5 verT2; rw [e4]; exact (text_same _ _ 1 24 h4.2 (by omega) (by omega)).symm
  refine ⟨e0, e1, e2, e3, e4, e5, ?_⟩
  unfold rV6 verK
  rw [e0, e5, (nul_same _ (verN0_bound b hb)).2, lock_same _ _ h5.2]
theorem rreadVersion_tell (a0 : Int) (b : List Int) (hb : Byt b) (hl : b.length < 100000) : Ev (fun k => deedboxref24_ReadVersion.f k a0 b) (readVersionS a0 b) := by
  obtain ⟨e0, e1, e2, e3, e4, e5, e6⟩ := rV_same b hb
  have hn := nul_same _ (verN0_bound b hb)
  unfold deedboxref24_ReadVersion.f readVersionS
  rw [e0, e1, e2, e3, e4, e5, e6, ← hn.1, ← hn.2]
  refine Ev.congr (fun k => if_pos (by omega)) ?_
  exact Ev.bind (version_tell a0 _ _ _ _ _ _ _ _ _ _).2 (Ev.bind (done_tell _ _ _ b (by omega)) (Ev.now _))
theorem version_back (a0 : Int) (nul mark : Bool) (at_ size until_ : Int) (mt tags : List Int) (g : Int) (no wp : List Int) (h : (versionS nul mark at_ size until_ mt tags g no wp).2 = 0) :
    readVersionS a0 (versionS nul mark at_ size until_ mt tags g no wp).1 = (a0, nul, mark, at_, size, until_, mt, tags, if mark = true then 0 else g, if mark = true then [] else no, if mark = true then [] else wp, 0) := by
  have h0 : verOk at_ size until_ := by
    unfold versionS at h
    split at h
    · assumption
    · simp at h
  have h1 : ¬ (24 < mt.length ∨ 24 < tags.length) := by
    intro q
    unfold versionS at h
    rw [if_pos h0, if_pos q] at h
    simp at h
  have h00 := h0
  obtain ⟨ha, hs, hu⟩ := h00
  have hf := flagN_bound nul mark
  have nf := nul_flag nul mark
  cases mark with
  | true =>
    have hv : versionS nul true at_ size until_ mt tags g no wp = (bodyS nul true at_ size until_ mt tags, 0) := by
      unfold versionS
      rw [if_pos h0, if_neg h1, if_pos rfl]
    have hv2 : versionS nul true at_ size until_ mt tags 0 [] [] = (bodyS nul true at_ size until_ mt tags, 0) := by
      unfold versionS
      rw [if_pos h0, if_neg h1, if_pos rfl]
    rw [hv]
    simp only [if_true]
    have hb : bodyS nul true at_ size until_ mt tags = bodyS nul true at_ size until_ mt tags ++ [] := by simp
    generalize hx : bodyS nul true at_ size until_ mt tags = b at *
    have hx2 : be 1 (flagN nul true) ++ (be 2 at_ ++ (be 4 size ++ (be 6 until_ ++ (shortS mt ++ shortS tags)))) = b := hx
    have n0 : verN0 b = (flagN nul true, be 2 at_ ++ (be 4 size ++ (be 6 until_ ++ (shortS mt ++ shortS tags))), 0) := by unfold verN0; rw [← hx2]; exact num_be 1 _ _ (by omega) hf.1 (by simp; omega)
    have n1 : verN1 b = (at_, be 4 size ++ (be 6 until_ ++ (shortS mt ++ shortS tags)), 0) := by unfold verN1; rw [n0]; exact num_be 2 _ _ (by omega) ha.1 (by simp; omega)
    have n2 : verN2 b = (size, be 6 until_ ++ (shortS mt ++ shortS tags), 0) := by unfold verN2; rw [n1]; exact num_be 4 _ _ (by omega) hs.1 (by simp; omega)
    have n3 : verN3 b = (until_, shortS mt ++ shortS tags, 0) := by unfold verN3; rw [n2]; exact num_be 6 _ _ (by omega) hu.1 (by simp; omega)
    have n4 : verT1 b = (mt, shortS tags, 0) := by unfold verT1; rw [n3]; exact text_be mt _ 24 (by omega) (by omega)
    have n5 : verT2 b = (tags, [], 0) := by unfold verT2; rw [n4]; have := text_be tags [] 24 (by omega) (by omega); rwa [List.append_nil] at this
    have n6 : verK b = (0, [], [], [], 0) := by unfold verK; rw [n0, n5]; simp only; rw [nf.2, if_pos rfl]
    have e : verE b = 0 := by
      unfold verE
      rw [n0, n1, n2, n3, n4, n5, n6]
      simp only
      rw [nf.1, nf.2, wr (n := at_) (by omega) (by omega), wr (n := size) (by omega) (by omega), wr (n := until_) (by omega) (by omega), hv2]
      simp [endS, endC]
    unfold readVersionS
    rw [if_pos e, n0, n1, n2, n3, n4, n5, n6]
    simp only
    rw [nf.1, nf.2, wr (n := at_) (by omega) (by omega), wr (n := size) (by omega) (by omega), wr (n := until_) (by omega) (by omega)]
  | false =>
    have hk : lockOk g no wp := by
      by_cases q : lockOk g no wp
      · exact q
      · unfold versionS at h
        rw [if_pos h0, if_neg h1, if_neg (by simp), lock_no g no wp q] at h
        simp at h
    have hq : lockS g no wp = (be 2 (g + 1) ++ (no ++ wp), true) := if_pos hk
    have hv : versionS nul false at_ size until_ mt tags g no wp = (bodyS nul false at_ size until_ mt tags ++ (be 2 (g + 1) ++ (no ++ wp)), 0) := by
      unfold versionS
      rw [if_pos h0, if_neg h1, if_neg (by simp), hq, if_pos rfl]
    rw [hv]
    simp only [Bool.false_eq_true, if_false]
    generalize hx : bodyS nul false at_ size until_ mt tags ++ (be 2 (g + 1) ++ (no ++ wp)) = b at *
    have hx2 : be 1 (flagN nul false) ++ (be 2 at_ ++ (be 4 size ++ (be 6 until_ ++ (shortS mt ++ (shortS tags ++ (be 2 (g + 1) ++ (no ++ wp))))))) = b := by rw [← hx]; simp only [bodyS, List.append_assoc]
    have n0 : verN0 b = (flagN nul false, be 2 at_ ++ (be 4 size ++ (be 6 until_ ++ (shortS mt ++ (shortS tags ++ (be 2 (g + 1) ++ (no ++ wp)))))), 0) := by unfold verN0; rw [← hx2]; exact num_be 1 _ _ (by omega) hf.1 (by simp; omega)
    have n1 : verN1 b = (at_, be 4 size ++ (be 6 until_ ++ (shortS mt ++ (shortS tags ++ (be 2 (g + 1) ++ (no ++ wp))))), 0) := by unfold verN1; rw [n0]; exact num_be 2 _ _ (by omega) ha.1 (by simp; omega)
    have n2 : verN2 b = (size, be 6 until_ ++ (shortS mt ++ (shortS tags ++ (be 2 (g + 1) ++ (no ++ wp)))), 0) := by unfold verN2; rw [n1]; exact num_be 4 _ _ (by omega) hs.1 (by simp; omega)
    have n3 : verN3 b = (until_, shortS mt ++ (shortS tags ++ (be 2 (g + 1) ++ (no ++ wp))), 0) := by unfold verN3; rw [n2]; exact num_be 6 _ _ (by omega) hu.1 (by simp; omega)
    have n4 : verT1 b = (mt, shortS tags ++ (be 2 (g + 1) ++ (no ++ wp)), 0) := by unfold verT1; rw [n3]; exact text_be mt _ 24 (by omega) (by omega)
    have n5 : verT2 b = (tags, be 2 (g + 1) ++ (no ++ wp), 0) := by unfold verT2; rw [n4]; exact text_be tags _ 24 (by omega) (by omega)
    have n6 : verK b = (g, no, wp, [], 0) := by unfold verK; rw [n0, n5]; simp only; rw [nf.2, if_neg (by simp)]; have := lock_back g no wp [] hk; rwa [List.append_nil] at this
    have e : verE b = 0 := by
      unfold verE
      rw [n0, n1, n2, n3, n4, n5, n6]
      simp only
      rw [nf.1, nf.2, wr (n := at_) (by omega) (by omega), wr (n := size) (by omega) (by omega), wr (n := until_) (by omega) (by omega), hv]
      simp [endS, endC]
    unfold readVersionS
    rw [if_pos e, n0, n1, n2, n3, n4, n5, n6]
    simp only
    rw [nf.1, nf.2, wr (n := at_) (by omega) (by omega), wr (n := size) (by omega) (by omega), wr (n := until_) (by omega) (by omega)]
theorem readVersionS_len (a0 : Int) (b : List Int) : (readVersionS a0 b).2.2.2.2.2.2.1.length ≤ b.length ∧ (readVersionS a0 b).2.2.2.2.2.2.2.1.length ≤ b.length ∧ (readVersionS a0 b).2.2.2.2.2.2.2.2.2.1.length ≤ b.length ∧ (readVersionS a0 b).2.2.2.2.2.2.2.2.2.2.1.length ≤ b.length := by
  have h0 : (verN0 b).2.1.length ≤ b.length := numR_len b 0 1
  have h1 : (verN1 b).2.1.length ≤ (verN0 b).2.1.length := numR_len _ _ 2
  have h2 : (verN2 b).2.1.length ≤ (verN1 b).2.1.length := numR_len _ _ 4
  have h3 : (verN3 b).2.1.length ≤ (verN2 b).2.1.length := numR_len _ _ 6
  have h4 : (verT1 b).1.length ≤ (verN3 b).2.1.length := textR_len1 _ _ 1 24
  have h5 : (verT1 b).2.1.length ≤ (verN3 b).2.1.length := textR_len _ _ 1 24
  have h6 : (verT2 b).1.length ≤ (verT1 b).2.1.length := textR_len1 _ _ 1 24
  have h7 : (verT2 b).2.1.length ≤ (verT1 b).2.1.length := textR_len _ _ 1 24
  have h8 := lockR_sizes (verT2 b).2.1 (verT2 b).2.2
  have h9 : (verK b).2.1.length ≤ b.length ∧ (verK b).2.2.1.length ≤ b.length := by
    unfold verK
    split
    · simp
    · omega
  unfold readVersionS
  split
  · exact ⟨by show (verT1 b).1.length ≤ _; omega, by show (verT2 b).1.length ≤ _; omega, h9.1, h9.2⟩
  · simp
end Go.Proofs.YtmciigdfhikdnaaDoor
