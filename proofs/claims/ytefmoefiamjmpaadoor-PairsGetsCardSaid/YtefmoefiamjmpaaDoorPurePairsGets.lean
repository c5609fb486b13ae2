/- The pure statement of PairsGets: what the walk tells answers as the chapter says. -/
import Derived.Test.YtefmoefiamjmpaaDoorQPairsGetsx7
import Derived.Test.YtefmoefiamjmpaaDoorPairsCore
import Derived.Test.YtefmoefiamjmpaaDoorSplitCore
namespace Go.Proofs.YtefmoefiamjmpaaDoor.Pure
open Go.RowKit Go.Lib Go.Proofs.YtefmoefiamjmpaaDoor.QPairsGets Go.Proofs.YtefmoefiamjmpaaDoor.Pa Go.Proofs.YtefmoefiamjmpaaDoor.Pc Go.Proofs.YtefmoefiamjmpaaDoorW.PrintWords Go.Proofs.YtefmoefiamjmpaaDoorW.PrintLast Go.Proofs.YtefmoefiamjmpaaDoorW.PrintMore
open Go.Proofs.YtefmoefiamjmpaaDoor.Kit Go.Proofs.YtefmoefiamjmpaaDoor.Cut
set_option linter.unusedVariables false
set_option linter.unusedSimpArgs false

theorem Ev.fin {α : Type} {g : Nat → Option α} {r : α} (h : ∀ k, g (k + 1) = some r) : Ev g r := ⟨1, fun n hn => by
  obtain ⟨m, rfl⟩ : ∃ m, n = m + 1 := ⟨n - 1, by omega⟩
  exact h m⟩
theorem next_w {n : Nat} (h : n < 1000000) : wrap64 ((n : Int) + 1) = ((n + 1 : Nat) : Int) := by unfold wrap64; omega

/-! ### The reference's Text -/
def joinP (t : List S45) : ByteArray := ⟨(Lib.join (t.map fun x => (pieceB x).data.toList) [38]).toArray⟩
theorem ba_eq {a b : ByteArray} (h : a.data.toList = b.data.toList) : a = b := ByteArray.ext (Array.toList_inj.1 h)
theorem ba_app (a b : ByteArray) : (a ++ b).data.toList = a.data.toList ++ b.data.toList := by rw [ByteArray.data_append, Array.toList_append]
theorem piece_list (x : S45) : (pieceB x).data.toList = x.f0.data.toList ++ [61] ++ x.f1.data.toList := by
  unfold pieceB
  rw [ba_app, ba_app]
theorem joinP_one (x : S45) : joinP [x] = (((⟨#[]⟩ : ByteArray) ++ x.f0) ++ (⟨#[61]⟩ : ByteArray)) ++ x.f1 := by
  apply ba_eq
  rw [ba_app, ba_app, ba_app]
  show (Lib.join [(pieceB x).data.toList] [38]) = _
  rw [Lib.join_cons, piece_list]
  simp [Lib.joinTail]
theorem joinP_snoc (t : List S45) (x : S45) (h : t ≠ []) : joinP (t ++ [x]) = (((joinP t ++ (⟨#[38]⟩ : ByteArray)) ++ x.f0) ++ (⟨#[61]⟩ : ByteArray)) ++ x.f1 := by
  apply ba_eq
  rw [ba_app, ba_app, ba_app, ba_app]
  cases t with
  | nil => exact absurd rfl h
  | cons y t =>
    show (Lib.join (((y :: t) ++ [x]).map fun x => (pieceB x).data.toList) [38]) = (Lib.join ((y :: t).map fun x => (pieceB x).data.toList) [38]) ++ [38] ++ x.f0.data.toList ++ [61] ++ x.f1.data.toList
    rw [List.cons_append, List.map_cons, List.map_cons, Lib.join_cons, Lib.join_cons, List.map_append, List.map_singleton, piece_list x]
    simp [Lib.joinTail]
section
variable (l : List S36) (hu : Uniq (l.map conv)) (hs : Small (l.map conv))
theorem rd36 {l : List S36} {i : Nat} (h : i < l.length) : rd_T36 l (i : Int) = l[i] := by
  unfold rd_T36
  rw [Int.toNat_natCast, List.getD_eq_getElem?_getD, List.getElem?_eq_getElem h]
  rfl
/-- What the round n looks for. -/
def elig (n : Nat) (last : ByteArray) (x : S36) : Prop := n = 0 ∨ Op.bytesLess last.toList x.f0.toList = true
def Best (l : List S36) (n : Nat) (last : ByteArray) (i : Nat) (best : Int) : Prop :=
  (best = -1 ∧ ∀ j (h : j < l.length), j < i → ¬ elig n last l[j]) ∨
  (∃ (b : Nat) (hb : b < l.length), best = (b : Int) ∧ b < i ∧ elig n last l[b] ∧ ∀ j (h : j < l.length), j < i → elig n last l[j] → ltB l[j].f0 l[b].f0 = false)
theorem best_is {l : List S36} (hu : Uniq (l.map conv)) {n : Nat} (hn : n < l.length) {last : ByteArray} (hl : n = 0 ∨ ∃ (hp : n - 1 < (sortL (l.map conv)).length), last = (sortL (l.map conv))[n - 1].f0) {best : Int} (h : Best l n last l.length best) :
    ∃ (b : Nat) (hb : b < l.length) (hn2 : n < (sortL (l.map conv)).length), best = (b : Int) ∧ conv l[b] = (sortL (l.map conv))[n] := by
  have hlen : (sortL (l.map conv)).length = l.length := by rw [sortL_len, List.length_map]
  have hst := sortL_strict hu
  rw [List.pairwise_iff_getElem] at hst
  have hn2 : n < (sortL (l.map conv)).length := by omega
  have hmem : (sortL (l.map conv))[n] ∈ l.map conv := (sortL_perm _).mem_iff.1 (List.getElem_mem hn2)
  obtain ⟨y, hy, hye⟩ := List.mem_map.1 hmem
  obtain ⟨q, hq, rfl⟩ := List.mem_iff_getElem.1 hy
  have hqe : elig n last l[q] := by
    rcases hl with h0 | ⟨hp, rfl⟩
    · exact .inl h0
    · by_cases h0 : n = 0
      · exact .inl h0
      · have := hst (n - 1) n hp hn2 (by omega)
        rw [← hye] at this
        exact .inr this
  rcases h with ⟨_, h⟩ | ⟨b, hb, rfl, _, hbe, hmin⟩
  · exact absurd hqe (h q hq hq)
  · refine ⟨b, hb, hn2, rfl, ?_⟩
    have hbm : conv l[b] ∈ sortL (l.map conv) := (sortL_perm _).mem_iff.2 (List.mem_map.2 ⟨l[b], List.getElem_mem hb, rfl⟩)
    obtain ⟨c, hc, hce⟩ := List.mem_iff_getElem.1 hbm
    have hm := hmin q hq hq hqe
    have hcn : ¬ n < c := fun hlt => by
      have := hst n c hn2 hc hlt
      rw [hce, ← hye] at this
      exact absurd (this.symm.trans hm) (by simp)
    have hnc : ¬ c < n := fun hlt => by
      rcases hbe with h0 | hbe
      · omega
      · rcases hl with h0 | ⟨hp, rfl⟩
        · omega
        · have e : l[b].f0 = (sortL (l.map conv))[c].f0 := by rw [hce]; rfl
          rw [e] at hbe
          by_cases hcp : c = n - 1
          · subst hcp
            exact absurd hbe (by have := ltB_irrefl (sortL (l.map conv))[n - 1].f0; unfold ltB at this; rw [this]; simp)
          · have := ltB_asymm (hst c (n - 1) hc hp (by omega))
            unfold ltB at this
            rw [this] at hbe
            cases hbe
    have : c = n := by omega
    subst this
    exact hce.symm
theorem best_step {l : List S36} {n : Nat} {last : ByteArray} {i : Nat} (hi : i < l.length) {best : Int} (h : Best l n last i best) :
    (¬ elig n last l[i] → Best l n last (i + 1) best) ∧
    (elig n last l[i] → best = -1 → Best l n last (i + 1) (i : Int)) ∧
    (elig n last l[i] → ∀ (b : Nat) (hb : b < l.length), best = (b : Int) → (ltB l[i].f0 l[b].f0 = true → Best l n last (i + 1) (i : Int)) ∧ (ltB l[i].f0 l[b].f0 = false → Best l n last (i + 1) best)) := by
  refine ⟨fun he => ?_, fun he hb => ?_, fun he b hb hbe => ⟨fun hlt => ?_, fun hlt => ?_⟩⟩
  · rcases h with ⟨h1, h2⟩ | ⟨b, hb, h1, h2, h3, h4⟩
    · refine .inl ⟨h1, fun j hj hji => ?_⟩
      by_cases e : j = i
      · subst e; exact he
      · exact h2 j hj (by omega)
    · refine .inr ⟨b, hb, h1, by omega, h3, fun j hj hji hje => ?_⟩
      by_cases e : j = i
      · subst e; exact absurd hje he
      · exact h4 j hj (by omega) hje
  · rcases h with ⟨h1, h2⟩ | ⟨b, hb', h1, h2, h3, h4⟩
    · refine .inr ⟨i, hi, rfl, by omega, he, fun j hj hji hje => ?_⟩
      by_cases e : j = i
      · subst e; exact ltB_irrefl _
      · exact absurd hje (h2 j hj (by omega))
    · omega
  · rcases h with ⟨h1, h2⟩ | ⟨b', hb', h1, h2, h3, h4⟩
    · omega
    · obtain rfl : b = b' := by omega
      refine .inr ⟨i, hi, rfl, by omega, he, fun j hj hji hje => ?_⟩
      by_cases e : j = i
      · subst e; exact ltB_irrefl _
      · have := h4 j hj (by omega) hje
        cases hx : ltB l[j].f0 l[i].f0 with
        | false => rfl
        | true => rw [ltB_trans hx hlt] at this; cases this
  · rcases h with ⟨h1, h2⟩ | ⟨b', hb', h1, h2, h3, h4⟩
    · omega
    · obtain rfl : b = b' := by omega
      refine .inr ⟨b, hb, hbe, by omega, h3, fun j hj hji hje => ?_⟩
      by_cases e : j = i
      · subst e; exact hlt
      · exact h4 j hj (by omega) hje
end

/-- What is told of one pair behind the text so far. -/
def addP (n : Nat) (s : ByteArray) (x : S36) : ByteArray := if n = 0 then ((s ++ x.f0) ++ (⟨#[61]⟩ : ByteArray)) ++ x.f1 else (((s ++ (⟨#[38]⟩ : ByteArray)) ++ x.f0) ++ (⟨#[61]⟩ : ByteArray)) ++ x.f1
theorem text_inner {l : List S36} (hu : Uniq (l.map conv)) (hs : Small (l.map conv)) {n : Nat} (hn : n < l.length) {s last T : ByteArray} (hsz : s.size ≤ 10000000) (hl : n = 0 ∨ ∃ (hp : n - 1 < (sortL (l.map conv)).length), last = (sortL (l.map conv))[n - 1].f0)
    (ih : ∀ x : S36, (∃ (h : n < (sortL (l.map conv)).length), conv x = (sortL (l.map conv))[n]) → Ev (fun k => deedboxref41_Text.l0 k l (addP n s x) x.f0 ((n + 1 : Nat) : Int)) T) :
    ∀ (d i : Nat) (best : Int), i + d = l.length → Best l n last i best → Ev (fun k => deedboxref41_Text.l1 k l s last (n : Int) best (i : Int)) T
  | 0, i, best, hi, hb => by
    obtain rfl : i = l.length := by omega
    obtain ⟨b, hbl, hn2, rfl, hbe⟩ := best_is hu hn hl hb
    have hx := hs.2 (conv l[b]) (List.mem_map.2 ⟨l[b], List.getElem_mem hbl, rfl⟩)
    have hx1 : l[b].f0.size ≤ 100000 := hx.1
    have hx2 : l[b].f1.size ≤ 100000 := hx.2
    have := ih l[b] ⟨hn2, hbe⟩
    have h8 := hs.1
    rw [List.length_map] at h8
    refine Ev.step (fun k => ?_) this
    simp only [deedboxref41_Text.l1]
    rw [if_neg (by omega), if_neg (by omega), rd36 hbl]
    unfold addP
    by_cases h0 : n = 0
    · rw [if_neg (by omega), if_pos (by omega), if_pos (by omega), if_pos (by omega), if_pos (by omega), if_pos (by omega), if_pos h0, next_w (by omega)]
    · rw [if_pos (by omega), if_pos (by omega), if_pos (by omega), if_pos (by omega), if_pos (by omega), if_pos (by omega), if_pos (by omega), if_neg h0, next_w (by omega)]
  | d + 1, i, best, hi, hb => by
    have hil : i < l.length := by omega
    have h8 := hs.1
    rw [List.length_map] at h8
    have st := best_step (n := n) (last := last) hil hb
    have next : ∀ best', Best l n last (i + 1) best' → Ev (fun k => deedboxref41_Text.l1 k l s last (n : Int) best' (wrap64 ((i : Int) + 1))) T := fun best' hb' => by
      rw [next_w (by omega)]
      exact text_inner hu hs hn hsz hl ih d (i + 1) best' (by omega) hb'
    have hbr : best = -1 ∨ ∃ (b : Nat) (hb : b < l.length), best = (b : Int) := by
      rcases hb with ⟨h, _⟩ | ⟨b, h, h1, _⟩
      · exact .inl h
      · exact .inr ⟨b, h, h1⟩
    by_cases h0 : n = 0
    · have he : elig n last l[i] := .inl h0
      rcases hbr with h1 | ⟨b, hbl, h1⟩
      · refine Ev.step (fun k => ?_) (next _ (st.2.1 he h1))
        simp only [deedboxref41_Text.l1]
        rw [if_pos (by omega), if_pos (by omega), if_pos (by omega)]
      · obtain ⟨s1, s2⟩ := st.2.2 he b hbl h1
        subst h1
        cases hlt : ltB l[i].f0 l[b].f0 with
        | true =>
          refine Ev.step (fun k => ?_) (next _ (s1 hlt))
          simp only [deedboxref41_Text.l1]
          rw [if_pos (by omega), if_pos (by omega), if_neg (by omega), if_pos (by omega), if_pos (by omega), if_pos (by omega), rd36 hil, rd36 hbl, if_pos (by unfold ltB at hlt; exact hlt)]
        | false =>
          refine Ev.step (fun k => ?_) (next _ (s2 hlt))
          simp only [deedboxref41_Text.l1]
          rw [if_pos (by omega), if_pos (by omega), if_neg (by omega), if_pos (by omega), if_pos (by omega), if_pos (by omega), rd36 hil, rd36 hbl, if_neg (by unfold ltB at hlt; rw [hlt]; simp)]
    · by_cases hel : Op.bytesLess last.toList l[i].f0.toList = true
      · have he : elig n last l[i] := .inr hel
        rcases hbr with h1 | ⟨b, hbl, h1⟩
        · refine Ev.step (fun k => ?_) (next _ (st.2.1 he h1))
          simp only [deedboxref41_Text.l1]
          rw [if_pos (by omega), if_neg (by omega), if_pos (by omega), rd36 hil, if_pos hel, if_pos (by omega)]
        · obtain ⟨s1, s2⟩ := st.2.2 he b hbl h1
          subst h1
          cases hlt : ltB l[i].f0 l[b].f0 with
          | true =>
            refine Ev.step (fun k => ?_) (next _ (s1 hlt))
            simp only [deedboxref41_Text.l1]
            rw [if_pos (by omega), if_neg (by omega), if_pos (by omega), rd36 hil, if_pos hel, if_neg (by omega), if_pos (by omega), if_pos (by omega), rd36 hbl, if_pos (by unfold ltB at hlt; exact hlt)]
          | false =>
            refine Ev.step (fun k => ?_) (next _ (s2 hlt))
            simp only [deedboxref41_Text.l1]
            rw [if_pos (by omega), if_neg (by omega), if_pos (by omega), rd36 hil, if_pos hel, if_neg (by omega), if_pos (by omega), if_pos (by omega), rd36 hbl, if_neg (by unfold ltB at hlt; rw [hlt]; simp)]
      · have he : ¬ elig n last l[i] := fun h => by
          rcases h with h | h
          · exact h0 h
          · exact hel h
        refine Ev.step (fun k => ?_) (next _ (st.1 he))
        simp only [deedboxref41_Text.l1]
        rw [if_pos (by omega), if_neg (by omega), if_pos (by omega), rd36 hil, if_neg hel]
theorem take_snoc {α : Type} (l : List α) (n : Nat) (h : n < l.length) : l.take (n + 1) = l.take n ++ [l[n]] := by
  rw [List.take_add_one, List.getElem?_eq_getElem h]
  rfl
theorem text_outer {l : List S36} (hu : Uniq (l.map conv)) (hs : Small (l.map conv)) : ∀ (d n : Nat) (last : ByteArray), n + d = l.length → (n = 0 ∨ ∃ (hp : n - 1 < (sortL (l.map conv)).length), last = (sortL (l.map conv))[n - 1].f0) →
    (joinP ((sortL (l.map conv)).take n)).size ≤ n * 200002 → Ev (fun k => deedboxref41_Text.l0 k l (joinP ((sortL (l.map conv)).take n)) last (n : Int)) (textS (l.map conv))
  | 0, n, last, hn, hl, hsz => by
    have hlen : (sortL (l.map conv)).length = l.length := by rw [sortL_len, List.length_map]
    refine Ev.fin fun k => ?_
    simp only [deedboxref41_Text.l0]
    rw [if_neg (by omega), List.take_of_length_le (by omega)]
    rfl
  | d + 1, n, last, hn, hl, hsz => by
    have hlen : (sortL (l.map conv)).length = l.length := by rw [sortL_len, List.length_map]
    have h8 := hs.1
    rw [List.length_map] at h8
    have hnl : n < l.length := by omega
    have hb0 : Best l n last 0 (-1) := .inl ⟨rfl, fun j _ h => by omega⟩
    refine Ev.step (fun k => ?_) (text_inner hu hs hnl (T := textS (l.map conv)) (s := joinP ((sortL (l.map conv)).take n)) (by omega) hl (fun x hx => ?_) l.length 0 (-1) (by omega) hb0)
    · simp only [deedboxref41_Text.l0]
      rw [if_pos (by omega)]
      rfl
    · obtain ⟨hp, hxe⟩ := hx
      have hadd : addP n (joinP ((sortL (l.map conv)).take n)) x = joinP ((sortL (l.map conv)).take (n + 1)) := by
        rw [take_snoc _ _ hp, ← hxe]
        unfold addP
        by_cases h0 : n = 0
        · subst h0
          rw [if_pos rfl, List.take_zero, List.nil_append, joinP_one]
          rfl
        · rw [if_neg h0, joinP_snoc _ _ (fun e => by have := congrArg List.length e; rw [List.length_take, List.length_nil] at this; omega)]
          rfl
      have hxs := hs.2 (sortL (l.map conv))[n] (sortL_mem (List.getElem_mem hp))
      rw [← hxe] at hxs
      have hx1 : x.f0.size ≤ 100000 := hxs.1
      have hx2 : x.f1.size ≤ 100000 := hxs.2
      have hsz2 : (addP n (joinP ((sortL (l.map conv)).take n)) x).size ≤ (n + 1) * 200002 := by
        unfold addP
        have e1 : (⟨#[61]⟩ : ByteArray).size = 1 := rfl
        have e2 : (⟨#[38]⟩ : ByteArray).size = 1 := rfl
        split
        · rw [ByteArray.size_append, ByteArray.size_append, ByteArray.size_append, e1]; omega
        · rw [ByteArray.size_append, ByteArray.size_append, ByteArray.size_append, ByteArray.size_append, e1, e2]; omega
      rw [hadd] at hsz2 ⊢
      refine text_outer hu hs d (n + 1) x.f0 (by omega) (.inr ⟨by omega, ?_⟩) hsz2
      have : (conv x).f0 = (sortL (l.map conv))[n].f0 := by rw [hxe]
      exact this
theorem reftext_tell {l : List S36} (hu : Uniq (l.map conv)) (hs : Small (l.map conv)) : Ev (fun k => deedboxref41_Text.f k l) (textS (l.map conv)) := by
  have := text_outer hu hs l.length 0 (⟨#[]⟩ : ByteArray) (by omega) (.inl rfl) (by simp [joinP, Lib.join]; rfl)
  exact this

/-! ### The reference's plain and Check -/
theorem sign_iff (c : Int) : signB c = true ↔ (97 ≤ c ∧ c ≤ 122) ∨ (65 ≤ c ∧ c ≤ 90) ∨ (48 ≤ c ∧ c ≤ 57) ∨ c = 45 ∨ c = 95 ∨ c = 46 := by
  unfold signB Pl.pairs_sign.f
  repeat' split
  all_goals simp
  all_goals omega
set_option maxHeartbeats 8000000 in
theorem refplain_loop (s : ByteArray) (hs : s.size ≤ 900000) : ∀ (m i : Nat), i + m = s.size → Ev (fun k => deedboxref41_plain.l0 k s (i : Int)) (((bytesOf s).drop i).all signB)
  | 0, i, h => by
    have hl : (bytesOf s).length = s.size := by simp [Go.Proofs.YtefmoefiamjmpaaDoorW.PrintWords.bytesOf]
    refine Ev.fin fun k => ?_
    simp only [deedboxref41_plain.l0]
    rw [if_neg (by omega), List.drop_of_length_le (by omega)]
    rfl
  | m + 1, i, h => by
    have ih := refplain_loop s hs m (i + 1) (by omega)
    have hl : (bytesOf s).length = s.size := by simp [Go.Proofs.YtefmoefiamjmpaaDoorW.PrintWords.bytesOf]
    have hi : i < (bytesOf s).length := by omega
    have hbt : bt s (i : Int) = (bytesOf s)[i] := by
      rw [← rd_bytesOf]
      unfold rd
      rw [Int.toNat_natCast, List.getD_eq_getElem?_getD, List.getElem?_eq_getElem hi]
      rfl
    rw [List.drop_eq_getElem_cons hi, List.all_cons]
    have hw : wrap64 ((i : Int) + 1) = ((i + 1 : Nat) : Int) := next_w (by omega)
    generalize (bytesOf s)[i] = c at hbt
    cases hb : signB c with
    | false =>
      have hn := fun h => (Bool.eq_false_iff.1 hb) ((sign_iff c).2 h)
      refine Ev.fin fun k => ?_
      simp only [deedboxref41_plain.l0]
      rw [if_pos (by omega), if_pos (by omega), hbt, Bool.false_and]
      repeat' split
      all_goals first | rfl | (exact absurd (by omega) hn)
    | true =>
      have hn := (sign_iff c).1 hb
      rw [Bool.true_and]
      refine Ev.step (fun k => ?_) ih
      simp only [deedboxref41_plain.l0]
      rw [if_pos (by omega), if_pos (by omega), hbt, hw]
      repeat' split
      all_goals first | rfl | (exfalso; omega)
theorem refplain_tell (s : ByteArray) (hs : s.size ≤ 900000) : Ev (fun k => deedboxref41_plain.f k s) (plainB s) := refplain_loop s hs s.size 0 (by omega)
/-- What Check comes to, behind the pairs that were met. -/
def valC (p q : List S45) : Int := if checkL p q = 0 then (if 24 < (textS (p ++ q)).size then 17 else 0) else checkL p q
theorem checkL_stop {p q : List S45} {x : S45} {c : Int} (h : checkL p (x :: q) = c) (hc : c ≠ 0) : valC p (x :: q) = c := by
  unfold valC
  rw [h, if_neg hc]
theorem valC_next {p q : List S45} {x : S45} (h : checkL p (x :: q) = checkL (p ++ [x]) q) : valC p (x :: q) = valC (p ++ [x]) q := by
  unfold valC
  rw [h, List.append_assoc]
  rfl
theorem refcheck_inner (l : List S36) (i : Nat) (hi : i < l.length) (h8 : l.length ≤ 8) (T : Int) (hT : (∃ j, ∃ (hj : j < l.length), j < i ∧ l[j].f0.toList = l[i].f0.toList) → T = 10)
    (ih : ¬ (∃ j, ∃ (hj : j < l.length), j < i ∧ l[j].f0.toList = l[i].f0.toList) → Ev (fun k => deedboxref41_Check.l0 k l ((i + 1 : Nat) : Int)) T) :
    ∀ (d j : Nat), j + d = i → (∀ j' (h : j' < l.length), j' < j → l[j'].f0.toList ≠ l[i].f0.toList) → Ev (fun k => deedboxref41_Check.l1 k l (i : Int) (j : Int)) T
  | 0, j, hj, hno => by
    obtain rfl : j = i := by omega
    refine Ev.step (fun k => ?_) (ih fun ⟨j', h1, h2, h3⟩ => hno j' h1 h2 h3)
    simp only [deedboxref41_Check.l1]
    rw [if_neg (by omega), next_w (by omega)]
  | d + 1, j, hj, hno => by
    have hjl : j < l.length := by omega
    by_cases he : l[j].f0.toList = l[i].f0.toList
    · rw [hT ⟨j, hjl, by omega, he⟩]
      refine Ev.fin fun k => ?_
      simp only [deedboxref41_Check.l1]
      rw [if_pos (by omega), if_pos (by omega), if_pos (by omega), if_pos (by omega), if_pos (by omega), rd36 hjl, rd36 hi, if_pos he]
    · refine Ev.step (fun k => ?_) (refcheck_inner l i hi h8 T hT ih d (j + 1) (by omega) fun j' h1 h2 => ?_)
      · simp only [deedboxref41_Check.l1]
        rw [if_pos (by omega), if_pos (by omega), if_pos (by omega), if_pos (by omega), if_pos (by omega), rd36 hjl, rd36 hi, if_neg he, next_w (by omega)]
      · by_cases e : j' = j
        · subst e; exact he
        · exact hno j' h1 (by omega)
theorem refcheck_loop (l : List S36) (hs : Small (l.map conv)) : ∀ (q p : List S36), l = p ++ q → Uniq (p.map conv) → Ev (fun k => deedboxref41_Check.l0 k l (p.length : Int)) (valC (p.map conv) (q.map conv))
  | [], p, hp, hu => by
    rw [List.append_nil] at hp
    subst hp
    have ht := reftext_tell hu hs
    have hv : valC (l.map conv) (([] : List S36).map conv) = if 24 < (textS (l.map conv)).size then 17 else 0 := by
      unfold valC
      rw [List.map_nil, List.append_nil, show checkL (l.map conv) [] = 0 from rfl, if_pos rfl]
    rw [hv]
    refine Ev.step (f := fun k => (deedboxref41_Text.f k l).bind fun t => if (t.size : Int) > 24 then some 17 else some 0) (fun k => ?_) (Ev.bind ht (Ev.congr (fun k => ?_) (Ev.now _)))
    · simp only [deedboxref41_Check.l0]
      rw [if_neg (by omega)]
    · by_cases h : 24 < (textS (l.map conv)).size
      · rw [if_pos (by omega), if_pos h]
      · rw [if_neg (by omega), if_neg h]
  | x :: q, p, hp, hu => by
    have h8 := hs.1
    rw [List.length_map] at h8
    have hll : l.length = p.length + q.length + 1 := by rw [hp]; simp; omega
    have hil : p.length < l.length := by omega
    have hx : l[p.length] = x := by simp [hp]
    have hxs := hs.2 (conv x) (List.mem_map.2 ⟨x, by rw [hp]; simp, rfl⟩)
    have hx1 : x.f0.size ≤ 100000 := hxs.1
    have hx2 : x.f1.size ≤ 100000 := hxs.2
    have hp1 := refplain_tell x.f0 (by omega)
    have hp2 := refplain_tell x.f1 (by omega)
    have four : ∀ k, deedboxref41_Check.j1 (k + 1) l (p.length : Int) true = some 4 := fun k => by simp only [deedboxref41_Check.j1, if_true]
    have bad : (x.f0.toList = [] ∨ plainB x.f0 = false ∨ plainB x.f1 = false) → valC (p.map conv) ((x :: q).map conv) = 4 := fun h => by
      rw [List.map_cons]
      refine checkL_stop ?_ (by decide)
      simp only [checkL]
      exact if_pos h
    by_cases h0 : x.f0.toList = []
    · rw [bad (.inl h0)]
      refine Ev.step (f := fun k => deedboxref41_Check.j1 k l (p.length : Int) true) (fun k => ?_) (Ev.fin four)
      simp only [deedboxref41_Check.l0]
      rw [if_pos (by omega), if_pos (by omega), rd36 hil, hx, if_pos h0]
    · refine Ev.step (f := fun k => (deedboxref41_plain.f k x.f0).bind fun t172 => (if t172 = true then ((deedboxref41_plain.f k x.f1).bind fun t174 => (deedboxref41_Check.j1 k l (p.length : Int) (!t174))) else (deedboxref41_Check.j1 k l (p.length : Int) true))) (fun k => ?_) (Ev.bind hp1 ?_)
      · simp only [deedboxref41_Check.l0]
        rw [if_pos (by omega), if_pos (by omega), rd36 hil, hx, if_neg h0]
      · cases h1 : plainB x.f0 with
        | false =>
          rw [bad (.inr (.inl h1))]
          exact Ev.congr (fun k => by rw [if_neg (by simp)]) (Ev.fin four)
        | true =>
          refine Ev.congr (f := fun k => (deedboxref41_plain.f k x.f1).bind fun t174 => (deedboxref41_Check.j1 k l (p.length : Int) (!t174))) (fun k => by rw [if_pos rfl]) (Ev.bind hp2 ?_)
          cases h2 : plainB x.f1 with
          | false =>
            rw [bad (.inr (.inr h2))]
            exact Ev.fin four
          | true =>
            have hdup : (∃ y ∈ p.map conv, y.f0.data.toList = (conv x).f0.data.toList) ↔ ∃ j, ∃ (hj : j < l.length), j < p.length ∧ l[j].f0.toList = l[p.length].f0.toList := by
              rw [hx]
              constructor
              · rintro ⟨y, hy, he⟩
                obtain ⟨z, hz, rfl⟩ := List.mem_map.1 hy
                obtain ⟨j, hj, rfl⟩ := List.mem_iff_getElem.1 hz
                refine ⟨j, by omega, hj, ?_⟩
                rw [Lib.toList_data, Lib.toList_data]
                have : l[j]'(by omega) = p[j] := by simp [hp, List.getElem_append_left hj]
                rw [this]
                exact he
              · rintro ⟨j, hj, hjp, he⟩
                rw [Lib.toList_data, Lib.toList_data] at he
                have : l[j] = p[j] := by simp [hp, List.getElem_append_left hjp]
                rw [this] at he
                exact ⟨conv p[j], List.mem_map.2 ⟨p[j], List.getElem_mem hjp, rfl⟩, he⟩
            have hck : ¬ ((conv x).f0.toList = [] ∨ plainB (conv x).f0 = false ∨ plainB (conv x).f1 = false) := fun h => by
              rcases h with h | h | h
              · exact h0 h
              · exact absurd (h1.symm.trans h) (by simp)
              · exact absurd (h2.symm.trans h) (by simp)
            refine Ev.step (f := fun k => deedboxref41_Check.l1 k l (p.length : Int) ((0 : Nat) : Int)) (fun k => by simp only [deedboxref41_Check.j1, Bool.not_true, Bool.false_eq_true, if_false]; rfl) (refcheck_inner l p.length hil h8 _ (fun hd => ?_) (fun hd => ?_) p.length 0 (by omega) (fun j' _ h => by omega))
            · rw [List.map_cons]
              refine checkL_stop ?_ (by decide)
              simp only [checkL]
              rw [if_neg hck, if_pos (hdup.2 hd)]
            · have hnd := fun h => hd (hdup.1 h)
              rw [List.map_cons, valC_next (by
                simp only [checkL]
                rw [if_neg hck, if_neg hnd]), show p.map conv ++ [conv x] = (p ++ [x]).map conv from by simp, show ((p.length + 1 : Nat) : Int) = ((p ++ [x]).length : Int) from by simp]
              refine refcheck_loop l hs q (p ++ [x]) (by rw [hp]; simp) ?_
              unfold Uniq
              rw [List.map_append, List.map_singleton, List.pairwise_append]
              refine ⟨hu, by simp, fun a ha b hb => ?_⟩
              rw [List.mem_singleton.1 hb]
              intro e
              rw [Lib.toList_data, Lib.toList_data] at e
              exact hnd ⟨a, ha, e⟩
theorem refcheck_tell (l : List S36) (hs : l.length ≤ 8 → Small (l.map conv)) : ∃ c, pairs_Check.f (l.map conv) = some c ∧ Ev (fun k => deedboxref41_Check.f k l) c := by
  unfold pairs_Check.f deedboxref41_Check.f
  rw [List.length_map]
  by_cases h8 : 8 < l.length
  · exact ⟨16, by rw [if_pos h8], Ev.congr (fun k => by rw [if_pos (by omega)]) (Ev.now _)⟩
  · have hsm := hs (by omega)
    refine ⟨valC [] (l.map conv), by rw [if_neg h8, if_pos hsm]; rfl, Ev.congr (fun k => by rw [if_neg (by omega)]; rfl) (refcheck_loop l hsm l [] rfl ?_)⟩
    exact List.Pairwise.nil

theorem checkL_uniq : ∀ (q p : List S45), checkL p q = 0 → Uniq p → Uniq (p ++ q)
  | [], p, _, hu => by rw [List.append_nil]; exact hu
  | x :: q, p, h, hu => by
    simp only [checkL] at h
    split at h
    · cases h
    · split at h
      · cases h
      · rename_i hnd
        have := checkL_uniq q (p ++ [x]) h (by
          unfold Uniq
          rw [List.pairwise_append]
          refine ⟨hu, by simp, fun a ha b hb => ?_⟩
          rw [List.mem_singleton.1 hb]
          intro e
          rw [Lib.toList_data, Lib.toList_data] at e
          exact hnd ⟨a, ha, e⟩)
        rwa [List.append_assoc] at this
theorem check_zero {L : List S45} (h : pairs_Check.f L = some 0) : Small L ∧ Uniq L := by
  unfold pairs_Check.f at h
  split at h
  · cases h
  · split at h
    · rename_i hs
      have h := Option.some.inj h
      split at h
      · rename_i hc
        have := checkL_uniq L [] hc List.Pairwise.nil
        exact ⟨hs, this⟩
      · rename_i hc
        exact absurd h hc
    · cases h

/-! ### Get -/
/-- A part before and behind its first sign of equality. -/
def cutL : List Int → Option (List Int × List Int)
  | [] => none
  | c :: r => if c = 61 then some ([], r) else (cutL r).map fun z => (c :: z.1, z.2)
theorem cutL_no : ∀ {p : List Int}, (61 : Int) ∉ p → cutL p = none
  | [], _ => rfl
  | c :: r, h => by
    rw [List.mem_cons, not_or] at h
    unfold cutL
    rw [if_neg (fun e => h.1 e.symm), cutL_no h.2]
    rfl
theorem cutL_at : ∀ {w : List Int} (v : List Int), (61 : Int) ∉ w → cutL (w ++ 61 :: v) = some (w, v)
  | [], v, _ => by unfold cutL; rfl
  | c :: w, v, h => by
    rw [List.mem_cons, not_or] at h
    rw [List.cons_append]
    unfold cutL
    rw [if_neg (fun e => h.1 e.symm), cutL_at v h.2]
    rfl
/-- What the pairs come to, in a text. -/
def finG (S : ByteArray) (acc : List S45) : List S45 × Int :=
  match pairs_Check.f acc with
  | some c => if c = 0 then (if (textS acc).toList = S.toList then (acc, 0) else ([], 4)) else ([], c)
  | none => ([], 0)
def getR (S : ByteArray) : List (List Int) → List S45 → List S45 × Int
  | [], acc => finG S acc
  | p :: q, acc => match cutL p with
    | none => ([], 4)
    | some (w, v) => getR S q (acc ++ [⟨strOfNums w, strOfNums v⟩])
def eqs : ByteArray := ⟨#[61]⟩
theorem cut_at {p : List Int} (q : List Int) (hB : Byt (p ++ 61 :: q)) (h : (61 : Int) ∉ p) (hl : (p ++ 61 :: q).length < 1000000) : strings_Cut.f (strOfNums (p ++ 61 :: q)) (⟨#[61]⟩ : ByteArray) = some (strOfNums p, strOfNums q, true) := by
  unfold strings_Cut.f stringslite_Cut.f stringslite_Index.f
  have h1 : (⟨#[61]⟩ : ByteArray).size = 1 := rfl
  have hsz := str_size (p ++ 61 :: q)
  have hl2 := hl
  simp only [List.length_append, List.length_cons] at hsz hl2
  rw [if_pos h1, show (⟨#[61]⟩ : ByteArray).data.toList.getD 0 0 = UInt8.ofNat (61 : Int).toNat from rfl, index_at (by omega) q hB.left h, Option.bind_some, h1, show (((1 : Nat)) : Int) = 1 from rfl, if_pos (by omega), if_pos (by omega), if_pos (by omega), wr (n := (p.length : Int) + 1) (by omega) (by omega), if_pos (by omega), if_pos (by omega), Option.bind_some, str_cut, str_cut]
  have e1 : ((p ++ 61 :: q).take (strOfNums (p ++ 61 :: q)).size).drop ((p.length : Int) + 1).toNat = q := by
    rw [List.take_of_length_le (by simp only [List.length_append, List.length_cons]; omega), show ((p.length : Int) + 1).toNat = p.length + 1 by omega]
    simp
  have e2 : ((p ++ 61 :: q).take (p.length : Int).toNat).drop 0 = p := by rw [Int.toNat_natCast]; simp
  rw [e1, e2]
theorem cut_no {p : List Int} (hB : Byt p) (h : (61 : Int) ∉ p) : strings_Cut.f (strOfNums p) (⟨#[61]⟩ : ByteArray) = some (strOfNums p, (⟨#[]⟩ : ByteArray), false) := by
  unfold strings_Cut.f stringslite_Cut.f stringslite_Index.f
  have h1 : (⟨#[61]⟩ : ByteArray).size = 1 := rfl
  rw [if_pos h1, show (⟨#[61]⟩ : ByteArray).data.toList.getD 0 0 = UInt8.ofNat (61 : Int).toNat from rfl, index_no (by omega) hB h, Option.bind_some, if_neg (by omega), Option.bind_some]
/-- The program's Get, part by part. -/
theorem get_loop (S : ByteArray) : ∀ (q p : List (List Int)) (acc : List S45), (∀ c ∈ q, Byt c ∧ c.length ≤ 1000) → p.length + q.length ≤ 1000 → acc.length = p.length →
    (∀ x ∈ acc, x.f0.size ≤ 1000 ∧ x.f1.size ≤ 1000) → Ev (fun k => pairs_Get.l0 k S acc ((p ++ q).map strOfNums) (((p ++ q).length : Nat) : Int) (p.length : Int)) (getR S q acc)
  | [], p, acc, hq, hl, ha, hsz => by
    rw [List.append_nil]
    have hc : ∃ c, pairs_Check.f acc = some c := by
      unfold pairs_Check.f
      by_cases h8 : 8 < acc.length
      · exact ⟨_, if_pos h8⟩
      · rw [if_neg h8, if_pos (show Small acc from ⟨by omega, fun x hx => ⟨Nat.le_trans (hsz x hx).1 (by decide), Nat.le_trans (hsz x hx).2 (by decide)⟩⟩)]
        exact ⟨_, rfl⟩
    obtain ⟨c, hc⟩ := hc
    refine Ev.fin fun k => ?_
    simp only [pairs_Get.l0]
    rw [if_neg (by omega), hc, Option.bind_some]
    unfold getR finG
    rw [hc]
    simp only
    by_cases h0 : c = 0
    · subst h0
      have hsm := (check_zero hc).1
      rw [if_pos rfl, if_pos rfl, show pairs_text.f acc = some (textS acc) from if_pos hsm, Option.bind_some]
      split <;> rfl
    · rw [if_neg h0, if_neg h0]
  | c :: q, p, acc, hq, hl, ha, hsz => by
    simp only [List.length_cons] at hl
    obtain ⟨hcB, hcl⟩ := hq c (by simp)
    have e : p ++ c :: q = (p ++ [c]) ++ q := by simp
    have hlen : (p ++ c :: q).length = p.length + q.length + 1 := by simp; omega
    have hrd : rdOf ByteArray.empty ((p ++ c :: q).map strOfNums) (p.length : Int) = strOfNums c := by
      unfold rdOf
      rw [List.map_append, List.map_cons, Int.toNat_natCast]
      simp
    rcases first_at 61 c with hn | ⟨w, v, hw, rfl⟩
    · unfold getR
      rw [cutL_no hn]
      refine Ev.fin fun k => ?_
      simp only [pairs_Get.l0]
      rw [if_pos (by omega), if_pos (by omega), if_pos (by rw [List.length_map]; omega), hrd, cut_no hcB hn, Option.bind_some, if_neg (by simp)]
    · unfold getR
      rw [cutL_at v hw]
      have hwl := hcl
      simp only [List.length_append, List.length_cons] at hwl
      have ih := get_loop S q (p ++ [w ++ 61 :: v]) (acc ++ [⟨strOfNums w, strOfNums v⟩]) (fun d hd => hq d (List.mem_cons_of_mem _ hd)) (by simp only [List.length_append, List.length_singleton]; omega) (by simp [ha]) (fun x hx => by
        rcases List.mem_append.1 hx with hx | hx
        · exact hsz x hx
        · rw [List.mem_singleton.1 hx]
          have h1 : (strOfNums w).size = w.length := strOfNums_size _
          have h2 : (strOfNums v).size = v.length := strOfNums_size _
          exact ⟨by show (strOfNums w).size ≤ 1000; omega, by show (strOfNums v).size ≤ 1000; omega⟩)
      rw [← e, show (p ++ [w ++ 61 :: v]).length = p.length + 1 from by simp] at ih
      refine Ev.step (fun k => ?_) ih
      simp only [pairs_Get.l0]
      rw [if_pos (by omega), if_pos (by omega), if_pos (by rw [List.length_map]; omega), hrd, cut_at v hcB hw (by omega), Option.bind_some, if_pos rfl, if_pos (by omega), next_w (by omega)]

/-! ### The reference's parts and Get -/
theorem refparts_loop : ∀ (r p c : List Int) (acc : List ByteArray), Byt (p ++ c ++ r) → (p ++ c ++ r).length < 100000 → (38 : Int) ∉ c → acc.length + r.length < 200000 →
    Ev (fun k => deedboxref41_parts.l0 k (strOfNums (p ++ c ++ r)) acc (p.length : Int) ((p ++ c).length : Int)) (acc ++ (splitC 38 (c ++ r)).map strOfNums)
  | [], p, c, acc, hB, hl, hc, ha => by
    have hsz := str_size (p ++ c ++ [])
    simp only [List.append_nil] at hsz hl hB ⊢
    simp only [List.length_append] at hsz hl
    simp only [List.length_nil] at ha
    refine Ev.fin fun k => ?_
    simp only [deedboxref41_parts.l0]
    rw [if_neg (by simp only [List.length_append]; omega), if_pos (by omega), if_pos (by omega), if_pos (by omega), split_no hc, str_cut, Int.toNat_natCast, List.take_of_length_le (by simp only [List.length_append]; omega), List.drop_left]
    rfl
  | x :: r, p, c, acc, hB, hl, hc, ha => by
    have hsz := str_size (p ++ c ++ x :: r)
    have hx := bt_next hB
    have hl2 := hl
    simp only [List.length_append, List.length_cons] at hsz hl2 ha
    by_cases h : x = 38
    · subst h
      have e : p ++ c ++ 38 :: r = (p ++ c ++ [38]) ++ [] ++ r := by simp
      have ih := refparts_loop r (p ++ c ++ [38]) [] (acc ++ [strOfNums c]) (by rw [← e]; exact hB) (by rw [← e]; exact hl) (by simp) (by simp only [List.length_append, List.length_singleton]; omega)
      rw [← e, List.nil_append, List.append_nil, show (p ++ c ++ [(38 : Int)]).length = (p ++ c).length + 1 from by simp; omega] at ih
      rw [split_at r hc, List.map_cons, show acc ++ strOfNums c :: (splitC 38 r).map strOfNums = acc ++ [strOfNums c] ++ (splitC 38 r).map strOfNums from by simp]
      refine Ev.step (fun k => ?_) ih
      simp only [deedboxref41_parts.l0]
      rw [if_pos (by simp only [List.length_append]; omega), if_pos (by omega), hx, if_pos rfl, if_pos (by omega), if_pos (by simp only [List.length_append]; omega), if_pos (by simp only [List.length_append]; omega), if_pos (by omega), next_w (by simp only [List.length_append]; omega), str_cut, Int.toNat_natCast, Int.toNat_natCast, List.take_left, List.drop_left]
    · have e : p ++ c ++ x :: r = p ++ (c ++ [x]) ++ r := by simp
      have ih := refparts_loop r p (c ++ [x]) acc (by rw [← e]; exact hB) (by rw [← e]; exact hl) (fun hh => by
        rcases List.mem_append.1 hh with hh | hh
        · exact hc hh
        · exact h (List.mem_singleton.1 hh).symm) (by omega)
      rw [← e, show (p ++ (c ++ [x])).length = (p ++ c).length + 1 from by simp; omega, show c ++ [x] ++ r = c ++ x :: r from by simp] at ih
      refine Ev.step (fun k => ?_) ih
      simp only [deedboxref41_parts.l0]
      rw [if_pos (by simp only [List.length_append]; omega), if_pos (by omega), hx, if_neg h, next_w (by simp only [List.length_append]; omega)]
theorem refparts_tell {xs : List Int} (hB : Byt xs) (hl : xs.length < 100000) : Ev (fun k => deedboxref41_parts.f k (strOfNums xs)) ((splitC 38 xs).map strOfNums) := by
  have := refparts_loop xs [] [] [] hB hl (by simp) (by simpa using by omega)
  exact this
theorem refcut_loop (S : ByteArray) (ps : List ByteArray) (acc : List S36) (i : Nat) (hi : i < ps.length) (hil : ps.length ≤ 1000) (ha : acc.length ≤ 1000) {c : List Int} (hB : Byt c) (hcl : c.length ≤ 1000) (hrd : rdOf ByteArray.empty ps (i : Int) = strOfNums c) {T : List S36 × Int}
    (hno : cutL c = none → T = ([], 4))
    (hat : ∀ w v, c = w ++ 61 :: v → (61 : Int) ∉ w → Ev (fun k => deedboxref41_Get.l0 k S ps (acc ++ [⟨strOfNums w, strOfNums v⟩]) ((i + 1 : Nat) : Int)) T) :
    ∀ (r w : List Int), c = w ++ r → (61 : Int) ∉ w → Ev (fun k => deedboxref41_Get.l1 k S ps acc (i : Int) (w.length : Int)) T
  | [], w, hc, hw => by
    rw [List.append_nil] at hc
    subst hc
    have hs := str_size c
    rw [hno (cutL_no hw)]
    refine Ev.fin fun k => ?_
    simp only [deedboxref41_Get.l1]
    rw [if_pos (by omega), if_pos (by omega), hrd, if_neg (by omega), if_pos (by omega)]
  | x :: r, w, hc, hw => by
    have hs := str_size c
    have hbx : bt (strOfNums c) (w.length : Int) = x := by
      subst hc
      exact bt_next hB
    have hcl2 : c.length = w.length + r.length + 1 := by rw [hc]; simp; omega
    by_cases h : x = 61
    · subst h
      refine Ev.step (fun k => ?_) (hat w r hc hw)
      simp only [deedboxref41_Get.l1]
      rw [if_pos (by omega), if_pos (by omega), hrd, if_pos (by omega), if_pos (by omega), hbx, if_pos rfl, if_neg (by omega), if_pos (by omega), next_w (by omega), if_pos (by omega), if_pos (by omega), if_pos (by omega), next_w (by omega), str_cut, str_cut]
      subst hc
      rw [Int.toNat_natCast, Int.toNat_natCast, List.drop_zero, List.take_left, List.take_of_length_le (by omega)]
      congr 5
      simp
    · refine Ev.step (fun k => ?_) (refcut_loop S ps acc i hi hil ha hB hcl hrd hno hat r (w ++ [x]) (by rw [hc]; simp) (fun hh => by
        rcases List.mem_append.1 hh with hh | hh
        · exact hw hh
        · exact h (List.mem_singleton.1 hh).symm))
      simp only [deedboxref41_Get.l1]
      rw [if_pos (by omega), if_pos (by omega), hrd, if_pos (by omega), if_pos (by omega), hbx, if_neg h, next_w (by omega), show (w ++ [x]).length = w.length + 1 from by simp]

/-! ### Split at a sign of one byte -/
def one (c : Int) : ByteArray := strOfNums [c]
theorem one_size (c : Int) : (one c).size = 1 := by unfold one; rw [strOfNums_size]; rfl
theorem one_get (c : Int) : (one c).data.toList.getD 0 0 = UInt8.ofNat c.toNat := by unfold one; rw [data_str]; rfl
theorem one_ne (c : Int) : ¬ (one c).toList = [] := fun h => by have := toList_nil h; simp at this

theorem index_walk_at {c : Int} (hc : 0 ≤ c ∧ c < 256) {p : List Int} (q : List Int) (hp : Byt p) (h : c ∉ p) : strings_Index.f (strOfNums (p ++ c :: q)) (one c) = some (p.length : Int) := by
  unfold strings_Index.f stringslite_Index.f
  rw [if_pos (one_size c), one_get, index_at hc q hp h]; rfl
theorem index_walk_no {c : Int} (hc : 0 ≤ c ∧ c < 256) {p : List Int} (hp : Byt p) (h : c ∉ p) : strings_Index.f (strOfNums p) (one c) = some (-1) := by
  unfold strings_Index.f stringslite_Index.f
  rw [if_pos (one_size c), one_get, index_no hc hp h]; rfl

theorem gen_last {c n i : Int} {a done : List ByteArray} {t : List Int} (hi0 : 0 ≤ i) (hn : i = n - 1) (hl : (a.length : Int) = n) (hd : a.take i.toNat = done) (hb : n < 10000000) :
    Ev (fun k => strings_genSplit.l0 k (strOfNums t) (one c) 0 (n - 1) a i) (done ++ [strOfNums t]) := by
  refine Ev.step (f := fun _ => some (done ++ [strOfNums t])) (fun k => ?_) (Ev.now _)
  simp only [strings_genSplit.l0]
  rw [if_neg (by omega), if_pos hi0, if_pos (by omega), wr (n := i + 1) (by omega) (by omega), if_pos (by omega), if_pos (by omega), show (i + 1).toNat = i.toNat + 1 by omega, take_set a i.toNat _ (by omega), hd]
theorem gen_next {c n i : Int} (hc : 0 ≤ c ∧ c < 256) {a : List ByteArray} {p q : List Int} {r : List ByteArray} (hB : Byt (p ++ c :: q)) (hp : c ∉ p) (hi0 : 0 ≤ i) (hn : i < n - 1) (hl : (a.length : Int) = n) (hb : n < 10000000) (hlen : (p ++ c :: q).length < 10000000)
    (g : Ev (fun k => strings_genSplit.l0 k (strOfNums q) (one c) 0 (n - 1) (a.set i.toNat (strOfNums p)) (i + 1)) r) :
    Ev (fun k => strings_genSplit.l0 k (strOfNums (p ++ c :: q)) (one c) 0 (n - 1) a i) r := by
  have hsz := str_size (p ++ c :: q)
  have hlen2 := hlen
  simp only [List.length_append, List.length_cons] at hsz hlen2
  refine Ev.step (fun k => ?_) g
  simp only [strings_genSplit.l0]
  have h1 : ((one c).size : Int) = 1 := by rw [one_size]; rfl
  rw [if_pos hn, index_walk_at hc q hB.left hp, Option.bind_some, if_neg (by omega), h1, Int.add_zero, wr (n := (p.length : Int)) (by omega) (by omega), if_pos (by omega), if_pos (by omega), if_pos hi0, if_pos (by omega), wr (n := (p.length : Int) + 1) (by omega) (by omega), if_pos (by omega), if_pos (by omega), wr (n := i + 1) (by omega) (by omega), str_cut, str_cut]
  have e1 : ((p ++ c :: q).take (strOfNums (p ++ c :: q)).size).drop ((p.length : Int) + 1).toNat = q := by
    rw [List.take_of_length_le (by simp only [List.length_append, List.length_cons]; omega), show ((p.length : Int) + 1).toNat = p.length + 1 by omega]
    simp
  have e2 : ((p ++ c :: q).take (p.length : Int).toNat).drop 0 = p := by
    rw [Int.toNat_natCast]; simp
  rw [e1, e2]

theorem gen_all {c : Int} (hc : 0 ≤ c ∧ c < 256) : ∀ (d : Nat) (t : List Int) (a done : List ByteArray) (i n : Int), (splitC c t).length = d + 1 → Byt t → 0 ≤ i → i + d + 1 = n → (a.length : Int) = n → a.take i.toNat = done → n < 10000000 → t.length < 10000000 →
    Ev (fun k => strings_genSplit.l0 k (strOfNums t) (one c) 0 (n - 1) a i) (done ++ (splitC c t).map strOfNums)
  | 0, t, a, done, i, n, hd, hB, hi0, hn, hl, hda, hb, ht => by
    rw [split_no (split_one hd)]
    exact gen_last hi0 (by omega) hl hda hb
  | d + 1, t, a, done, i, n, hd, hB, hi0, hn, hl, hda, hb, ht => by
    obtain ⟨p, q, hp, rfl, e⟩ := split_two (c := c) (t := t) (by omega)
    rw [e] at hd ⊢
    simp only [List.length_append, List.length_cons] at hd ht
    have ih := gen_all hc d q (a.set i.toNat (strOfNums p)) (done ++ [strOfNums p]) (i + 1) n (by omega) hB.right.cons.2 (by omega) (by omega) (by simpa using hl) (by
      rw [show (i + 1).toNat = i.toNat + 1 by omega, take_set a i.toNat _ (by omega), hda]) hb (by omega)
    refine gen_next hc hB hp hi0 (by omega) hl hb (by simp only [List.length_append, List.length_cons]; omega) ?_
    simpa [List.append_assoc] using ih

theorem split_tell {c : Int} (hc : 0 ≤ c ∧ c < 256) (t : List Int) (hB : Byt t) (ht : t.length < 1000000) : Ev (fun k => strings_Split.f k (strOfNums t) (one c)) ((splitC c t).map strOfNums) := by
  have hcount := count_split hc t hB
  have hlen := split_len c t.length t (Nat.le_refl _)
  have hne := split_ne c t
  have hsz := str_size t
  unfold strings_Split.f
  refine Ev.bind ?_ (Ev.now _)
  unfold strings_genSplit.f
  have hC : strings_Count.f (strOfNums t) (one c) = some (((splitC c t).length : Int) - 1) := by
    unfold strings_Count.f
    rw [if_pos (one_size c), one_get]
    congr 1; omega
  refine Ev.congr (f := fun k => strings_genSplit.j0 k (strOfNums t) (one c) 0 ((splitC c t).length : Int)) (fun k => ?_) ?_
  · rw [if_neg (by omega), if_neg (one_ne c), if_pos (by omega), hC, Option.bind_some, wr (by omega) (by omega), show ((splitC c t).length : Int) - 1 + 1 = ((splitC c t).length : Int) by omega]
  · have hmn : mn ((splitC c t).length : Int) (wrap64 (((strOfNums t).size : Int) + 1)) = ((splitC c t).length : Int) := by
      rw [wr (by omega) (by omega)]
      unfold mn
      rw [if_neg (by omega)]
    have g := gen_all hc ((splitC c t).length - 1) t (List.replicate (splitC c t).length (⟨#[]⟩ : ByteArray)) [] 0 ((splitC c t).length : Int) (by omega) hB (by omega) (by omega) (by simp) (by simp) (by omega) (by omega)
    rw [List.nil_append] at g
    refine Ev.step (fun k => ?_) g
    simp only [strings_genSplit.j0]
    rw [hmn, if_pos (by omega), Int.toNat_natCast, if_pos (by omega), wr (n := ((splitC c t).length : Int) - 1) (by omega) (by omega)]

theorem refget_loop (S : ByteArray) : ∀ (q p : List (List Int)) (acc : List S36), (∀ c ∈ q, Byt c ∧ c.length ≤ 1000) → p.length + q.length ≤ 1000 → acc.length = p.length →
    (∀ x ∈ acc, x.f0.size ≤ 1000 ∧ x.f1.size ≤ 1000) → ∃ r, Ev (fun k => deedboxref41_Get.l0 k S ((p ++ q).map strOfNums) acc (p.length : Int)) r ∧ (r.1.map conv, r.2) = getR S q (acc.map conv)
  | [], p, acc, hq, hl, ha, hsz => by
    rw [List.append_nil]
    have hs : acc.length ≤ 8 → Small (acc.map conv) := fun h8 => ⟨by rw [List.length_map]; exact h8, fun x hx => by
      obtain ⟨y, hy, rfl⟩ := List.mem_map.1 hx
      exact ⟨Nat.le_trans (hsz y hy).1 (by decide), Nat.le_trans (hsz y hy).2 (by decide)⟩⟩
    obtain ⟨c, hc, hE⟩ := refcheck_tell acc hs
    have start : ∀ {g : Nat → Option (List S36 × Int)} {r}, (∀ k, g k = if c = 0 then ((deedboxref41_Text.f k acc).bind fun t201 => (if t201.toList = S.toList then (some (acc, 0)) else (some (([] : List (S36)), 4)))) else (some (([] : List (S36)), c))) → Ev g r → Ev (fun k => deedboxref41_Get.l0 k S (p.map strOfNums) acc (p.length : Int)) r := fun hg hr => by
      refine Ev.step (f := fun k => (deedboxref41_Check.f k acc).bind fun t200 => (if t200 = 0 then ((deedboxref41_Text.f k acc).bind fun t201 => (if t201.toList = S.toList then (some (acc, 0)) else (some (([] : List (S36)), 4)))) else (some (([] : List (S36)), t200)))) (fun k => ?_) (Ev.bind hE (Ev.congr (fun k => (hg k).symm) hr))
      simp only [deedboxref41_Get.l0]
      rw [if_neg (by rw [List.length_map]; omega)]
    have hfin : getR S [] (acc.map conv) = if c = 0 then (if (textS (acc.map conv)).toList = S.toList then (acc.map conv, 0) else ([], 4)) else ([], c) := by
      unfold getR finG
      rw [hc]
    by_cases h0 : c = 0
    · subst h0
      obtain ⟨hsm, hu⟩ := check_zero hc
      have ht := reftext_tell hu hsm
      by_cases he : (textS (acc.map conv)).toList = S.toList
      · exact ⟨(acc, 0), start (g := fun k => (deedboxref41_Text.f k acc).bind fun t201 => (if t201.toList = S.toList then (some (acc, 0)) else (some (([] : List (S36)), 4)))) (fun k => by rw [if_pos rfl]) (Ev.bind ht (Ev.congr (fun k => by rw [if_pos he]) (Ev.now _))), by rw [hfin, if_pos rfl, if_pos he]⟩
      · exact ⟨([], 4), start (g := fun k => (deedboxref41_Text.f k acc).bind fun t201 => (if t201.toList = S.toList then (some (acc, 0)) else (some (([] : List (S36)), 4)))) (fun k => by rw [if_pos rfl]) (Ev.bind ht (Ev.congr (fun k => by rw [if_neg he]) (Ev.now _))), by rw [hfin, if_pos rfl, if_neg he]; rfl⟩
    · exact ⟨([], c), start (g := fun k => some ([], c)) (fun k => by rw [if_neg h0]) (Ev.now _), by rw [hfin, if_neg h0]; rfl⟩
  | c :: q, p, acc, hq, hl, ha, hsz => by
    simp only [List.length_cons] at hl
    obtain ⟨hcB, hcl⟩ := hq c (by simp)
    have e : p ++ c :: q = (p ++ [c]) ++ q := by simp
    have hlen : ((p ++ c :: q).map strOfNums).length = p.length + q.length + 1 := by simp; omega
    have hrd : rdOf ByteArray.empty ((p ++ c :: q).map strOfNums) (p.length : Int) = strOfNums c := by
      unfold rdOf
      rw [List.map_append, List.map_cons, Int.toNat_natCast]
      simp
    have go : ∀ {T}, (cutL c = none → T = ([], 4)) → (∀ w v, c = w ++ 61 :: v → (61 : Int) ∉ w → Ev (fun k => deedboxref41_Get.l0 k S ((p ++ c :: q).map strOfNums) (acc ++ [⟨strOfNums w, strOfNums v⟩]) ((p.length + 1 : Nat) : Int)) T) → Ev (fun k => deedboxref41_Get.l0 k S ((p ++ c :: q).map strOfNums) acc (p.length : Int)) T := fun h1 h2 => by
      refine Ev.step (fun k => ?_) (refcut_loop S _ acc p.length (by omega) (by omega) (by omega) hcB hcl hrd h1 h2 c [] rfl (by simp))
      simp only [deedboxref41_Get.l0]
      rw [if_pos (by omega)]
      rfl
    rcases first_at 61 c with hn | ⟨w, v, hw, rfl⟩
    · refine ⟨([], 4), go (fun _ => rfl) (fun w v hc hw => ?_), ?_⟩
      · rw [hc] at hn
        exact absurd (by simp) hn
      · unfold getR
        rw [cutL_no hn]
        rfl
    · have hwl := hcl
      simp only [List.length_append, List.length_cons] at hwl
      obtain ⟨r, hr, hre⟩ := refget_loop S q (p ++ [w ++ 61 :: v]) (acc ++ [⟨strOfNums w, strOfNums v⟩]) (fun d hd => hq d (List.mem_cons_of_mem _ hd)) (by simp only [List.length_append, List.length_singleton]; omega) (by simp [ha]) (fun x hx => by
        rcases List.mem_append.1 hx with hx | hx
        · exact hsz x hx
        · rw [List.mem_singleton.1 hx]
          have h1 : (strOfNums w).size = w.length := strOfNums_size _
          have h2 : (strOfNums v).size = v.length := strOfNums_size _
          exact ⟨by show (strOfNums w).size ≤ 1000; omega, by show (strOfNums v).size ≤ 1000; omega⟩)
      rw [← e, show (p ++ [w ++ 61 :: v]).length = p.length + 1 from by simp] at hr
      refine ⟨r, go (fun h => by rw [cutL_at v hw] at h; cases h) (fun w' v' hc hw' => ?_), ?_⟩
      · have h1 := cutL_at v hw
        have h2 := cutL_at v' hw'
        rw [hc] at h1
        rw [h1] at h2
        simp only [Option.some.injEq, Prod.mk.injEq] at h2
        obtain ⟨rfl, rfl⟩ := h2
        exact hr
      · rw [hre, List.map_append]
        conv => rhs; unfold getR
        rw [cutL_at v hw]
        rfl
theorem back_tell (r : List S36) (hl : r.length ≤ 2000) : Ev (fun k => deedboxlaw41_back.f k (r.map conv)) r := by
  have loop : ∀ (q p : List S36), r = p ++ q → Ev (fun k => deedboxlaw41_back.l0 k (r.map conv) p (p.length : Int)) r := by
    intro q
    induction q with
    | nil =>
      intro p hp
      rw [List.append_nil] at hp
      subst hp
      exact Ev.fin fun k => by simp only [deedboxlaw41_back.l0]; rw [if_neg (by rw [List.length_map]; omega)]
    | cons x q ih =>
      intro p hp
      have hll : r.length = p.length + q.length + 1 := by rw [hp]; simp; omega
      have hx : rd_T45 (r.map conv) (p.length : Int) = conv x := by
        unfold rd_T45
        rw [hp, Int.toNat_natCast, List.map_append, List.map_cons]
        simp
      have hb := ih (p ++ [x]) (by rw [hp]; simp)
      rw [show (p ++ [x]).length = p.length + 1 from by simp] at hb
      refine Ev.step (fun k => ?_) hb
      simp only [deedboxlaw41_back.l0]
      rw [if_pos (by rw [List.length_map]; omega), if_pos (by omega), if_pos (by omega), hx, next_w (by omega)]
      rfl
  exact loop r [] rfl
theorem same_tell (r : List S36) (hl : r.length ≤ 2000) : Ev (fun k => deedboxref41_Same.f k r r) true := by
  have loop : ∀ (d i : Nat), i + d = r.length → Ev (fun k => deedboxref41_Same.l0 k r r (i : Int)) true := by
    intro d
    induction d with
    | zero => exact fun i hi => Ev.fin fun k => by simp only [deedboxref41_Same.l0]; rw [if_neg (by omega)]
    | succ d ih =>
      intro i hi
      refine Ev.step (fun k => ?_) (ih (i + 1) (by omega))
      simp only [deedboxref41_Same.l0]
      rw [if_pos (by omega), if_pos (by omega), if_pos (by omega), if_neg (by simp), next_w (by omega)]
  exact Ev.congr (fun k => by unfold deedboxref41_Same.f; rw [if_pos rfl]; rfl) (loop r.length 0 (by omega))
theorem works_tells : Ev (fun k => deedboxlaw41_works.f k) true := Ev.of deedboxlaw41_works.mono (show deedboxlaw41_works.f 60 = some true by decide +kernel)
theorem works_end {f : Nat → Option Bool} (h : ∀ k, f k = (deedboxlaw41_works.f k).bind fun t => some t) : Ev f true :=
  Ev.congr (fun k => by rw [h]; cases deedboxlaw41_works.f k <;> rfl) works_tells
theorem piece_len {c : Int} : ∀ (n : Nat) {t : List Int}, t.length ≤ n → ∀ p ∈ splitC c t, p.length ≤ t.length
  | n, t, hn, p, hp => by
    rcases first_at c t with k | ⟨a, q, ha, rfl⟩
    · rw [split_no k] at hp
      rw [List.mem_singleton.1 hp]
      exact Nat.le_refl _
    · rw [split_at q ha] at hp
      simp only [List.length_append, List.length_cons] at hn ⊢
      rcases List.mem_cons.1 hp with rfl | hp
      · omega
      · match n, hn with
        | 0, hn => omega
        | n + 1, hn =>
          have := piece_len n (t := q) (by omega) p hp
          omega
theorem getR_len (S : ByteArray) : ∀ (q : List (List Int)) (acc : List S45), (getR S q acc).1.length ≤ acc.length + q.length
  | [], acc => by
    unfold getR finG
    split
    · split
      · split
        · exact Nat.le_refl _
        · exact Nat.zero_le _
      · exact Nat.zero_le _
    · exact Nat.zero_le _
  | p :: q, acc => by
    unfold getR
    split
    · exact Nat.zero_le _
    · rename_i w v _
      have := getR_len S q (acc ++ [⟨strOfNums w, strOfNums v⟩])
      simp only [List.length_append, List.length_cons, List.length_nil] at this ⊢
      omega
theorem PairsGets : deedboxlaw41_PairsGets.Pure := by
  intro s hs
  refine Ev.rounds ?_
  unfold deedboxlaw41_PairsGets.f
  by_cases h3 : (s.size : Int) > 300
  · simp only [if_pos h3]
    exact works_end fun k => rfl
  · simp only [if_neg h3]
    obtain ⟨xs, hx, rfl, hxl⟩ := str_of s
    have both : ∃ r : List S36 × Int, r.1.length ≤ 2000 ∧ Ev (fun k => pairs_Get.f k (strOfNums xs)) (r.1.map conv, r.2) ∧ Ev (fun k => deedboxref41_Get.f k (strOfNums xs)) r := by
      by_cases h0 : (strOfNums xs).toList = []
      · exact ⟨([], 0), by simp, Ev.congr (fun k => by unfold pairs_Get.f; rw [if_pos h0]; rfl) (Ev.now _), Ev.congr (fun k => by unfold deedboxref41_Get.f; rw [if_pos h0]) (Ev.now _)⟩
      · have hmem := split_byt xs.length (c := 38) (Nat.le_refl _) hx
        have hln := split_len 38 xs.length xs (Nat.le_refl _)
        have hq : ∀ c ∈ splitC 38 xs, Byt c ∧ c.length ≤ 1000 := fun c hc => ⟨hmem c hc, by
          have := piece_len xs.length (c := 38) (Nat.le_refl _) c hc
          omega⟩
        obtain ⟨r, hr, hre⟩ := refget_loop (strOfNums xs) (splitC 38 xs) [] [] hq (by simp only [List.length_nil]; omega) rfl (by simp)
        have hg := get_loop (strOfNums xs) (splitC 38 xs) [] [] hq (by simp only [List.length_nil]; omega) rfl (by simp)
        refine ⟨r, ?_, ?_, ?_⟩
        · have h1 := congrArg (fun z : List S45 × Int => z.1.length) hre
          have h2 := getR_len (strOfNums xs) (splitC 38 xs) (([] : List S36).map conv)
          simp only [List.length_map, List.length_nil] at h1 h2
          omega
        · rw [hre]
          refine Ev.congr (f := fun k => (strings_Split.f k (strOfNums xs) (one 38)).bind fun t128 => (pairs_Get.l0 k (strOfNums xs) ([] : List (S45)) t128 (t128.length : Int) 0)) (fun k => by unfold pairs_Get.f; rw [if_neg h0]; rfl) (Ev.bind (split_tell (by omega) xs hx (by omega)) ?_)
          rw [List.length_map]
          exact hg
        · exact Ev.congr (f := fun k => (deedboxref41_parts.f k (strOfNums xs)).bind fun t183 => deedboxref41_Get.l0 k (strOfNums xs) t183 ([] : List (S36)) 0) (fun k => by unfold deedboxref41_Get.f; rw [if_neg h0]) (Ev.bind (refparts_tell hx (by omega)) hr)
    obtain ⟨r, hrl, h1, h2⟩ := both
    refine Ev.bind h1 (Ev.bind h2 (Ev.bind (back_tell r.1 hrl) (Ev.bind (same_tell r.1 hrl) ?_)))
    simp only [if_true]
    exact works_end fun k => rfl


end Go.Proofs.YtefmoefiamjmpaaDoor.Pure
