/- The pure statement of PairsBack: what the walk tells answers as the chapter says. -/
import Derived.Test.YtefmoefiamjmpaaDoorQPairsBackx6
import Derived.Test.YtefmoefiamjmpaaDoorPairsCore
import Derived.Test.YtefmoefiamjmpaaDoorSplitCore
namespace Go.Proofs.YtefmoefiamjmpaaDoor.Pure
open Go.RowKit Go.Lib Go.Proofs.YtefmoefiamjmpaaDoor.QPairsBack Go.Proofs.YtefmoefiamjmpaaDoor.Pa Go.Proofs.YtefmoefiamjmpaaDoor.Pc Go.Proofs.YtefmoefiamjmpaaDoorW.PrintWords Go.Proofs.YtefmoefiamjmpaaDoorW.PrintLast Go.Proofs.YtefmoefiamjmpaaDoorW.PrintMore
open Go.Proofs.YtefmoefiamjmpaaDoor.Kit Go.Proofs.YtefmoefiamjmpaaDoor.Cut
set_option linter.unusedVariables false
set_option linter.unusedSimpArgs false

theorem Ev.fin {α : Type} {g : Nat → Option α} {r : α} (h : ∀ k, g (k + 1) = some r) : Ev g r := ⟨1, fun n hn => by
  obtain ⟨m, rfl⟩ : ∃ m, n = m + 1 := ⟨n - 1, by omega⟩
  exact h m⟩
theorem next_w {n : Nat} (h : n < 1000000) : wrap64 ((n : Int) + 1) = ((n + 1 : Nat) : Int) := by unfold wrap64; omega

/-! ### The reference's Text -/
def joinP (t : List S45) : ByteArray := ⟨(Lib.join (t.map fun x => (pieceB x).data.toList) [38]).toArray⟩
theorem ba_eq {a b : ByteArray} (h : a.data.toList = b.data.toList) : a = b := ByteArray.ext (Array.toList_inj.1 h)
theorem ba_app (a b : ByteArray) : (a ++ b).data.toList = a.data.toList ++ b.data.toList := by rw [ByteArray.data_append, Array.toList_append]
theorem piece_list (x : S45) : (pieceB x).data.toList = x.f0.data.toList ++ [61] ++ x.f1.data.toList := by
  unfold pieceB
  rw [ba_app, ba_app]
theorem joinP_one (x : S45) : joinP [x] = (((⟨#[]⟩ : ByteArray) ++ x.f0) ++ (⟨#[61]⟩ : ByteArray)) ++ x.f1 := by
  apply ba_eq
  rw [ba_app, ba_app, ba_app]
  show (Lib.join [(pieceB x).data.toList] [38]) = _
  rw [Lib.join_cons, piece_list]
  simp [Lib.joinTail]
theorem joinP_snoc (t : List S45) (x : S45) (h : t ≠ []) : joinP (t ++ [x]) = (((joinP t ++ (⟨#[38]⟩ : ByteArray)) ++ x.f0) ++ (⟨#[61]⟩ : ByteArray)) ++ x.f1 := by
  apply ba_eq
  rw [ba_app, ba_app, ba_app, ba_app]
  cases t with
  | nil => exact absurd rfl h
  | cons y t =>
    show (Lib.join (((y :: t) ++ [x]).map fun x => (pieceB x).data.toList) [38]) = (Lib.join ((y :: t).map fun x => (pieceB x).data.toList) [38]) ++ [38] ++ x.f0.data.toList ++ [61] ++ x.f1.data.toList
    rw [List.cons_append, List.map_cons, List.map_cons, Lib.join_cons, Lib.join_cons, List.map_append, List.map_singleton, piece_list x]
    simp [Lib.joinTail]
section
variable (l : List S36) (hu : Uniq (l.map conv)) (hs : Small (l.map conv))
theorem rd36 {l : List S36} {i : Nat} (h : i < l.length) : rd_T36 l (i : Int) = l[i] := by
  unfold rd_T36
  rw [Int.toNat_natCast, List.getD_eq_getElem?_getD, List.getElem?_eq_getElem h]
  rfl
/-- What the round n looks for. -/
def elig (n : Nat) (last : ByteArray) (x : S36) : Prop := n = 0 ∨ Op.bytesLess last.toList x.f0.toList = true
def Best (l : List S36) (n : Nat) (last : ByteArray) (i : Nat) (best : Int) : Prop :=
  (best = -1 ∧ ∀ j (h : j < l.length), j < i → ¬ elig n last l[j]) ∨
  (∃ (b : Nat) (hb : b < l.length), best = (b : Int) ∧ b < i ∧ elig n last l[b] ∧ ∀ j (h : j < l.length), j < i → elig n last l[j] → ltB l[j].f0 l[b].f0 = false)
theorem best_is {l : List S36} (hu : Uniq (l.map conv)) {n : Nat} (hn : n < l.length) {last : ByteArray} (hl : n = 0 ∨ ∃ (hp : n - 1 < (sortL (l.map conv)).length), last = (sortL (l.map conv))[n - 1].f0) {best : Int} (h : Best l n last l.length best) :
    ∃ (b : Nat) (hb : b < l.length) (hn2 : n < (sortL (l.map conv)).length), best = (b : Int) ∧ conv l[b] = (sortL (l.map conv))[n] := by
  have hlen : (sortL (l.map conv)).length = l.length := by rw [sortL_len, List.length_map]
  have hst := sortL_strict hu
  rw [List.pairwise_iff_getElem] at hst
  have hn2 : n < (sortL (l.map conv)).length := by omega
  have hmem : (sortL (l.map conv))[n] ∈ l.map conv := (sortL_perm _).mem_iff.1 (List.getElem_mem hn2)
  obtain ⟨y, hy, hye⟩ := List.mem_map.1 hmem
  obtain ⟨q, hq, rfl⟩ := List.mem_iff_getElem.1 hy
  have hqe : elig n last l[q] := by
    rcases hl with h0 | ⟨hp, rfl⟩
    · exact .inl h0
    · by_cases h0 : n = 0
      · exact .inl h0
      · have := hst (n - 1) n hp hn2 (by omega)
        rw [← hye] at this
        exact .inr this
  rcases h with ⟨_, h⟩ | ⟨b, hb, rfl, _, hbe, hmin⟩
  · exact absurd hqe (h q hq hq)
  · refine ⟨b, hb, hn2, rfl, ?_⟩
    have hbm : conv l[b] ∈ sortL (l.map conv) := (sortL_perm _).mem_iff.2 (List.mem_map.2 ⟨l[b], List.getElem_mem hb, rfl⟩)
    obtain ⟨c, hc, hce⟩ := List.mem_iff_getElem.1 hbm
    have hm := hmin q hq hq hqe
    have hcn : ¬ n < c := fun hlt => by
      have := hst n c hn2 hc hlt
      rw [hce, ← hye] at this
      exact absurd (this.symm.trans hm) (by simp)
    have hnc : ¬ c < n := fun hlt => by
      rcases hbe with h0 | hbe
      · omega
      · rcases hl with h0 | ⟨hp, rfl⟩
        · omega
        · have e : l[b].f0 = (sortL (l.map conv))[c].f0 := by rw [hce]; rfl
          rw [e] at hbe
          by_cases hcp : c = n - 1
          · subst hcp
            exact absurd hbe (by have := ltB_irrefl (sortL (l.map conv))[n - 1].f0; unfold ltB at this; rw [this]; simp)
          · have := ltB_asymm (hst c (n - 1) hc hp (by omega))
            unfold ltB at this
            rw [this] at hbe
            cases hbe
    have : c = n := by omega
    subst this
    exact hce.symm
theorem best_step {l : List S36} {n : Nat} {last : ByteArray} {i : Nat} (hi : i < l.length) {best : Int} (h : Best l n last i best) :
    (¬ elig n last l[i] → Best l n last (i + 1) best) ∧
    (elig n last l[i] → best = -1 → Best l n last (i + 1) (i : Int)) ∧
    (elig n last l[i] → ∀ (b : Nat) (hb : b < l.length), best = (b : Int) → (ltB l[i].f0 l[b].f0 = true → Best l n last (i + 1) (i : Int)) ∧ (ltB l[i].f0 l[b].f0 = false → Best l n last (i + 1) best)) := by
  refine ⟨fun he => ?_, fun he hb => ?_, fun he b hb hbe => ⟨fun hlt => ?_, fun hlt => ?_⟩⟩
  · rcases h with ⟨h1, h2⟩ | ⟨b, hb, h1, h2, h3, h4⟩
    · refine .inl ⟨h1, fun j hj hji => ?_⟩
      by_cases e : j = i
      · subst e; exact he
      · exact h2 j hj (by omega)
    · refine .inr ⟨b, hb, h1, by omega, h3, fun j hj hji hje => ?_⟩
      by_cases e : j = i
      · subst e; exact absurd hje he
      · exact h4 j hj (by omega) hje
  · rcases h with ⟨h1, h2⟩ | ⟨b, hb', h1, h2, h3, h4⟩
    · refine .inr ⟨i, hi, rfl, by omega, he, fun j hj hji hje => ?_⟩
      by_cases e : j = i
      · subst e; exact ltB_irrefl _
      · exact absurd hje (h2 j hj (by omega))
    · omega
  · rcases h with ⟨h1, h2⟩ | ⟨b', hb', h1, h2, h3, h4⟩
    · omega
    · obtain rfl : b = b' := by omega
      refine .inr ⟨i, hi, rfl, by omega, he, fun j hj hji hje => ?_⟩
      by_cases e : j = i
      · subst e; exact ltB_irrefl _
      · have := h4 j hj (by omega) hje
        cases hx : ltB l[j].f0 l[i].f0 with
        | false => rfl
        | true => rw [ltB_trans hx hlt] at this; cases this
  · rcases h with ⟨h1, h2⟩ | ⟨b', hb', h1, h2, h3, h4⟩
    · omega
    · obtain rfl : b = b' := by omega
      refine .inr ⟨b, hb, hbe, by omega, h3, fun j hj hji hje => ?_⟩
      by_cases e : j = i
      · subst e; exact hlt
      · exact h4 j hj (by omega) hje
end

/-- What is told of one pair behind the text so far. -/
def addP (n : Nat) (s : ByteArray) (x : S36) : ByteArray := if n = 0 then ((s ++ x.f0) ++ (⟨#[61]⟩ : ByteArray)) ++ x.f1 else (((s ++ (⟨#[38]⟩ : ByteArray)) ++ x.f0) ++ (⟨#[61]⟩ : ByteArray)) ++ x.f1
theorem text_inner {l : List S36} (hu : Uniq (l.map conv)) (hs : Small (l.map conv)) {n : Nat} (hn : n < l.length) {s last T : ByteArray} (hsz : s.size ≤ 10000000) (hl : n = 0 ∨ ∃ (hp : n - 1 < (sortL (l.map conv)).length), last = (sortL (l.map conv))[n - 1].f0)
    (ih : ∀ x : S36, (∃ (h : n < (sortL (l.map conv)).length), conv x = (sortL (l.map conv))[n]) → Ev (fun k => deedboxref41_Text.l0 k l (addP n s x) x.f0 ((n + 1 : Nat) : Int)) T) :
    ∀ (d i : Nat) (best : Int), i + d = l.length → Best l n last i best → Ev (fun k => deedboxref41_Text.l1 k l s last (n : Int) best (i : Int)) T
  | 0, i, best, hi, hb => by
    obtain rfl : i = l.length := by omega
    obtain ⟨b, hbl, hn2, rfl, hbe⟩ := best_is hu hn hl hb
    have hx := hs.2 (conv l[b]) (List.mem_map.2 ⟨l[b], List.getElem_mem hbl, rfl⟩)
    have hx1 : l[b].f0.size ≤ 100000 := hx.1
    have hx2 : l[b].f1.size ≤ 100000 := hx.2
    have := ih l[b] ⟨hn2, hbe⟩
    have h8 := hs.1
    rw [List.length_map] at h8
    refine Ev.step (fun k => ?_) this
    simp only [deedboxref41_Text.l1]
    rw [if_neg (by omega), if_neg (by omega), rd36 hbl]
    unfold addP
    by_cases h0 : n = 0
    · rw [if_neg (by omega), if_pos (by omega), if_pos (by omega), if_pos (by omega), if_pos (by omega), if_pos (by omega), if_pos h0, next_w (by omega)]
    · rw [if_pos (by omega), if_pos (by omega), if_pos (by omega), if_pos (by omega), if_pos (by omega), if_pos (by omega), if_pos (by omega), if_neg h0, next_w (by omega)]
  | d + 1, i, best, hi, hb => by
    have hil : i < l.length := by omega
    have h8 := hs.1
    rw [List.length_map] at h8
    have st := best_step (n := n) (last := last) hil hb
    have next : ∀ best', Best l n last (i + 1) best' → Ev (fun k => deedboxref41_Text.l1 k l s last (n : Int) best' (wrap64 ((i : Int) + 1))) T := fun best' hb' => by
      rw [next_w (by omega)]
      exact text_inner hu hs hn hsz hl ih d (i + 1) best' (by omega) hb'
    have hbr : best = -1 ∨ ∃ (b : Nat) (hb : b < l.length), best = (b : Int) := by
      rcases hb with ⟨h, _⟩ | ⟨b, h, h1, _⟩
      · exact .inl h
      · exact .inr ⟨b, h, h1⟩
    by_cases h0 : n = 0
    · have he : elig n last l[i] := .inl h0
      rcases hbr with h1 | ⟨b, hbl, h1⟩
      · refine Ev.step (fun k => ?_) (next _ (st.2.1 he h1))
        simp only [deedboxref41_Text.l1]
        rw [if_pos (by omega), if_pos (by omega), if_pos (by omega)]
      · obtain ⟨s1, s2⟩ := st.2.2 he b hbl h1
        subst h1
        cases hlt : ltB l[i].f0 l[b].f0 with
        | true =>
          refine Ev.step (fun k => ?_) (next _ (s1 hlt))
          simp only [deedboxref41_Text.l1]
          rw [if_pos (by omega), if_pos (by omega), if_neg (by omega), if_pos (by omega), if_pos (by omega), if_pos (by omega), rd36 hil, rd36 hbl, if_pos (by unfold ltB at hlt; exact hlt)]
        | false =>
          refine Ev.step (fun k => ?_) (next _ (s2 hlt))
          simp only [deedboxref41_Text.l1]
          rw [if_pos (by omega), if_pos (by omega), if_neg (by omega), if_pos (by omega), if_pos (by omega), if_pos (by omega), rd36 hil, rd36 hbl, if_neg (by unfold ltB at hlt; rw [hlt]; simp)]
    · by_cases hel : Op.bytesLess last.toList l[i].f0.toList = true
      · have he : elig n last l[i] := .inr hel
        rcases hbr with h1 | ⟨b, hbl, h1⟩
        · refine Ev.step (fun k => ?_) (next _ (st.2.1 he h1))
          simp only [deedboxref41_Text.l1]
          rw [if_pos (by omega), if_neg (by omega), if_pos (by omega), rd36 hil, if_pos hel, if_pos (by omega)]
        · obtain ⟨s1, s2⟩ := st.2.2 he b hbl h1
          subst h1
          cases hlt : ltB l[i].f0 l[b].f0 with
          | true =>
            refine Ev.step (fun k => ?_) (next _ (s1 hlt))
            simp only [deedboxref41_Text.l1]
            rw [if_pos (by omega), if_neg (by omega), if_pos (by omega), rd36 hil, if_pos hel, if_neg (by omega), if_pos (by omega), if_pos (by omega), rd36 hbl, if_pos (by unfold ltB at hlt; exact hlt)]
          | false =>
            refine Ev.step (fun k => ?_) (next _ (s2 hlt))
            simp only [deedboxref41_Text.l1]
            rw [if_pos (by omega), if_neg (by omega), if_pos (by omega), rd36 hil, if_pos hel, if_neg (by omega), if_pos (by omega), if_pos (by omega), rd36 hbl, if_neg (by unfold ltB at hlt; rw [hlt]; simp)]
      · have he : ¬ elig n last l[i] := fun h => by
          rcases h with h | h
          · exact h0 h
          · exact hel h
        refine Ev.step (fun k => ?_) (next _ (st.1 he))
        simp only [deedboxref41_Text.l1]
        rw [if_pos (by omega), if_neg (by omega), if_pos (by omega), rd36 hil, if_neg hel]
theorem take_snoc {α : Type} (l : List α) (n : Nat) (h : n < l.length) : l.take (n + 1) = l.take n ++ [l[n]] := by
  rw [List.take_add_one, List.getElem?_eq_getElem h]
  rfl
theorem text_outer {l : List S36} (hu : Uniq (l.map conv)) (hs : Small (l.map conv)) : ∀ (d n : Nat) (last : ByteArray), n + d = l.length → (n = 0 ∨ ∃ (hp : n - 1 < (sortL (l.map conv)).length), last = (sortL (l.map conv))[n - 1].f0) →
    (joinP ((sortL (l.map conv)).take n)).size ≤ n * 200002 → Ev (fun k => deedboxref41_Text.l0 k l (joinP ((sortL (l.map conv)).take n)) last (n : Int)) (textS (l.map conv))
  | 0, n, last, hn, hl, hsz => by
    have hlen : (sortL (l.map conv)).length = l.length := by rw [sortL_len, List.length_map]
    refine Ev.fin fun k => ?_
    simp only [deedboxref41_Text.l0]
    rw [if_neg (by omega), List.take_of_length_le (by omega)]
    rfl
  | d + 1, n, last, hn, hl, hsz => by
    have hlen : (sortL (l.map conv)).length = l.length := by rw [sortL_len, List.length_map]
    have h8 := hs.1
    rw [List.length_map] at h8
    have hnl : n < l.length := by omega
    have hb0 : Best l n last 0 (-1) := .inl ⟨rfl, fun j _ h => by omega⟩
    refine Ev.step (fun k => ?_) (text_inner hu hs hnl (T := textS (l.map conv)) (s := joinP ((sortL (l.map conv)).take n)) (by omega) hl (fun x hx => ?_) l.length 0 (-1) (by omega) hb0)
    · simp only [deedboxref41_Text.l0]
      rw [if_pos (by omega)]
      rfl
    · obtain ⟨hp, hxe⟩ := hx
      have hadd : addP n (joinP ((sortL (l.map conv)).take n)) x = joinP ((sortL (l.map conv)).take (n + 1)) := by
        rw [take_snoc _ _ hp, ← hxe]
        unfold addP
        by_cases h0 : n = 0
        · subst h0
          rw [if_pos rfl, List.take_zero, List.nil_append, joinP_one]
          rfl
        · rw [if_neg h0, joinP_snoc _ _ (fun e => by have := congrArg List.length e; rw [List.length_take, List.length_nil] at this; omega)]
          rfl
      have hxs := hs.2 (sortL (l.map conv))[n] (sortL_mem (List.getElem_mem hp))
      rw [← hxe] at hxs
      have hx1 : x.f0.size ≤ 100000 := hxs.1
      have hx2 : x.f1.size ≤ 100000 := hxs.2
      have hsz2 : (addP n (joinP ((sortL (l.map conv)).take n)) x).size ≤ (n + 1) * 200002 := by
        unfold addP
        have e1 : (⟨#[61]⟩ : ByteArray).size = 1 := rfl
        have e2 : (⟨#[38]⟩ : ByteArray).size = 1 := rfl
        split
        · rw [ByteArray.size_append, ByteArray.size_append, ByteArray.size_append, e1]; omega
        · rw [ByteArray.size_append, ByteArray.size_append, ByteArray.size_append, ByteArray.size_append, e1, e2]; omega
      rw [hadd] at hsz2 ⊢
      refine text_outer hu hs d (n + 1) x.f0 (by omega) (.inr ⟨by omega, ?_⟩) hsz2
      have : (conv x).f0 = (sortL (l.map conv))[n].f0 := by rw [hxe]
      exact this
theorem reftext_tell {l : List S36} (hu : Uniq (l.map conv)) (hs : Small (l.map conv)) : Ev (fun k => deedboxref41_Text.f k l) (textS (l.map conv)) := by
  have := text_outer hu hs l.length 0 (⟨#[]⟩ : ByteArray) (by omega) (.inl rfl) (by simp [joinP, Lib.join]; rfl)
  exact this

/-! ### The reference's plain and Check -/
theorem sign_iff (c : Int) : signB c = true ↔ (97 ≤ c ∧ c ≤ 122) ∨ (65 ≤ c ∧ c ≤ 90) ∨ (48 ≤ c ∧ c ≤ 57) ∨ c = 45 ∨ c = 95 ∨ c = 46 := by
  unfold signB Pl.pairs_sign.f
  repeat' split
  all_goals simp
  all_goals omega
set_option maxHeartbeats 8000000 in
theorem refplain_loop (s : ByteArray) (hs : s.size ≤ 900000) : ∀ (m i : Nat), i + m = s.size → Ev (fun k => deedboxref41_plain.l0 k s (i : Int)) (((bytesOf s).drop i).all signB)
  | 0, i, h => by
    have hl : (bytesOf s).length = s.size := by simp [Go.Proofs.YtefmoefiamjmpaaDoorW.PrintWords.bytesOf]
    refine Ev.fin fun k => ?_
    simp only [deedboxref41_plain.l0]
    rw [if_neg (by omega), List.drop_of_length_le (by omega)]
    rfl
  | m + 1, i, h => by
    have ih := refplain_loop s hs m (i + 1) (by omega)
    have hl : (bytesOf s).length = s.size := by simp [Go.Proofs.YtefmoefiamjmpaaDoorW.PrintWords.bytesOf]
    have hi : i < (bytesOf s).length := by omega
    have hbt : bt s (i : Int) = (bytesOf s)[i] := by
      rw [← rd_bytesOf]
      unfold rd
      rw [Int.toNat_natCast, List.getD_eq_getElem?_getD, List.getElem?_eq_getElem hi]
      rfl
    rw [List.drop_eq_getElem_cons hi, List.all_cons]
    have hw : wrap64 ((i : Int) + 1) = ((i + 1 : Nat) : Int) := next_w (by omega)
    generalize (bytesOf s)[i] = c at hbt
    cases hb : signB c with
    | false =>
      have hn := fun h => (Bool.eq_false_iff.1 hb) ((sign_iff c).2 h)
      refine Ev.fin fun k => ?_
      simp only [deedboxref41_plain.l0]
      rw [if_pos (by omega), if_pos (by omega), hbt, Bool.false_and]
      repeat' split
      all_goals first | rfl | (exact absurd (by omega) hn)
    | true =>
      have hn := (sign_iff c).1 hb
      rw [Bool.true_and]
      refine Ev.step (fun k => ?_) ih
      simp only [deedboxref41_plain.l0]
      rw [if_pos (by omega), if_pos (by omega), hbt, hw]
      repeat' split
      all_goals first | rfl | (exfalso; omega)
theorem refplain_tell (s : ByteArray) (hs : s.size ≤ 900000) : Ev (fun k => deedboxref41_plain.f k s) (plainB s) := refplain_loop s hs s.size 0 (by omega)
/-- What Check comes to, behind the pairs that were met. -/
def valC (p q : List S45) : Int := if checkL p q = 0 then (if 24 < (textS (p ++ q)).size then 17 else 0) else checkL p q
theorem checkL_stop {p q : List S45} {x : S45} {c : Int} (h : checkL p (x :: q) = c) (hc : c ≠ 0) : valC p (x :: q) = c := by
  unfold valC
  rw [h, if_neg hc]
theorem valC_next {p q : List S45} {x : S45} (h : checkL p (x :: q) = checkL (p ++ [x]) q) : valC p (x :: q) = valC (p ++ [x]) q := by
  unfold valC
  rw [h, List.append_assoc]
  rfl
theorem refcheck_inner (l : List S36) (i : Nat) (hi : i < l.length) (h8 : l.length ≤ 8) (T : Int) (hT : (∃ j, ∃ (hj : j < l.length), j < i ∧ l[j].f0.toList = l[i].f0.toList) → T = 10)
    (ih : ¬ (∃ j, ∃ (hj : j < l.length), j < i ∧ l[j].f0.toList = l[i].f0.toList) → Ev (fun k => deedboxref41_Check.l0 k l ((i + 1 : Nat) : Int)) T) :
    ∀ (d j : Nat), j + d = i → (∀ j' (h : j' < l.length), j' < j → l[j'].f0.toList ≠ l[i].f0.toList) → Ev (fun k => deedboxref41_Check.l1 k l (i : Int) (j : Int)) T
  | 0, j, hj, hno => by
    obtain rfl : j = i := by omega
    refine Ev.step (fun k => ?_) (ih fun ⟨j', h1, h2, h3⟩ => hno j' h1 h2 h3)
    simp only [deedboxref41_Check.l1]
    rw [if_neg (by omega), next_w (by omega)]
  | d + 1, j, hj, hno => by
    have hjl : j < l.length := by omega
    by_cases he : l[j].f0.toList = l[i].f0.toList
    · rw [hT ⟨j, hjl, by omega, he⟩]
      refine Ev.fin fun k => ?_
      simp only [deedboxref41_Check.l1]
      rw [if_pos (by omega), if_pos (by omega), if_pos (by omega), if_pos (by omega), if_pos (by omega), rd36 hjl, rd36 hi, if_pos he]
    · refine Ev.step (fun k => ?_) (refcheck_inner l i hi h8 T hT ih d (j + 1) (by omega) fun j' h1 h2 => ?_)
      · simp only [deedboxref41_Check.l1]
        rw [if_pos (by omega), if_pos (by omega), if_pos (by omega), if_pos (by omega), if_pos (by omega), rd36 hjl, rd36 hi, if_neg he, next_w (by omega)]
      · by_cases e : j' = j
        · subst e; exact he
        · exact hno j' h1 (by omega)
theorem refcheck_loop (l : List S36) (hs : Small (l.map conv)) : ∀ (q p : List S36), l = p ++ q → Uniq (p.map conv) → Ev (fun k => deedboxref41_Check.l0 k l (p.length : Int)) (valC (p.map conv) (q.map conv))
  | [], p, hp, hu => by
    rw [List.append_nil] at hp
    subst hp
    have ht := reftext_tell hu hs
    have hv : valC (l.map conv) (([] : List S36).map conv) = if 24 < (textS (l.map conv)).size then 17 else 0 := by
      unfold valC
      rw [List.map_nil, List.append_nil, show checkL (l.map conv) [] = 0 from rfl, if_pos rfl]
    rw [hv]
    refine Ev.step (f := fun k => (deedboxref41_Text.f k l).bind fun t => if (t.size : Int) > 24 then some 17 else some 0) (fun k => ?_) (Ev.bind ht (Ev.congr (fun k => ?_) (Ev.now _)))
    · simp only [deedboxref41_Check.l0]
      rw [if_neg (by omega)]
    · by_cases h : 24 < (textS (l.map conv)).size
      · rw [if_pos (by omega), if_pos h]
      · rw [if_neg (by omega), if_neg h]
  | x :: q, p, hp, hu => by
    have h8 := hs.1
    rw [List.length_map] at h8
    have hll : l.length = p.length + q.length + 1 := by rw [hp]; simp; omega
    have hil : p.length < l.length := by omega
    have hx : l[p.length] = x := by simp [hp]
    have hxs := hs.2 (conv x) (List.mem_map.2 ⟨x, by rw [hp]; simp, rfl⟩)
    have hx1 : x.f0.size ≤ 100000 := hxs.1
    have hx2 : x.f1.size ≤ 100000 := hxs.2
    have hp1 := refplain_tell x.f0 (by omega)
    have hp2 := refplain_tell x.f1 (by omega)
    have four : ∀ k, deedboxref41_Check.j1 (k + 1) l (p.length : Int) true = some 4 := fun k => by simp only [deedboxref41_Check.j1, if_true]
    have bad : (x.f0.toList = [] ∨ plainB x.f0 = false ∨ plainB x.f1 = false) → valC (p.map conv) ((x :: q).map conv) = 4 := fun h => by
      rw [List.map_cons]
      refine checkL_stop ?_ (by decide)
      simp only [checkL]
      exact if_pos h
    by_cases h0 : x.f0.toList = []
    · rw [bad (.inl h0)]
      refine Ev.step (f := fun k => deedboxref41_Check.j1 k l (p.length : Int) true) (fun k => ?_) (Ev.fin four)
      simp only [deedboxref41_Check.l0]
      rw [if_pos (by omega), if_pos (by omega), rd36 hil, hx, if_pos h0]
    · refine Ev.step (f := fun k => (deedboxref41_plain.f k x.f0).bind fun t172 => (if t172 = true then ((deedboxref41_plain.f k x.f1).bind fun t174 => (deedboxref41_Check.j1 k l (p.length : Int) (!t174))) else (deedboxref41_Check.j1 k l (p.length : Int) true))) (fun k => ?_) (Ev.bind hp1 ?_)
      · simp only [deedboxref41_Check.l0]
        rw [if_pos (by omega), if_pos (by omega), rd36 hil, hx, if_neg h0]
      · cases h1 : plainB x.f0 with
        | false =>
          rw [bad (.inr (.inl h1))]
          exact Ev.congr (fun k => by rw [if_neg (by simp)]) (Ev.fin four)
        | true =>
          refine Ev.congr (f := fun k => (deedboxref41_plain.f k x.f1).bind fun t174 => (deedboxref41_Check.j1 k l (p.length : Int) (!t174))) (fun k => by rw [if_pos rfl]) (Ev.bind hp2 ?_)
          cases h2 : plainB x.f1 with
          | false =>
            rw [bad (.inr (.inr h2))]
            exact Ev.fin four
          | true =>
            have hdup : (∃ y ∈ p.map conv, y.f0.data.toList = (conv x).f0.data.toList) ↔ ∃ j, ∃ (hj : j < l.length), j < p.length ∧ l[j].f0.toList = l[p.length].f0.toList := by
              rw [hx]
              constructor
              · rintro ⟨y, hy, he⟩
                obtain ⟨z, hz, rfl⟩ := List.mem_map.1 hy
                obtain ⟨j, hj, rfl⟩ := List.mem_iff_getElem.1 hz
                refine ⟨j, by omega, hj, ?_⟩
                rw [Lib.toList_data, Lib.toList_data]
                have : l[j]'(by omega) = p[j] := by simp [hp, List.getElem_append_left hj]
                rw [this]
                exact he
              · rintro ⟨j, hj, hjp, he⟩
                rw [Lib.toList_data, Lib.toList_data] at he
                have : l[j] = p[j] := by simp [hp, List.getElem_append_left hjp]
                rw [this] at he
                exact ⟨conv p[j], List.mem_map.2 ⟨p[j], List.getElem_mem hjp, rfl⟩, he⟩
            have hck : ¬ ((conv x).f0.toList = [] ∨ plainB (conv x).f0 = false ∨ plainB (conv x).f1 = false) := fun h => by
              rcases h with h | h | h
              · exact h0 h
              · exact absurd (h1.symm.trans h) (by simp)
              · exact absurd (h2.symm.trans h) (by simp)
            refine Ev.step (f := fun k => deedboxref41_Check.l1 k l (p.length : Int) ((0 : Nat) : Int)) (fun k => by simp only [deedboxref41_Check.j1, Bool.not_true, Bool.false_eq_true, if_false]; rfl) (refcheck_inner l p.length hil h8 _ (fun hd => ?_) (fun hd => ?_) p.length 0 (by omega) (fun j' _ h => by omega))
            · rw [List.map_cons]
              refine checkL_stop ?_ (by decide)
              simp only [checkL]
              rw [if_neg hck, if_pos (hdup.2 hd)]
            · have hnd := fun h => hd (hdup.1 h)
              rw [List.map_cons, valC_next (by
                simp only [checkL]
                rw [if_neg hck, if_neg hnd]), show p.map conv ++ [conv x] = (p ++ [x]).map conv from by simp, show ((p.length + 1 : Nat) : Int) = ((p ++ [x]).length : Int) from by simp]
              refine refcheck_loop l hs q (p ++ [x]) (by rw [hp]; simp) ?_
              unfold Uniq
              rw [List.map_append, List.map_singleton, List.pairwise_append]
              refine ⟨hu, by simp, fun a ha b hb => ?_⟩
              rw [List.mem_singleton.1 hb]
              intro e
              rw [Lib.toList_data, Lib.toList_data] at e
              exact hnd ⟨a, ha, e⟩
theorem refcheck_tell (l : List S36) (hs : l.length ≤ 8 → Small (l.map conv)) : ∃ c, pairs_Check.f (l.map conv) = some c ∧ Ev (fun k => deedboxref41_Check.f k l) c := by
  unfold pairs_Check.f deedboxref41_Check.f
  rw [List.length_map]
  by_cases h8 : 8 < l.length
  · exact ⟨16, by rw [if_pos h8], Ev.congr (fun k => by rw [if_pos (by omega)]) (Ev.now _)⟩
  · have hsm := hs (by omega)
    refine ⟨valC [] (l.map conv), by rw [if_neg h8, if_pos hsm]; rfl, Ev.congr (fun k => by rw [if_neg (by omega)]; rfl) (refcheck_loop l hsm l [] rfl ?_)⟩
    exact List.Pairwise.nil

theorem checkL_uniq : ∀ (q p : List S45), checkL p q = 0 → Uniq p → Uniq (p ++ q)
  | [], p, _, hu => by rw [List.append_nil]; exact hu
  | x :: q, p, h, hu => by
    simp only [checkL] at h
    split at h
    · cases h
    · split at h
      · cases h
      · rename_i hnd
        have := checkL_uniq q (p ++ [x]) h (by
          unfold Uniq
          rw [List.pairwise_append]
          refine ⟨hu, by simp, fun a ha b hb => ?_⟩
          rw [List.mem_singleton.1 hb]
          intro e
          rw [Lib.toList_data, Lib.toList_data] at e
          exact hnd ⟨a, ha, e⟩)
        rwa [List.append_assoc] at this
theorem check_zero {L : List S45} (h : pairs_Check.f L = some 0) : Small L ∧ Uniq L := by
  unfold pairs_Check.f at h
  split at h
  · cases h
  · split at h
    · rename_i hs
      have h := Option.some.inj h
      split at h
      · rename_i hc
        have := checkL_uniq L [] hc List.Pairwise.nil
        exact ⟨hs, this⟩
      · rename_i hc
        exact absurd h hc
    · cases h

theorem small_tell (l : List S36) : ∃ b, Ev (fun k => deedboxlaw41_small.f k l) b ∧ (b = true → l.length ≤ 20 ∧ ∀ x ∈ l, x.f0.size ≤ 100 ∧ x.f1.size ≤ 100) := by
  by_cases h20 : l.length > 20
  · exact ⟨false, Ev.congr (fun k => by unfold deedboxlaw41_small.f; rw [if_pos (by omega)]) (Ev.now _), fun h => by cases h⟩
  · have loop : ∀ (q p : List S36), l = p ++ q → (∀ x ∈ p, x.f0.size ≤ 100 ∧ x.f1.size ≤ 100) → ∃ b, Ev (fun k => deedboxlaw41_small.l0 k l (p.length : Int)) b ∧ (b = true → ∀ x ∈ l, x.f0.size ≤ 100 ∧ x.f1.size ≤ 100) := by
      intro q
      induction q with
      | nil =>
        intro p hp h
        rw [List.append_nil] at hp
        subst hp
        exact ⟨true, Ev.fin fun k => by simp only [deedboxlaw41_small.l0]; rw [if_neg (by omega)], fun _ => h⟩
      | cons x q ih =>
        intro p hp h
        have hll : l.length = p.length + q.length + 1 := by rw [hp]; simp; omega
        have hil : p.length < l.length := by omega
        have hx : l[p.length] = x := by simp [hp]
        by_cases h1 : x.f0.size > 100
        · refine ⟨false, Ev.fin fun k => ?_, fun h => by cases h⟩
          simp only [deedboxlaw41_small.l0]
          rw [if_pos (by omega), if_pos (by omega), rd36 hil, hx, if_pos (by omega)]
        · by_cases h2 : x.f1.size > 100
          · refine ⟨false, Ev.fin fun k => ?_, fun h => by cases h⟩
            simp only [deedboxlaw41_small.l0]
            rw [if_pos (by omega), if_pos (by omega), rd36 hil, hx, if_neg (by omega), if_pos (by omega)]
          · obtain ⟨b, hb, hbs⟩ := ih (p ++ [x]) (by rw [hp]; simp) (fun y hy => by
              rcases List.mem_append.1 hy with hy | hy
              · exact h y hy
              · rw [List.mem_singleton.1 hy]; omega)
            rw [show (p ++ [x]).length = p.length + 1 from by simp] at hb
            refine ⟨b, Ev.step (fun k => ?_) hb, hbs⟩
            simp only [deedboxlaw41_small.l0]
            rw [if_pos (by omega), if_pos (by omega), rd36 hil, hx, if_neg (by omega), if_neg (by omega), next_w (by omega)]
    obtain ⟨b, hb, hbs⟩ := loop l [] rfl (by simp)
    exact ⟨b, Ev.congr (fun k => by unfold deedboxlaw41_small.f; rw [if_neg (by omega)]; rfl) hb, fun h => ⟨by omega, hbs h⟩⟩
theorem own_tell (l : List S36) (hl : l.length ≤ 1000) : Ev (fun k => deedboxlaw41_own.f k l) (l.map conv) := by
  have loop : ∀ (q p : List S36), l = p ++ q → Ev (fun k => deedboxlaw41_own.l0 k l (p.map conv) (p.length : Int)) (l.map conv) := by
    intro q
    induction q with
    | nil =>
      intro p hp
      rw [List.append_nil] at hp
      subst hp
      exact Ev.fin fun k => by simp only [deedboxlaw41_own.l0]; rw [if_neg (by omega)]
    | cons x q ih =>
      intro p hp
      have hll : l.length = p.length + q.length + 1 := by rw [hp]; simp; omega
      have hil : p.length < l.length := by omega
      have hx : l[p.length] = x := by simp [hp]
      have hb := ih (p ++ [x]) (by rw [hp]; simp)
      rw [show (p ++ [x]).length = p.length + 1 from by simp, List.map_append, List.map_singleton] at hb
      refine Ev.step (fun k => ?_) hb
      simp only [deedboxlaw41_own.l0]
      rw [if_pos (by omega), if_pos (by omega), if_pos (by rw [List.length_map]; omega), rd36 hil, hx, next_w (by omega)]
      rfl
  exact loop l [] rfl
theorem works_tells : Ev (fun k => deedboxlaw41_works.f k) true := Ev.of deedboxlaw41_works.mono (show deedboxlaw41_works.f 60 = some true by decide +kernel)
theorem works_end {f : Nat → Option Bool} (h : ∀ k, f k = (deedboxlaw41_works.f k).bind fun t => some t) : Ev f true :=
  Ev.congr (fun k => by rw [h]; cases deedboxlaw41_works.f k <;> rfl) works_tells

/-! ### Get -/
/-- A part before and behind its first sign of equality. -/
def cutL : List Int → Option (List Int × List Int)
  | [] => none
  | c :: r => if c = 61 then some ([], r) else (cutL r).map fun z => (c :: z.1, z.2)
theorem cutL_no : ∀ {p : List Int}, (61 : Int) ∉ p → cutL p = none
  | [], _ => rfl
  | c :: r, h => by
    rw [List.mem_cons, not_or] at h
    unfold cutL
    rw [if_neg (fun e => h.1 e.symm), cutL_no h.2]
    rfl
theorem cutL_at : ∀ {w : List Int} (v : List Int), (61 : Int) ∉ w → cutL (w ++ 61 :: v) = some (w, v)
  | [], v, _ => by unfold cutL; rfl
  | c :: w, v, h => by
    rw [List.mem_cons, not_or] at h
    rw [List.cons_append]
    unfold cutL
    rw [if_neg (fun e => h.1 e.symm), cutL_at v h.2]
    rfl
/-- What the pairs come to, in a text. -/
def finG (S : ByteArray) (acc : List S45) : List S45 × Int :=
  match pairs_Check.f acc with
  | some c => if c = 0 then (if (textS acc).toList = S.toList then (acc, 0) else ([], 4)) else ([], c)
  | none => ([], 0)
def getR (S : ByteArray) : List (List Int) → List S45 → List S45 × Int
  | [], acc => finG S acc
  | p :: q, acc => match cutL p with
    | none => ([], 4)
    | some (w, v) => getR S q (acc ++ [⟨strOfNums w, strOfNums v⟩])
def eqs : ByteArray := ⟨#[61]⟩
theorem cut_at {p : List Int} (q : List Int) (hB : Byt (p ++ 61 :: q)) (h : (61 : Int) ∉ p) (hl : (p ++ 61 :: q).length < 1000000) : strings_Cut.f (strOfNums (p ++ 61 :: q)) (⟨#[61]⟩ : ByteArray) = some (strOfNums p, strOfNums q, true) := by
  unfold strings_Cut.f stringslite_Cut.f stringslite_Index.f
  have h1 : (⟨#[61]⟩ : ByteArray).size = 1 := rfl
  have hsz := str_size (p ++ 61 :: q)
  have hl2 := hl
  simp only [List.length_append, List.length_cons] at hsz hl2
  rw [if_pos h1, show (⟨#[61]⟩ : ByteArray).data.toList.getD 0 0 = UInt8.ofNat (61 : Int).toNat from rfl, index_at (by omega) q hB.left h, Option.bind_some, h1, show (((1 : Nat)) : Int) = 1 from rfl, if_pos (by omega), if_pos (by omega), if_pos (by omega), wr (n := (p.length : Int) + 1) (by omega) (by omega), if_pos (by omega), if_pos (by omega), Option.bind_some, str_cut, str_cut]
  have e1 : ((p ++ 61 :: q).take (strOfNums (p ++ 61 :: q)).size).drop ((p.length : Int) + 1).toNat = q := by
    rw [List.take_of_length_le (by simp only [List.length_append, List.length_cons]; omega), show ((p.length : Int) + 1).toNat = p.length + 1 by omega]
    simp
  have e2 : ((p ++ 61 :: q).take (p.length : Int).toNat).drop 0 = p := by rw [Int.toNat_natCast]; simp
  rw [e1, e2]
theorem cut_no {p : List Int} (hB : Byt p) (h : (61 : Int) ∉ p) : strings_Cut.f (strOfNums p) (⟨#[61]⟩ : ByteArray) = some (strOfNums p, (⟨#[]⟩ : ByteArray), false) := by
  unfold strings_Cut.f stringslite_Cut.f stringslite_Index.f
  have h1 : (⟨#[61]⟩ : ByteArray).size = 1 := rfl
  rw [if_pos h1, show (⟨#[61]⟩ : ByteArray).data.toList.getD 0 0 = UInt8.ofNat (61 : Int).toNat from rfl, index_no (by omega) hB h, Option.bind_some, if_neg (by omega), Option.bind_some]
/-- The program's Get, part by part. -/
theorem get_loop (S : ByteArray) : ∀ (q p : List (List Int)) (acc : List S45), (∀ c ∈ q, Byt c ∧ c.length ≤ 1000) → p.length + q.length ≤ 1000 → acc.length = p.length →
    (∀ x ∈ acc, x.f0.size ≤ 1000 ∧ x.f1.size ≤ 1000) → Ev (fun k => pairs_Get.l0 k S acc ((p ++ q).map strOfNums) (((p ++ q).length : Nat) : Int) (p.length : Int)) (getR S q acc)
  | [], p, acc, hq, hl, ha, hsz => by
    rw [List.append_nil]
    have hc : ∃ c, pairs_Check.f acc = some c := by
      unfold pairs_Check.f
      by_cases h8 : 8 < acc.length
      · exact ⟨_, if_pos h8⟩
      · rw [if_neg h8, if_pos (show Small acc from ⟨by omega, fun x hx => ⟨Nat.le_trans (hsz x hx).1 (by decide), Nat.le_trans (hsz x hx).2 (by decide)⟩⟩)]
        exact ⟨_, rfl⟩
    obtain ⟨c, hc⟩ := hc
    refine Ev.fin fun k => ?_
    simp only [pairs_Get.l0]
    rw [if_neg (by omega), hc, Option.bind_some]
    unfold getR finG
    rw [hc]
    simp only
    by_cases h0 : c = 0
    · subst h0
      have hsm := (check_zero hc).1
      rw [if_pos rfl, if_pos rfl, show pairs_text.f acc = some (textS acc) from if_pos hsm, Option.bind_some]
      split <;> rfl
    · rw [if_neg h0, if_neg h0]
  | c :: q, p, acc, hq, hl, ha, hsz => by
    simp only [List.length_cons] at hl
    obtain ⟨hcB, hcl⟩ := hq c (by simp)
    have e : p ++ c :: q = (p ++ [c]) ++ q := by simp
    have hlen : (p ++ c :: q).length = p.length + q.length + 1 := by simp; omega
    have hrd : rdOf ByteArray.empty ((p ++ c :: q).map strOfNums) (p.length : Int) = strOfNums c := by
      unfold rdOf
      rw [List.map_append, List.map_cons, Int.toNat_natCast]
      simp
    rcases first_at 61 c with hn | ⟨w, v, hw, rfl⟩
    · unfold getR
      rw [cutL_no hn]
      refine Ev.fin fun k => ?_
      simp only [pairs_Get.l0]
      rw [if_pos (by omega), if_pos (by omega), if_pos (by rw [List.length_map]; omega), hrd, cut_no hcB hn, Option.bind_some, if_neg (by simp)]
    · unfold getR
      rw [cutL_at v hw]
      have hwl := hcl
      simp only [List.length_append, List.length_cons] at hwl
      have ih := get_loop S q (p ++ [w ++ 61 :: v]) (acc ++ [⟨strOfNums w, strOfNums v⟩]) (fun d hd => hq d (List.mem_cons_of_mem _ hd)) (by simp only [List.length_append, List.length_singleton]; omega) (by simp [ha]) (fun x hx => by
        rcases List.mem_append.1 hx with hx | hx
        · exact hsz x hx
        · rw [List.mem_singleton.1 hx]
          have h1 : (strOfNums w).size = w.length := strOfNums_size _
          have h2 : (strOfNums v).size = v.length := strOfNums_size _
          exact ⟨by show (strOfNums w).size ≤ 1000; omega, by show (strOfNums v).size ≤ 1000; omega⟩)
      rw [← e, show (p ++ [w ++ 61 :: v]).length = p.length + 1 from by simp] at ih
      refine Ev.step (fun k => ?_) ih
      simp only [pairs_Get.l0]
      rw [if_pos (by omega), if_pos (by omega), if_pos (by rw [List.length_map]; omega), hrd, cut_at v hcB hw (by omega), Option.bind_some, if_pos rfl, if_pos (by omega), next_w (by omega)]

/-! ### Split at a sign of one byte -/
def one (c : Int) : ByteArray := strOfNums [c]
theorem one_size (c : Int) : (one c).size = 1 := by unfold one; rw [strOfNums_size]; rfl
theorem one_get (c : Int) : (one c).data.toList.getD 0 0 = UInt8.ofNat c.toNat := by unfold one; rw [data_str]; rfl
theorem one_ne (c : Int) : ¬ (one c).toList = [] := fun h => by have := toList_nil h; simp at this

theorem index_walk_at {c : Int} (hc : 0 ≤ c ∧ c < 256) {p : List Int} (q : List Int) (hp : Byt p) (h : c ∉ p) : strings_Index.f (strOfNums (p ++ c :: q)) (one c) = some (p.length : Int) := by
  unfold strings_Index.f stringslite_Index.f
  rw [if_pos (one_size c), one_get, index_at hc q hp h]; rfl
theorem index_walk_no {c : Int} (hc : 0 ≤ c ∧ c < 256) {p : List Int} (hp : Byt p) (h : c ∉ p) : strings_Index.f (strOfNums p) (one c) = some (-1) := by
  unfold strings_Index.f stringslite_Index.f
  rw [if_pos (one_size c), one_get, index_no hc hp h]; rfl

theorem gen_last {c n i : Int} {a done : List ByteArray} {t : List Int} (hi0 : 0 ≤ i) (hn : i = n - 1) (hl : (a.length : Int) = n) (hd : a.take i.toNat = done) (hb : n < 10000000) :
    Ev (fun k => strings_genSplit.l0 k (strOfNums t) (one c) 0 (n - 1) a i) (done ++ [strOfNums t]) := by
  refine Ev.step (f := fun _ => some (done ++ [strOfNums t])) (fun k => ?_) (Ev.now _)
  simp only [strings_genSplit.l0]
  rw [if_neg (by omega), if_pos hi0, if_pos (by omega), wr (n := i + 1) (by omega) (by omega), if_pos (by omega), if_pos (by omega), show (i + 1).toNat = i.toNat + 1 by omega, take_set a i.toNat _ (by omega), hd]
theorem gen_next {c n i : Int} (hc : 0 ≤ c ∧ c < 256) {a : List ByteArray} {p q : List Int} {r : List ByteArray} (hB : Byt (p ++ c :: q)) (hp : c ∉ p) (hi0 : 0 ≤ i) (hn : i < n - 1) (hl : (a.length : Int) = n) (hb : n < 10000000) (hlen : (p ++ c :: q).length < 10000000)
    (g : Ev (fun k => strings_genSplit.l0 k (strOfNums q) (one c) 0 (n - 1) (a.set i.toNat (strOfNums p)) (i + 1)) r) :
    Ev (fun k => strings_genSplit.l0 k (strOfNums (p ++ c :: q)) (one c) 0 (n - 1) a i) r := by
  have hsz := str_size (p ++ c :: q)
  have hlen2 := hlen
  simp only [List.length_append, List.length_cons] at hsz hlen2
  refine Ev.step (fun k => ?_) g
  simp only [strings_genSplit.l0]
  have h1 : ((one c).size : Int) = 1 := by rw [one_size]; rfl
  rw [if_pos hn, index_walk_at hc q hB.left hp, Option.bind_some, if_neg (by omega), h1, Int.add_zero, wr (n := (p.length : Int)) (by omega) (by omega), if_pos (by omega), if_pos (by omega), if_pos hi0, if_pos (by omega), wr (n := (p.length : Int) + 1) (by omega) (by omega), if_pos (by omega), if_pos (by omega), wr (n := i + 1) (by omega) (by omega), str_cut, str_cut]
  have e1 : ((p ++ c :: q).take (strOfNums (p ++ c :: q)).size).drop ((p.length : Int) + 1).toNat = q := by
    rw [List.take_of_length_le (by simp only [List.length_append, List.length_cons]; omega), show ((p.length : Int) + 1).toNat = p.length + 1 by omega]
    simp
  have e2 : ((p ++ c :: q).take (p.length : Int).toNat).drop 0 = p := by
    rw [Int.toNat_natCast]; simp
  rw [e1, e2]

theorem gen_all {c : Int} (hc : 0 ≤ c ∧ c < 256) : ∀ (d : Nat) (t : List Int) (a done : List ByteArray) (i n : Int), (splitC c t).length = d + 1 → Byt t → 0 ≤ i → i + d + 1 = n → (a.length : Int) = n → a.take i.toNat = done → n < 10000000 → t.length < 10000000 →
    Ev (fun k => strings_genSplit.l0 k (strOfNums t) (one c) 0 (n - 1) a i) (done ++ (splitC c t).map strOfNums)
  | 0, t, a, done, i, n, hd, hB, hi0, hn, hl, hda, hb, ht => by
    rw [split_no (split_one hd)]
    exact gen_last hi0 (by omega) hl hda hb
  | d + 1, t, a, done, i, n, hd, hB, hi0, hn, hl, hda, hb, ht => by
    obtain ⟨p, q, hp, rfl, e⟩ := split_two (c := c) (t := t) (by omega)
    rw [e] at hd ⊢
    simp only [List.length_append, List.length_cons] at hd ht
    have ih := gen_all hc d q (a.set i.toNat (strOfNums p)) (done ++ [strOfNums p]) (i + 1) n (by omega) hB.right.cons.2 (by omega) (by omega) (by simpa using hl) (by
      rw [show (i + 1).toNat = i.toNat + 1 by omega, take_set a i.toNat _ (by omega), hda]) hb (by omega)
    refine gen_next hc hB hp hi0 (by omega) hl hb (by simp only [List.length_append, List.length_cons]; omega) ?_
    simpa [List.append_assoc] using ih

theorem split_tell {c : Int} (hc : 0 ≤ c ∧ c < 256) (t : List Int) (hB : Byt t) (ht : t.length < 1000000) : Ev (fun k => strings_Split.f k (strOfNums t) (one c)) ((splitC c t).map strOfNums) := by
  have hcount := count_split hc t hB
  have hlen := split_len c t.length t (Nat.le_refl _)
  have hne := split_ne c t
  have hsz := str_size t
  unfold strings_Split.f
  refine Ev.bind ?_ (Ev.now _)
  unfold strings_genSplit.f
  have hC : strings_Count.f (strOfNums t) (one c) = some (((splitC c t).length : Int) - 1) := by
    unfold strings_Count.f
    rw [if_pos (one_size c), one_get]
    congr 1; omega
  refine Ev.congr (f := fun k => strings_genSplit.j0 k (strOfNums t) (one c) 0 ((splitC c t).length : Int)) (fun k => ?_) ?_
  · rw [if_neg (by omega), if_neg (one_ne c), if_pos (by omega), hC, Option.bind_some, wr (by omega) (by omega), show ((splitC c t).length : Int) - 1 + 1 = ((splitC c t).length : Int) by omega]
  · have hmn : mn ((splitC c t).length : Int) (wrap64 (((strOfNums t).size : Int) + 1)) = ((splitC c t).length : Int) := by
      rw [wr (by omega) (by omega)]
      unfold mn
      rw [if_neg (by omega)]
    have g := gen_all hc ((splitC c t).length - 1) t (List.replicate (splitC c t).length (⟨#[]⟩ : ByteArray)) [] 0 ((splitC c t).length : Int) (by omega) hB (by omega) (by omega) (by simp) (by simp) (by omega) (by omega)
    rw [List.nil_append] at g
    refine Ev.step (fun k => ?_) g
    simp only [strings_genSplit.j0]
    rw [hmn, if_pos (by omega), Int.toNat_natCast, if_pos (by omega), wr (n := ((splitC c t).length : Int) - 1) (by omega) (by omega)]

theorem piece_len {c : Int} : ∀ (n : Nat) {t : List Int}, t.length ≤ n → ∀ p ∈ splitC c t, p.length ≤ t.length
  | n, t, hn, p, hp => by
    rcases first_at c t with k | ⟨a, q, ha, rfl⟩
    · rw [split_no k] at hp
      rw [List.mem_singleton.1 hp]
      exact Nat.le_refl _
    · rw [split_at q ha] at hp
      simp only [List.length_append, List.length_cons] at hn ⊢
      rcases List.mem_cons.1 hp with rfl | hp
      · omega
      · match n, hn with
        | 0, hn => omega
        | n + 1, hn =>
          have := piece_len n (t := q) (by omega) p hp
          omega

/-! ### there and back -/
def pieceN (x : S45) : List Int := bytesOf x.f0 ++ 61 :: bytesOf x.f1
theorem sortL_sortL {l : List S45} (h : Uniq l) : sortL (sortL l) = sortL l := by
  have h1 := sortL_strict (sortL_uniq h)
  have h2 := sortL_strict h
  exact (sortL_perm (sortL l)).eq_of_pairwise (fun a b _ _ hab hba => absurd hba (by rw [ltB_asymm hab]; simp)) h1 h2
theorem textS_sort {l : List S45} (h : Uniq l) : textS (sortL l) = textS l := by
  unfold textS
  rw [sortL_sortL h]
def okP (x : S45) : Prop := ¬ (x.f0.toList = [] ∨ plainB x.f0 = false ∨ plainB x.f1 = false)
theorem checkL_ok : ∀ (q p : List S45), checkL p q = 0 → ∀ x ∈ q, okP x
  | [], p, _ => by simp
  | y :: q, p, h => by
    simp only [checkL] at h
    split at h
    · cases h
    · rename_i h1
      split at h
      · cases h
      · intro x hx
        rcases List.mem_cons.1 hx with rfl | hx
        · exact h1
        · exact checkL_ok q _ h x hx
theorem checkL_of : ∀ (q p : List S45), (∀ x ∈ q, okP x) → Uniq (p ++ q) → checkL p q = 0
  | [], _, _, _ => rfl
  | x :: q, p, h, hu => by
    simp only [checkL]
    rw [if_neg (h x (by simp)), if_neg ?_]
    · exact checkL_of q (p ++ [x]) (fun y hy => h y (List.mem_cons_of_mem _ hy)) (by rw [List.append_assoc]; exact hu)
    · rintro ⟨y, hy, he⟩
      unfold Uniq at hu
      rw [List.pairwise_append] at hu
      have := hu.2.2 y hy x (by simp)
      rw [Lib.toList_data, Lib.toList_data] at this
      exact this he
theorem check_parts {l : List S45} (h : pairs_Check.f l = some 0) : l.length ≤ 8 ∧ checkL [] l = 0 ∧ (textS l).size ≤ 24 := by
  have hs := (check_zero h).1
  have h8 := hs.1
  unfold pairs_Check.f at h
  rw [if_neg (by omega), if_pos hs] at h
  have h := Option.some.inj h
  split at h
  · rename_i hc
    split at h
    · cases h
    · exact ⟨h8, hc, by omega⟩
  · rename_i hc
    exact absurd h hc
theorem check_sorted {l : List S45} (h : pairs_Check.f l = some 0) : pairs_Check.f (sortL l) = some 0 := by
  obtain ⟨hs, hu⟩ := check_zero h
  obtain ⟨h8, hc, h24⟩ := check_parts h
  have hlen := sortL_len l
  have hs2 : Small (sortL l) := ⟨by omega, fun x hx => hs.2 x (sortL_mem hx)⟩
  have hc2 : checkL [] (sortL l) = 0 := checkL_of _ _ (fun x hx => checkL_ok l [] hc x (sortL_mem hx)) (sortL_uniq hu)
  unfold pairs_Check.f
  rw [if_neg (by omega), if_pos hs2, if_pos hc2, textS_sort hu, if_neg (by omega)]
/-! the text, in numbers -/
def joinN : List (List Int) → List Int
  | [] => []
  | [p] => p
  | p :: q :: r => p ++ 38 :: joinN (q :: r)
theorem split_join : ∀ (ps : List (List Int)), ps ≠ [] → (∀ p ∈ ps, (38 : Int) ∉ p) → splitC 38 (joinN ps) = ps
  | [], h, _ => absurd rfl h
  | [p], _, h => split_no (h p (by simp))
  | p :: q :: r, _, h => by
    show splitC 38 (p ++ 38 :: joinN (q :: r)) = _
    rw [split_at _ (h p (by simp)), split_join (q :: r) (by simp) (fun x hx => h x (List.mem_cons_of_mem _ hx))]
def u8 (n : Int) : UInt8 := UInt8.ofNat n.toNat
theorem u8_bytes (s : ByteArray) : (bytesOf s).map u8 = s.data.toList := by
  unfold Go.Proofs.YtefmoefiamjmpaaDoorW.PrintWords.bytesOf
  rw [List.map_map]
  conv => rhs; rw [← List.map_id s.data.toList]
  apply List.map_congr_left
  intro b _
  simp [u8]
theorem piece_u8 (x : S45) : (pieceN x).map u8 = (pieceB x).data.toList := by
  unfold pieceN
  rw [List.map_append, List.map_cons, u8_bytes, u8_bytes, piece_list]
  simp [u8]
theorem join_u8 : ∀ (ps : List (List Int)), (joinN ps).map u8 = Lib.join (ps.map (·.map u8)) [38]
  | [] => rfl
  | [p] => by
    show p.map u8 = Lib.join [p.map u8] [38]
    rw [Lib.join_cons]
    simp [Lib.joinTail]
  | p :: q :: r => by
    have ih := join_u8 (q :: r)
    show (p ++ 38 :: joinN (q :: r)).map u8 = _
    rw [List.map_append, List.map_cons, ih, List.map_cons, List.map_cons, List.map_cons, Lib.join_cons, Lib.join_cons]
    simp [Lib.joinTail, u8]
theorem strOf_data (xs : List Int) : (strOfNums xs).data.toList = xs.map u8 := by
  unfold strOfNums
  simp
  exact fun a _ => rfl
theorem text_nums (l : List S45) : textS l = strOfNums (joinN ((sortL l).map pieceN)) := by
  apply ba_eq
  rw [strOf_data, join_u8, List.map_map]
  unfold textS
  show Lib.join _ _ = Lib.join _ _
  congr 1
  apply List.map_congr_left
  intro x _
  exact (piece_u8 x).symm
theorem bytes_byt (s : ByteArray) : Byt (bytesOf s) := by
  intro x hx
  unfold Go.Proofs.YtefmoefiamjmpaaDoorW.PrintWords.bytesOf at hx
  obtain ⟨b, _, rfl⟩ := List.mem_map.1 hx
  have := b.toNat_lt
  omega
theorem bytes_len (s : ByteArray) : (bytesOf s).length = s.size := by simp [Go.Proofs.YtefmoefiamjmpaaDoorW.PrintWords.bytesOf]
theorem str_bytes (s : ByteArray) : strOfNums (bytesOf s) = s := by
  apply ba_eq
  rw [strOf_data, u8_bytes]
theorem piece_byt (x : S45) : Byt (pieceN x) := by
  unfold pieceN
  exact (bytes_byt _).app (Byt.mk (by omega) (bytes_byt _))
theorem plain_no {s : ByteArray} (h : plainB s = true) {c : Int} (hc : signB c = false) : c ∉ bytesOf s := fun hm => by
  unfold plainB at h
  have := List.all_eq_true.1 h c hm
  rw [hc] at this
  cases this
theorem sign_no {c : Int} (h : ¬ ((97 ≤ c ∧ c ≤ 122) ∨ (65 ≤ c ∧ c ≤ 90) ∨ (48 ≤ c ∧ c ≤ 57) ∨ c = 45 ∨ c = 95 ∨ c = 46)) : signB c = false := by
  cases hb : signB c with
  | false => rfl
  | true => exact absurd ((sign_iff c).1 hb) h
theorem ok_plain {x : S45} (h : okP x) : x.f0.toList ≠ [] ∧ plainB x.f0 = true ∧ plainB x.f1 = true := by
  unfold okP at h
  rw [not_or, not_or] at h
  exact ⟨h.1, by simpa using h.2.1, by simpa using h.2.2⟩
theorem piece_no38 {x : S45} (h : okP x) : (38 : Int) ∉ pieceN x := fun hm => by
  obtain ⟨_, h1, h2⟩ := ok_plain h
  unfold pieceN at hm
  rcases List.mem_append.1 hm with hm | hm
  · exact plain_no h1 (sign_no (by omega)) hm
  · rcases List.mem_cons.1 hm with hm | hm
    · omega
    · exact plain_no h2 (sign_no (by omega)) hm
theorem piece_cut {x : S45} (h : okP x) : cutL (pieceN x) = some (bytesOf x.f0, bytesOf x.f1) := cutL_at _ (plain_no (ok_plain h).2.1 (sign_no (by omega)))
theorem getR_pieces (S : ByteArray) : ∀ (q acc : List S45), (∀ x ∈ q, okP x) → getR S (q.map pieceN) acc = finG S (acc ++ q)
  | [], acc, _ => by
    rw [List.append_nil]
    rfl
  | x :: q, acc, h => by
    rw [List.map_cons]
    unfold getR
    rw [piece_cut (h x (by simp))]
    show getR S (q.map pieceN) (acc ++ [⟨strOfNums (bytesOf x.f0), strOfNums (bytesOf x.f1)⟩]) = _
    rw [str_bytes, str_bytes, getR_pieces S q _ (fun y hy => h y (List.mem_cons_of_mem _ hy)), List.append_assoc]
    rfl
theorem get_split (xs : List Int) (hx : Byt xs) (hl : xs.length ≤ 900) (h0 : ¬ (strOfNums xs).toList = []) : Ev (fun k => pairs_Get.f k (strOfNums xs)) (getR (strOfNums xs) (splitC 38 xs) []) := by
  have hmem := split_byt xs.length (c := 38) (Nat.le_refl _) hx
  have hln := split_len 38 xs.length xs (Nat.le_refl _)
  have hq : ∀ c ∈ splitC 38 xs, Byt c ∧ c.length ≤ 1000 := fun c hc => ⟨hmem c hc, by
    have := piece_len xs.length (c := 38) (Nat.le_refl _) c hc
    omega⟩
  have hg := get_loop (strOfNums xs) (splitC 38 xs) [] [] hq (by simp only [List.length_nil]; omega) rfl (by simp)
  refine Ev.congr (f := fun k => (strings_Split.f k (strOfNums xs) (one 38)).bind fun t128 => (pairs_Get.l0 k (strOfNums xs) ([] : List (S45)) t128 (t128.length : Int) 0)) (fun k => by unfold pairs_Get.f; rw [if_neg h0]; rfl) (Ev.bind (split_tell (by omega) xs hx (by omega)) ?_)
  rw [List.length_map]
  exact hg
theorem sortL_nil {l : List S45} (h : sortL l = []) : l = [] := by
  have := sortL_len l
  rw [h] at this
  exact List.length_eq_zero_iff.1 (by simpa using this.symm)
/-- Pairs that may be are read from their text as they were, by their words. -/
theorem there {l : List S45} (h : pairs_Check.f l = some 0) : Ev (fun k => pairs_Get.f k (textS l)) (sortL l, 0) := by
  obtain ⟨hs, hu⟩ := check_zero h
  obtain ⟨h8, hc, h24⟩ := check_parts h
  have hok : ∀ x ∈ sortL l, okP x := fun x hx => checkL_ok l [] hc x (sortL_mem hx)
  by_cases hn : sortL l = []
  · have ht : (textS l).toList = [] := by rw [text_nums, hn, toList_str]; rfl
    rw [hn]
    exact Ev.congr (fun k => by unfold pairs_Get.f; rw [if_pos ht]) (Ev.now _)
  · have hsz : ((textS l).size : Int) = ((joinN ((sortL l).map pieceN)).length : Int) := by rw [text_nums, str_size]
    have hne : (sortL l).map pieceN ≠ [] := fun e => hn (List.map_eq_nil_iff.1 e)
    have hsp : splitC 38 (joinN ((sortL l).map pieceN)) = (sortL l).map pieceN := split_join _ hne fun p hp => by
      obtain ⟨x, hx, rfl⟩ := List.mem_map.1 hp
      exact piece_no38 (hok x hx)
    have hB : Byt (joinN ((sortL l).map pieceN)) := by
      have : ∀ (ps : List (List Int)), (∀ p ∈ ps, Byt p) → Byt (joinN ps) := by
        intro ps
        induction ps with
        | nil => exact fun _ => Byt.nil
        | cons p q ih =>
          intro hp
          cases q with
          | nil => exact hp p (by simp)
          | cons q r => exact (hp p (by simp)).app (Byt.mk (by omega) (ih fun y hy => hp y (List.mem_cons_of_mem _ hy)))
      exact this _ fun p hp => by
        obtain ⟨x, hx, rfl⟩ := List.mem_map.1 hp
        exact piece_byt x
    have h0 : ¬ (strOfNums (joinN ((sortL l).map pieceN))).toList = [] := fun e => by
      have e := toList_nil e
      cases hm : sortL l with
      | nil => exact hn hm
      | cons x q =>
        rw [hm] at e
        cases q with
        | nil =>
          have e : pieceN x = [] := e
          unfold pieceN at e
          simp at e
        | cons y r =>
          have e : pieceN x ++ 38 :: joinN ((y :: r).map pieceN) = [] := e
          simp at e
    have hg := get_split (joinN ((sortL l).map pieceN)) hB (by omega) h0
    rw [hsp, getR_pieces _ _ _ hok, List.nil_append, ← text_nums] at hg
    have hf : finG (textS l) (sortL l) = (sortL l, 0) := by
      unfold finG
      rw [check_sorted h]
      simp only [if_true]
      rw [textS_sort hu, if_pos rfl]
    rwa [hf] at hg
theorem finG_zero {S : ByteArray} {acc : List S45} {r : List S45} (h : finG S acc = (r, 0)) (hc : ∃ c, pairs_Check.f acc = some c) : pairs_Check.f r = some 0 ∧ (textS r).toList = S.toList := by
  obtain ⟨c, hc⟩ := hc
  unfold finG at h
  rw [hc] at h
  simp only at h
  split at h
  · rename_i h0
    subst h0
    split at h
    · rename_i ht
      obtain rfl : acc = r := congrArg Prod.fst h
      exact ⟨hc, ht⟩
    · have := congrArg Prod.snd h
      cases this
  · rename_i h0
    exact absurd (congrArg Prod.snd h) h0
theorem cutL_len : ∀ {p w v : List Int}, cutL p = some (w, v) → w.length ≤ p.length ∧ v.length ≤ p.length
  | [], w, v, h => by cases h
  | c :: r, w, v, h => by
    unfold cutL at h
    split at h
    · simp only [Option.some.injEq, Prod.mk.injEq] at h
      obtain ⟨rfl, rfl⟩ := h
      simp
    · cases hr : cutL r with
      | none => rw [hr] at h; cases h
      | some z =>
        rw [hr] at h
        simp only [Option.map_some, Option.some.injEq, Prod.mk.injEq] at h
        obtain ⟨rfl, rfl⟩ := h
        have := cutL_len (p := r) (w := z.1) (v := z.2) hr
        simp only [List.length_cons]
        omega
theorem check_some {acc : List S45} (hsz : ∀ x ∈ acc, x.f0.size ≤ 1000 ∧ x.f1.size ≤ 1000) : ∃ c, pairs_Check.f acc = some c := by
  unfold pairs_Check.f
  by_cases h8 : 8 < acc.length
  · exact ⟨_, if_pos h8⟩
  · rw [if_neg h8, if_pos (show Small acc from ⟨by omega, fun x hx => ⟨Nat.le_trans (hsz x hx).1 (by decide), Nat.le_trans (hsz x hx).2 (by decide)⟩⟩)]
    exact ⟨_, rfl⟩
theorem getR_zero {S : ByteArray} {r : List S45} : ∀ (q : List (List Int)) (acc : List S45), (∀ c ∈ q, c.length ≤ 1000) → (∀ x ∈ acc, x.f0.size ≤ 1000 ∧ x.f1.size ≤ 1000) → getR S q acc = (r, 0) → pairs_Check.f r = some 0 ∧ (textS r).toList = S.toList
  | [], acc, _, hsz, h => finG_zero h (check_some hsz)
  | p :: q, acc, hq, hsz, h => by
    unfold getR at h
    split at h
    · have := congrArg Prod.snd h
      cases this
    · rename_i w v hcut
      have hp := hq p (by simp)
      have hl := cutL_len hcut
      refine getR_zero q _ (fun c hc => hq c (List.mem_cons_of_mem _ hc)) (fun x hx => ?_) h
      rcases List.mem_append.1 hx with hx | hx
      · exact hsz x hx
      · rw [List.mem_singleton.1 hx]
        have h1 : (strOfNums w).size = w.length := strOfNums_size _
        have h2 : (strOfNums v).size = v.length := strOfNums_size _
        exact ⟨by show (strOfNums w).size ≤ 1000; omega, by show (strOfNums v).size ≤ 1000; omega⟩
/-- What any text is read as; a text that is pairs is their text. -/
theorem back {s : ByteArray} (hs : s.size ≤ 300) : ∃ r, Ev (fun k => pairs_Get.f k s) r ∧ (r.2 = 0 → pairs_Check.f r.1 = some 0 ∧ (textS r.1).toList = s.toList) := by
  obtain ⟨xs, hx, rfl, hxl⟩ := str_of s
  by_cases h0 : (strOfNums xs).toList = []
  · refine ⟨([], 0), Ev.congr (fun k => by unfold pairs_Get.f; rw [if_pos h0]) (Ev.now _), fun _ => ⟨?_, ?_⟩⟩
    · decide +kernel
    · rw [h0]
      decide +kernel
  · refine ⟨_, get_split xs hx (by omega) h0, fun h => ?_⟩
    refine getR_zero (S := strOfNums xs) (splitC 38 xs) [] (fun c hc => ?_) (by simp) (Prod.ext rfl h)
    have := piece_len xs.length (c := 38) (Nat.le_refl _) c hc
    omega
theorem find_uniq {l : List S45} (hu : Uniq l) {x : S45} (hx : x ∈ l) : l.find? (fun y => y.f0.toList == x.f0.toList) = some x := by
  induction l with
  | nil => cases hx
  | cons y l ih =>
    unfold Uniq at hu
    rw [List.pairwise_cons] at hu
    rcases List.mem_cons.1 hx with rfl | hx
    · rw [List.find?_cons_of_pos (by simp)]
    · rw [List.find?_cons_of_neg (by simpa using hu.1 x hx)]
      exact ih hu.2 hx

theorem PairsBack (l : List S36) (s : ByteArray) : ∃ k, deedboxlaw41_PairsBack.f k l s = some true := by
  refine Ev.rounds ?_
  have stop : Ev (fun k => deedboxlaw41_PairsBack.j0 k l s true) true := by
    refine Ev.step (f := fun k => (deedboxlaw41_works.f k).bind fun t => some t) (fun k => ?_) (works_end fun k => rfl)
    simp only [deedboxlaw41_PairsBack.j0, if_true]
  obtain ⟨b, hb, hbs⟩ := small_tell l
  unfold deedboxlaw41_PairsBack.f
  refine Ev.bind hb ?_
  cases b with
  | false => exact Ev.congr (fun k => by rw [if_neg (by simp)]) stop
  | true =>
    obtain ⟨h20, hsz⟩ := hbs rfl
    refine Ev.congr (f := fun k => deedboxlaw41_PairsBack.j0 k l s (decide ((s.size : Int) > 300))) (fun k => by rw [if_pos rfl]) ?_
    by_cases h300 : (s.size : Int) > 300
    · rw [decide_eq_true h300]
      exact stop
    · rw [decide_eq_false h300]
      have hs : l.length ≤ 8 → Small (l.map conv) := fun h8 => ⟨by rw [List.length_map]; exact h8, fun x hx => by
        obtain ⟨y, hy, rfl⟩ := List.mem_map.1 hx
        have := hsz y hy
        exact ⟨Nat.le_trans this.1 (by decide), Nat.le_trans this.2 (by decide)⟩⟩
      have last : Ev (fun k => deedboxlaw41_PairsBack.j3 k s) true := by
        obtain ⟨r, hr, hz⟩ := back (s := s) (by omega)
        obtain ⟨r1, r2⟩ := r
        by_cases h0 : r2 = 0
        · obtain ⟨hc, ht⟩ := hz h0
          simp only at hc ht
          subst h0
          have hp : pairs_Put.f r1 = some (textS r1, 0) := by
            unfold pairs_Put.f pairs_text.f
            rw [hc, Option.bind_some, if_pos rfl, if_pos (check_zero hc).1]
            rfl
          refine Ev.step (fun k => ?_) (Ev.bind hr (f := fun k bt202 => (if bt202.2 = 0 then ((pairs_Put.f bt202.1).bind fun bt206 => (if bt206.2 = 0 then (if bt206.1.toList = s.toList then ((deedboxlaw41_works.f k).bind fun t208 => (some t208)) else (none)) else (none))) else ((deedboxlaw41_works.f k).bind fun t209 => (some t209)))) ?_)
          · simp only [deedboxlaw41_PairsBack.j3]
          · simp only [if_true, hp, Option.bind_some, ht]
            exact works_end fun k => rfl
        · refine Ev.step (fun k => ?_) (Ev.bind hr (f := fun k bt202 => (if bt202.2 = 0 then ((pairs_Put.f bt202.1).bind fun bt206 => (if bt206.2 = 0 then (if bt206.1.toList = s.toList then ((deedboxlaw41_works.f k).bind fun t208 => (some t208)) else (none)) else (none))) else ((deedboxlaw41_works.f k).bind fun t209 => (some t209)))) ?_)
          · simp only [deedboxlaw41_PairsBack.j3]
          · simp only [if_neg h0]
            exact works_end fun k => rfl
      obtain ⟨c, hc, hEc⟩ := refcheck_tell l hs
      refine Ev.step (f := fun k => (deedboxref41_Check.f k l).bind fun t186 => (if t186 = 0 then ((deedboxlaw41_own.f k l).bind fun t187 => ((pairs_Put.f t187).bind fun bt190 => ((pairs_Get.f k bt190.1).bind fun bt192 => (if bt190.2 = 0 then (if bt192.2 = 0 then (if (bt192.1.length : Int) = (l.length : Int) then (deedboxlaw41_PairsBack.j1 k l s bt192.1 (decide ((bt190.1.size : Int) > 24))) else (deedboxlaw41_PairsBack.j1 k l s bt192.1 true)) else (deedboxlaw41_PairsBack.j1 k l s bt192.1 true)) else (deedboxlaw41_PairsBack.j1 k l s bt192.1 true))))) else (deedboxlaw41_PairsBack.j3 k s))) (fun k => ?_) (Ev.bind hEc ?_)
      · simp only [deedboxlaw41_PairsBack.j0, Bool.false_eq_true, if_false]
      · by_cases h0 : c = 0
        · subst h0
          obtain ⟨hsm, hu⟩ := check_zero hc
          obtain ⟨h8, hck, h24⟩ := check_parts hc
          rw [List.length_map] at h8
          have hp2 : pairs_Put.f (l.map conv) = some (textS (l.map conv), 0) := by
            unfold pairs_Put.f pairs_text.f
            rw [hc, Option.bind_some, if_pos rfl, if_pos hsm]
            rfl
          have hslen : (sortL (l.map conv)).length = l.length := by rw [sortL_len, List.length_map]
          have hst := sortL_strict hu
          rw [List.pairwise_iff_getElem] at hst
          have hrd : ∀ n (h : n < (sortL (l.map conv)).length), rd_T45 (sortL (l.map conv)) (n : Int) = (sortL (l.map conv))[n] := fun n h => by
            unfold rd_T45
            rw [Int.toNat_natCast, List.getD_eq_getElem?_getD, List.getElem?_eq_getElem h]
            rfl
          have loop : ∀ (d n : Nat), n + d = l.length → Ev (fun k => deedboxlaw41_PairsBack.l0 k l s (sortL (l.map conv)) (n : Int)) true := by
            intro d
            induction d with
            | zero =>
              intro n hn
              refine Ev.step (fun k => ?_) last
              simp only [deedboxlaw41_PairsBack.l0]
              rw [if_neg (by omega)]
            | succ d ih =>
              intro n hn
              have hnl : n < l.length := by omega
              have hx : conv l[n] ∈ sortL (l.map conv) := (sortL_perm _).mem_iff.2 (List.mem_map.2 ⟨l[n], List.getElem_mem hnl, rfl⟩)
              have hv : pairs_Value.f (sortL (l.map conv)) l[n].f0 = some (l[n].f1, true) := by
                unfold pairs_Value.f
                have := find_uniq (sortL_uniq hu) hx
                rw [show (conv l[n]).f0 = l[n].f0 from rfl] at this
                rw [this]
                rfl
              refine Ev.step (fun k => ?_) (ih (n + 1) (by omega))
              simp only [deedboxlaw41_PairsBack.l0]
              rw [if_pos (by omega), if_pos (by omega), rd36 hnl, hv, Option.bind_some, if_pos rfl, if_pos rfl, next_w (by omega)]
              by_cases hn0 : n = 0
              · rw [if_neg (by omega)]
              · have hw : wrap64 ((n : Int) - 1) = ((n - 1 : Nat) : Int) := by unfold wrap64; omega
                rw [if_pos (by omega), hw, if_pos (by omega), if_pos (by omega), if_pos (by omega), hrd _ (by omega), hrd _ (by omega), if_pos (by have := hst (n - 1) n (by omega) (by omega) (by omega); unfold ltB at this; exact this)]
          simp only [if_true]
          refine Ev.bind (own_tell l (by omega)) ?_
          simp only [hp2, Option.bind_some]
          refine Ev.bind (there hc) ?_
          simp only [if_true, hslen]
          rw [decide_eq_false (show ¬ (((textS (l.map conv)).size : Int) > 24) from by omega)]
          refine Ev.step (fun k => ?_) (loop l.length 0 (by omega))
          simp only [deedboxlaw41_PairsBack.j1, Bool.false_eq_true, if_false]
          rfl
        · refine Ev.congr (fun k => ?_) last
          rw [if_neg h0]


end Go.Proofs.YtefmoefiamjmpaaDoor.Pure
