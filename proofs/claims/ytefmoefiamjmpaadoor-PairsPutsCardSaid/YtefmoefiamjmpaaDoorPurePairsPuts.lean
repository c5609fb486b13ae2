/- The pure statement of PairsPuts: what the walk tells answers as the chapter says. -/
import Derived.Test.YtefmoefiamjmpaaDoorQPairsPutsx6
import Derived.Test.YtefmoefiamjmpaaDoorPairsCore
namespace Go.Proofs.YtefmoefiamjmpaaDoor.Pure
open Go.RowKit Go.Lib Go.Proofs.YtefmoefiamjmpaaDoor.QPairsPuts Go.Proofs.YtefmoefiamjmpaaDoor.Pa Go.Proofs.YtefmoefiamjmpaaDoor.Pc Go.Proofs.YtefmoefiamjmpaaDoorW.PrintWords Go.Proofs.YtefmoefiamjmpaaDoorW.PrintLast Go.Proofs.YtefmoefiamjmpaaDoorW.PrintMore
set_option linter.unusedVariables false
set_option linter.unusedSimpArgs false

theorem Ev.fin {α : Type} {g : Nat → Option α} {r : α} (h : ∀ k, g (k + 1) = some r) : Ev g r := ⟨1, fun n hn => by
  obtain ⟨m, rfl⟩ : ∃ m, n = m + 1 := ⟨n - 1, by omega⟩
  exact h m⟩
theorem next_w {n : Nat} (h : n < 1000000) : wrap64 ((n : Int) + 1) = ((n + 1 : Nat) : Int) := by unfold wrap64; omega
/-! ### The reference's Text -/
def joinP (t : List S45) : ByteArray := ⟨(Lib.join (t.map fun x => (pieceB x).data.toList) [38]).toArray⟩
theorem ba_eq {a b : ByteArray} (h : a.data.toList = b.data.toList) : a = b := ByteArray.ext (Array.toList_inj.1 h)
theorem ba_app (a b : ByteArray) : (a ++ b).data.toList = a.data.toList ++ b.data.toList := by rw [ByteArray.data_append, Array.toList_append]
theorem piece_list (x : S45) : (pieceB x).data.toList = x.f0.data.toList ++ [61] ++ x.f1.data.toList := by
  unfold pieceB
  rw [ba_app, ba_app]
theorem joinP_one (x : S45) : joinP [x] = (((⟨#[]⟩ : ByteArray) ++ x.f0) ++ (⟨#[61]⟩ : ByteArray)) ++ x.f1 := by
  apply ba_eq
  rw [ba_app, ba_app, ba_app]
  show (Lib.join [(pieceB x).data.toList] [38]) = _
  rw [Lib.join_cons, piece_list]
  simp [Lib.joinTail]
theorem joinP_snoc (t : List S45) (x : S45) (h : t ≠ []) : joinP (t ++ [x]) = (((joinP t ++ (⟨#[38]⟩ : ByteArray)) ++ x.f0) ++ (⟨#[61]⟩ : ByteArray)) ++ x.f1 := by
  apply ba_eq
  rw [ba_app, ba_app, ba_app, ba_app]
  cases t with
  | nil => exact absurd rfl h
  | cons y t =>
    show (Lib.join (((y :: t) ++ [x]).map fun x => (pieceB x).data.toList) [38]) = (Lib.join ((y :: t).map fun x => (pieceB x).data.toList) [38]) ++ [38] ++ x.f0.data.toList ++ [61] ++ x.f1.data.toList
    rw [List.cons_append, List.map_cons, List.map_cons, Lib.join_cons, Lib.join_cons, List.map_append, List.map_singleton, piece_list x]
    simp [Lib.joinTail]
section
variable (l : List S36) (hu : Uniq (l.map conv)) (hs : Small (l.map conv))
theorem rd36 {l : List S36} {i : Nat} (h : i < l.length) : rd_T36 l (i : Int) = l[i] := by
  unfold rd_T36
  rw [Int.toNat_natCast, List.getD_eq_getElem?_getD, List.getElem?_eq_getElem h]
  rfl
/-- What the round n looks for. -/
def elig (n : Nat) (last : ByteArray) (x : S36) : Prop := n = 0 ∨ Op.bytesLess last.toList x.f0.toList = true
def Best (l : List S36) (n : Nat) (last : ByteArray) (i : Nat) (best : Int) : Prop :=
  (best = -1 ∧ ∀ j (h : j < l.length), j < i → ¬ elig n last l[j]) ∨
  (∃ (b : Nat) (hb : b < l.length), best = (b : Int) ∧ b < i ∧ elig n last l[b] ∧ ∀ j (h : j < l.length), j < i → elig n last l[j] → ltB l[j].f0 l[b].f0 = false)
theorem best_is {l : List S36} (hu : Uniq (l.map conv)) {n : Nat} (hn : n < l.length) {last : ByteArray} (hl : n = 0 ∨ ∃ (hp : n - 1 < (sortL (l.map conv)).length), last = (sortL (l.map conv))[n - 1].f0) {best : Int} (h : Best l n last l.length best) :
    ∃ (b : Nat) (hb : b < l.length) (hn2 : n < (sortL (l.map conv)).length), best = (b : Int) ∧ conv l[b] = (sortL (l.map conv))[n] := by
  have hlen : (sortL (l.map conv)).length = l.length := by rw [sortL_len, List.length_map]
  have hst := sortL_strict hu
  rw [List.pairwise_iff_getElem] at hst
  have hn2 : n < (sortL (l.map conv)).length := by omega
  have hmem : (sortL (l.map conv))[n] ∈ l.map conv := (sortL_perm _).mem_iff.1 (List.getElem_mem hn2)
  obtain ⟨y, hy, hye⟩ := List.mem_map.1 hmem
  obtain ⟨q, hq, rfl⟩ := List.mem_iff_getElem.1 hy
  have hqe : elig n last l[q] := by
    rcases hl with h0 | ⟨hp, rfl⟩
    · exact .inl h0
    · by_cases h0 : n = 0
      · exact .inl h0
      · have := hst (n - 1) n hp hn2 (by omega)
        rw [← hye] at this
        exact .inr this
  rcases h with ⟨_, h⟩ | ⟨b, hb, rfl, _, hbe, hmin⟩
  · exact absurd hqe (h q hq hq)
  · refine ⟨b, hb, hn2, rfl, ?_⟩
    have hbm : conv l[b] ∈ sortL (l.map conv) := (sortL_perm _).mem_iff.2 (List.mem_map.2 ⟨l[b], List.getElem_mem hb, rfl⟩)
    obtain ⟨c, hc, hce⟩ := List.mem_iff_getElem.1 hbm
    have hm := hmin q hq hq hqe
    have hcn : ¬ n < c := fun hlt => by
      have := hst n c hn2 hc hlt
      rw [hce, ← hye] at this
      exact absurd (this.symm.trans hm) (by simp)
    have hnc : ¬ c < n := fun hlt => by
      rcases hbe with h0 | hbe
      · omega
      · rcases hl with h0 | ⟨hp, rfl⟩
        · omega
        · have e : l[b].f0 = (sortL (l.map conv))[c].f0 := by rw [hce]; rfl
          rw [e] at hbe
          by_cases hcp : c = n - 1
          · subst hcp
            exact absurd hbe (by have := ltB_irrefl (sortL (l.map conv))[n - 1].f0; unfold ltB at this; rw [this]; simp)
          · have := ltB_asymm (hst c (n - 1) hc hp (by omega))
            unfold ltB at this
            rw [this] at hbe
            cases hbe
    have : c = n := by omega
    subst this
    exact hce.symm
theorem best_step {l : List S36} {n : Nat} {last : ByteArray} {i : Nat} (hi : i < l.length) {best : Int} (h : Best l n last i best) :
    (¬ elig n last l[i] → Best l n last (i + 1) best) ∧
    (elig n last l[i] → best = -1 → Best l n last (i + 1) (i : Int)) ∧
    (elig n last l[i] → ∀ (b : Nat) (hb : b < l.length), best = (b : Int) → (ltB l[i].f0 l[b].f0 = true → Best l n last (i + 1) (i : Int)) ∧ (ltB l[i].f0 l[b].f0 = false → Best l n last (i + 1) best)) := by
  refine ⟨fun he => ?_, fun he hb => ?_, fun he b hb hbe => ⟨fun hlt => ?_, fun hlt => ?_⟩⟩
  · rcases h with ⟨h1, h2⟩ | ⟨b, hb, h1, h2, h3, h4⟩
    · refine .inl ⟨h1, fun j hj hji => ?_⟩
      by_cases e : j = i
      · subst e; exact he
      · exact h2 j hj (by omega)
    · refine .inr ⟨b, hb, h1, by omega, h3, fun j hj hji hje => ?_⟩
      by_cases e : j = i
      · subst e; exact absurd hje he
      · exact h4 j hj (by omega) hje
  · rcases h with ⟨h1, h2⟩ | ⟨b, hb', h1, h2, h3, h4⟩
    · refine .inr ⟨i, hi, rfl, by omega, he, fun j hj hji hje => ?_⟩
      by_cases e : j = i
      · subst e; exact ltB_irrefl _
      · exact absurd hje (h2 j hj (by omega))
    · omega
  · rcases h with ⟨h1, h2⟩ | ⟨b', hb', h1, h2, h3, h4⟩
    · omega
    · obtain rfl : b = b' := by omega
      refine .inr ⟨i, hi, rfl, by omega, he, fun j hj hji hje => ?_⟩
      by_cases e : j = i
      · subst e; exact ltB_irrefl _
      · have := h4 j hj (by omega) hje
        cases hx : ltB l[j].f0 l[i].f0 with
        | false => rfl
        | true => rw [ltB_trans hx hlt] at this; cases this
  · rcases h with ⟨h1, h2⟩ | ⟨b', hb', h1, h2, h3, h4⟩
    · omega
    · obtain rfl : b = b' := by omega
      refine .inr ⟨b, hb, hbe, by omega, h3, fun j hj hji hje => ?_⟩
      by_cases e : j = i
      · subst e; exact hlt
      · exact h4 j hj (by omega) hje
end
/-- What is told of one pair behind the text so far. -/
def addP (n : Nat) (s : ByteArray) (x : S36) : ByteArray := if n = 0 then ((s ++ x.f0) ++ (⟨#[61]⟩ : ByteArray)) ++ x.f1 else (((s ++ (⟨#[38]⟩ : ByteArray)) ++ x.f0) ++ (⟨#[61]⟩ : ByteArray)) ++ x.f1
theorem text_inner {l : List S36} (hu : Uniq (l.map conv)) (hs : Small (l.map conv)) {n : Nat} (hn : n < l.length) {s last T : ByteArray} (hsz : s.size ≤ 10000000) (hl : n = 0 ∨ ∃ (hp : n - 1 < (sortL (l.map conv)).length), last = (sortL (l.map conv))[n - 1].f0)
    (ih : ∀ x : S36, (∃ (h : n < (sortL (l.map conv)).length), conv x = (sortL (l.map conv))[n]) → Ev (fun k => deedboxref41_Text.l0 k l (addP n s x) x.f0 ((n + 1 : Nat) : Int)) T) :
    ∀ (d i : Nat) (best : Int), i + d = l.length → Best l n last i best → Ev (fun k => deedboxref41_Text.l1 k l s last (n : Int) best (i : Int)) T
  | 0, i, best, hi, hb => by
    obtain rfl : i = l.length := by omega
    obtain ⟨b, hbl, hn2, rfl, hbe⟩ := best_is hu hn hl hb
    have hx := hs.2 (conv l[b]) (List.mem_map.2 ⟨l[b], List.getElem_mem hbl, rfl⟩)
    have hx1 : l[b].f0.size ≤ 100000 := hx.1
    have hx2 : l[b].f1.size ≤ 100000 := hx.2
    have := ih l[b] ⟨hn2, hbe⟩
    have h8 := hs.1
    rw [List.length_map] at h8
    refine Ev.step (fun k => ?_) this
    simp only [deedboxref41_Text.l1]
    rw [if_neg (by omega), if_neg (by omega), rd36 hbl]
    unfold addP
    by_cases h0 : n = 0
    · rw [if_neg (by omega), if_pos (by omega), if_pos (by omega), if_pos (by omega), if_pos (by omega), if_pos (by omega), if_pos h0, next_w (by omega)]
    · rw [if_pos (by omega), if_pos (by omega), if_pos (by omega), if_pos (by omega), if_pos (by omega), if_pos (by omega), if_pos (by omega), if_neg h0, next_w (by omega)]
  | d + 1, i, best, hi, hb => by
    have hil : i < l.length := by omega
    have h8 := hs.1
    rw [List.length_map] at h8
    have st := best_step (n := n) (last := last) hil hb
    have next : ∀ best', Best l n last (i + 1) best' → Ev (fun k => deedboxref41_Text.l1 k l s last (n : Int) best' (wrap64 ((i : Int) + 1))) T := fun best' hb' => by
      rw [next_w (by omega)]
      exact text_inner hu hs hn hsz hl ih d (i + 1) best' (by omega) hb'
    have hbr : best = -1 ∨ ∃ (b : Nat) (hb : b < l.length), best = (b : Int) := by
      rcases hb with ⟨h, _⟩ | ⟨b, h, h1, _⟩
      · exact .inl h
      · exact .inr ⟨b, h, h1⟩
    by_cases h0 : n = 0
    · have he : elig n last l[i] := .inl h0
      rcases hbr with h1 | ⟨b, hbl, h1⟩
      · refine Ev.step (fun k => ?_) (next _ (st.2.1 he h1))
        simp only [deedboxref41_Text.l1]
        rw [if_pos (by omega), if_pos (by omega), if_pos (by omega)]
      · obtain ⟨s1, s2⟩ := st.2.2 he b hbl h1
        subst h1
        cases hlt : ltB l[i].f0 l[b].f0 with
        | true =>
          refine Ev.step (fun k => ?_) (next _ (s1 hlt))
          simp only [deedboxref41_Text.l1]
          rw [if_pos (by omega), if_pos (by omega), if_neg (by omega), if_pos (by omega), if_pos (by omega), if_pos (by omega), rd36 hil, rd36 hbl, if_pos (by unfold ltB at hlt; exact hlt)]
        | false =>
          refine Ev.step (fun k => ?_) (next _ (s2 hlt))
          simp only [deedboxref41_Text.l1]
          rw [if_pos (by omega), if_pos (by omega), if_neg (by omega), if_pos (by omega), if_pos (by omega), if_pos (by omega), rd36 hil, rd36 hbl, if_neg (by unfold ltB at hlt; rw [hlt]; simp)]
    · by_cases hel : Op.bytesLess last.toList l[i].f0.toList = true
      · have he : elig n last l[i] := .inr hel
        rcases hbr with h1 | ⟨b, hbl, h1⟩
        · refine Ev.step (fun k => ?_) (next _ (st.2.1 he h1))
          simp only [deedboxref41_Text.l1]
          rw [if_pos (by omega), if_neg (by omega), if_pos (by omega), rd36 hil, if_pos hel, if_pos (by omega)]
        · obtain ⟨s1, s2⟩ := st.2.2 he b hbl h1
          subst h1
          cases hlt : ltB l[i].f0 l[b].f0 with
          | true =>
            refine Ev.step (fun k => ?_) (next _ (s1 hlt))
            simp only [deedboxref41_Text.l1]
            rw [if_pos (by omega), if_neg (by omega), if_pos (by omega), rd36 hil, if_pos hel, if_neg (by omega), if_pos (by omega), if_pos (by omega), rd36 hbl, if_pos (by unfold ltB at hlt; exact hlt)]
          | false =>
            refine Ev.step (fun k => ?_) (next _ (s2 hlt))
            simp only [deedboxref41_Text.l1]
            rw [if_pos (by omega), if_neg (by omega), if_pos (by omega), rd36 hil, if_pos hel, if_neg (by omega), if_pos (by omega), if_pos (by omega), rd36 hbl, if_neg (by unfold ltB at hlt; rw [hlt]; simp)]
      · have he : ¬ elig n last l[i] := fun h => by
          rcases h with h | h
          · exact h0 h
          · exact hel h
        refine Ev.step (fun k => ?_) (next _ (st.1 he))
        simp only [deedboxref41_Text.l1]
        rw [if_pos (by omega), if_neg (by omega), if_pos (by omega), rd36 hil, if_neg hel]
theorem take_snoc {α : Type} (l : List α) (n : Nat) (h : n < l.length) : l.take (n + 1) = l.take n ++ [l[n]] := by
  rw [List.take_add_one, List.getElem?_eq_getElem h]
  rfl
theorem text_outer {l : List S36} (hu : Uniq (l.map conv)) (hs : Small (l.map conv)) : ∀ (d n : Nat) (last : ByteArray), n + d = l.length → (n = 0 ∨ ∃ (hp : n - 1 < (sortL (l.map conv)).length), last = (sortL (l.map conv))[n - 1].f0) →
    (joinP ((sortL (l.map conv)).take n)).size ≤ n * 200002 → Ev (fun k => deedboxref41_Text.l0 k l (joinP ((sortL (l.map conv)).take n)) last (n : Int)) (textS (l.map conv))
  | 0, n, last, hn, hl, hsz => by
    have hlen : (sortL (l.map conv)).length = l.length := by rw [sortL_len, List.length_map]
    refine Ev.fin fun k => ?_
    simp only [deedboxref41_Text.l0]
    rw [if_neg (by omega), List.take_of_length_le (by omega)]
    rfl
  | d + 1, n, last, hn, hl, hsz => by
    have hlen : (sortL (l.map conv)).length = l.length := by rw [sortL_len, List.length_map]
    have h8 := hs.1
    rw [List.length_map] at h8
    have hnl : n < l.length := by omega
    have hb0 : Best l n last 0 (-1) := .inl ⟨rfl, fun j _ h => by omega⟩
    refine Ev.step (fun k => ?_) (text_inner hu hs hnl (T := textS (l.map conv)) (s := joinP ((sortL (l.map conv)).take n)) (by omega) hl (fun x hx => ?_) l.length 0 (-1) (by omega) hb0)
    · simp only [deedboxref41_Text.l0]
      rw [if_pos (by omega)]
      rfl
    · obtain ⟨hp, hxe⟩ := hx
      have hadd : addP n (joinP ((sortL (l.map conv)).take n)) x = joinP ((sortL (l.map conv)).take (n + 1)) := by
        rw [take_snoc _ _ hp, ← hxe]
        unfold addP
        by_cases h0 : n = 0
        · subst h0
          rw [if_pos rfl, List.take_zero, List.nil_append, joinP_one]
          rfl
        · rw [if_neg h0, joinP_snoc _ _ (fun e => by have := congrArg List.length e; rw [List.length_take, List.length_nil] at this; omega)]
          rfl
      have hxs := hs.2 (sortL (l.map conv))[n] (sortL_mem (List.getElem_mem hp))
      rw [← hxe] at hxs
      have hx1 : x.f0.size ≤ 100000 := hxs.1
      have hx2 : x.f1.size ≤ 100000 := hxs.2
      have hsz2 : (addP n (joinP ((sortL (l.map conv)).take n)) x).size ≤ (n + 1) * 200002 := by
        unfold addP
        have e1 : (⟨#[61]⟩ : ByteArray).size = 1 := rfl
        have e2 : (⟨#[38]⟩ : ByteArray).size = 1 := rfl
        split
        · rw [ByteArray.size_append, ByteArray.size_append, ByteArray.size_append, e1]; omega
        · rw [ByteArray.size_append, ByteArray.size_append, ByteArray.size_append, ByteArray.size_append, e1, e2]; omega
      rw [hadd] at hsz2 ⊢
      refine text_outer hu hs d (n + 1) x.f0 (by omega) (.inr ⟨by omega, ?_⟩) hsz2
      have : (conv x).f0 = (sortL (l.map conv))[n].f0 := by rw [hxe]
      exact this
theorem reftext_tell {l : List S36} (hu : Uniq (l.map conv)) (hs : Small (l.map conv)) : Ev (fun k => deedboxref41_Text.f k l) (textS (l.map conv)) := by
  have := text_outer hu hs l.length 0 (⟨#[]⟩ : ByteArray) (by omega) (.inl rfl) (by simp [joinP, Lib.join]; rfl)
  exact this
/-! ### The reference's plain and Check -/
theorem sign_iff (c : Int) : signB c = true ↔ (97 ≤ c ∧ c ≤ 122) ∨ (65 ≤ c ∧ c ≤ 90) ∨ (48 ≤ c ∧ c ≤ 57) ∨ c = 45 ∨ c = 95 ∨ c = 46 := by
  unfold signB Pl.pairs_sign.f
  repeat' split
  all_goals simp
  all_goals omega
set_option maxHeartbeats 8000000 in
theorem refplain_loop (s : ByteArray) (hs : s.size ≤ 900000) : ∀ (m i : Nat), i + m = s.size → Ev (fun k => deedboxref41_plain.l0 k s (i : Int)) (((bytesOf s).drop i).all signB)
  | 0, i, h => by
    have hl : (bytesOf s).length = s.size := by simp [bytesOf]
    refine Ev.fin fun k => ?_
    simp only [deedboxref41_plain.l0]
    rw [if_neg (by omega), List.drop_of_length_le (by omega)]
    rfl
  | m + 1, i, h => by
    have ih := refplain_loop s hs m (i + 1) (by omega)
    have hl : (bytesOf s).length = s.size := by simp [bytesOf]
    have hi : i < (bytesOf s).length := by omega
    have hbt : bt s (i : Int) = (bytesOf s)[i] := by
      rw [← rd_bytesOf]
      unfold rd
      rw [Int.toNat_natCast, List.getD_eq_getElem?_getD, List.getElem?_eq_getElem hi]
      rfl
    rw [List.drop_eq_getElem_cons hi, List.all_cons]
    have hw : wrap64 ((i : Int) + 1) = ((i + 1 : Nat) : Int) := next_w (by omega)
    generalize (bytesOf s)[i] = c at hbt
    cases hb : signB c with
    | false =>
      have hn := fun h => (Bool.eq_false_iff.1 hb) ((sign_iff c).2 h)
      refine Ev.fin fun k => ?_
      simp only [deedboxref41_plain.l0]
      rw [if_pos (by omega), if_pos (by omega), hbt, Bool.false_and]
      repeat' split
      all_goals first | rfl | (exact absurd (by omega) hn)
    | true =>
      have hn := (sign_iff c).1 hb
      rw [Bool.true_and]
      refine Ev.step (fun k => ?_) ih
      simp only [deedboxref41_plain.l0]
      rw [if_pos (by omega), if_pos (by omega), hbt, hw]
      repeat' split
      all_goals first | rfl | (exfalso; omega)
theorem refplain_tell (s : ByteArray) (hs : s.size ≤ 900000) : Ev (fun k => deedboxref41_plain.f k s) (plainB s) := refplain_loop s hs s.size 0 (by omega)
/-- What Check comes to, behind the pairs that were met. -/
def valC (p q : List S45) : Int := if checkL p q = 0 then (if 24 < (textS (p ++ q)).size then 17 else 0) else checkL p q
theorem checkL_stop {p q : List S45} {x : S45} {c : Int} (h : checkL p (x :: q) = c) (hc : c ≠ 0) : valC p (x :: q) = c := by
  unfold valC
  rw [h, if_neg hc]
theorem valC_next {p q : List S45} {x : S45} (h : checkL p (x :: q) = checkL (p ++ [x]) q) : valC p (x :: q) = valC (p ++ [x]) q := by
  unfold valC
  rw [h, List.append_assoc]
  rfl
theorem refcheck_inner (l : List S36) (i : Nat) (hi : i < l.length) (h8 : l.length ≤ 8) (T : Int) (hT : (∃ j, ∃ (hj : j < l.length), j < i ∧ l[j].f0.toList = l[i].f0.toList) → T = 10)
    (ih : ¬ (∃ j, ∃ (hj : j < l.length), j < i ∧ l[j].f0.toList = l[i].f0.toList) → Ev (fun k => deedboxref41_Check.l0 k l ((i + 1 : Nat) : Int)) T) :
    ∀ (d j : Nat), j + d = i → (∀ j' (h : j' < l.length), j' < j → l[j'].f0.toList ≠ l[i].f0.toList) → Ev (fun k => deedboxref41_Check.l1 k l (i : Int) (j : Int)) T
  | 0, j, hj, hno => by
    obtain rfl : j = i := by omega
    refine Ev.step (fun k => ?_) (ih fun ⟨j', h1, h2, h3⟩ => hno j' h1 h2 h3)
    simp only [deedboxref41_Check.l1]
    rw [if_neg (by omega), next_w (by omega)]
  | d + 1, j, hj, hno => by
    have hjl : j < l.length := by omega
    by_cases he : l[j].f0.toList = l[i].f0.toList
    · rw [hT ⟨j, hjl, by omega, he⟩]
      refine Ev.fin fun k => ?_
      simp only [deedboxref41_Check.l1]
      rw [if_pos (by omega), if_pos (by omega), if_pos (by omega), if_pos (by omega), if_pos (by omega), rd36 hjl, rd36 hi, if_pos he]
    · refine Ev.step (fun k => ?_) (refcheck_inner l i hi h8 T hT ih d (j + 1) (by omega) fun j' h1 h2 => ?_)
      · simp only [deedboxref41_Check.l1]
        rw [if_pos (by omega), if_pos (by omega), if_pos (by omega), if_pos (by omega), if_pos (by omega), rd36 hjl, rd36 hi, if_neg he, next_w (by omega)]
      · by_cases e : j' = j
        · subst e; exact he
        · exact hno j' h1 (by omega)
theorem refcheck_loop (l : List S36) (hs : Small (l.map conv)) : ∀ (q p : List S36), l = p ++ q → Uniq (p.map conv) → Ev (fun k => deedboxref41_Check.l0 k l (p.length : Int)) (valC (p.map conv) (q.map conv))
  | [], p, hp, hu => by
    rw [List.append_nil] at hp
    subst hp
    have ht := reftext_tell hu hs
    have hv : valC (l.map conv) (([] : List S36).map conv) = if 24 < (textS (l.map conv)).size then 17 else 0 := by
      unfold valC
      rw [List.map_nil, List.append_nil, show checkL (l.map conv) [] = 0 from rfl, if_pos rfl]
    rw [hv]
    refine Ev.step (f := fun k => (deedboxref41_Text.f k l).bind fun t => if (t.size : Int) > 24 then some 17 else some 0) (fun k => ?_) (Ev.bind ht (Ev.congr (fun k => ?_) (Ev.now _)))
    · simp only [deedboxref41_Check.l0]
      rw [if_neg (by omega)]
    · by_cases h : 24 < (textS (l.map conv)).size
      · rw [if_pos (by omega), if_pos h]
      · rw [if_neg (by omega), if_neg h]
  | x :: q, p, hp, hu => by
    have h8 := hs.1
    rw [List.length_map] at h8
    have hll : l.length = p.length + q.length + 1 := by rw [hp]; simp; omega
    have hil : p.length < l.length := by omega
    have hx : l[p.length] = x := by simp [hp]
    have hxs := hs.2 (conv x) (List.mem_map.2 ⟨x, by rw [hp]; simp, rfl⟩)
    have hx1 : x.f0.size ≤ 100000 := hxs.1
    have hx2 : x.f1.size ≤ 100000 := hxs.2
    have hp1 := refplain_tell x.f0 (by omega)
    have hp2 := refplain_tell x.f1 (by omega)
    have four : ∀ k, deedboxref41_Check.j1 (k + 1) l (p.length : Int) true = some 4 := fun k => by simp only [deedboxref41_Check.j1, if_true]
    have bad : (x.f0.toList = [] ∨ plainB x.f0 = false ∨ plainB x.f1 = false) → valC (p.map conv) ((x :: q).map conv) = 4 := fun h => by
      rw [List.map_cons]
      refine checkL_stop ?_ (by decide)
      simp only [checkL]
      exact if_pos h
    by_cases h0 : x.f0.toList = []
    · rw [bad (.inl h0)]
      refine Ev.step (f := fun k => deedboxref41_Check.j1 k l (p.length : Int) true) (fun k => ?_) (Ev.fin four)
      simp only [deedboxref41_Check.l0]
      rw [if_pos (by omega), if_pos (by omega), rd36 hil, hx, if_pos h0]
    · refine Ev.step (f := fun k => (deedboxref41_plain.f k x.f0).bind fun t172 => (if t172 = true then ((deedboxref41_plain.f k x.f1).bind fun t174 => (deedboxref41_Check.j1 k l (p.length : Int) (!t174))) else (deedboxref41_Check.j1 k l (p.length : Int) true))) (fun k => ?_) (Ev.bind hp1 ?_)
      · simp only [deedboxref41_Check.l0]
        rw [if_pos (by omega), if_pos (by omega), rd36 hil, hx, if_neg h0]
      · cases h1 : plainB x.f0 with
        | false =>
          rw [bad (.inr (.inl h1))]
          exact Ev.congr (fun k => by rw [if_neg (by simp)]) (Ev.fin four)
        | true =>
          refine Ev.congr (f := fun k => (deedboxref41_plain.f k x.f1).bind fun t174 => (deedboxref41_Check.j1 k l (p.length : Int) (!t174))) (fun k => by rw [if_pos rfl]) (Ev.bind hp2 ?_)
          cases h2 : plainB x.f1 with
          | false =>
            rw [bad (.inr (.inr h2))]
            exact Ev.fin four
          | true =>
            have hdup : (∃ y ∈ p.map conv, y.f0.data.toList = (conv x).f0.data.toList) ↔ ∃ j, ∃ (hj : j < l.length), j < p.length ∧ l[j].f0.toList = l[p.length].f0.toList := by
              rw [hx]
              constructor
              · rintro ⟨y, hy, he⟩
                obtain ⟨z, hz, rfl⟩ := List.mem_map.1 hy
                obtain ⟨j, hj, rfl⟩ := List.mem_iff_getElem.1 hz
                refine ⟨j, by omega, hj, ?_⟩
                rw [Lib.toList_data, Lib.toList_data]
                have : l[j]'(by omega) = p[j] := by simp [hp, List.getElem_append_left hj]
                rw [this]
                exact he
              · rintro ⟨j, hj, hjp, he⟩
                rw [Lib.toList_data, Lib.toList_data] at he
                have : l[j] = p[j] := by simp [hp, List.getElem_append_left hjp]
                rw [this] at he
                exact ⟨conv p[j], List.mem_map.2 ⟨p[j], List.getElem_mem hjp, rfl⟩, he⟩
            have hck : ¬ ((conv x).f0.toList = [] ∨ plainB (conv x).f0 = false ∨ plainB (conv x).f1 = false) := fun h => by
              rcases h with h | h | h
              · exact h0 h
              · exact absurd (h1.symm.trans h) (by simp)
              · exact absurd (h2.symm.trans h) (by simp)
            refine Ev.step (f := fun k => deedboxref41_Check.l1 k l (p.length : Int) ((0 : Nat) : Int)) (fun k => by simp only [deedboxref41_Check.j1, Bool.not_true, Bool.false_eq_true, if_false]; rfl) (refcheck_inner l p.length hil h8 _ (fun hd => ?_) (fun hd => ?_) p.length 0 (by omega) (fun j' _ h => by omega))
            · rw [List.map_cons]
              refine checkL_stop ?_ (by decide)
              simp only [checkL]
              rw [if_neg hck, if_pos (hdup.2 hd)]
            · have hnd := fun h => hd (hdup.1 h)
              rw [List.map_cons, valC_next (by
                simp only [checkL]
                rw [if_neg hck, if_neg hnd]), show p.map conv ++ [conv x] = (p ++ [x]).map conv from by simp, show ((p.length + 1 : Nat) : Int) = ((p ++ [x]).length : Int) from by simp]
              refine refcheck_loop l hs q (p ++ [x]) (by rw [hp]; simp) ?_
              unfold Uniq
              rw [List.map_append, List.map_singleton, List.pairwise_append]
              refine ⟨hu, by simp, fun a ha b hb => ?_⟩
              rw [List.mem_singleton.1 hb]
              intro e
              rw [Lib.toList_data, Lib.toList_data] at e
              exact hnd ⟨a, ha, e⟩
theorem refcheck_tell (l : List S36) (hs : l.length ≤ 8 → Small (l.map conv)) : ∃ c, pairs_Check.f (l.map conv) = some c ∧ Ev (fun k => deedboxref41_Check.f k l) c := by
  unfold pairs_Check.f deedboxref41_Check.f
  rw [List.length_map]
  by_cases h8 : 8 < l.length
  · exact ⟨16, by rw [if_pos h8], Ev.congr (fun k => by rw [if_pos (by omega)]) (Ev.now _)⟩
  · have hsm := hs (by omega)
    refine ⟨valC [] (l.map conv), by rw [if_neg h8, if_pos hsm]; rfl, Ev.congr (fun k => by rw [if_neg (by omega)]; rfl) (refcheck_loop l hsm l [] rfl ?_)⟩
    exact List.Pairwise.nil
theorem small_tell (l : List S36) : ∃ b, Ev (fun k => deedboxlaw41_small.f k l) b ∧ (b = true → l.length ≤ 20 ∧ ∀ x ∈ l, x.f0.size ≤ 100 ∧ x.f1.size ≤ 100) := by
  by_cases h20 : l.length > 20
  · exact ⟨false, Ev.congr (fun k => by unfold deedboxlaw41_small.f; rw [if_pos (by omega)]) (Ev.now _), fun h => by cases h⟩
  · have loop : ∀ (q p : List S36), l = p ++ q → (∀ x ∈ p, x.f0.size ≤ 100 ∧ x.f1.size ≤ 100) → ∃ b, Ev (fun k => deedboxlaw41_small.l0 k l (p.length : Int)) b ∧ (b = true → ∀ x ∈ l, x.f0.size ≤ 100 ∧ x.f1.size ≤ 100) := by
      intro q
      induction q with
      | nil =>
        intro p hp h
        rw [List.append_nil] at hp
        subst hp
        exact ⟨true, Ev.fin fun k => by simp only [deedboxlaw41_small.l0]; rw [if_neg (by omega)], fun _ => h⟩
      | cons x q ih =>
        intro p hp h
        have hll : l.length = p.length + q.length + 1 := by rw [hp]; simp; omega
        have hil : p.length < l.length := by omega
        have hx : l[p.length] = x := by simp [hp]
        by_cases h1 : x.f0.size > 100
        · refine ⟨false, Ev.fin fun k => ?_, fun h => by cases h⟩
          simp only [deedboxlaw41_small.l0]
          rw [if_pos (by omega), if_pos (by omega), rd36 hil, hx, if_pos (by omega)]
        · by_cases h2 : x.f1.size > 100
          · refine ⟨false, Ev.fin fun k => ?_, fun h => by cases h⟩
            simp only [deedboxlaw41_small.l0]
            rw [if_pos (by omega), if_pos (by omega), rd36 hil, hx, if_neg (by omega), if_pos (by omega)]
          · obtain ⟨b, hb, hbs⟩ := ih (p ++ [x]) (by rw [hp]; simp) (fun y hy => by
              rcases List.mem_append.1 hy with hy | hy
              · exact h y hy
              · rw [List.mem_singleton.1 hy]; omega)
            rw [show (p ++ [x]).length = p.length + 1 from by simp] at hb
            refine ⟨b, Ev.step (fun k => ?_) hb, hbs⟩
            simp only [deedboxlaw41_small.l0]
            rw [if_pos (by omega), if_pos (by omega), rd36 hil, hx, if_neg (by omega), if_neg (by omega), next_w (by omega)]
    obtain ⟨b, hb, hbs⟩ := loop l [] rfl (by simp)
    exact ⟨b, Ev.congr (fun k => by unfold deedboxlaw41_small.f; rw [if_neg (by omega)]; rfl) hb, fun h => ⟨by omega, hbs h⟩⟩
theorem own_tell (l : List S36) (hl : l.length ≤ 1000) : Ev (fun k => deedboxlaw41_own.f k l) (l.map conv) := by
  have loop : ∀ (q p : List S36), l = p ++ q → Ev (fun k => deedboxlaw41_own.l0 k l (p.map conv) (p.length : Int)) (l.map conv) := by
    intro q
    induction q with
    | nil =>
      intro p hp
      rw [List.append_nil] at hp
      subst hp
      exact Ev.fin fun k => by simp only [deedboxlaw41_own.l0]; rw [if_neg (by omega)]
    | cons x q ih =>
      intro p hp
      have hll : l.length = p.length + q.length + 1 := by rw [hp]; simp; omega
      have hil : p.length < l.length := by omega
      have hx : l[p.length] = x := by simp [hp]
      have hb := ih (p ++ [x]) (by rw [hp]; simp)
      rw [show (p ++ [x]).length = p.length + 1 from by simp, List.map_append, List.map_singleton] at hb
      refine Ev.step (fun k => ?_) hb
      simp only [deedboxlaw41_own.l0]
      rw [if_pos (by omega), if_pos (by omega), if_pos (by rw [List.length_map]; omega), rd36 hil, hx, next_w (by omega)]
      rfl
  exact loop l [] rfl
theorem checkL_uniq : ∀ (q p : List S45), checkL p q = 0 → Uniq p → Uniq (p ++ q)
  | [], p, _, hu => by rw [List.append_nil]; exact hu
  | x :: q, p, h, hu => by
    simp only [checkL] at h
    split at h
    · cases h
    · split at h
      · cases h
      · rename_i hnd
        have := checkL_uniq q (p ++ [x]) h (by
          unfold Uniq
          rw [List.pairwise_append]
          refine ⟨hu, by simp, fun a ha b hb => ?_⟩
          rw [List.mem_singleton.1 hb]
          intro e
          rw [Lib.toList_data, Lib.toList_data] at e
          exact hnd ⟨a, ha, e⟩)
        rwa [List.append_assoc] at this
theorem check_zero {L : List S45} (h : pairs_Check.f L = some 0) : Small L ∧ Uniq L := by
  unfold pairs_Check.f at h
  split at h
  · cases h
  · split at h
    · rename_i hs
      have h := Option.some.inj h
      split at h
      · rename_i hc
        have := checkL_uniq L [] hc List.Pairwise.nil
        exact ⟨hs, this⟩
      · rename_i hc
        exact absurd h hc
    · cases h
theorem put_tell (l : List S36) (hs : l.length ≤ 8 → Small (l.map conv)) : ∃ r c, pairs_Put.f (l.map conv) = some r ∧ pairs_Check.f (l.map conv) = some c ∧ Ev (fun k => deedboxref41_Check.f k l) c ∧ Ev (fun k => deedboxref41_Put.f k l) r := by
  obtain ⟨c, hc, hE⟩ := refcheck_tell l hs
  by_cases h0 : c = 0
  · subst h0
    obtain ⟨hsm, hu⟩ := check_zero hc
    refine ⟨(textS (l.map conv), 0), 0, ?_, hc, hE, ?_⟩
    · unfold pairs_Put.f pairs_text.f
      rw [hc, Option.bind_some, if_pos rfl, if_pos hsm]
      rfl
    · refine Ev.bind hE (Ev.congr (f := fun k => (deedboxref41_Text.f k l).bind fun t185 => some (t185, 0)) (fun k => by rw [if_pos rfl]) (Ev.bind (reftext_tell hu hsm) (Ev.now _)))
  · refine ⟨(⟨#[]⟩, c), c, ?_, hc, hE, ?_⟩
    · unfold pairs_Put.f
      rw [hc, Option.bind_some, if_neg h0]
    · exact Ev.bind hE (Ev.congr (fun k => by rw [if_neg h0]) (Ev.now _))
theorem works_tells : Ev (fun k => deedboxlaw41_works.f k) true := Ev.of deedboxlaw41_works.mono (show deedboxlaw41_works.f 60 = some true by decide +kernel)
theorem works_end {f : Nat → Option Bool} (h : ∀ k, f k = (deedboxlaw41_works.f k).bind fun t => some t) : Ev f true :=
  Ev.congr (fun k => by rw [h]; cases deedboxlaw41_works.f k <;> rfl) works_tells
theorem PairsPuts (l : List S36) (word : ByteArray) : ∃ k, deedboxlaw41_PairsPuts.f k l word = some true := by
  refine Ev.rounds ?_
  have stop : Ev (fun k => deedboxlaw41_PairsPuts.j0 k l word true) true := by
    refine Ev.step (f := fun k => (deedboxlaw41_works.f k).bind fun t => some t) (fun k => ?_) (works_end fun k => rfl)
    simp only [deedboxlaw41_PairsPuts.j0, if_true]
  obtain ⟨b, hb, hbs⟩ := small_tell l
  unfold deedboxlaw41_PairsPuts.f
  refine Ev.bind hb ?_
  cases b with
  | false => exact Ev.congr (fun k => by rw [if_neg (by simp)]) stop
  | true =>
    obtain ⟨h20, hsz⟩ := hbs rfl
    refine Ev.congr (f := fun k => deedboxlaw41_PairsPuts.j0 k l word (decide ((word.size : Int) > 100))) (fun k => by rw [if_pos rfl]) ?_
    cases decide ((word.size : Int) > 100) with
    | true => exact stop
    | false =>
      have hs : l.length ≤ 8 → Small (l.map conv) := fun h8 => ⟨by rw [List.length_map]; exact h8, fun x hx => by
        obtain ⟨y, hy, rfl⟩ := List.mem_map.1 hx
        have := hsz y hy
        exact ⟨Nat.le_trans this.1 (by decide), Nat.le_trans this.2 (by decide)⟩⟩
      obtain ⟨r, c, hp, hc, hEc, hEp⟩ := put_tell l hs
      have hown := own_tell l (by omega)
      have loop : ∀ (q p : List S36), l = p ++ q → (∀ x ∈ p, ¬ x.f0.toList = word.toList) → ∀ (v : ByteArray) (ok : Bool), (match (q.map conv).find? (fun x => x.f0.toList == word.toList) with | none => ((⟨#[]⟩ : ByteArray), false) | some x => (x.f1, true)) = (v, ok) → Ev (fun k => deedboxlaw41_PairsPuts.l0 k l word v ok (p.length : Int)) true := by
        intro q
        induction q with
        | nil =>
          intro p hp h v ok hv
          rw [List.append_nil] at hp
          subst hp
          simp only [List.map_nil, List.find?_nil, Prod.mk.injEq] at hv
          obtain ⟨rfl, rfl⟩ := hv
          refine Ev.step (f := fun k => (deedboxlaw41_works.f k).bind fun t => some t) (fun k => ?_) (works_end fun k => rfl)
          simp only [deedboxlaw41_PairsPuts.l0]
          rw [if_neg (by omega), if_neg (by simp)]
        | cons x q ih =>
          intro p hp h v ok hv
          have hll : l.length = p.length + q.length + 1 := by rw [hp]; simp; omega
          have hil : p.length < l.length := by omega
          have hx : l[p.length] = x := by simp [hp]
          by_cases hw : x.f0.toList = word.toList
          · have hf : ((x :: q).map conv).find? (fun x => x.f0.toList == word.toList) = some (conv x) := by
              rw [List.map_cons, List.find?_cons_of_pos]
              exact beq_iff_eq.2 hw
            rw [hf] at hv
            simp only [Prod.mk.injEq] at hv
            obtain ⟨rfl, rfl⟩ := hv
            refine Ev.step (f := fun k => (deedboxlaw41_works.f k).bind fun t => some t) (fun k => ?_) (works_end fun k => rfl)
            simp only [deedboxlaw41_PairsPuts.l0]
            rw [if_pos (by omega), if_pos (by omega), rd36 hil, hx, if_pos hw, if_pos trivial, if_pos (show (conv x).f1.toList = x.f1.toList from rfl)]
          · have hf : ((x :: q).map conv).find? (fun x => x.f0.toList == word.toList) = (q.map conv).find? (fun x => x.f0.toList == word.toList) := by
              rw [List.map_cons, List.find?_cons_of_neg]
              simpa [conv] using hw
            rw [hf] at hv
            have := ih (p ++ [x]) (by rw [hp]; simp) (fun y hy => by
              rcases List.mem_append.1 hy with hy | hy
              · exact h y hy
              · rw [List.mem_singleton.1 hy]; exact hw) v ok hv
            rw [show (p ++ [x]).length = p.length + 1 from by simp] at this
            refine Ev.step (fun k => ?_) this
            simp only [deedboxlaw41_PairsPuts.l0]
            rw [if_pos (by omega), if_pos (by omega), rd36 hil, hx, if_neg hw, next_w (by omega)]
      have fin : Ev (fun k => deedboxlaw41_PairsPuts.j1 k l word false) true := by
        refine Ev.step (f := fun k => (deedboxlaw41_own.f k l).bind fun t200 => ((pairs_Value.f t200 word).bind fun bt203 => (deedboxlaw41_PairsPuts.l0 k l word bt203.1 bt203.2 0))) (fun k => ?_) (Ev.bind hown ?_)
        · simp only [deedboxlaw41_PairsPuts.j1, Bool.false_eq_true, if_false]
        · simp only [pairs_Value.f, Option.bind_some]
          exact loop l [] rfl (by simp) _ _ rfl
      refine Ev.step (f := fun k => (deedboxlaw41_own.f k l).bind fun t188 => ((pairs_Put.f t188).bind fun bt191 => ((deedboxref41_Put.f k l).bind fun bt193 => (if bt191.1.toList = bt193.1.toList then (if bt191.2 = bt193.2 then ((deedboxlaw41_own.f k l).bind fun t195 => ((pairs_Check.f t195).bind fun t198 => ((deedboxref41_Check.f k l).bind fun t199 => (deedboxlaw41_PairsPuts.j1 k l word (t198 != t199))))) else (deedboxlaw41_PairsPuts.j1 k l word true)) else (deedboxlaw41_PairsPuts.j1 k l word true))))) (fun k => ?_) (Ev.bind hown ?_)
      · simp only [deedboxlaw41_PairsPuts.j0, Bool.false_eq_true, if_false]
      · simp only [hp, Option.bind_some]
        refine Ev.bind hEp ?_
        simp only [if_true]
        refine Ev.bind hown ?_
        simp only [hc, Option.bind_some]
        refine Ev.bind hEc ?_
        simpa using fin

end Go.Proofs.YtefmoefiamjmpaaDoor.Pure
