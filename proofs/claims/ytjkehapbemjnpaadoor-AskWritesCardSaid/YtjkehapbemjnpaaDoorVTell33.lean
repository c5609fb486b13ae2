/- What the reference's small functions come to, in plain words; no condition beside those in each theorem. -/
import Derived.Test.YtjkehapbemjnpaaDoorVLx1
import Derived.Test.YtjkehapbemjnpaaDoorVLx2
import Derived.Test.YtjkehapbemjnpaaDoorVGl
import Derived.Test.YtjkehapbemjnpaaDoorVTellS
import Derived.Test.YtjkehapbemjnpaaDoorVTellN
import Derived.Test.YtjkehapbemjnpaaDoorVRBase
namespace Go.Proofs.YtjkehapbemjnpaaDoor
open Go.RowKit Go.Proofs.YtjkehapbemjnpaaDoorW.PrintWords Go.Proofs.YtjkehapbemjnpaaDoorW.PrintLast Go.Proofs.YtjkehapbemjnpaaDoorW.PrintMore Lf Kit Cut Pl Num
set_option linter.unusedVariables false
set_option linter.unusedSimpArgs false
theorem pre_take {p t : List Int} : p.isPrefixOf t = true ↔ t.take p.length = p := by
 rw [List.isPrefixOf_iff_prefix, List.prefix_iff_eq_take]
 exact ⟨fun h => h.symm, fun h => h.symm⟩
def atI (i : Int) (c : List Int × List Int × Bool) : Int := if c.2.2 = true then i + (c.1.length : Int) else -1
theorem at_loop {sep s : List Int} (hs : Byt sep) (hB : Byt s) (hne : sep ≠ []) (hl : s.length < 1000000) (hl2 : sep.length < 1000) : ∀ (t : List Int) (i : Nat), t = s.drop i → i ≤ s.length →
  Ev (fun k => deedboxref33_at.l0 k (strOfNums s) (strOfNums sep) (i : Int)) (atI i (cutL sep t))
 | [], i, ht, hi => by
  have h1 : s.length ≤ i := by
   have := congrArg List.length ht
   simp at this; omega
  have h2 : 0 < sep.length := List.length_pos_iff.2 hne
  refine Ev.step (fun k => ?_) (Ev.now _)
  simp only [deedboxref33_at.l0, str_size]
  rw [wr (by omega) (by omega), if_neg (by omega)]
  simp [atI, cutL]
 | x :: xs, i, ht, hi => by
  have hlt : i < s.length := by
   have := congrArg List.length ht
   simp at this; omega
  have hxs : xs = s.drop (i + 1) := by
   rw [List.drop_eq_getElem_cons hlt] at ht
   exact (List.cons.inj ht).2
  have hlen : (x :: xs).length = s.length - i := by rw [ht, List.length_drop]
  by_cases hr : i + sep.length ≤ s.length
  ·have he : ((strOfNums s).extract (i : Int).toNat ((i : Int) + (sep.length : Int)).toNat).toList = (strOfNums ((x :: xs).take sep.length)).toList := by
    rw [show (i : Int).toNat = i from Int.toNat_natCast i, show ((i : Int) + (sep.length : Int)).toNat = i + sep.length by omega, str_cut, ht, List.drop_take, Nat.add_sub_cancel_left]
   have hb : Byt ((x :: xs).take sep.length) := (ht ▸ hB.drop i).take _
   by_cases hp : (x :: xs).take sep.length = sep
   ·have hp2 := pre_take.2 hp
    refine Ev.step (fun k => ?_) (Ev.now _)
    simp only [deedboxref33_at.l0, str_size]
    rw [wr (n := (i : Int) + (sep.length : Int)) (by omega) (by omega), if_pos (by omega), if_pos (by omega), if_pos (by omega), he, if_pos (by rw [hp])]
    rw [show cutL sep (x :: xs) = ([], (x :: xs).drop sep.length, true) from by rw [cutL, if_pos hp2]]
    simp [atI]
   ·have hp2 : ¬ sep.isPrefixOf (x :: xs) = true := fun h => hp (pre_take.1 h)
    have ih := at_loop hs hB hne hl hl2 xs (i + 1) hxs hlt
    have e : atI (i : Int) (cutL sep (x :: xs)) = atI ((i + 1 : Nat) : Int) (cutL sep xs) := by
     rw [show cutL sep (x :: xs) = (x :: (cutL sep xs).1, (cutL sep xs).2) from by rw [cutL, if_neg hp2]]
     simp only [atI, List.length_cons]
     split <;> omega
    rw [e]
    refine Ev.step (fun k => ?_) ih
    simp only [deedboxref33_at.l0, str_size]
    rw [wr (n := (i : Int) + (sep.length : Int)) (by omega) (by omega), if_pos (by omega), if_pos (by omega), if_pos (by omega), he, if_neg (fun h => hp (str_inj hb hs h)), wr (by omega) (by omega)]
    rfl
  ·have hf : (cutL sep (x :: xs)).2.2 = false := by
    cases h : (cutL sep (x :: xs)).2.2 with
    | false => rfl
    | true => have := cutL_room sep (x :: xs) h; omega
   refine Ev.step (fun k => ?_) (Ev.now _)
   simp only [deedboxref33_at.l0, str_size]
   rw [wr (by omega) (by omega), if_neg (by omega)]
   simp [atI, hf]
theorem rcut_tell {sep s : List Int} (hs : Byt sep) (hB : Byt s) (hne : sep ≠ []) (hl : s.length < 1000000) (hl2 : sep.length < 1000) :
  Ev (fun k => deedboxref33_cut.f k (strOfNums s) (strOfNums sep)) (strOfNums (cutL sep s).1, strOfNums (cutL sep s).2.1, (cutL sep s).2.2) := by
 have ha := at_loop hs hB hne hl hl2 s 0 rfl (Nat.zero_le _)
 unfold deedboxref33_cut.f
 refine Ev.bind ha ?_
 cases h : (cutL sep s).2.2 with
 | false =>
  obtain ⟨h1, h2⟩ := cutL_not h
  refine Ev.congr (fun k => ?_) (Ev.now _)
  rw [show atI ((0 : Nat) : Int) (cutL sep s) = -1 from by simp [atI, h], if_pos (by omega), h1, h2]
  rfl
 | true =>
  have hr := cutL_room sep s h
  have hf := cutL_found h
  refine Ev.congr (fun k => ?_) (Ev.now _)
  rw [show atI ((0 : Nat) : Int) (cutL sep s) = ((0 : Nat) : Int) + ((cutL sep s).1.length : Int) from by simp [atI, h], if_neg (by omega), if_pos (by omega), str_size, str_size, if_pos (by omega), wr (by omega) (by omega), if_pos (by omega), if_pos (by omega)]
  have e1 : (strOfNums s).extract 0 (((0 : Nat) : Int) + ((cutL sep s).1.length : Int)).toNat = strOfNums (cutL sep s).1 := by
   rw [show (((0 : Nat) : Int) + ((cutL sep s).1.length : Int)).toNat = (cutL sep s).1.length by omega, str_cut]
   rw [show s.take (cutL sep s).1.length = (cutL sep s).1 from by
    have e := congrArg (List.take (cutL sep s).1.length) hf
    rwa [List.append_assoc, List.take_left] at e]
   rfl
  have e2 : (strOfNums s).extract (((0 : Nat) : Int) + ((cutL sep s).1.length : Int) + (sep.length : Int)).toNat (strOfNums s).size = strOfNums (cutL sep s).2.1 := by
   rw [show (((0 : Nat) : Int) + ((cutL sep s).1.length : Int) + (sep.length : Int)).toNat = ((cutL sep s).1 ++ sep).length by rw [List.length_append]; omega, str_cut, strOfNums_size, List.take_length]
   rw [show s.drop ((cutL sep s).1 ++ sep).length = (cutL sep s).2.1 from by
    have e := congrArg (List.drop ((cutL sep s).1 ++ sep).length) hf
    rwa [List.drop_left] at e]
  rw [e1, e2]
theorem rsplit_tell {c : Int} (hc : 0 ≤ c ∧ c < 256) : ∀ (n : Nat) (t : List Int) (acc : List ByteArray), t.length ≤ n → Byt t → t.length < 1000000 → acc.length + t.length < 2000000 →
  Ev (fun k => deedboxref33_split.l0 k (strOfNums [c]) acc (strOfNums t)) (acc ++ (splitC c t).map strOfNums)
 | n, t, acc, hn, hB, hl, ha => by
  have hs : Byt [c] := fun x hx => by simp at hx; omega
  have hcut := rcut_tell hs hB (by simp) hl (by simp)
  rcases first_at c t with k | ⟨p, q, hp, rfl⟩
  ·rw [cutL_one_no k] at hcut
   rw [split_no k]
   refine Ev.step (fun k => by simp only [deedboxref33_split.l0]) (Ev.bind (f := fun k b => if acc.length < 8796093022208 then ((some (acc ++ [b.1] : List ByteArray)).bind fun y => (if b.2.2 = true then (deedboxref33_split.l0 k (strOfNums [c]) y b.2.1) else (some y))) else none) hcut ?_)
   ·refine Ev.congr (fun k => ?_) (Ev.now _)
    rw [if_pos (by omega)]
    simp
  ·rw [cutL_one_at q hp] at hcut
   rw [split_at q hp]
   simp only [List.length_append, List.length_cons] at hn hl ha
   match n, hn with
   | 0, hn => omega
   | n + 1, hn =>
    have ih := rsplit_tell hc n q (acc ++ [strOfNums p]) (by omega) hB.right.cons.2 (by omega) (by simp; omega)
    refine Ev.step (fun k => by simp only [deedboxref33_split.l0]) (Ev.bind (f := fun k b => if acc.length < 8796093022208 then ((some (acc ++ [b.1] : List ByteArray)).bind fun y => (if b.2.2 = true then (deedboxref33_split.l0 k (strOfNums [c]) y b.2.1) else (some y))) else none) hcut ?_)
    ·refine Ev.congr (fun k => ?_) (show Ev _ _ from (by simpa using ih))
     rw [if_pos (by omega)]
     simp
theorem rword_tell (op : Int) (h0 : -9223372036854775808 ≤ op) (h1 : op ≤ 9223372036854775807) : deedboxref33_Word.f op = some (strOfNums (wordS op)) := by
 unfold deedboxref33_Word.f wordS
 simp only [Option.bind_some]
 by_cases h : op < 1
 ·rw [if_pos h]
  by_cases h2 : op < 0
  ·rw [if_pos (.inl h2)]; rfl
  ·obtain rfl : op = 0 := by omega
   rfl
 ·rw [if_neg h]
  by_cases h2 : op > 20
  ·rw [if_pos h2, if_pos (.inr (by omega))]; rfl
  ·rw [if_neg h2, if_neg (show ¬(op < 0 ∨ 21 ≤ op) by omega), wr (by omega) (by omega), if_pos (by omega)]
   obtain ⟨n, rfl⟩ : ∃ n : Nat, op = (n : Int) + 1 := ⟨(op - 1).toNat, by omega⟩
   have hn : n < 20 := by omega
   rw [if_pos (by simp only [List.length_cons, List.length_nil]; omega)]
   clear h h2 h0 h1
   match n, hn with
   | 0, _ => rfl
   | 1, _ => rfl
   | 2, _ => rfl
   | 3, _ => rfl
   | 4, _ => rfl
   | 5, _ => rfl
   | 6, _ => rfl
   | 7, _ => rfl
   | 8, _ => rfl
   | 9, _ => rfl
   | 10, _ => rfl
   | 11, _ => rfl
   | 12, _ => rfl
   | 13, _ => rfl
   | 14, _ => rfl
   | 15, _ => rfl
   | 16, _ => rfl
   | 17, _ => rfl
   | 18, _ => rfl
   | 19, _ => rfl
   | n + 20, h => omega
theorem rrow_tell (word value : List Int) (h1 : word.length < 1000000) (h2 : value.length < 1000000) : deedboxref33_row.f (strOfNums word) (strOfNums value) = some (strOfNums (rowL word value)) := by
 unfold deedboxref33_row.f rowL
 by_cases h : value = []
 ·subst h; rw [if_pos (show (strOfNums []).toList = [] from by rw [toList_str]; rfl), if_pos rfl]; rfl
 ·rw [if_neg (fun h3 => h (toList_nil h3)), if_neg h, strOfNums_size, strOfNums_size, if_pos (by omega), if_pos (by omega), if_pos (by omega)]
  rw [show (⟨#[10]⟩ : ByteArray) = strOfNums [10] from rfl, show (⟨#[58, 32]⟩ : ByteArray) = strOfNums [58, 32] from rfl, str_app, str_app, str_app]
  simp
theorem rtold_tell (n least : Int) (h0 : n = least ∨ 0 ≤ n) (h1 : n ≤ 9223372036854775807) : Ev (fun k => deedboxref33_told.f k n least) (strOfNums (told n least)) := by
 unfold deedboxref33_told.f told
 by_cases h : n = least
 ·rw [if_pos h]
  exact Ev.congr (fun k => by rw [if_pos h]; rfl) (Ev.now (strOfNums []))
 ·rw [if_neg h]
  exact Ev.congr (fun k => by rw [if_neg h]) (Ev.bind (TellN.refdigits_tell n (by omega) h1) (Ev.now _))
end Go.Proofs.YtjkehapbemjnpaaDoor
namespace Go.Proofs.YtjkehapbemjnpaaDoor
open Go.RowKit Go.Proofs.YtjkehapbemjnpaaDoorW.PrintWords Go.Proofs.YtjkehapbemjnpaaDoorW.PrintLast Go.Proofs.YtjkehapbemjnpaaDoorW.PrintMore Lf Kit Cut Pl Num
set_option linter.unusedVariables false
set_option linter.unusedSimpArgs false
theorem rcut_calls (sep : List Int) (sb : ByteArray) (hsb : sb = strOfNums sep) (hne : sep ≠ []) (hs : Byt sep) (hl2 : sep.length < 1000) (s : List Int) (h : Byt s) (hl : s.length < 1000000) (w : World) :
  Calls Tryd.prog 25 #[.string (strOfNums s), .string sb] w fun e w' => e = .returned (.tuple #[.string (strOfNums (cutL sep s).1), .string (strOfNums (cutL sep s).2.1), .bool (cutL sep s).2.2]) ∧ ∃ n, w' = w.drewN n := by
 subst hsb
 obtain ⟨k, hk⟩ := (rcut_tell hs h hne hl hl2).rounds
 exact (deedboxref33_cut.calls k _ _ _ _ _ w hk).mono fun e w' ⟨h1, h2⟩ => ⟨h1, drawn_ex h2⟩
theorem rsplit_calls (c : Int) (hc : 0 ≤ c ∧ c < 256) (sb : ByteArray) (hsb : sb = strOfNums [c]) (s : List Int) (h : Byt s) (hl : s.length < 1000000) (w : World) :
  Calls Tryd.prog 26 #[.string (strOfNums s), .string sb] w fun e w' => ∃ v, e = .returned v ∧ Kd.R Kd.string 9 w' w.heap.size (fun _ => True) v ((splitC c s).map strOfNums) ∧ Below w.heap.size w w' := by
 subst hsb
 obtain ⟨k, hk⟩ := (rsplit_tell hc s.length s [] (Nat.le_refl _) h hl (by simp; omega)).rounds
 exact deedboxref33_split.calls k _ _ _ w hk
theorem rword_calls (op : Int) (h0 : -9223372036854775808 ≤ op) (h1 : op ≤ 9223372036854775807) (w : World) : Calls Tryd.prog 11 #[.int .i64 op] w fun e w' => e = .returned (.string (strOfNums (wordS op))) ∧ Below w.heap.size w w' :=
 deedboxref33_Word.calls op _ w (rword_tell op h0 h1)
theorem rrow_calls (word value : List Int) (wb : ByteArray) (hwb : wb = strOfNums word) (h1 : word.length < 1000000) (h2 : value.length < 1000000) (w : World) :
  Calls Tryd.prog 53 #[.string wb, .string (strOfNums value)] w fun e w' => e = .returned (.string (strOfNums (rowL word value))) ∧ ∃ n, w' = w.drewN n := by
 subst hwb
 exact (deedboxref33_row.calls _ _ _ w (rrow_tell word value h1 h2)).mono fun e w' ⟨h3, h4⟩ => ⟨h3, drawn_ex h4⟩
theorem rtold_calls (n least : Int) (h0 : n = least ∨ 0 ≤ n) (h1 : n ≤ 9223372036854775807) (w : World) : Calls Tryd.prog 55 #[.int .i64 n, .int .i64 least] w fun e w' => e = .returned (.string (strOfNums (told n least))) ∧ Below w.heap.size w w' := by
 obtain ⟨k, hk⟩ := (rtold_tell n least h0 h1).rounds
 exact deedboxref33_told.calls k _ _ _ w hk
theorem rdigits_calls (n : Int) (h0 : 0 ≤ n) (h1 : n ≤ 9223372036854775807) (w : World) : Calls Tryd.prog 56 #[.int .i64 n] w fun e w' => e = .returned (.string (strOfNums (digits n.toNat))) ∧ Below w.heap.size w w' := by
 obtain ⟨k, hk⟩ := (TellN.refdigits_tell n h0 h1).rounds
 exact deedboxref21_Digits.calls k _ _ w hk
theorem rsix_calls (xs : List Int) (hB : Byt xs) (hl : xs.length ≤ 800000) (w : World) : Calls Tryd.prog 68 #[.string (strOfNums xs)] w fun e w' => ∃ v r c, e = .returned (.tuple #[v, .int .i64 c]) ∧ (match Six.dec xs with | some o => r = o ∧ c = 0 | none => c ≠ 0) ∧ Kd.R (Kd.int .u8) 5 w' w.heap.size (fun _ => True) v r ∧ Below w.heap.size w w' := by
 have hE := TellS.refget_tells xs hB hl
 cases h : Six.dec xs with
 | some o =>
  rw [if_pos (dec_four h), TellS.told_some h] at hE
  obtain ⟨k, hk⟩ := hE.rounds
  exact (deedboxref07_Get.calls k _ _ _ w hk).mono fun e w' ⟨v, h1, h2, h3⟩ => ⟨v, _, _, h1, ⟨rfl, rfl⟩, h2, h3⟩
 | none =>
  rw [TellS.told_none h] at hE
  obtain ⟨k, hk⟩ := hE.rounds
  split at hk
  ·exact (deedboxref07_Get.calls k _ _ _ w hk).mono fun e w' ⟨v, h1, h2, h3⟩ => ⟨v, _, _, h1, by decide, h2, h3⟩
  ·exact (deedboxref07_Get.calls k _ _ _ w hk).mono fun e w' ⟨v, h1, h2, h3⟩ => ⟨v, _, _, h1, by decide, h2, h3⟩
theorem rnum_calls (xs : List Int) (hB : Byt xs) (w : World) : Calls Tryd.prog 70 #[.string (strOfNums xs), .int .i64 1099511627776] w fun e w' => ∃ n, e = .returned (.tuple #[.int .i64 n, .bool (numO xs).isSome]) ∧ (∀ m, numO xs = some m → n = m) ∧ ∃ nd, w' = w.drewN nd := by
 obtain ⟨v, b, hE, hb, hv⟩ := TellN.refnumber_tell 1099511627776 (by decide) (by decide) xs hB
 obtain ⟨k, hk⟩ := hE.rounds
 have hbs : b = (numO xs).isSome := by
  unfold numO most
  split
  ·rename_i h; rw [hb.2 h]; rfl
  ·rename_i h
   cases b with
   | false => rfl
   | true => exact absurd (hb.1 rfl) h
 refine (deedboxref21_Number.calls k _ _ _ _ w hk).mono fun e w' ⟨h1, h2⟩ => ⟨v, hbs ▸ h1, fun m hm => ?_, drawn_ex h2⟩
 have hbt : b = true := by rw [hbs, hm]; rfl
 unfold numO most at hm
 split at hm
 ·rw [hv hbt]; exact Option.some.inj hm
 ·cases hm
theorem rput_calls (A : Option Addr) (c : Nat) (l : List Int) (w : World) (hr : Kd.C (Kd.int .u8) w A l.length l) (hc : l.length ≤ c) (hB : Byt l) (hl : l.length ≤ 1000000) :
  Calls Tryd.prog 54 #[.slice A l.length c] w fun e w' => e = .returned (.string (strOfNums (Six.enc l))) ∧ Below w.heap.size w w' := by
 obtain ⟨k, hk⟩ := (TellS.refput_tells l hB hl).rounds
 exact deedboxref07_Put.calls k A c l _ w hr hc hk
end Go.Proofs.YtjkehapbemjnpaaDoor
