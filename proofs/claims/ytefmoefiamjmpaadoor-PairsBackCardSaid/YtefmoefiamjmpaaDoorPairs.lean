/- Contracts, by hand, of the program's functions over pairs that hand functions on, or keep a map: each comes to what its plain function tells; no condition beside those in each theorem. -/
import Derived.WalkKit
import Derived.Maps.AppendAt
import Derived.Maps.OwnOps
import Derived.Laws.Cover1
import Derived.Maps.OwnSet
import Derived.Maps.Views
import Derived.Lib.Hide
import Derived.Lib.SliceRun
import Derived.Test.YtefmoefiamjmpaaDoorShelf
import Derived.Test.YtefmoefiamjmpaaDoorPa
namespace Go.Proofs.YtefmoefiamjmpaaDoor
open Go.RowKit Go.Shelf Go.Sort Go.Lib Go.Proofs.YtefmoefiamjmpaaDoorW.PrintWords Go.Proofs.YtefmoefiamjmpaaDoorW.PrintLast Go.Proofs.YtefmoefiamjmpaaDoor.Pa
set_option linter.unusedVariables false
set_option linter.unusedSimpArgs false
instance : Inhabited S45 := ⟨z45⟩
/-! ### pairs in memory -/
def enc45 (x : S45) : List Value := [.string x.f0, .string x.f1]
theorem enc45_len (x : S45) : (enc45 x).length = 2 := rfl
theorem enc45_one (x : S45) : ∀ v ∈ enc45 x, v.oneCell' = true := fun v hv => by
  simp only [enc45, List.mem_cons, List.not_mem_nil, or_false] at hv
  rcases hv with rfl | rfl <;> rfl
/-- A row of pairs that came in: where its cells lie. -/
theorem cells45 {w : World} {A : Option Addr} {l : List S45} (h : Kd.C k45 w A l.length l) (hne : l ≠ []) : ∃ b off, A = some ⟨b, off, none⟩ ∧ b < w.heap.size ∧ ∀ j (x : S45), l[j]? = some x → w.cell? ⟨b, off + j * 2, none⟩ = some (.string x.f0) ∧ w.cell? ⟨b, off + j * 2 + 1, none⟩ = some (.string x.f1) := by
  have h1 := List.length_pos_iff.2 hne
  obtain ⟨ad, e, h0, h0'⟩ := at_T45 h 0 (by omega) (by omega)
  have hspot : ad.spot = none := by
    cases hsp : ad.spot with
    | none => rfl
    | some s =>
      have h9 : (ad.add ((0 : Int).toNat * 2)).spot = some s := by simp [Addr.add, hsp]
      unfold World.cell? at h0
      split at h0
      · rw [h9] at h0
        simp at h0
      · cases h0
  obtain ⟨b, off, sp⟩ := ad
  simp only at hspot
  subst hspot
  have hadd : ∀ j : Nat, ((⟨b, off, none⟩ : Addr).add j) = ⟨b, off + j, none⟩ := fun j => by simp [Addr.add]
  refine ⟨b, off, e, ?_, fun j x hj => ?_⟩
  · rw [hadd] at h0
    exact World.block_lt_of_cell? w _ h0
  · have hj' := (List.getElem?_eq_some_iff.1 hj).1
    obtain ⟨ad', e', g0, g1⟩ := at_T45 h (j : Int) (by omega) (by omega)
    rw [e] at e'
    obtain rfl := Option.some.inj e'
    have hx : rd_T45 l (j : Int) = x := by
      unfold rd_T45
      rw [Int.toNat_natCast, List.getD_eq_getElem?_getD, hj]
      rfl
    rw [Int.toNat_natCast, hadd, hx] at g0 g1
    exact ⟨g0, g1⟩
/-! ### slices.SortStableFunc, of few pairs -/
def cmpP (x y : S45) : Int := Lib.compareBytes x.f0.data.toList y.f0.data.toList
set_option maxHeartbeats 1000000 in
theorem cmp_calls (x y : S45) (W : World) : Calls Tryd.prog 29 #[.agg #[.string x.f0, .string x.f1], .agg #[.string y.f0, .string y.f1]] W fun e w' => e = .returned (.int .i64 (cmpP x y)) ∧ ∃ q os', w' = grow (W.drewN q) os' := by
  have hcon := fun W' => Tryd.strings_Compare x.f0 y.f0 W'
  change ∀ W', Calls Tryd.prog 30 _ _ fun e w' => e = .returned (.int .i64 (cmpP x y)) ∧ w' = W' at hcon
  generalize cmpP x y = r at hcon ⊢
  go_enter Tryd.func29, Tryd.ntmps29
  go_wp2_with (go_at_call 30; refine (hcon _).mono ?_; rintro e w' ⟨rfl, rfl⟩)
  go_ret
  exact ⟨rfl, 0, _, by rw [alloc_eq_grow, alloc_eq_grow, grow_grow]; rfl⟩
theorem cmpLays (blk off size : Nat) (w : World) : CmpLays Tryd.prog 29 #[] enc45 2 cmpP blk off size w := fun _ _ _ _ x y => cmp_calls x y _
theorem ins_calls (blk off cap a b : Nat) (d : Array S45) (w : World) (hH : HoldsK enc45 2 w blk off d) (hblk : blk < w.heap.size) (hab : a ≤ b) (hb : b ≤ d.size) (hsz : d.size < 4611686018427387904) :
    Calls Tryd.prog 44 #[.slice (some ⟨blk, off, none⟩) d.size cap, .int .i64 a, .int .i64 b, .func (.func 29) #[] #[]] w fun e w' =>
      e = .returned (.tuple #[]) ∧ ∃ n os, w' = sortWorldK enc45 2 w blk off n (Sort.insertionSort (ltOf cmpP) d a b) os :=
  Tryd.insertionSortCmpFunc 2 Tryd.isAgg45 Tryd.sizeOf45 enc45 (fun _ => rfl) enc45_one cmpP 29 #[] blk off cap a b d w (enters_of Tryd.func29 (by kernel_rfl) rfl) (cmpLays blk off d.size w) hH hblk hab hb hsz
set_option maxHeartbeats 1000000 in
theorem stable_calls (blk off cap : Nat) (d : Array S45) (w : World) (hH : HoldsK enc45 2 w blk off d) (hblk : blk < w.heap.size) (hsz : d.size ≤ 19) :
    Calls Tryd.prog 35 #[.slice (some ⟨blk, off, none⟩) d.size cap, .int .i64 d.size, .func (.func 29) #[] #[]] w fun e w' =>
      e = .returned (.tuple #[]) ∧ ∃ n os, w' = sortWorldK enc45 2 w blk off n (Sort.insertionSort (ltOf cmpP) d 0 d.size) os := by
  have hcon := ins_calls blk off cap 0 d.size d w hH hblk (Nat.zero_le _) (Nat.le_refl _) (by omega)
  clear hH
  generalize Sort.insertionSort (ltOf cmpP) d 0 d.size = r at hcon ⊢
  generalize d.size = m at hcon hsz ⊢
  have h20 : ¬ ((20 : Int) ≤ (m : Int)) := by omega
  have h20' : ¬ ((20 : Int) < (m : Int)) := by omega
  go_enter Tryd.func35, Tryd.ntmps35
  go_wp2
  go_loop [7, 8] (fun s7 s8 => s7 = .int .i64 0 ∧ s8 = .int .i64 20) (fun _ _ => 0)
  case atStart => exact ⟨rfl, rfl⟩
  case round =>
    obtain ⟨rfl, rfl⟩ := hrel
    go_wp2_with (go_at_call 44; refine hcon.mono ?_; rintro e w' ⟨rfl, n, os, rfl⟩)
    go_loop [6] (fun s6 => s6 = .int .i64 20) (fun _ => 0)
    case atStart => exact rfl
    case round =>
      obtain rfl := hrel
      go_wp2
      go_end0
      exact ⟨rfl, n, os, rfl⟩
set_option maxHeartbeats 1000000 in
theorem sort_calls (blk off cap : Nat) (d : Array S45) (w : World) (hH : HoldsK enc45 2 w blk off d) (hblk : blk < w.heap.size) (hsz : d.size ≤ 19) :
    Calls Tryd.prog 28 #[.slice (some ⟨blk, off, none⟩) d.size cap, .func (.func 29) #[] #[]] w fun e w' =>
      e = .returned (.tuple #[]) ∧ ∃ n os, w' = sortWorldK enc45 2 w blk off n (Sort.insertionSort (ltOf cmpP) d 0 d.size) os := by
  have hcon := stable_calls blk off cap d w hH hblk hsz
  clear hH
  generalize Sort.insertionSort (ltOf cmpP) d 0 d.size = r at hcon ⊢
  generalize d.size = m at hcon hsz ⊢
  go_enter Tryd.func28, Tryd.ntmps28
  go_wp2_with (go_at_call 35; refine hcon.mono ?_; rintro e w' ⟨rfl, n, os, rfl⟩)
  go_end0
  exact ⟨rfl, n, os, rfl⟩
/-! ### the value of a word -/
theorem isWord_calls (word : ByteArray) (B : Nat) (w : World) (hB : B < w.heap.size) (hcell : w.cell? ⟨B, 0, none⟩ = some (.string word)) :
    PredBelow Tryd.prog 23 #[.pointer (some ⟨B, 0, none⟩)] (fun x : S45 => .agg (enc45 x).toArray) (fun x => x.f0.toList == word.toList) w := fun W x hb => by
  have hc : W.cell? ⟨B, 0, none⟩ = some (.string word) := (hb.cell (p := ⟨B, 0, none⟩) hB).trans hcell
  have hBW : B < W.heap.size := Nat.lt_of_lt_of_le hB hb.size
  have hne : B ≠ W.heap.size := by omega
  show Calls Tryd.prog 23 #[.agg #[.string x.f0, .string x.f1], .pointer (some ⟨B, 0, none⟩)] W _
  generalize hr : (x.f0.toList == word.toList) = r
  go_enter Tryd.func23, Tryd.ntmps23
  go_wp2
  all_goals (go_ret; exact ⟨by simp_all, hb.alloc hb.size _⟩)
theorem less_total : ∀ (a b : List UInt8), (Op.bytesLess a b || a == b) = !(Op.bytesLess b a)
  | [], [] => by decide
  | [], _ :: _ => by simp [Op.bytesLess]
  | _ :: _, [] => by simp [Op.bytesLess]
  | x :: a, y :: b => by
    have ih := less_total a b
    by_cases h : x = y
    · subst h
      simpa [Op.bytesLess] using ih
    · simp only [Op.bytesLess]
      have h1 : (x :: a == y :: b) = false := by simp [h]
      rw [h1, Bool.or_false]
      rcases Nat.lt_trichotomy x.toNat y.toNat with hl | he | hg
      · have h2 : ¬ y = x := fun e => h e.symm
        simp [UInt8.lt_iff_toNat_lt, hl, Nat.lt_asymm hl, h2]
      · exact absurd (UInt8.toNat_inj.1 he) h
      · simp [UInt8.lt_iff_toNat_lt, hg, Nat.lt_asymm hg, h]
theorem str_leq (t : TypeId) (a b : ByteArray) : binOp .leq t (.string a) (.string b) = pure (.bool !(Op.bytesLess b.toList a.toList)) := by rw [binOp_string_leq, less_total]
theorem str_gtr (t : TypeId) (a b : ByteArray) : binOp .gtr t (.string a) (.string b) = pure (.bool (Op.bytesLess b.toList a.toList)) := by rw [binOp_string_gtr, less_total, Bool.not_not]
theorem str_geq (t : TypeId) (a b : ByteArray) : binOp .geq t (.string a) (.string b) = pure (.bool !(Op.bytesLess a.toList b.toList)) := binOp_string_geq t a b
theorem idx_none (A : Option Addr) (c : Nat) (g : Value) (w : World) :
    Calls Tryd.prog 22 #[.slice A 0 c, g] w fun e w' => e = .returned (.int .i64 (-1)) ∧ w' = w := by
  go_enter Tryd.func22, Tryd.ntmps22
  go_wp2
  go_loop [8] (fun s8 => s8 = .int .i64 0) (fun _ => 0)
  case atStart => exact rfl
  case round =>
    obtain rfl := hrel
    go_wp2
    go_ret
    exact ⟨rfl, rfl⟩
theorem idx_find (p : S45 → Bool) : ∀ (l : List S45) (i : Nat), (Lib.idxByFrom (fun _ y => p y) default l i = -1 ∧ l.find? p = none) ∨ ∃ j x, l[j]? = some x ∧ Lib.idxByFrom (fun _ y => p y) default l i = ((i + j : Nat) : Int) ∧ l.find? p = some x
  | [], i => .inl ⟨rfl, rfl⟩
  | y :: l, i => by
    cases hp : p y with
    | true => exact .inr ⟨0, y, rfl, by simp [Lib.idxByFrom, hp], by simp [hp]⟩
    | false =>
      have e1 : Lib.idxByFrom (fun _ y => p y) default (y :: l) i = Lib.idxByFrom (fun _ y => p y) default l (i + 1) := by simp [Lib.idxByFrom, hp]
      have e2 : (y :: l).find? p = l.find? p := by simp [hp]
      rw [e1, e2]
      rcases idx_find p l (i + 1) with h | ⟨j, x, h1, h2, h3⟩
      · exact .inl h
      · exact .inr ⟨j + 1, x, h1, by rw [h2]; omega, h3⟩
def pairs_Value.f (l : List S45) (word : ByteArray) : Option (ByteArray × Bool) :=
  some (match l.find? (fun x => x.f0.toList == word.toList) with
    | none => (⟨#[]⟩, false)
    | some x => (x.f1, true))
set_option maxHeartbeats 2000000 in
theorem pairs_Value.calls (A0 : Option Addr) (c0 : Nat) (l0 : List S45) (a1 : ByteArray) (r1 : ByteArray) (r2 : Bool) (w : World) (hr0 : Kd.C k45 w A0 l0.length l0) (hc0 : l0.length ≤ c0) (h : pairs_Value.f l0 a1 = some (r1, r2)) :
    Calls Tryd.prog 13 #[.slice A0 l0.length c0, .string a1] w fun e w' => e = .returned (.tuple #[.string r1, .bool r2]) ∧ Below w.heap.size w w' := by
  have h := Option.some.inj h
  have hlen : l0.length ≤ 9223372036854775807 := hr0.2.1
  have hB : Below w.heap.size w (w.alloc (.cells #[.string a1] 9)) := (Below.refl _ _).alloc (Nat.le_refl _) _
  by_cases h0 : l0 = []
  · subst h0
    simp only [List.find?_nil, Prod.mk.injEq] at h
    obtain ⟨rfl, rfl⟩ := h
    have hcon := fun g W => idx_none A0 c0 g W
    clear hr0
    go_enter Tryd.func13, Tryd.ntmps13
    go_wp2_with (go_at_call 22; refine (hcon _ _).mono ?_; rintro e w' ⟨rfl, rfl⟩)
    go_ret2
    exact ⟨rfl, hB⟩
  · obtain ⟨b, off, rfl, hb, hcell⟩ := cells45 hr0 h0
    have hcon := Tryd.slices_IndexFunc 2 Tryd.isAgg45 Tryd.sizeOf45 enc45 (fun _ => rfl) (fun x => x.f0.toList == a1.toList) 23 #[.pointer (some ⟨w.heap.size, 0, none⟩)] (enters_of Tryd.func23 (by kernel_rfl) rfl) b off l0.length c0 l0 (w.alloc (.cells #[.string a1] 9))
      (isWord_calls a1 w.heap.size _ (by simp) (by simp)) (Nat.le_refl _) hlen (by simp; omega) (fun j hj i v hi => by
        refine Lib.cell?_alloc_some _ ?_
        have h1 := hcell j l0[j]! (by rw [getElem!_pos l0 j hj]; exact List.getElem?_eq_getElem hj)
        generalize l0[j]! = y at hi h1
        match i, hi with
        | 0, hi => simp [enc45] at hi; rw [← hi]; exact h1.1
        | 1, hi => simp [enc45] at hi; rw [← hi]; exact h1.2
        | i + 2, hi => simp [enc45] at hi)
    rw [List.take_length] at hcon
    unfold Lib.idxBy at hcon
    clear hr0
    rcases idx_find (fun x => x.f0.toList == a1.toList) l0 0 with ⟨h1, h2⟩ | ⟨j, x, h1, h2, h3⟩
    · rw [h1] at hcon
      rw [h2] at h
      simp only [Prod.mk.injEq] at h
      obtain ⟨rfl, rfl⟩ := h
      clear hcell
      go_enter Tryd.func13, Tryd.ntmps13
      go_wp2_with (go_at_call 22; refine hcon.mono ?_; rintro e w' ⟨rfl, hb'⟩)
      go_ret2
      exact ⟨rfl, hB.trans (hb'.mono (by simp))⟩
    · rw [h2, Nat.zero_add] at hcon
      rw [h3] at h
      simp only [Prod.mk.injEq] at h
      obtain ⟨rfl, rfl⟩ := h
      have hj := (List.getElem?_eq_some_iff.1 h1).1
      obtain ⟨hc1, hc2⟩ := hcell j x h1
      clear hcell
      have hj0 : ¬ ((j : Int) < 0) := by omega
      have hjl : (j : Int) < (l0.length : Int) := by omega
      go_enter Tryd.func13, Tryd.ntmps13
      go_wp2_with (go_at_call 22; refine hcon.mono ?_; rintro e w' ⟨rfl, hb'⟩; have hB2 : Below w.heap.size w w' := hB.trans (hb'.mono (by simp)); have hc2' : w'.cell? ⟨b, off + j * 2 + 1, none⟩ = some (.string x.f1) := (hB2.cell (p := ⟨b, off + j * 2 + 1, none⟩) hb).trans hc2)
      go_ret2
      exact ⟨rfl, hB2⟩
/-! ### a row of pairs of the call's own: cloned, sorted -/
theorem flat_get : ∀ (l : List S45) (t : Nat), t < l.length * 2 → (l.flatMap enc45)[t]? = (enc45 l[t / 2]!)[t % 2]?
  | [], t, h => by simp at h
  | x :: l, 0, h => rfl
  | x :: l, 1, h => rfl
  | x :: l, t + 2, h => by
    have e1 : (t + 2) / 2 = t / 2 + 1 := by omega
    have e2 : (t + 2) % 2 = t % 2 := by omega
    rw [e1, e2, List.getElem!_cons_succ, ← flat_get l t (by simp only [List.length_cons] at h; omega)]
    rfl
theorem flat_len : ∀ (l : List S45), (l.flatMap enc45).length = l.length * 2
  | [] => rfl
  | x :: l => by
    rw [List.flatMap_cons, List.length_append, flat_len l, List.length_cons]
    show 2 + _ = _
    omega
theorem flat_list (l : List S45) : (flatK enc45 2 l.toArray).toList = l.flatMap enc45 := by
  apply List.ext_getElem?
  intro t
  by_cases h : t < l.length * 2
  · rw [flat_get l t h]
    have hs : t < (flatK enc45 2 l.toArray).toList.length := by simp [h]
    rw [List.getElem?_eq_getElem hs]
    have := get_flatK enc45 2 l.toArray t (by simpa using h)
    rw [getElem!_pos _ t (by simpa using h)] at this
    rw [show (flatK enc45 2 l.toArray).toList[t] = (flatK enc45 2 l.toArray)[t]'(by simpa using h) from by simp, this]
    have e2 : t % 2 < (enc45 l[t / 2]!).length := by rw [enc45_len]; omega
    rw [List.getElem?_eq_getElem e2]
    have e3 : l.toArray[t / 2]! = l[t / 2]! := by simp
    rw [e3, getElem!_pos (enc45 l[t / 2]!) (t % 2) e2]
  · rw [List.getElem?_eq_none (l := (flatK enc45 2 l.toArray).toList) (by rw [Array.length_toList, size_flatK]; simp only [List.size_toArray]; omega), List.getElem?_eq_none (by rw [flat_len]; omega)]
theorem drop_flat : ∀ (l : List S45) (j : Nat) (p : S45), l[j]? = some p → ((l.flatMap enc45).drop (j * 2)).take 2 = enc45 p
  | [], j, p, h => by simp at h
  | x :: l, 0, p, h => by
    have : x = p := by simpa using h
    subst this
    rfl
  | x :: l, j + 1, p, h => by
    rw [Nat.succ_mul]
    exact drop_flat l j p (by simpa using h)
theorem flat_reps (w : World) (base : Nat) (ok : Nat → Prop) (l : List S45) : Reps (k45.M w base ok) 2 l (l.flatMap enc45) := by
  refine ⟨flat_len l, fun j p hj => ?_⟩
  rw [drop_flat l j p hj]
  exact k45_mkM w base ok p
theorem chunk_eq : ∀ (n : Nat) (a b : List Value), a.length = n * 2 → b.length = n * 2 → (∀ j, j < n → (a.drop (j * 2)).take 2 = (b.drop (j * 2)).take 2) → a = b
  | 0, a, b, ha, hb, _ => by
    rw [List.eq_nil_of_length_eq_zero (by omega : a.length = 0), List.eq_nil_of_length_eq_zero (by omega : b.length = 0)]
  | n + 1, a, b, ha, hb, h => by
    match a, b, ha, hb with
    | x :: y :: a, x' :: y' :: b, ha, hb =>
      have h0 := h 0 (by omega)
      simp at h0
      obtain ⟨rfl, rfl⟩ := h0
      rw [chunk_eq n a b (by simp at ha; omega) (by simp at hb; omega) fun j hj => by
        have := h (j + 1) (by omega)
        rw [Nat.succ_mul] at this
        exact this]
    | [], _, ha, _ => simp at ha
    | [x], _, ha, _ => simp at ha; omega
    | _ :: _ :: _, [], _, hb => simp at hb
    | _ :: _ :: _, [x], _, hb => simp at hb; omega
theorem of_reps {w : World} {base : Nat} {ok : Nat → Prop} {l : List S45} {inner : List Value} (h : Reps (k45.M w base ok) 2 l inner) : inner = l.flatMap enc45 := by
  refine chunk_eq l.length _ _ h.1 (flat_len l) fun j hj => ?_
  obtain ⟨p, hp⟩ : ∃ p, l[j]? = some p := ⟨l[j], List.getElem?_eq_getElem hj⟩
  rw [drop_flat l j p hp]
  exact k45_openM (h.2 j p hp)
def sortL (l : List S45) : List S45 := (Sort.insertionSort (ltOf cmpP) l.toArray 0 l.length).toList
theorem mapBlock_at (w : World) (g : Nat) (f : Array Value → Array Value) {cur : Array Value} {e : TypeId} {fr : Nat × Nat} (h : w.heap[g]? = some (.cells cur e fr)) : (mapBlock w g f).heap[g]? = some (.cells (f cur) e fr) := by
  unfold mapBlock
  simp [Array.getElem?_modify, h, onCells]
theorem mapBlock_off (w : World) (g k : Nat) (f : Array Value → Array Value) (h : k ≠ g) : (mapBlock w g f).heap[k]? = w.heap[k]? := by
  unfold mapBlock
  simp [Array.getElem?_modify, Ne.symm h]
theorem cb_cons (a b : UInt8) (xs bs : List UInt8) : Lib.compareBytes (a :: xs) (b :: bs) < 0 ↔ a.toNat < b.toNat ∨ (a.toNat = b.toNat ∧ Lib.compareBytes xs bs < 0) := by
  have h1 : (a < b) = (a.toNat < b.toNat) := propext UInt8.lt_iff_toNat_lt
  have h2 : (b < a) = (b.toNat < a.toNat) := propext UInt8.lt_iff_toNat_lt
  simp only [Lib.compareBytes, h1, h2]
  by_cases c1 : a.toNat < b.toNat
  · rw [if_pos c1]
    exact ⟨fun _ => .inl c1, fun _ => by omega⟩
  · rw [if_neg c1]
    by_cases c2 : b.toNat < a.toNat
    · rw [if_pos c2]
      exact ⟨fun h => by omega, fun h => by omega⟩
    · rw [if_neg c2]
      exact ⟨fun h => .inr ⟨by omega, h⟩, fun h => by
        rcases h with h | h
        · omega
        · exact h.2⟩
theorem cb_refl : ∀ (a : List UInt8), Lib.compareBytes a a = 0
  | [] => rfl
  | a :: xs => by simp [Lib.compareBytes, cb_refl xs]
theorem cb_trans : ∀ (x y z : List UInt8), Lib.compareBytes x y < 0 → Lib.compareBytes y z < 0 → Lib.compareBytes x z < 0
  | [], [], z, h, _ => by simp [Lib.compareBytes] at h
  | [], _ :: _, [], _, h => by simp [Lib.compareBytes] at h
  | [], _ :: _, _ :: _, _, _ => by simp [Lib.compareBytes]
  | _ :: _, [], z, h, _ => by simp [Lib.compareBytes] at h
  | _ :: _, _ :: _, [], _, h => by simp [Lib.compareBytes] at h
  | a :: xs, b :: bs, c :: cs, h, k => by
    rw [cb_cons] at h k ⊢
    rcases h with h | ⟨h, h'⟩
    · rcases k with k | ⟨k, _⟩
      · exact .inl (by omega)
      · exact .inl (by omega)
    · rcases k with k | ⟨k, k'⟩
      · exact .inl (by omega)
      · exact .inr ⟨by omega, cb_trans xs bs cs h' k'⟩
theorem cb_ntrans : ∀ (x y z : List UInt8), ¬ Lib.compareBytes x y < 0 → ¬ Lib.compareBytes y z < 0 → ¬ Lib.compareBytes x z < 0
  | [], [], z, _, h => h
  | [], _ :: _, z, h, _ => absurd (by simp [Lib.compareBytes]) h
  | _ :: _, y, [], _, _ => by simp [Lib.compareBytes]
  | _ :: _, [], _ :: _, _, h => absurd (by simp [Lib.compareBytes]) h
  | a :: xs, b :: bs, c :: cs, h, k => by
    rw [cb_cons] at h k ⊢
    intro g
    rcases g with g | ⟨g, g'⟩
    · omega
    · have e1 : a.toNat = b.toNat := by omega
      have e2 : b.toNat = c.toNat := by omega
      exact cb_ntrans xs bs cs (fun h' => h (.inr ⟨e1, h'⟩)) (fun k' => k (.inr ⟨e2, k'⟩)) g'
theorem swo : SWO (ltOf cmpP) where
  irrefl := fun x => by simp [ltOf, cmpP, cb_refl]
  trans := fun x y z h k => decide_eq_true (cb_trans _ _ _ (of_decide_eq_true h) (of_decide_eq_true k))
  ntrans := fun x y z h k => decide_eq_false (cb_ntrans _ _ _ (of_decide_eq_false h) (of_decide_eq_false k))
theorem sort_size (l : List S45) : (Sort.insertionSort (ltOf cmpP) l.toArray 0 l.length).size = l.length :=
  (insertionSort_holds swo l.toArray 0 l.length (Nat.zero_le _) (by simp)).1.1.trans (by simp)
theorem sortL_len (l : List S45) : (sortL l).length = l.length := by
  unfold sortL
  rw [Array.length_toList, sort_size]
/-! the clone, then the sort: of a row of the call's own -/
theorem info_45 : ∃ i0, Tryd.prog.info? 45 = some i0 ∧ i0.zero = some (.agg #[.string ⟨#[]⟩, .string ⟨#[]⟩]) ∧ i0.size = 2 ∧ i0.bytes = 32 := by
  obtain ⟨i0, hi, hz⟩ := Option.map_eq_some_iff.1 info45
  simp only [Prod.mk.injEq] at hz
  exact ⟨i0, hi, hz.1, hz.2.1, hz.2.2⟩
theorem own_R {w : World} {base : Nat} {v : Value} {l : List S45} (h : w.ownsRow base 45 2 v l.length (l.flatMap enc45)) : Kd.R k45 45 w base (fun _ => True) v l :=
  ⟨fun _ _ => trivial, _, h, flat_reps w base _ l⟩
theorem clone_calls (A0 : Option Addr) (c0 : Nat) (l0 : List S45) (w : World) (hr0 : Kd.C k45 w A0 l0.length l0) (hc0 : l0.length ≤ c0) (hn : l0.length ≤ 1000) (hne : l0 ≠ []) :
    Calls Tryd.prog 27 #[.slice A0 l0.length c0] w fun e w' => ∃ v, e = .returned v ∧ Kd.R k45 45 w' w.heap.size (fun _ => True) v l0 ∧ Below w.heap.size w w' := by
  obtain ⟨b, off, rfl, hb, hcell⟩ := cells45 hr0 hne
  obtain ⟨i0, hi, hz0, hz1, hz2⟩ := info_45
  refine (Tryd.slices_Clone i0 _ 2 32 hi hz0 hz1 hz2 rfl (by omega) Tryd.sizeOf45 b off l0.length c0 (l0.flatMap enc45) w (flat_len l0) (by simp only [maxLen]; omega) (by omega) (fun j u hj => ?_) (fun u hu => ?_)).mono ?_
  · have hj2 : j < l0.length * 2 := by
      have := (List.getElem?_eq_some_iff.1 hj).1
      rwa [flat_len] at this
    rw [flat_get l0 j hj2] at hj
    have hj3 : j / 2 < l0.length := by omega
    rw [getElem!_pos l0 (j / 2) hj3] at hj
    obtain ⟨h1, h2⟩ := hcell (j / 2) l0[j / 2] (List.getElem?_eq_getElem hj3)
    by_cases hp : j % 2 = 0
    · rw [hp] at hj
      have : u = .string l0[j / 2].f0 := by simpa [enc45] using hj.symm
      rw [this, ← h1]
      congr 2
      omega
    · have hp1 : j % 2 = 1 := by omega
      rw [hp1] at hj
      have : u = .string l0[j / 2].f1 := by simpa [enc45] using hj.symm
      rw [this, ← h2]
      congr 2
      omega
  · obtain ⟨x, _, hx⟩ := List.mem_flatMap.1 hu
    exact enc45_one x u hx
  · rintro e w' ⟨v', rfl, ho, _, hbel⟩
    exact ⟨v', rfl, own_R ho, hbel⟩
theorem sortR_calls (A : Option Addr) (n c : Nat) (l : List S45) (w : World) (base : Nat) (h : Kd.R k45 45 w base (fun _ => True) (.slice A n c) l) (hn : l.length ≤ 19) (hne : l ≠ []) :
    Calls Tryd.prog 28 #[.slice A n c, .func (.func 29) #[] #[]] w fun e w' => e = .returned (.tuple #[]) ∧ Kd.R k45 45 w' base (fun _ => True) (.slice A n c) (sortL l) ∧ Below base w w' := by
  obtain ⟨_, inner, ho, hre⟩ := h
  obtain rfl := of_reps hre
  obtain ⟨hlen, hcase⟩ := ho
  rcases hcase with ⟨_, h0⟩ | ⟨g, cap, cur, hv, hbg, hg, hnc, hcm, hcs, htake⟩
  · exact absurd (List.eq_nil_of_length_eq_zero h0) hne
  · simp only [Value.slice.injEq] at hv
    obtain ⟨rfl, rfl, rfl⟩ := hv
    have hsz : l.toArray.size = l.length := by simp
    have hcs2 : cur.size = c * 2 := hcs
    have hgl : g < w.heap.size := (Array.getElem?_eq_some_iff.1 hg).1
    have hH : HoldsK enc45 2 w g 0 l.toArray := by
      intro j hj
      rw [size_flatK, hsz] at hj
      have hown : w.ownsRow base 45 2 (.slice (some ⟨g, 0, none⟩) l.length c) l.length (l.flatMap enc45) := ⟨flat_len l, .inr ⟨g, c, cur, rfl, hbg, hg, hnc, hcm, hcs, htake⟩⟩
      rw [Nat.zero_add]
      refine ⟨?_, hown.frozenAt j⟩
      rw [hown.cellAt j hj, ← flat_list, Array.getElem?_toList, getElem!_pos _ j (by rw [size_flatK, hsz]; exact hj)]
      exact Array.getElem?_eq_getElem _
    have hcon := sort_calls g 0 c l.toArray w hH hgl (by omega)
    rw [hsz] at hcon
    refine hcon.mono ?_
    rintro e w' ⟨rfl, m, os, rfl⟩
    refine ⟨rfl, ?_, ?_⟩
    · have hF : (flatK enc45 2 (Sort.insertionSort (ltOf cmpP) l.toArray 0 l.length)).toList = (sortL l).flatMap enc45 := by
        rw [← flat_list]
        unfold sortL
        simp
      have hFs : (flatK enc45 2 (Sort.insertionSort (ltOf cmpP) l.toArray 0 l.length)).size = l.length * 2 := by rw [size_flatK, sort_size]
      have ho2 : (sortWorldK enc45 2 w g 0 m (Sort.insertionSort (ltOf cmpP) l.toArray 0 l.length) os).ownsRow base 45 2 (.slice (some ⟨g, 0, none⟩) l.length c) (sortL l).length ((sortL l).flatMap enc45) := by
        rw [sortL_len]
        refine ⟨by rw [flat_len, sortL_len], .inr ⟨g, c, putCells id 0 (flatK enc45 2 (Sort.insertionSort (ltOf cmpP) l.toArray 0 l.length)) cur, rfl, hbg, ?_, hnc, hcm, ?_, ?_⟩⟩
        · unfold sortWorldK putRowK putRow grow
          rw [Array.getElem?_append_left (by simp [mapBlock]; exact hgl)]
          exact mapBlock_at _ g _ hg
        · unfold putCells
          rw [Array.size_mapIdx]
          exact hcs
        · rw [← hF]
          generalize (flatK enc45 2 (Sort.insertionSort (ltOf cmpP) l.toArray 0 l.length)) = F at hFs
          apply List.ext_getElem?
          intro t
          by_cases ht : t < l.length * 2
          · have hc2 : l.length * 2 ≤ c * 2 := Nat.mul_le_mul_right _ hnc
            rw [List.getElem?_take_of_lt ht]
            unfold putCells
            rw [Array.getElem?_toList, Array.getElem?_toList, Array.getElem?_mapIdx, Array.getElem?_eq_getElem (show t < cur.size by omega), Array.getElem?_eq_getElem (show t < F.size by omega), Option.map_some, if_pos ⟨Nat.zero_le _, by omega⟩, Nat.sub_zero, getElem!_pos F t (by omega)]
            rfl
          · rw [List.getElem?_eq_none (by rw [List.length_take]; omega), List.getElem?_eq_none (by rw [Array.length_toList]; omega)]
      have := own_R ho2
      exact this
    · refine ⟨rfl, rfl, rfl, ?_, fun k hk => ?_⟩
      · show w.heap.size ≤ ((mapBlock (Sort.ahead w m) g _).heap ++ os).size
        rw [Array.size_append]
        simp [mapBlock, Sort.ahead]
      · show ((mapBlock (Sort.ahead w m) g _).heap ++ os)[k]? = w.heap[k]?
        rw [Array.getElem?_append_left (by simp [mapBlock, Sort.ahead]; omega), mapBlock_off _ g k _ (by omega)]
        rfl
/-! of no pair -/
theorem clone_none (A0 : Option Addr) (c0 : Nat) (w : World) :
    Calls Tryd.prog 27 #[.slice A0 0 c0] w fun e w' => ∃ v, e = .returned v ∧ Kd.R k45 45 w' w.heap.size (fun _ => True) v [] ∧ Below w.heap.size w w' := by
  cases A0 with
  | none =>
    refine (Tryd.slices_Clone_nil 0 c0 w).mono ?_
    rintro e w' ⟨rfl, rfl⟩
    exact ⟨_, rfl, Kd.R_nil _ _ _ _ _, Below.refl _ _⟩
  | some ad =>
    obtain ⟨i0, hi, hz0, hz1, hz2⟩ := info_45
    have t28 := Tryd.underlying28
    have q22 : ∀ (w : World) (a : Option Addr) (n c n' c' : Nat), (binOp .eql 28 (.slice a n c) (.slice none n' c')).run Tryd.prog w = .ok (.bool a.isNone) w := fun w a n c n' c' => Lib.run_eql_slice_nil w _ _ a n c n' c' t28
    go_enter Tryd.func27, Tryd.ntmps27
    go_wp2_with (at_builtin; refine wpList_append_own _ rfl _ _ 28 rfl w.heap.size 45 i0 _ 2 32 t28 hi hz0 hz1 hz2 rfl (by omega) _ _ _ rfl (World.ownsRow_made w #[] 0 (Nat.le_refl _) (Nat.zero_le _) (by simp)) ad 0 c0 [] rfl ?qc1 ?qc2 ?qc3 ?qc4 ?qc5 ?qc6 ?_)
    case qc1 => rfl
    case qc2 => intro j u hj; simp at hj
    case qc3 => intro u hu; simp at hu
    case qc4 => simp
    case qc5 => simp
    case qc6 => simp
    intro v' w1 hown hgrow hnil
    go_wp2
    go_ret
    refine ⟨v', rfl, own_R (l := []) (by simpa using hown), ?_⟩
    exact ((Below.refl _ w).alloc (Nat.le_refl _) _).grown hgrow (by simp) (by intro k hk; simp [Value.ownBlock] at hk; omega)
theorem ins_none (A : Option Addr) (c : Nat) (g : Value) (w : World) :
    Calls Tryd.prog 44 #[.slice A 0 c, .int .i64 0, .int .i64 0, g] w fun e w' => e = .returned (.tuple #[]) ∧ w' = w := by
  go_enter Tryd.func44, Tryd.ntmps44
  go_wp2
  go_loop [8, 9] (fun s8 s9 => s8 = .int .i64 1) (fun _ _ => 0)
  case atStart => exact rfl
  case round =>
    obtain rfl := hrel
    go_wp2
    go_end0
    exact ⟨rfl, rfl⟩
theorem stable_none (A : Option Addr) (c : Nat) (g : Value) (w : World) :
    Calls Tryd.prog 35 #[.slice A 0 c, .int .i64 0, g] w fun e w' => e = .returned (.tuple #[]) ∧ w' = w := by
  have hcon := ins_none A c g w
  go_enter Tryd.func35, Tryd.ntmps35
  go_wp2
  go_loop [7, 8] (fun s7 s8 => s7 = .int .i64 0 ∧ s8 = .int .i64 20) (fun _ _ => 0)
  case atStart => exact ⟨rfl, rfl⟩
  case round =>
    obtain ⟨rfl, rfl⟩ := hrel
    go_wp2_with (go_at_call 44; refine hcon.mono ?_; rintro e w' ⟨rfl, rfl⟩)
    go_loop [6] (fun s6 => s6 = .int .i64 20) (fun _ => 0)
    case atStart => exact rfl
    case round =>
      obtain rfl := hrel
      go_wp2
      go_end0
      exact ⟨rfl, rfl⟩
theorem sort_none (A : Option Addr) (c : Nat) (g : Value) (w : World) :
    Calls Tryd.prog 28 #[.slice A 0 c, g] w fun e w' => e = .returned (.tuple #[]) ∧ w' = w := by
  have hcon := stable_none A c g w
  go_enter Tryd.func28, Tryd.ntmps28
  go_wp2_with (go_at_call 35; refine hcon.mono ?_; rintro e w' ⟨rfl, rfl⟩)
  go_end0
  exact ⟨rfl, rfl⟩
theorem clone_all (A0 : Option Addr) (n c0 : Nat) (l0 : List S45) (w : World) (hl : l0.length = n) (hr0 : Kd.C k45 w A0 l0.length l0) (hc0 : l0.length ≤ c0) (hn : l0.length ≤ 19) :
    Calls Tryd.prog 27 #[.slice A0 n c0] w fun e w' => ∃ v, e = .returned v ∧ Kd.R k45 45 w' w.heap.size (fun _ => True) v l0 ∧ Below w.heap.size w w' := by
  subst hl
  by_cases h0 : l0 = []
  · subst h0
    exact clone_none A0 c0 w
  · exact clone_calls A0 c0 l0 w hr0 hc0 (by omega) h0
theorem sortR_all (A : Option Addr) (n c : Nat) (l : List S45) (w : World) (base : Nat) (h : Kd.R k45 45 w base (fun _ => True) (.slice A n c) l) (hn : l.length ≤ 19) :
    Calls Tryd.prog 28 #[.slice A n c, .func (.func 29) #[] #[]] w fun e w' => e = .returned (.tuple #[]) ∧ Kd.R k45 45 w' base (fun _ => True) (.slice A n c) (sortL l) ∧ Below base w w' := by
  by_cases h0 : l = []
  · subst h0
    obtain rfl : n = 0 := (Kd.R_reads' h).1
    refine (sort_none A c _ w).mono ?_
    rintro e w' ⟨rfl, rfl⟩
    have e0 : sortL [] = [] := List.eq_nil_of_length_eq_zero (sortL_len [])
    rw [e0]
    exact ⟨rfl, h, Below.refl _ _⟩
  · exact sortR_calls A n c l w base h hn h0
def clonesort.f (l : List S45) : Option (List S45) := if l.length ≤ 19 then some (sortL l) else none
/-! ### strings.Join, at a row that is read -/
def strings_Join.f (l0 : List ByteArray) (a1 : ByteArray) : Option ByteArray :=
  if l0.length ≤ 100000 ∧ (Lib.join (l0.map (·.data.toList)) a1.data.toList).length ≤ 140737488351232 then some ⟨(Lib.join (l0.map (·.data.toList)) a1.data.toList).toArray⟩ else none
theorem strings_Join.calls (A0 : Option Addr) (c0 : Nat) (l0 : List ByteArray) (a1 : ByteArray) (r : ByteArray) (w : World) (hr0 : Kd.C Kd.string w A0 l0.length l0) (hc0 : l0.length ≤ c0) (h : strings_Join.f l0 a1 = some r) :
    Calls Tryd.prog 31 #[.slice A0 l0.length c0, .string a1] w fun e w' => e = .returned (.string r) ∧ Below w.heap.size w w' := by
  unfold strings_Join.f at h
  by_cases hl : l0.length ≤ 100000 ∧ (Lib.join (l0.map (·.data.toList)) a1.data.toList).length ≤ 140737488351232
  · rw [if_pos hl] at h
    obtain rfl := Option.some.inj h
    cases l0 with
    | nil => exact (Tryd.strings_Join_none A0 c0 a1 w).mono fun e w' ⟨he, hw⟩ => ⟨he, hw ▸ Below.refl _ _⟩
    | cons x xs =>
      obtain ⟨ad, rfl, h0⟩ := Kd.at_string hr0 0 (by omega) (by simp)
      have hspot : ad.spot = none := by
        cases hsp : ad.spot with
        | none => rfl
        | some s =>
          have h9 : (ad.add (0 : Int).toNat).spot = some s := by simp [Addr.add, hsp]
          unfold World.cell? at h0
          split at h0
          · rw [h9] at h0
            simp at h0
          · cases h0
      obtain ⟨bk, o, sp⟩ := ad
      simp only at hspot
      subst hspot
      have hadd : ∀ j : Nat, ((⟨bk, o, none⟩ : Addr).add j) = ⟨bk, o + j, none⟩ := fun j => by simp [Addr.add]
      refine Tryd.strings_Join bk o c0 (x :: xs) a1 w (fun j y hj => ?_) ?_ (by omega) hc0 (by omega)
      · have hj' := (List.getElem?_eq_some_iff.1 hj).1
        obtain ⟨ad', e, hcj⟩ := Kd.at_string hr0 (j : Int) (by omega) (by omega)
        obtain rfl := Option.some.inj e
        rw [Int.toNat_natCast, hadd] at hcj
        rw [hcj]
        have : rdOf ByteArray.empty (x :: xs) (j : Int) = y := by
          unfold rdOf
          rw [Int.toNat_natCast, List.getD_eq_getElem?_getD, hj]
          rfl
        rw [this]
      · rw [show (0 : Int).toNat = 0 from rfl, hadd] at h0
        exact World.block_lt_of_cell? w _ h0
  · rw [if_neg hl] at h
    cases h
/-! ### ptext: function 18 -/
def ptext.l0 : Nat → List ByteArray → List (S45) → Int → Int → Option (ByteArray)
  | 0, _, _, _, _ => none
  | k + 1, x3, x10, x11, x12 => if x12 < x11 then (if 0 ≤ x12 then (if x12 < (x10.length : Int) then (if ((rd_T45 x10 x12).f0).size + 1 ≤ 9223372036854775807 then (if ((rd_T45 x10 x12).f0).size + 1 + ((rd_T45 x10 x12).f1).size ≤ 9223372036854775807 then (if x3.length < 8796093022208 then (ptext.l0 k (x3 ++ [(((rd_T45 x10 x12).f0) ++ (⟨#[61]⟩ : ByteArray)) ++ ((rd_T45 x10 x12).f1)]) x10 x11 (wrap64 (x12 + 1))) else (none)) else (none)) else (none)) else (none)) else (none)) else ((strings_Join.f x3 (⟨#[38]⟩ : ByteArray)).bind fun t109 => (some t109))
def ptext.f (k : Nat) (l0 : List (S45)) : Option (ByteArray) := (clonesort.f l0).bind fun t101 => (ptext.l0 k ([] : List ByteArray) t101 (t101.length : Int) 0)
theorem ptext.mono_l : ∀ k, (∀ y0 y1 y2 y3, LeO (ptext.l0 k y0 y1 y2 y3) (ptext.l0 (k + 1) y0 y1 y2 y3))
  | 0 => fun _ _ _ _ r h => by simp [ptext.l0] at h
  | k + 1 => by
    have ih0 := ptext.mono_l k
    · intro y0 y1 y2 y3
      unfold ptext.l0
      repeat' first
      | (with_reducible exact ih0 _ _ _ _)
      | (with_reducible exact LeO.refl _)
      | (with_reducible exact LeO.none _)
      | (with_reducible refine LeO.ite ?_ ?_)
      | (with_reducible refine LeO.bind ?_ (fun _ => ?_))
      | exact ih0 _ _ _ _
      | exact LeO.none _
      | refine LeO.ite ?_ ?_
      | refine LeO.bind ?_ (fun _ => ?_)
theorem ptext.mono : ∀ a0 k, LeO (ptext.f k a0) (ptext.f (k + 1) a0) := by
  intro a0 k
  have ih0 := ptext.mono_l k
  unfold ptext.f
  repeat' first
      | (with_reducible exact ih0 _ _ _ _)
      | (with_reducible exact LeO.refl _)
      | (with_reducible exact LeO.none _)
      | (with_reducible refine LeO.ite ?_ ?_)
      | (with_reducible refine LeO.bind ?_ (fun _ => ?_))
      | exact ih0 _ _ _ _
      | exact LeO.none _
      | refine LeO.ite ?_ ?_
      | refine LeO.bind ?_ (fun _ => ?_)
set_option maxHeartbeats 8000000 in
set_option maxRecDepth 100000 in
theorem ptext.calls (k : Nat) (A0 : Option Addr) (c0 : Nat) (l0 : List (S45)) (r : ByteArray) (w : World) (hr0 : Kd.C k45 w A0 l0.length l0) (hc0 : l0.length ≤ c0) (h : ptext.f k l0 = some r) :
    Calls Tryd.prog 18 #[.slice A0 l0.length c0] w fun e w' => e = .returned (.string r) ∧ Below w.heap.size w w' := by
  have hu45 := Tryd.underlying45
  have HR0 := Aside0.mk hr0
  have HC0 := Aside0.mk hc0
  clear hr0 hc0
  have HB := Aside0.mk (Below.refl w.heap.size w)
  have H : ((clonesort.f l0).bind fun t101 => (ptext.l0 k ([] : List ByteArray) t101 (t101.length : Int) 0)) = some r := h
  clear h
  replace H := Option.bind_eq_some_iff.mp H
  obtain ⟨t101, A20, H⟩ := H
  replace H : (ptext.l0 k ([] : List ByteArray) t101 (t101.length : Int) 0) = some r := H
  obtain ⟨hn, ht⟩ : l0.length ≤ 19 ∧ t101 = sortL l0 := by
    unfold clonesort.f at A20
    by_cases hn : l0.length ≤ 19
    · rw [if_pos hn] at A20
      exact ⟨hn, (Option.some.inj A20).symm⟩
    · rw [if_neg hn] at A20
      cases A20
  clear A20
  have hl : l0.length = t101.length := by rw [ht, sortL_len]
  have HT := Aside0.mk ht
  clear ht
  have HL := Aside0.mk hl
  have HN := Aside0.mk hn
  rw [hl]
  clear hl hn
  have H' := Aside0.mk H
  clear H
  go_enter Tryd.func18, Tryd.ntmps18
  go_wp2_with (first | ((with_reducible refine gate_callee (f := 27) rfl ?_); refine goesL_ (some 7) rfl rfl Tryd.func27 (by kernel_rfl) rfl #[.slice A0 t101.length c0] rfl (by (try simp only [List.map_toArray, List.map_cons, List.map_nil]); first | done | rfl | (simp only [List.length_drop, List.length_take]; rfl)) ?_; (with_reducible refine (clone_all A0 t101.length c0 l0 _ HL.out ?side1 ?side2 HN.out).mono ?_); (case side1 => repeat (first | exact HR0.out | (with_reducible refine Kd.C_alloc ?_ _) | (with_reducible refine Kd.C_drewN ?_ _) | (with_reducible refine Kd.C_drew ?_))); (case side2 => exact HC0.out); rintro e w3 ⟨v102, rfl, ho0, hb⟩; refine ⟨_, rfl, ?_⟩; have n0_ := Aside0.mk (Kd.R_lower ho0 (below_size (by repeat (first | (with_reducible first | exact HB.out | apply below_alloc | apply pw_below_drewN | apply below_drew1) | exact HB.out)))); have n1_ := Aside0.mk (below_step (by repeat (first | (with_reducible first | exact HB.out | apply below_alloc | apply pw_below_drewN | apply below_drew1) | exact HB.out)) hb); clear HB; have HO103 := n0_; have HB := n1_; clear n0_ n1_; (try clear hb); (try clear hb2); (try clear hk); (try clear hi); (try clear ho0); obtain ⟨Ao4, co4, eo4⟩ := Kd.R_slice HO103.out; rw [HL.out] at eo4; subst eo4) | (go_at_call 28; refine (sortR_all Ao4 t101.length co4 l0 _ w.heap.size HO103.out HN.out).mono ?_; rintro e w4 ⟨rfl, ho, hb⟩; rw [← HT.out] at ho; have n0_ := Aside0.mk ho; have n1_ := Aside0.mk (HB.out.trans hb); clear HO103 HB; have HO103 := n0_; have HB := n1_; clear n0_ n1_ ho hb))
  go_loopg [3, 12] k (fun kq v3 v12 w' => ∃ (x3_1 : List ByteArray) (x12_1 : Int), v12 = .int .i64 x12_1 ∧ Aside0 (ptext.l0 kq x3_1 t101 (t101.length : Int) x12_1 = some r) ∧ Aside0 (kq ≤ k) ∧ Aside0 (Kd.R Kd.string 9 w' w.heap.size (fun _ => True) v3 x3_1) ∧ Aside0 (Kd.R k45 45 w' w.heap.size (fun _ => True) (.slice Ao4 t101.length co4) t101) ∧ Aside0 (Below w.heap.size w w'))
  case atStart => exact ⟨(([] : List ByteArray)), (0), (by first | rfl | (simp; done) | (simp [*]; done)), H', ⟨Nat.le_refl _⟩, ⟨by first | exact Kd.R_nil _ _ _ _ _ | exact Kd.N_nil _ _ _ _ _ | exact Kd.V_nil _ _ _ _ _ | exact Kd.Q_nil _ _ _ _ _ | exact Kd.S_nil _ _ _ _ _⟩, ⟨by (with_reducible repeat (first | apply Kd.R_alloc | apply Kd.R_drewN | apply Kd.R_drew)); exact HO103.out⟩, ⟨by repeat (first | (with_reducible first | exact HB.out | apply below_alloc | apply pw_below_drewN | apply below_drew1) | exact HB.out)⟩⟩
  case round =>
    clear H'
    try clear c1
    try clear c2
    try clear p2
    obtain ⟨x3_1, x12_1, rfl, HA, HK1, HO_3, HO_10, HB⟩ := hrel
    cases gk with
    | zero => exact absurd HA.out (by simp [ptext.l0])
    | succ k1 =>
      have H := HA.out
      clear HA
      simp only [ptext.l0] at H
      by_cases c5 : x12_1 < (t101.length : Int)
      · rw [if_pos c5] at H
        have c5b0 : decide (x12_1 < (t101.length : Int)) = true := decide_eq_true c5
        clear c5
        by_cases c6 : 0 ≤ x12_1
        · rw [if_pos c6] at H
          have c6b0 : decide (0 ≤ x12_1) = true := decide_eq_true c6
          clear c6
          by_cases c7 : x12_1 < (t101.length : Int)
          · rw [if_pos c7] at H
            have c7b0 : decide (x12_1 < (t101.length : Int)) = true := decide_eq_true c7
            clear c7
            by_cases c8 : ((rd_T45 t101 x12_1).f0).size + 1 ≤ 9223372036854775807
            · rw [if_pos c8] at H
              have c8b0 := eq_true c8
              have c8b1 : decide (((rd_T45 t101 x12_1).f0).size + 1 ≤ 9223372036854775807) = true := decide_eq_true c8
              try have c8b2 : (9223372036854775807 < ((rd_T45 t101 x12_1).f0).size + 1) = False := eq_false (Nat.not_lt.2 c8)
              by_cases c9 : ((rd_T45 t101 x12_1).f0).size + 1 + ((rd_T45 t101 x12_1).f1).size ≤ 9223372036854775807
              · rw [if_pos c9] at H
                have c9b0 := eq_true c9
                have c9b1 : decide (((rd_T45 t101 x12_1).f0).size + 1 + ((rd_T45 t101 x12_1).f1).size ≤ 9223372036854775807) = true := decide_eq_true c9
                try have c9b2 : (9223372036854775807 < ((rd_T45 t101 x12_1).f0).size + 1 + ((rd_T45 t101 x12_1).f1).size) = False := eq_false (Nat.not_lt.2 c9)
                by_cases c10 : x3_1.length < 8796093022208
                · rw [if_pos c10] at H
                  have LMc10 := Aside0.mk c10
                  clear c10
                  obtain ⟨y106, hy106⟩ : ∃ y_ : List ByteArray, y_ = (x3_1 ++ [(((rd_T45 t101 x12_1).f0) ++ (⟨#[61]⟩ : ByteArray)) ++ ((rd_T45 t101 x12_1).f1)]) := ⟨_, rfl⟩
                  replace H : (ptext.l0 k1 y106 t101 (t101.length : Int) (wrap64 (x12_1 + 1))) = some r := by first | (rw [hy106]; with_reducible exact H) | (have H2_ := (Option.bind_some _ _).symm.trans H; rw [hy106]; with_reducible exact H2_) | (have H2_ := (Option.bind_some _ _).symm.trans H; with_reducible exact H2_) | with_reducible exact H | (rw [hy106]; exact H) | exact H
                  have Ny106 := Aside0.mk hy106
                  clear hy106
                  have H' := Aside0.mk H
                  clear H
                  have p104 : 0 ≤ (x12_1 : Int) := of_decide_eq_true (by first | (with_reducible assumption) | assumption)
                  have q104 : x12_1 < (t101.length : Int) := of_decide_eq_true (by first | (with_reducible assumption) | assumption)
                  obtain ⟨ad104, e104, hx104_0, hx104_1⟩ := at_T45 (Kd.R_reads' HO_10.out).2.2 x12_1 p104 q104
                  cases e104
                  replace p104 := eq_true p104
                  replace q104 := eq_true q104
                  go_wp2_with (first | ((with_reducible refine gate_dst (N := 5) rfl ?_); refine box_event ?hg (N := 5) ?hd (cs := #[.string (⟨#[]⟩ : ByteArray), .string (⟨#[]⟩ : ByteArray)]) (t := 45) ?hr ?_; (case hd => rfl); (case hg => rfl); (case hr => first | (go_simp; done) | (go_simp; rfl)); intro gb105 hg w11 hbox hb; have n0_ := Aside0.mk (Kd.R_below (by (with_reducible repeat (first | apply Kd.R_alloc | apply Kd.R_drewN | apply Kd.R_drew)); exact HO_3.out) hb); have n1_ := Aside0.mk (Kd.R_below (Kd.R_elderB (by (with_reducible repeat (first | apply Kd.R_alloc | apply Kd.R_drewN | apply Kd.R_drew)); exact HO_10.out) gb105 (Nat.le_of_eq hg.symm)) hb); have n2_ := Aside0.mk (below_step (by repeat (first | (with_reducible first | exact HB.out | apply below_alloc | apply pw_below_drewN | apply below_drew1) | exact HB.out)) hb); have n3_ := Aside0.mk (hbox); have n4_ := Aside0.mk ((by rw [hg]; exact (below_size (by repeat (first | (with_reducible first | exact HB.out | apply below_alloc | apply pw_below_drewN | apply below_drew1) | exact HB.out))) : w.heap.size ≤ gb105)); have n5_ := Aside0.mk ((by rw [hg]; exact (below_size (by repeat (first | (with_reducible first | exact HB.out | apply below_alloc | apply pw_below_drewN | apply below_drew1) | exact HB.out))) : w.heap.size ≤ gb105)); clear HO_3; clear HO_10; clear HB; have HO_3 := n0_; have HO_10 := n1_; have HB := n2_; have BK105 := n3_; have GW105 := n4_; have GE105 := n5_; clear n0_ n1_ n2_ n3_ n4_ n5_; clear hb hbox hg; have hcz12_0 : w11.cell? ⟨gb105, 0, none⟩ = some (.string (⟨#[]⟩ : ByteArray)) := (blk_cell BK105.out 0).trans rfl; have hcz12_1 : w11.cell? ⟨gb105, 1, none⟩ = some (.string (⟨#[]⟩ : ByteArray)) := (blk_cell BK105.out 1).trans rfl; have hfz12_0 := blk_frozen BK105.out 0; have hfz12_1 := blk_frozen BK105.out 1) | ((with_reducible refine gate_builtin (b := .append) (xs := #[.tmp 16, .tmp 23]) rfl ?_); at_builtin; refine Kd.R_append Kd.string (w0 := w) w.heap.size rfl (.tmp 16) (.tmp 23) 51 9 (.string ⟨#[]⟩) 16 rfl Tryd.underlying51 info9 rfl (by decide) (by omega) u3 x3_1 ((((rd_T45 t101 x12_1).f0) ++ (⟨#[61]⟩ : ByteArray)) ++ ((rd_T45 t101 x12_1).f1)) [.string ((((rd_T45 t101 x12_1).f0) ++ (⟨#[61]⟩ : ByteArray)) ++ ((rd_T45 t101 x12_1).f1))] (fun _ => True) (fun _ => False) rfl (by first | (go_simp; done) | (go_simp; rfl)) ?aP (fun _ hk => hk.elim) ?aF ?aO ?aB ?aS ?aL ?_; (case aP => exact rfl); (case aB => exact (by repeat (first | (with_reducible first | exact HB.out | apply below_alloc | apply pw_below_drewN | apply below_drew1 | refine below_set ?_ GE105.out) | exact HB.out))); (case aF => exact (fun _ _ => trivial)); (case aO => exact (by (with_reducible repeat (first | apply Kd.R_alloc | apply Kd.R_drewN | apply Kd.R_drew)); exact Kd.R_mono (Kd.R_far (p := ⟨gb105, 1, none⟩) (Kd.R_far (p := ⟨gb105, 0, none⟩) (Kd.R_types HO_3.out BK105.out (by decide)) (fun _ hk => hk.2) (.string ((rd_T45 t101 x12_1).f0))) (fun _ hk => hk.2) (.string ((rd_T45 t101 x12_1).f1))) (fun _ hk => trivial))); (case aS => exact (below_size (by repeat (first | (with_reducible first | exact HB.out | apply below_alloc | apply pw_below_drewN | apply below_drew1 | refine below_set ?_ GE105.out) | exact HB.out)))); (case aL => have := LMc10.out; omega); intro v107 w13 ho hb hg hat; rw [← Ny106.out] at ho; have n0_ := Aside0.mk (Kd.R_over' (by (with_reducible repeat (first | apply Kd.R_alloc | apply Kd.R_drewN | apply Kd.R_drew)); exact (Kd.R_mono (Kd.R_far (p := ⟨gb105, 1, none⟩) (Kd.R_far (p := ⟨gb105, 0, none⟩) (Kd.R_mono HO_10.out (fun k_ hk => (⟨hk, hk.2⟩ : _ ∧ k_ ≠ gb105))) (fun _ hk => hk.2) (.string ((rd_T45 t101 x12_1).f0))) (fun _ hk => hk.2) (.string ((rd_T45 t101 x12_1).f1))) (fun _ h_ => h_.1))) (Kd.R_typed (by (with_reducible repeat (first | apply Kd.R_alloc | apply Kd.R_drewN | apply Kd.R_drew)); exact (Kd.R_mono (Kd.R_far (p := ⟨gb105, 1, none⟩) (Kd.R_far (p := ⟨gb105, 0, none⟩) (Kd.R_types HO_3.out BK105.out (by decide)) (fun _ hk => hk.2) (.string ((rd_T45 t101 x12_1).f0))) (fun _ hk => hk.2) (.string ((rd_T45 t101 x12_1).f1))) (fun _ h_ => h_.1)))) (by decide) hg); have n1_ := Aside0.mk (blk_grown (g := gb105) (o := .cells #[.string ((rd_T45 t101 x12_1).f0), .string ((rd_T45 t101 x12_1).f1)] 45 (0, 0)) (by (with_reducible repeat (first | refine blk_drewN ?_ _ | refine blk_drew ?_ | refine blk_alloc ?_ _)); refine blk_put (cs := #[.string ((rd_T45 t101 x12_1).f0), .string (⟨#[]⟩ : ByteArray)]) ?_ 1 _ rfl; (with_reducible repeat (first | refine blk_drewN ?_ _ | refine blk_drew ?_ | refine blk_alloc ?_ _)); refine blk_put (cs := #[.string (⟨#[]⟩ : ByteArray), .string (⟨#[]⟩ : ByteArray)]) ?_ 0 _ rfl; (with_reducible repeat (first | refine blk_drewN ?_ _ | refine blk_drew ?_ | refine blk_alloc ?_ _)); exact BK105.out) hg (Kd.R_ne HO_3.out BK105.out (by decide))); have n2_ := Aside0.mk (hb); have n3_ := Aside0.mk (ho); clear HO_10; clear BK105; clear HB; clear HO_3; have HO_10 := n0_; have BK105 := n1_; have HB := n2_; have HO108 := n3_; clear n0_ n1_ n2_ n3_; clear ho hb hg hat))
                  go_roundg k1
                  case measure => have := HK1.out; omega
                  case rel => exact ⟨(y106), (wrap64 (x12_1 + 1)), (by first | rfl | (simp; done) | (simp [*]; done)), H', ⟨by have := HK1.out; omega⟩, ⟨by (with_reducible repeat (first | apply Kd.R_alloc | apply Kd.R_drewN | apply Kd.R_drew)); exact HO108.out⟩, ⟨by (with_reducible repeat (first | apply Kd.R_alloc | apply Kd.R_drewN | apply Kd.R_drew)); exact Kd.R_mono HO_10.out (fun _ hk => trivial)⟩, ⟨by repeat (first | (with_reducible first | exact HB.out | apply below_alloc | apply pw_below_drewN | apply below_drew1 | refine below_set ?_ GE105.out) | exact HB.out)⟩⟩
                · rw [if_neg c10] at H
                  exact absurd H (by simp)
              · rw [if_neg c9] at H
                exact absurd H (by simp)
            · rw [if_neg c8] at H
              exact absurd H (by simp)
          · rw [if_neg c7] at H
            exact absurd H (by simp)
        · rw [if_neg c6] at H
          exact absurd H (by simp)
      · rw [if_neg c5] at H
        have c5b0 : decide (x12_1 < (t101.length : Int)) = false := decide_eq_false c5
        clear c5
        replace H := Option.bind_eq_some_iff.mp H
        obtain ⟨t109, A140, H⟩ := H
        replace H : (some t109) = some r := H
        have A14 := Aside0.mk A140
        clear A140
        obtain rfl := Option.some.inj H
        obtain ⟨Ao15, co15, eo15⟩ := Kd.R_slice HO_3.out
        subst eo15
        go_wp2_with (first | ((with_reducible refine gate_callee (f := 31) rfl ?_); refine goesL_ (some 27) rfl rfl Tryd.func31 (by kernel_rfl) rfl #[.slice Ao15 x3_1.length co15, .string (⟨#[38]⟩ : ByteArray)] rfl (by (try simp only [List.map_toArray, List.map_cons, List.map_nil]); first | done | rfl | (simp only [List.length_drop, List.length_take]; rfl)) ?_; (with_reducible refine (strings_Join.calls _ _ x3_1 (⟨#[38]⟩ : ByteArray) t109 _ ?side1 ?side2 A14.out).mono ?_); (case side1 => repeat (first | exact (Kd.R_reads' HO_3.out).2.2 | (with_reducible refine Kd.C_alloc ?_ _) | (with_reducible refine Kd.C_drewN ?_ _) | (with_reducible refine Kd.C_drew ?_))); (case side2 => exact (Kd.R_reads' HO_3.out).2.1); rintro e w16 ⟨rfl, hb⟩; refine ⟨_, rfl, ?_⟩; have n0_ := Aside0.mk (Kd.R_below (by (with_reducible repeat (first | apply Kd.R_alloc | apply Kd.R_drewN | apply Kd.R_drew)); exact HO_3.out) hb); have n1_ := Aside0.mk (Kd.R_below (by (with_reducible repeat (first | apply Kd.R_alloc | apply Kd.R_drewN | apply Kd.R_drew)); exact HO_10.out) hb); have n2_ := Aside0.mk (below_step (by repeat (first | (with_reducible first | exact HB.out | apply below_alloc | apply pw_below_drewN | apply below_drew1) | exact HB.out)) hb); clear HO_3; clear HO_10; clear HB; have HO_3 := n0_; have HO_10 := n1_; have HB := n2_; clear n0_ n1_ n2_; (try clear hb); (try clear hb2); (try clear hk); (try clear hi)))
        go_ret
        exact ⟨by first | rfl | (simp [errW_none, errW_some] <;> rfl) | (simp [*, errW_none, errW_some] <;> rfl), by repeat (first | (with_reducible first | exact HB.out | apply below_alloc | apply pw_below_drewN | apply below_drew1) | exact HB.out)⟩

namespace Pl
open Go.Proofs.YtefmoefiamjmpaaDoorW.PrintMore
/-! ### pairs_sign: function 32 -/
def pairs_sign.f (a0 : Int) : Option (Bool) := if a0 ≥ 97 then (if a0 ≤ 122 then (some true) else (if a0 ≥ 65 then (if a0 ≤ 90 then (some true) else (if a0 ≥ 48 then (if a0 ≤ 57 then (some true) else (if a0 = 45 then (some true) else (if a0 = 95 then (some true) else (some (a0 == 46))))) else (if a0 = 45 then (some true) else (if a0 = 95 then (some true) else (some (a0 == 46)))))) else (if a0 ≥ 48 then (if a0 ≤ 57 then (some true) else (if a0 = 45 then (some true) else (if a0 = 95 then (some true) else (some (a0 == 46))))) else (if a0 = 45 then (some true) else (if a0 = 95 then (some true) else (some (a0 == 46))))))) else (if a0 ≥ 65 then (if a0 ≤ 90 then (some true) else (if a0 ≥ 48 then (if a0 ≤ 57 then (some true) else (if a0 = 45 then (some true) else (if a0 = 95 then (some true) else (some (a0 == 46))))) else (if a0 = 45 then (some true) else (if a0 = 95 then (some true) else (some (a0 == 46)))))) else (if a0 ≥ 48 then (if a0 ≤ 57 then (some true) else (if a0 = 45 then (some true) else (if a0 = 95 then (some true) else (some (a0 == 46))))) else (if a0 = 45 then (some true) else (if a0 = 95 then (some true) else (some (a0 == 46))))))
set_option maxHeartbeats 8000000 in
set_option maxRecDepth 100000 in
theorem pairs_sign.calls (a0 : Int) (r : Bool) (w : World) (h : pairs_sign.f a0 = some r) :
    Calls Tryd.prog 32 #[.int .u8 a0] w fun e w' => e = .returned (.bool r) ∧ Drawn0 w w' := by
  have H : (if a0 ≥ 97 then (if a0 ≤ 122 then (some true) else (if a0 ≥ 65 then (if a0 ≤ 90 then (some true) else (if a0 ≥ 48 then (if a0 ≤ 57 then (some true) else (if a0 = 45 then (some true) else (if a0 = 95 then (some true) else (some (a0 == 46))))) else (if a0 = 45 then (some true) else (if a0 = 95 then (some true) else (some (a0 == 46)))))) else (if a0 ≥ 48 then (if a0 ≤ 57 then (some true) else (if a0 = 45 then (some true) else (if a0 = 95 then (some true) else (some (a0 == 46))))) else (if a0 = 45 then (some true) else (if a0 = 95 then (some true) else (some (a0 == 46))))))) else (if a0 ≥ 65 then (if a0 ≤ 90 then (some true) else (if a0 ≥ 48 then (if a0 ≤ 57 then (some true) else (if a0 = 45 then (some true) else (if a0 = 95 then (some true) else (some (a0 == 46))))) else (if a0 = 45 then (some true) else (if a0 = 95 then (some true) else (some (a0 == 46)))))) else (if a0 ≥ 48 then (if a0 ≤ 57 then (some true) else (if a0 = 45 then (some true) else (if a0 = 95 then (some true) else (some (a0 == 46))))) else (if a0 = 45 then (some true) else (if a0 = 95 then (some true) else (some (a0 == 46))))))) = some r := h
  clear h
  by_cases c2 : a0 ≥ 97
  · rw [if_pos c2] at H
    have c2b0 : decide (97 ≤ a0) = true := decide_eq_true c2
    clear c2
    by_cases c3 : a0 ≤ 122
    · rw [if_pos c3] at H
      have c3b0 : decide (a0 ≤ 122) = true := decide_eq_true c3
      clear c3
      obtain rfl := Option.some.inj H
      go_enter Tryd.func32, Tryd.ntmps32
      go_wp2
      go_ret
      exact ⟨by first | rfl | (simp; done) | (simp [*]; done), by repeat (first | exact Drawn0.refl _ | apply Drawn0.step)⟩
    · rw [if_neg c3] at H
      have c3b0 : decide (a0 ≤ 122) = false := decide_eq_false c3
      clear c3
      by_cases c4 : a0 ≥ 65
      · rw [if_pos c4] at H
        have c4b0 : decide (65 ≤ a0) = true := decide_eq_true c4
        clear c4
        by_cases c5 : a0 ≤ 90
        · rw [if_pos c5] at H
          have c5b0 : decide (a0 ≤ 90) = true := decide_eq_true c5
          clear c5
          obtain rfl := Option.some.inj H
          go_enter Tryd.func32, Tryd.ntmps32
          go_wp2
          go_ret
          exact ⟨by first | rfl | (simp; done) | (simp [*]; done), by repeat (first | exact Drawn0.refl _ | apply Drawn0.step)⟩
        · rw [if_neg c5] at H
          have c5b0 : decide (a0 ≤ 90) = false := decide_eq_false c5
          clear c5
          by_cases c6 : a0 ≥ 48
          · rw [if_pos c6] at H
            have c6b0 : decide (48 ≤ a0) = true := decide_eq_true c6
            clear c6
            by_cases c7 : a0 ≤ 57
            · rw [if_pos c7] at H
              have c7b0 : decide (a0 ≤ 57) = true := decide_eq_true c7
              clear c7
              obtain rfl := Option.some.inj H
              go_enter Tryd.func32, Tryd.ntmps32
              go_wp2
              go_ret
              exact ⟨by first | rfl | (simp; done) | (simp [*]; done), by repeat (first | exact Drawn0.refl _ | apply Drawn0.step)⟩
            · rw [if_neg c7] at H
              have c7b0 : decide (a0 ≤ 57) = false := decide_eq_false c7
              clear c7
              by_cases c8 : a0 = 45
              · rw [if_pos c8] at H
                have c8b0 : (a0 == 45) = true := beq_iff_eq.mpr c8
                have c8b1 : (a0 != 45) = false := bne_eq_false_iff_eq.mpr c8
                clear c8
                obtain rfl := Option.some.inj H
                go_enter Tryd.func32, Tryd.ntmps32
                go_wp2
                go_ret
                exact ⟨by first | rfl | (simp; done) | (simp [*]; done), by repeat (first | exact Drawn0.refl _ | apply Drawn0.step)⟩
              · rw [if_neg c8] at H
                have c8b0 : (a0 == 45) = false := beq_eq_false_iff_ne.mpr c8
                have c8b1 : (a0 != 45) = true := bne_iff_ne.mpr c8
                by_cases c9 : a0 = 95
                · rw [if_pos c9] at H
                  have c9b0 : (a0 == 95) = true := beq_iff_eq.mpr c9
                  have c9b1 : (a0 != 95) = false := bne_eq_false_iff_eq.mpr c9
                  clear c9
                  obtain rfl := Option.some.inj H
                  go_enter Tryd.func32, Tryd.ntmps32
                  go_wp2
                  go_ret
                  exact ⟨by first | rfl | (simp; done) | (simp [*]; done), by repeat (first | exact Drawn0.refl _ | apply Drawn0.step)⟩
                · rw [if_neg c9] at H
                  have c9b0 : (a0 == 95) = false := beq_eq_false_iff_ne.mpr c9
                  have c9b1 : (a0 != 95) = true := bne_iff_ne.mpr c9
                  obtain rfl := Option.some.inj H
                  go_enter Tryd.func32, Tryd.ntmps32
                  go_wp2
                  go_ret
                  exact ⟨by first | rfl | (simp; done) | (simp [*]; done), by repeat (first | exact Drawn0.refl _ | apply Drawn0.step)⟩
          · rw [if_neg c6] at H
            have c6b0 : decide (48 ≤ a0) = false := decide_eq_false c6
            clear c6
            by_cases c10 : a0 = 45
            · rw [if_pos c10] at H
              have c10b0 : (a0 == 45) = true := beq_iff_eq.mpr c10
              have c10b1 : (a0 != 45) = false := bne_eq_false_iff_eq.mpr c10
              clear c10
              obtain rfl := Option.some.inj H
              go_enter Tryd.func32, Tryd.ntmps32
              go_wp2
              go_ret
              exact ⟨by first | rfl | (simp; done) | (simp [*]; done), by repeat (first | exact Drawn0.refl _ | apply Drawn0.step)⟩
            · rw [if_neg c10] at H
              have c10b0 : (a0 == 45) = false := beq_eq_false_iff_ne.mpr c10
              have c10b1 : (a0 != 45) = true := bne_iff_ne.mpr c10
              by_cases c11 : a0 = 95
              · rw [if_pos c11] at H
                have c11b0 : (a0 == 95) = true := beq_iff_eq.mpr c11
                have c11b1 : (a0 != 95) = false := bne_eq_false_iff_eq.mpr c11
                clear c11
                obtain rfl := Option.some.inj H
                go_enter Tryd.func32, Tryd.ntmps32
                go_wp2
                go_ret
                exact ⟨by first | rfl | (simp; done) | (simp [*]; done), by repeat (first | exact Drawn0.refl _ | apply Drawn0.step)⟩
              · rw [if_neg c11] at H
                have c11b0 : (a0 == 95) = false := beq_eq_false_iff_ne.mpr c11
                have c11b1 : (a0 != 95) = true := bne_iff_ne.mpr c11
                obtain rfl := Option.some.inj H
                go_enter Tryd.func32, Tryd.ntmps32
                go_wp2
                go_ret
                exact ⟨by first | rfl | (simp; done) | (simp [*]; done), by repeat (first | exact Drawn0.refl _ | apply Drawn0.step)⟩
      · rw [if_neg c4] at H
        have c4b0 : decide (65 ≤ a0) = false := decide_eq_false c4
        clear c4
        by_cases c12 : a0 ≥ 48
        · rw [if_pos c12] at H
          have c12b0 : decide (48 ≤ a0) = true := decide_eq_true c12
          clear c12
          by_cases c13 : a0 ≤ 57
          · rw [if_pos c13] at H
            have c13b0 : decide (a0 ≤ 57) = true := decide_eq_true c13
            clear c13
            obtain rfl := Option.some.inj H
            go_enter Tryd.func32, Tryd.ntmps32
            go_wp2
            go_ret
            exact ⟨by first | rfl | (simp; done) | (simp [*]; done), by repeat (first | exact Drawn0.refl _ | apply Drawn0.step)⟩
          · rw [if_neg c13] at H
            have c13b0 : decide (a0 ≤ 57) = false := decide_eq_false c13
            clear c13
            by_cases c14 : a0 = 45
            · rw [if_pos c14] at H
              have c14b0 : (a0 == 45) = true := beq_iff_eq.mpr c14
              have c14b1 : (a0 != 45) = false := bne_eq_false_iff_eq.mpr c14
              clear c14
              obtain rfl := Option.some.inj H
              go_enter Tryd.func32, Tryd.ntmps32
              go_wp2
              go_ret
              exact ⟨by first | rfl | (simp; done) | (simp [*]; done), by repeat (first | exact Drawn0.refl _ | apply Drawn0.step)⟩
            · rw [if_neg c14] at H
              have c14b0 : (a0 == 45) = false := beq_eq_false_iff_ne.mpr c14
              have c14b1 : (a0 != 45) = true := bne_iff_ne.mpr c14
              by_cases c15 : a0 = 95
              · rw [if_pos c15] at H
                have c15b0 : (a0 == 95) = true := beq_iff_eq.mpr c15
                have c15b1 : (a0 != 95) = false := bne_eq_false_iff_eq.mpr c15
                clear c15
                obtain rfl := Option.some.inj H
                go_enter Tryd.func32, Tryd.ntmps32
                go_wp2
                go_ret
                exact ⟨by first | rfl | (simp; done) | (simp [*]; done), by repeat (first | exact Drawn0.refl _ | apply Drawn0.step)⟩
              · rw [if_neg c15] at H
                have c15b0 : (a0 == 95) = false := beq_eq_false_iff_ne.mpr c15
                have c15b1 : (a0 != 95) = true := bne_iff_ne.mpr c15
                obtain rfl := Option.some.inj H
                go_enter Tryd.func32, Tryd.ntmps32
                go_wp2
                go_ret
                exact ⟨by first | rfl | (simp; done) | (simp [*]; done), by repeat (first | exact Drawn0.refl _ | apply Drawn0.step)⟩
        · rw [if_neg c12] at H
          have c12b0 : decide (48 ≤ a0) = false := decide_eq_false c12
          clear c12
          by_cases c16 : a0 = 45
          · rw [if_pos c16] at H
            have c16b0 : (a0 == 45) = true := beq_iff_eq.mpr c16
            have c16b1 : (a0 != 45) = false := bne_eq_false_iff_eq.mpr c16
            clear c16
            obtain rfl := Option.some.inj H
            go_enter Tryd.func32, Tryd.ntmps32
            go_wp2
            go_ret
            exact ⟨by first | rfl | (simp; done) | (simp [*]; done), by repeat (first | exact Drawn0.refl _ | apply Drawn0.step)⟩
          · rw [if_neg c16] at H
            have c16b0 : (a0 == 45) = false := beq_eq_false_iff_ne.mpr c16
            have c16b1 : (a0 != 45) = true := bne_iff_ne.mpr c16
            by_cases c17 : a0 = 95
            · rw [if_pos c17] at H
              have c17b0 : (a0 == 95) = true := beq_iff_eq.mpr c17
              have c17b1 : (a0 != 95) = false := bne_eq_false_iff_eq.mpr c17
              clear c17
              obtain rfl := Option.some.inj H
              go_enter Tryd.func32, Tryd.ntmps32
              go_wp2
              go_ret
              exact ⟨by first | rfl | (simp; done) | (simp [*]; done), by repeat (first | exact Drawn0.refl _ | apply Drawn0.step)⟩
            · rw [if_neg c17] at H
              have c17b0 : (a0 == 95) = false := beq_eq_false_iff_ne.mpr c17
              have c17b1 : (a0 != 95) = true := bne_iff_ne.mpr c17
              obtain rfl := Option.some.inj H
              go_enter Tryd.func32, Tryd.ntmps32
              go_wp2
              go_ret
              exact ⟨by first | rfl | (simp; done) | (simp [*]; done), by repeat (first | exact Drawn0.refl _ | apply Drawn0.step)⟩
  · rw [if_neg c2] at H
    have c2b0 : decide (97 ≤ a0) = false := decide_eq_false c2
    clear c2
    by_cases c18 : a0 ≥ 65
    · rw [if_pos c18] at H
      have c18b0 : decide (65 ≤ a0) = true := decide_eq_true c18
      clear c18
      by_cases c19 : a0 ≤ 90
      · rw [if_pos c19] at H
        have c19b0 : decide (a0 ≤ 90) = true := decide_eq_true c19
        clear c19
        obtain rfl := Option.some.inj H
        go_enter Tryd.func32, Tryd.ntmps32
        go_wp2
        go_ret
        exact ⟨by first | rfl | (simp; done) | (simp [*]; done), by repeat (first | exact Drawn0.refl _ | apply Drawn0.step)⟩
      · rw [if_neg c19] at H
        have c19b0 : decide (a0 ≤ 90) = false := decide_eq_false c19
        clear c19
        by_cases c20 : a0 ≥ 48
        · rw [if_pos c20] at H
          have c20b0 : decide (48 ≤ a0) = true := decide_eq_true c20
          clear c20
          by_cases c21 : a0 ≤ 57
          · rw [if_pos c21] at H
            have c21b0 : decide (a0 ≤ 57) = true := decide_eq_true c21
            clear c21
            obtain rfl := Option.some.inj H
            go_enter Tryd.func32, Tryd.ntmps32
            go_wp2
            go_ret
            exact ⟨by first | rfl | (simp; done) | (simp [*]; done), by repeat (first | exact Drawn0.refl _ | apply Drawn0.step)⟩
          · rw [if_neg c21] at H
            have c21b0 : decide (a0 ≤ 57) = false := decide_eq_false c21
            clear c21
            by_cases c22 : a0 = 45
            · rw [if_pos c22] at H
              have c22b0 : (a0 == 45) = true := beq_iff_eq.mpr c22
              have c22b1 : (a0 != 45) = false := bne_eq_false_iff_eq.mpr c22
              clear c22
              obtain rfl := Option.some.inj H
              go_enter Tryd.func32, Tryd.ntmps32
              go_wp2
              go_ret
              exact ⟨by first | rfl | (simp; done) | (simp [*]; done), by repeat (first | exact Drawn0.refl _ | apply Drawn0.step)⟩
            · rw [if_neg c22] at H
              have c22b0 : (a0 == 45) = false := beq_eq_false_iff_ne.mpr c22
              have c22b1 : (a0 != 45) = true := bne_iff_ne.mpr c22
              by_cases c23 : a0 = 95
              · rw [if_pos c23] at H
                have c23b0 : (a0 == 95) = true := beq_iff_eq.mpr c23
                have c23b1 : (a0 != 95) = false := bne_eq_false_iff_eq.mpr c23
                clear c23
                obtain rfl := Option.some.inj H
                go_enter Tryd.func32, Tryd.ntmps32
                go_wp2
                go_ret
                exact ⟨by first | rfl | (simp; done) | (simp [*]; done), by repeat (first | exact Drawn0.refl _ | apply Drawn0.step)⟩
              · rw [if_neg c23] at H
                have c23b0 : (a0 == 95) = false := beq_eq_false_iff_ne.mpr c23
                have c23b1 : (a0 != 95) = true := bne_iff_ne.mpr c23
                obtain rfl := Option.some.inj H
                go_enter Tryd.func32, Tryd.ntmps32
                go_wp2
                go_ret
                exact ⟨by first | rfl | (simp; done) | (simp [*]; done), by repeat (first | exact Drawn0.refl _ | apply Drawn0.step)⟩
        · rw [if_neg c20] at H
          have c20b0 : decide (48 ≤ a0) = false := decide_eq_false c20
          clear c20
          by_cases c24 : a0 = 45
          · rw [if_pos c24] at H
            have c24b0 : (a0 == 45) = true := beq_iff_eq.mpr c24
            have c24b1 : (a0 != 45) = false := bne_eq_false_iff_eq.mpr c24
            clear c24
            obtain rfl := Option.some.inj H
            go_enter Tryd.func32, Tryd.ntmps32
            go_wp2
            go_ret
            exact ⟨by first | rfl | (simp; done) | (simp [*]; done), by repeat (first | exact Drawn0.refl _ | apply Drawn0.step)⟩
          · rw [if_neg c24] at H
            have c24b0 : (a0 == 45) = false := beq_eq_false_iff_ne.mpr c24
            have c24b1 : (a0 != 45) = true := bne_iff_ne.mpr c24
            by_cases c25 : a0 = 95
            · rw [if_pos c25] at H
              have c25b0 : (a0 == 95) = true := beq_iff_eq.mpr c25
              have c25b1 : (a0 != 95) = false := bne_eq_false_iff_eq.mpr c25
              clear c25
              obtain rfl := Option.some.inj H
              go_enter Tryd.func32, Tryd.ntmps32
              go_wp2
              go_ret
              exact ⟨by first | rfl | (simp; done) | (simp [*]; done), by repeat (first | exact Drawn0.refl _ | apply Drawn0.step)⟩
            · rw [if_neg c25] at H
              have c25b0 : (a0 == 95) = false := beq_eq_false_iff_ne.mpr c25
              have c25b1 : (a0 != 95) = true := bne_iff_ne.mpr c25
              obtain rfl := Option.some.inj H
              go_enter Tryd.func32, Tryd.ntmps32
              go_wp2
              go_ret
              exact ⟨by first | rfl | (simp; done) | (simp [*]; done), by repeat (first | exact Drawn0.refl _ | apply Drawn0.step)⟩
    · rw [if_neg c18] at H
      have c18b0 : decide (65 ≤ a0) = false := decide_eq_false c18
      clear c18
      by_cases c26 : a0 ≥ 48
      · rw [if_pos c26] at H
        have c26b0 : decide (48 ≤ a0) = true := decide_eq_true c26
        clear c26
        by_cases c27 : a0 ≤ 57
        · rw [if_pos c27] at H
          have c27b0 : decide (a0 ≤ 57) = true := decide_eq_true c27
          clear c27
          obtain rfl := Option.some.inj H
          go_enter Tryd.func32, Tryd.ntmps32
          go_wp2
          go_ret
          exact ⟨by first | rfl | (simp; done) | (simp [*]; done), by repeat (first | exact Drawn0.refl _ | apply Drawn0.step)⟩
        · rw [if_neg c27] at H
          have c27b0 : decide (a0 ≤ 57) = false := decide_eq_false c27
          clear c27
          by_cases c28 : a0 = 45
          · rw [if_pos c28] at H
            have c28b0 : (a0 == 45) = true := beq_iff_eq.mpr c28
            have c28b1 : (a0 != 45) = false := bne_eq_false_iff_eq.mpr c28
            clear c28
            obtain rfl := Option.some.inj H
            go_enter Tryd.func32, Tryd.ntmps32
            go_wp2
            go_ret
            exact ⟨by first | rfl | (simp; done) | (simp [*]; done), by repeat (first | exact Drawn0.refl _ | apply Drawn0.step)⟩
          · rw [if_neg c28] at H
            have c28b0 : (a0 == 45) = false := beq_eq_false_iff_ne.mpr c28
            have c28b1 : (a0 != 45) = true := bne_iff_ne.mpr c28
            by_cases c29 : a0 = 95
            · rw [if_pos c29] at H
              have c29b0 : (a0 == 95) = true := beq_iff_eq.mpr c29
              have c29b1 : (a0 != 95) = false := bne_eq_false_iff_eq.mpr c29
              clear c29
              obtain rfl := Option.some.inj H
              go_enter Tryd.func32, Tryd.ntmps32
              go_wp2
              go_ret
              exact ⟨by first | rfl | (simp; done) | (simp [*]; done), by repeat (first | exact Drawn0.refl _ | apply Drawn0.step)⟩
            · rw [if_neg c29] at H
              have c29b0 : (a0 == 95) = false := beq_eq_false_iff_ne.mpr c29
              have c29b1 : (a0 != 95) = true := bne_iff_ne.mpr c29
              obtain rfl := Option.some.inj H
              go_enter Tryd.func32, Tryd.ntmps32
              go_wp2
              go_ret
              exact ⟨by first | rfl | (simp; done) | (simp [*]; done), by repeat (first | exact Drawn0.refl _ | apply Drawn0.step)⟩
      · rw [if_neg c26] at H
        have c26b0 : decide (48 ≤ a0) = false := decide_eq_false c26
        clear c26
        by_cases c30 : a0 = 45
        · rw [if_pos c30] at H
          have c30b0 : (a0 == 45) = true := beq_iff_eq.mpr c30
          have c30b1 : (a0 != 45) = false := bne_eq_false_iff_eq.mpr c30
          clear c30
          obtain rfl := Option.some.inj H
          go_enter Tryd.func32, Tryd.ntmps32
          go_wp2
          go_ret
          exact ⟨by first | rfl | (simp; done) | (simp [*]; done), by repeat (first | exact Drawn0.refl _ | apply Drawn0.step)⟩
        · rw [if_neg c30] at H
          have c30b0 : (a0 == 45) = false := beq_eq_false_iff_ne.mpr c30
          have c30b1 : (a0 != 45) = true := bne_iff_ne.mpr c30
          by_cases c31 : a0 = 95
          · rw [if_pos c31] at H
            have c31b0 : (a0 == 95) = true := beq_iff_eq.mpr c31
            have c31b1 : (a0 != 95) = false := bne_eq_false_iff_eq.mpr c31
            clear c31
            obtain rfl := Option.some.inj H
            go_enter Tryd.func32, Tryd.ntmps32
            go_wp2
            go_ret
            exact ⟨by first | rfl | (simp; done) | (simp [*]; done), by repeat (first | exact Drawn0.refl _ | apply Drawn0.step)⟩
          · rw [if_neg c31] at H
            have c31b0 : (a0 == 95) = false := beq_eq_false_iff_ne.mpr c31
            have c31b1 : (a0 != 95) = true := bne_iff_ne.mpr c31
            obtain rfl := Option.some.inj H
            go_enter Tryd.func32, Tryd.ntmps32
            go_wp2
            go_ret
            exact ⟨by first | rfl | (simp; done) | (simp [*]; done), by repeat (first | exact Drawn0.refl _ | apply Drawn0.step)⟩

/-! ### pairs_plain: function 20 -/
def pairs_plain.l0 : Nat → ByteArray → Int → Int → Option (Bool)
  | 0, _, _, _ => none
  | k + 1, x0, x5, x6 => if x6 < x5 then (if 0 ≤ x6 then (if x6 < (x0.size : Int) then ((pairs_sign.f (bt x0 x6)).bind fun t110 => (if t110 = true then (pairs_plain.l0 k x0 x5 (wrap64 (x6 + 1))) else (some false))) else (none)) else (none)) else (some true)
def pairs_plain.f (k : Nat) (a0 : ByteArray) : Option (Bool) := pairs_plain.l0 k a0 (a0.size : Int) 0
theorem pairs_plain.mono_l : ∀ k, (∀ y0 y1 y2, LeO (pairs_plain.l0 k y0 y1 y2) (pairs_plain.l0 (k + 1) y0 y1 y2))
  | 0 => fun _ _ _ r h => by simp [pairs_plain.l0] at h
  | k + 1 => by
    have ih0 := pairs_plain.mono_l k
    · intro y0 y1 y2
      unfold pairs_plain.l0
      repeat' first
      | (with_reducible exact ih0 _ _ _)
      | (with_reducible exact LeO.refl _)
      | (with_reducible exact LeO.none _)
      | (with_reducible refine LeO.ite ?_ ?_)
      | (with_reducible refine LeO.bind ?_ (fun _ => ?_))
      | exact ih0 _ _ _
      | exact LeO.none _
      | refine LeO.ite ?_ ?_
      | refine LeO.bind ?_ (fun _ => ?_)
theorem pairs_plain.mono : ∀ a0 k, LeO (pairs_plain.f k a0) (pairs_plain.f (k + 1) a0) := by
  intro a0 k
  have ih0 := pairs_plain.mono_l k
  unfold pairs_plain.f
  repeat' first
      | (with_reducible exact ih0 _ _ _)
      | (with_reducible exact LeO.refl _)
      | (with_reducible exact LeO.none _)
      | (with_reducible refine LeO.ite ?_ ?_)
      | (with_reducible refine LeO.bind ?_ (fun _ => ?_))
      | exact ih0 _ _ _
      | exact LeO.none _
      | refine LeO.ite ?_ ?_
      | refine LeO.bind ?_ (fun _ => ?_)
set_option maxHeartbeats 8000000 in
set_option maxRecDepth 100000 in
theorem pairs_plain.calls (k : Nat) (a0 : ByteArray) (r : Bool) (w : World) (h : pairs_plain.f k a0 = some r) :
    Calls Tryd.prog 20 #[.string a0] w fun e w' => e = .returned (.bool r) ∧ Drawn0 w w' := by
  have H : (pairs_plain.l0 k a0 (a0.size : Int) 0) = some r := h
  clear h
  have H' := Aside0.mk H
  clear H
  go_enter Tryd.func20, Tryd.ntmps20
  go_wp2
  go_loopg [6] k (fun kq v6 w' => ∃ (x6_1 : Int), v6 = .int .i64 x6_1 ∧ Aside0 (pairs_plain.l0 kq a0 (a0.size : Int) x6_1 = some r) ∧ Aside0 (kq ≤ k) ∧ Drawn0 w w')
  case atStart => exact ⟨(0), (by first | rfl | (simp; done) | (simp [*]; done)), H', ⟨Nat.le_refl _⟩, by repeat (first | exact Drawn0.refl _ | apply Drawn0.step)⟩
  case round =>
    clear H'
    obtain ⟨x6_1, rfl, HA, HK1, ⟨m1, rfl⟩⟩ := hrel
    cases gk with
    | zero => exact absurd HA.out (by simp [pairs_plain.l0])
    | succ k1 =>
      have H := HA.out
      clear HA
      simp only [pairs_plain.l0] at H
      by_cases c2 : x6_1 < (a0.size : Int)
      · rw [if_pos c2] at H
        have c2b0 : decide (x6_1 < (a0.size : Int)) = true := decide_eq_true c2
        clear c2
        by_cases c3 : 0 ≤ x6_1
        · rw [if_pos c3] at H
          have c3b0 : decide (0 ≤ x6_1) = true := decide_eq_true c3
          clear c3
          by_cases c4 : x6_1 < (a0.size : Int)
          · rw [if_pos c4] at H
            have c4b0 : decide (x6_1 < (a0.size : Int)) = true := decide_eq_true c4
            clear c4
            replace H := Option.bind_eq_some_iff.mp H
            obtain ⟨t110, A60, H⟩ := H
            replace H : (if t110 = true then (pairs_plain.l0 k1 a0 (a0.size : Int) (wrap64 (x6_1 + 1))) else (some false)) = some r := H
            have A6 := Aside0.mk A60
            clear A60
            by_cases c7 : t110 = true
            · subst c7
              have H1 : (pairs_plain.l0 k1 a0 (a0.size : Int) (wrap64 (x6_1 + 1))) = some r := by rw [if_pos rfl] at H; exact H
              clear H
              have H := H1
              clear H1
              have H' := Aside0.mk H
              clear H
              have p5 : 0 ≤ (x6_1 : Int) := of_decide_eq_true (by first | (with_reducible assumption) | assumption)
              have q5 : x6_1 < (a0.size : Int) := of_decide_eq_true (by first | (with_reducible assumption) | assumption)
              have hx5 := bt_at a0 x6_1
              replace p5 := eq_true p5
              replace q5 := eq_true q5
              go_wp2_with (first | ((with_reducible refine gate_callee (f := 32) rfl ?_); refine goesL_ (some 12) rfl rfl Tryd.func32 (by kernel_rfl) rfl #[.int .u8 (bt a0 x6_1)] rfl (by (try simp only [List.map_toArray, List.map_cons, List.map_nil]); first | done | rfl | (simp only [List.length_drop, List.length_take]; rfl)) ?_; (with_reducible refine (pairs_sign.calls (bt a0 x6_1) true _ A6.out).mono ?_); rintro e w' ⟨rfl, ⟨nd, rfl⟩⟩; refine ⟨_, rfl, ?_⟩))
              go_roundg k1
              case measure => have := HK1.out; omega
              case rel => exact ⟨(wrap64 (x6_1 + 1)), (by first | rfl | (simp; done) | (simp [*]; done)), H', ⟨by have := HK1.out; omega⟩, by repeat (first | exact Drawn0.refl _ | apply Drawn0.step)⟩
            · replace c7 := Bool.eq_false_iff.mpr c7
              subst c7
              have H1 : (some false) = some r := by rw [if_neg (show ¬ (false = true) by decide)] at H; exact H
              clear H
              have H := H1
              clear H1
              obtain rfl := Option.some.inj H
              have p5 : 0 ≤ (x6_1 : Int) := of_decide_eq_true (by first | (with_reducible assumption) | assumption)
              have q5 : x6_1 < (a0.size : Int) := of_decide_eq_true (by first | (with_reducible assumption) | assumption)
              have hx5 := bt_at a0 x6_1
              replace p5 := eq_true p5
              replace q5 := eq_true q5
              go_wp2_with (first | ((with_reducible refine gate_callee (f := 32) rfl ?_); refine goesL_ (some 12) rfl rfl Tryd.func32 (by kernel_rfl) rfl #[.int .u8 (bt a0 x6_1)] rfl (by (try simp only [List.map_toArray, List.map_cons, List.map_nil]); first | done | rfl | (simp only [List.length_drop, List.length_take]; rfl)) ?_; (with_reducible refine (pairs_sign.calls (bt a0 x6_1) false _ A6.out).mono ?_); rintro e w' ⟨rfl, ⟨nd, rfl⟩⟩; refine ⟨_, rfl, ?_⟩))
              go_ret
              exact ⟨by first | rfl | (simp; done) | (simp [*]; done), by repeat (first | exact Drawn0.refl _ | apply Drawn0.step)⟩
          · rw [if_neg c4] at H
            exact absurd H (by simp)
        · rw [if_neg c3] at H
          exact absurd H (by simp)
      · rw [if_neg c2] at H
        have c2b0 : decide (x6_1 < (a0.size : Int)) = false := decide_eq_false c2
        clear c2
        obtain rfl := Option.some.inj H
        go_wp2
        go_ret
        exact ⟨by first | rfl | (simp; done) | (simp [*]; done), by repeat (first | exact Drawn0.refl _ | apply Drawn0.step)⟩

-- NOT PRINTED: function 11 (pairs_Check)

end Pl
/-! ### what plain and text tell -/
theorem sign_some (c : Int) : ∃ b, Pl.pairs_sign.f c = some b := by
  unfold Pl.pairs_sign.f
  repeat' split
  all_goals exact ⟨_, rfl⟩
def signB (c : Int) : Bool := (Pl.pairs_sign.f c).getD false
theorem sign_tell (c : Int) : Pl.pairs_sign.f c = some (signB c) := by
  obtain ⟨b, h⟩ := sign_some c
  unfold signB
  rw [h]
  rfl
def plainB (s : ByteArray) : Bool := (bytesOf s).all signB
theorem plain_loop (s : ByteArray) (hs : s.size ≤ 1000000) : ∀ (m i : Nat), i + m = s.size → ∃ k, Pl.pairs_plain.l0 k s (s.size : Int) (i : Int) = some (((bytesOf s).drop i).all signB)
  | 0, i, h => ⟨1, by
    have hl : (bytesOf s).length = s.size := by simp [bytesOf]
    simp only [Pl.pairs_plain.l0]
    rw [if_neg (by omega), List.drop_of_length_le (by omega)]
    rfl⟩
  | m + 1, i, h => by
    obtain ⟨k, hk⟩ := plain_loop s hs m (i + 1) (by omega)
    have hl : (bytesOf s).length = s.size := by simp [bytesOf]
    have hi : i < (bytesOf s).length := by omega
    have hbt : bt s (i : Int) = (bytesOf s)[i] := by
      rw [← rd_bytesOf]
      unfold rd
      rw [Int.toNat_natCast, List.getD_eq_getElem?_getD, List.getElem?_eq_getElem hi]
      rfl
    refine ⟨k + 1, ?_⟩
    simp only [Pl.pairs_plain.l0]
    rw [if_pos (by omega), if_pos (by omega), if_pos (by omega), sign_tell, hbt, List.drop_eq_getElem_cons hi, List.all_cons]
    show (if signB (bytesOf s)[i] = true then _ else _) = _
    cases hb : signB (bytesOf s)[i] with
    | false => simp
    | true =>
      rw [if_pos rfl, Bool.true_and, ← hk]
      congr 1
      unfold wrap64
      omega
theorem plain_calls (s : ByteArray) (w : World) (hs : s.size ≤ 1000000) : Calls Tryd.prog 20 #[.string s] w fun e w' => e = .returned (.bool (plainB s)) ∧ ∃ k, w' = w.drewN k := by
  obtain ⟨k, hk⟩ := plain_loop s hs s.size 0 (by omega)
  exact (Pl.pairs_plain.calls k s (plainB s) w hk).mono fun e w' ⟨he, hw⟩ => ⟨he, hw.out⟩
def pieceB (x : S45) : ByteArray := x.f0 ++ (⟨#[61]⟩ : ByteArray) ++ x.f1
def textS (l : List S45) : ByteArray := ⟨(Lib.join ((sortL l).map fun x => (pieceB x).data.toList) [38]).toArray⟩
def Small (l : List S45) : Prop := l.length ≤ 8 ∧ ∀ x ∈ l, x.f0.size ≤ 100000 ∧ x.f1.size ≤ 100000
theorem piece_size (x : S45) : (pieceB x).size = x.f0.size + 1 + x.f1.size := by
  unfold pieceB
  rw [ByteArray.size_append, ByteArray.size_append]
  rfl
theorem join_bound (m : Nat) (sep : List UInt8) : ∀ (r : List (List UInt8)), (∀ x ∈ r, x.length ≤ m) → (Lib.joinTail sep r).length ≤ r.length * (sep.length + m)
  | [], _ => by simp [Lib.joinTail]
  | x :: r, h => by
    have ih := join_bound m sep r fun y hy => h y (List.mem_cons_of_mem _ hy)
    have hx := h x (by simp)
    unfold Lib.joinTail at ih ⊢
    rw [List.map_cons, List.flatten_cons, List.length_append, List.length_append, List.length_cons, Nat.succ_mul]
    omega
theorem sortL_mem {l : List S45} {x : S45} (h : x ∈ sortL l) : x ∈ l := by
  have hp := (insertionSort_holds swo l.toArray 0 l.length (Nat.zero_le _) (by simp)).1.2.2
  have e1 : ((Sort.insertionSort (ltOf cmpP) l.toArray 0 l.length).extract 0 l.length).toList = sortL l := by
    unfold sortL
    rw [Array.extract_eq_self_of_le (by rw [sort_size]; exact Nat.le_refl _)]
  have e2 : (l.toArray.extract 0 l.length).toList = l := by
    rw [Array.extract_eq_self_of_le (by simp)]
  rw [e1, e2] at hp
  exact hp.mem_iff.1 h
theorem join_text {l : List S45} (h : Small l) : strings_Join.f ((sortL l).map pieceB) (⟨#[38]⟩ : ByteArray) = some (textS l) := by
  have hlen := sortL_len l
  have e : ((sortL l).map pieceB).map (·.data.toList) = (sortL l).map fun x => (pieceB x).data.toList := by rw [List.map_map]; rfl
  have hb : (Lib.join ((sortL l).map fun x => (pieceB x).data.toList) [38]).length ≤ 140737488351232 := by
    have hx : ∀ y ∈ (sortL l).map (fun x => (pieceB x).data.toList), y.length ≤ 200001 := fun y hy => by
      obtain ⟨x, hx, rfl⟩ := List.mem_map.1 hy
      have := h.2 x (sortL_mem hx)
      have hs := piece_size x
      have hl : (pieceB x).data.toList.length = (pieceB x).size := by rw [Array.length_toList]; rfl
      omega
    have h8 := h.1
    generalize hg : (sortL l).map (fun x => (pieceB x).data.toList) = ys at hx
    have hyl : ys.length = l.length := by rw [← hg, List.length_map, hlen]
    cases ys with
    | nil => simp [Lib.join]
    | cons y ys =>
      rw [Lib.join_cons, List.length_append]
      have h1 := hx y (by simp)
      have h2 := join_bound 200001 [38] ys fun z hz => hx z (List.mem_cons_of_mem _ hz)
      simp only [List.length_cons, List.length_nil] at h2 hyl
      have h3 : ys.length * (0 + 1 + 200001) ≤ 8 * (0 + 1 + 200001) := Nat.mul_le_mul_right _ (by omega)
      omega
  unfold strings_Join.f textS
  rw [e, show (⟨#[38]⟩ : ByteArray).data.toList = [38] from rfl, if_pos ⟨by rw [List.length_map]; have := h.1; omega, hb⟩]
theorem text_loop {l : List S45} (h : Small l) : ∀ (q p : List S45), sortL l = p ++ q → ∃ k, ptext.l0 k (p.map pieceB) (sortL l) ((sortL l).length : Int) (p.length : Int) = some (textS l)
  | [], p, hp => ⟨1, by
    rw [List.append_nil] at hp
    simp only [ptext.l0]
    rw [if_neg (by rw [hp]; omega), ← hp, join_text h]
    rfl⟩
  | x :: q, p, hp => by
    obtain ⟨k, hk⟩ := text_loop h q (p ++ [x]) (by rw [hp]; simp)
    have hl : (sortL l).length = p.length + q.length + 1 := by rw [hp]; simp; omega
    have hl8 := h.1
    have hsl := sortL_len l
    have hrd : rd_T45 (sortL l) (p.length : Int) = x := by
      unfold rd_T45
      rw [hp, Int.toNat_natCast]
      simp
    have hx := h.2 x (sortL_mem (by rw [hp]; simp))
    refine ⟨k + 1, ?_⟩
    simp only [ptext.l0]
    rw [if_pos (by omega), if_pos (by omega), if_pos (by omega), hrd, if_pos (by omega), if_pos (by omega), if_pos (by rw [List.length_map]; omega), show wrap64 ((p.length : Int) + 1) = ((p ++ [x]).length : Int) from by
      rw [List.length_append, List.length_singleton]
      unfold wrap64
      omega, ← hk, List.map_append]
    rfl
theorem text_calls (A0 : Option Addr) (c0 : Nat) (l0 : List S45) (w : World) (hr0 : Kd.C k45 w A0 l0.length l0) (hc0 : l0.length ≤ c0) (h : Small l0) :
    Calls Tryd.prog 18 #[.slice A0 l0.length c0] w fun e w' => e = .returned (.string (textS l0)) ∧ Below w.heap.size w w' := by
  obtain ⟨k, hk⟩ := text_loop h (sortL l0) [] rfl
  refine ptext.calls k A0 c0 l0 (textS l0) w hr0 hc0 ?_
  unfold ptext.f clonesort.f
  rw [if_pos (by have := h.1; omega)]
  exact hk
/-! ### Check -/
/-- What is wrong with pairs, behind those that were met: 0: nothing. -/
def checkL : List S45 → List S45 → Int
  | _, [] => 0
  | met, x :: r =>
    if x.f0.toList = [] ∨ plainB x.f0 = false ∨ plainB x.f1 = false then 4
    else if ∃ y ∈ met, y.f0.data.toList = x.f0.data.toList then 10
    else checkL (met ++ [x]) r
instance (l : List S45) : Decidable (Small l) := inferInstanceAs (Decidable (_ ∧ _))
def pairs_Check.f (l : List S45) : Option Int :=
  if 8 < l.length then some 16
  else if Small l then some (if checkL [] l = 0 then (if 24 < (textS l).size then 17 else 0) else checkL [] l)
  else none
def pairs_text.f (l : List S45) : Option ByteArray := if Small l then some (textS l) else none
theorem pairs_text.calls (A0 : Option Addr) (c0 : Nat) (l0 : List S45) (r : ByteArray) (w : World) (hr0 : Kd.C k45 w A0 l0.length l0) (hc0 : l0.length ≤ c0) (h : pairs_text.f l0 = some r) :
    Calls Tryd.prog 18 #[.slice A0 l0.length c0] w fun e w' => e = .returned (.string r) ∧ Below w.heap.size w w' := by
  unfold pairs_text.f at h
  by_cases hs : Small l0
  · rw [if_pos hs] at h
    obtain rfl := Option.some.inj h
    exact text_calls A0 c0 l0 w hr0 hc0 hs
  · rw [if_neg hs] at h
    cases h
section
open Go.Maps
theorem law9 : Keyed Tryd.prog 9 := string_keyed Tryd.underlying9
theorem zero3 (w : World) : (zeroValue 3).run Tryd.prog w = .ok (.int .i64 0) w := by kernel_rfl
/-- The words that were met, in the map. -/
def MetD (D : DataW Nat) (pre : List S45) : Prop := ∀ s : List UInt8, ∃ c : Int, D.atKey (.string s) (.lit (.int .i64 0)) = .lit (.int .i64 c) ∧ (0 < c ↔ ∃ x ∈ pre, x.f0.data.toList = s)
theorem met_nil : MetD (.map []) [] := fun s => ⟨0, rfl, by simp⟩
theorem met_put {D : DataW Nat} {pre : List S45} (h : MetD D pre) (hm : IsMap D) (x : S45) (c : Int) (hc : 0 < c) : MetD (D.put (.string x.f0.data.toList) (.lit (.int .i64 c))) (pre ++ [x]) := by
  intro s
  by_cases hs : s = x.f0.data.toList
  · subst hs
    exact ⟨c, atKey_put_same hm (show WideAt.IsKeyLit (Lit.string x.f0.data.toList) from trivial) _ _, ⟨fun _ => ⟨x, by simp, rfl⟩, fun _ => hc⟩⟩
  · obtain ⟨c', h1, h2⟩ := h s
    refine ⟨c', by rw [atKey_put_other (by simpa using hs)]; exact h1, h2.trans ⟨?_, ?_⟩⟩
    · rintro ⟨y, hy, he⟩
      exact ⟨y, List.mem_append_left _ hy, he⟩
    · rintro ⟨y, hy, he⟩
      rcases List.mem_append.1 hy with hy | hy
      · exact ⟨y, hy, he⟩
      · rw [List.mem_singleton.1 hy] at he
        exact absurd he.symm hs
theorem lt_max {n : Nat} (h : n < 8) : n < maxLen := by
  have h9 : 100000 ≤ maxLen := by decide
  omega
theorem wf_nat {n : Nat} (h : n < 8) : (Lit.int .i64 ((n : Int) + 1)).wf = true := by
  simp [Lit.wf, IntKind.min, IntKind.max, IntKind.signed, IntKind.bits]
  omega
set_option maxHeartbeats 4000000 in
set_option maxRecDepth 100000 in
theorem pairs_Check.calls (A0 : Option Addr) (c0 : Nat) (l0 : List S45) (r : Int) (w : World) (hr0 : Kd.C k45 w A0 l0.length l0) (hc0 : l0.length ≤ c0) (h : pairs_Check.f l0 = some r) :
    Calls Tryd.prog 11 #[.slice A0 l0.length c0] w fun e w' => e = .returned (.int .i64 r) ∧ Below w.heap.size w w' := by
  unfold pairs_Check.f at h
  have hlen : l0.length ≤ 9223372036854775807 := hr0.2.1
  by_cases h8 : 8 < l0.length
  · rw [if_pos h8] at h
    obtain rfl := Option.some.inj h
    have h8i : (8 : Int) < (l0.length : Int) := by omega
    clear hr0 hc0
    generalize l0.length = n at *
    go_enter Tryd.func11, Tryd.ntmps11
    go_wp2
    go_ret
    exact ⟨rfl, Below.refl _ _⟩
  · rw [if_neg h8] at h
    by_cases hs : Small l0
    · rw [if_pos hs] at h
      have h8i : ¬ ((8 : Int) < (l0.length : Int)) := by omega
      have HR := Lib.hid hr0
      have HS := Lib.hid hs
      have H := Lib.hid (Option.some.inj h)
      clear h hr0 hs h8
      have hmm := @run_makeMap Tryd.prog
      go_enter Tryd.func11, Tryd.ntmps11
      go_wp2
      go_loopw [12] (fun v12 wr => ∃ (pre post : List S45) (D : DataW Nat), v12 = .int .i64 (pre.length : Int) ∧ Hid (l0 = pre ++ post) ∧ Hid (checkL [] l0 = checkL pre post) ∧ wr.ownsMap Tryd.prog 9 (plainElem Tryd.prog 3) w.heap.size pre.length D ∧ Hid (MetD D pre) ∧ Below w.heap.size w wr)
        (fun v12 _ => l0.length - (intOf v12).toNat)
      case atStart => exact ⟨[], l0, .map [], rfl, Lib.hid rfl, Lib.hid rfl, World.ownsMap_made _ _ _ _, Lib.hid met_nil, (Below.refl _ _).alloc (Nat.le_refl _) _⟩
      case round =>
        obtain ⟨pre, post, D, rfl, HL, HC, hown, HM, hB⟩ := hrel
        cases post with
        | nil =>
          have hpl : pre.length = l0.length := by rw [HL.out]; simp
          have hnl : ¬ ((pre.length : Int) < (l0.length : Int)) := by omega
          have hc0' : checkL [] l0 = 0 := by rw [HC.out]; rfl
          have hr := H.out
          rw [if_pos hc0'] at hr
          have hcon := text_calls A0 c0 l0 wr (Kd.C_below HR.out hB) hc0 HS.out
          clear hown hc0' HC HM HL HR HS H
          generalize textS l0 = T at hcon hr
          by_cases h24 : 24 < T.size
          · rw [if_pos h24] at hr
            subst hr
            have h24i : (24 : Int) < (T.size : Int) := by omega
            go_wp2_with (go_at_call 18; refine hcon.mono ?_; rintro e w' ⟨rfl, hb⟩)
            go_ret
            exact ⟨rfl, hB.trans (hb.mono hB.size)⟩
          · rw [if_neg h24] at hr
            subst hr
            have h24i : ¬ (24 : Int) < (T.size : Int) := by omega
            go_wp2_with (go_at_call 18; refine hcon.mono ?_; rintro e w' ⟨rfl, hb⟩)
            go_ret
            exact ⟨rfl, hB.trans (hb.mono hB.size)⟩
        | cons x post =>
          have hll : l0.length = pre.length + post.length + 1 := by rw [HL.out]; simp; omega
          have hpl : (pre.length : Int) < (l0.length : Int) := by omega
          have HP8 := Lib.hid (show pre.length < 8 by omega)
          clear hll
          have hx : l0[pre.length]? = some x := by rw [HL.out]; simp
          have hne : l0 ≠ [] := fun e => by rw [e] at hx; cases hx
          obtain ⟨b, off, rfl, hb, hcell⟩ := cells45 HR.out hne
          obtain ⟨hc1, hc2⟩ := hcell pre.length x hx
          replace hc1 := (hB.cell (p := ⟨b, off + pre.length * 2, none⟩) hb).trans hc1
          replace hc2 := (hB.cell (p := ⟨b, off + pre.length * 2 + 1, none⟩) hb).trans hc2
          clear hcell
          have hsm := HS.out.2 x (by rw [HL.out]; simp)
          have hmb : w.heap.size < wr.heap.size := hown.lt
          have hpc1 := fun W => plain_calls x.f0 W (by omega)
          have hpc2 := fun W => plain_calls x.f1 W (by omega)
          have hC2 := HC.out
          simp only [checkL] at hC2
          by_cases h0 : x.f0.toList = []
          · have hb0 : (x.f0.toList == []) = true := by rw [h0]; rfl
            rw [if_pos (.inl h0)] at hC2
            have hr := H.out
            rw [if_neg (by rw [hC2]; decide), hC2] at hr
            subst hr
            clear hpc1 hpc2 hown
            go_wp2
            go_ret
            exact ⟨rfl, hB.alloc hB.size _⟩
          · have hb0 : (x.f0.toList == []) = false := beq_eq_false_iff_ne.2 h0
            by_cases hp1 : plainB x.f0 = true
            · by_cases hp2 : plainB x.f1 = true
              · rw [if_neg (fun h => by rcases h with h | h | h; exact h0 h; simp [hp1] at h; simp [hp2] at h)] at hC2
                rw [hp1] at hpc1
                rw [hp2] at hpc2
                obtain ⟨c', hat', hpos⟩ := HM.out x.f0.data.toList
                have hkey : keyOf Tryd.prog 9 (.string x.f0) = some (.string x.f0.data.toList) := WideMaps.keyOf_string_mk Tryd.underlying9 (Nat.le_trans hsm.1 (by decide))
                have HAT := Lib.hid hat'
                clear hat'
                by_cases hm : ∃ y ∈ pre, y.f0.data.toList = x.f0.data.toList
                · rw [if_pos hm] at hC2
                  have hr := H.out
                  rw [if_neg (by rw [hC2]; decide), hC2] at hr
                  subst hr
                  have hc0 := hpos.2 hm
                  clear hpos hm
                  go_wp2_with (first
                    | (go_at_call_of 20 x.f0; refine (hpc1 _).mono ?_; rintro e w1 ⟨rfl, k1, rfl⟩)
                    | (go_at_call_of 20 x.f1; refine (hpc2 _).mono ?_; rintro e w2 ⟨rfl, k2, rfl⟩)
                    | (at_lookup; refine wpList_lookup_own_int _ rfl _ _ 48 rfl 9 3 .i64 law9 Tryd.underlying48 Tryd.underlying3 (zero3 _) w.heap.size pre.length D rfl ?own _ _ rfl hkey ?_; (case own => exact hown.alloc _); intro c hat hwc; rw [HAT.out] at hat; obtain rfl : c' = c := by simpa using hat))
                  go_ret
                  exact ⟨rfl, by repeat (first | (with_reducible first | exact hB | apply below_alloc | apply pw_below_drewN | apply below_drew1) | exact hB)⟩
                · rw [if_neg hm] at hC2
                  have hc0 : ¬ 0 < c' := fun h => hm (hpos.1 h)
                  clear hpos hm
                  have HC2 := Lib.hid hC2
                  clear hC2
                  go_wp2_with (first
                    | (go_at_call_of 20 x.f0; refine (hpc1 _).mono ?_; rintro e w1 ⟨rfl, k1, rfl⟩)
                    | (go_at_call_of 20 x.f1; refine (hpc2 _).mono ?_; rintro e w2 ⟨rfl, k2, rfl⟩)
                    | (at_lookup; refine wpList_lookup_own_int _ rfl _ _ 48 rfl 9 3 .i64 law9 Tryd.underlying48 Tryd.underlying3 (zero3 _) w.heap.size pre.length D rfl ?own _ _ rfl hkey ?_; (case own => exact hown.alloc _); intro c hat hwc; rw [HAT.out] at hat; obtain rfl : c' = c := by simpa using hat)
                    | (at_mapUpdate; refine wpList_mapUpdate_own _ rfl _ _ _ 48 rfl 9 3 law9 Tryd.underlying48 _ w.heap.size pre.length D rfl ?own2 (lt_max HP8.out) _ _ _ rfl rfl hkey _ [] (plainElem_int Tryd.underlying3 (wf_nat HP8.out)) ?_; (case own2 => exact hown.alloc _); intro w3 hown3 hgrow3))
                  have hB3 : Below w.heap.size w w3 := Below.grown (by repeat (first | (with_reducible first | exact hB | apply below_alloc | apply pw_below_drewN | apply below_drew1) | exact hB)) hgrow3 (by have := hB.size; simp; omega) (fun j hj => by cases hj; exact Nat.le_refl _)
                  go_roundw
                  case rel =>
                    refine ⟨pre ++ [x], post, _, by simp, Lib.hid (by rw [HL.out]; simp), Lib.hid (by rw [HC2.out]), by rw [List.length_append, List.length_singleton]; exact hown3, Lib.hid (met_put HM.out hown.isMap x _ (by omega)), hB3⟩
                  case measure => simp [intOf]; omega
              · rw [if_pos (.inr (.inr (by simpa using hp2)))] at hC2
                rw [hp1] at hpc1
                rw [show plainB x.f1 = false by simpa using hp2] at hpc2
                have hr := H.out
                rw [if_neg (by rw [hC2]; decide), hC2] at hr
                subst hr
                go_wp2_with (first
                  | (go_at_call_of 20 x.f0; refine (hpc1 _).mono ?_; rintro e w1 ⟨rfl, k1, rfl⟩)
                  | (go_at_call_of 20 x.f1; refine (hpc2 _).mono ?_; rintro e w2 ⟨rfl, k2, rfl⟩))
                go_ret
                exact ⟨rfl, by repeat (first | (with_reducible first | exact hB | apply below_alloc | apply pw_below_drewN | apply below_drew1) | exact hB)⟩
            · rw [if_pos (.inr (.inl (by simpa using hp1)))] at hC2
              rw [show plainB x.f0 = false by simpa using hp1] at hpc1
              have hr := H.out
              rw [if_neg (by rw [hC2]; decide), hC2] at hr
              subst hr
              go_wp2_with (first
                | (go_at_call_of 20 x.f0; refine (hpc1 _).mono ?_; rintro e w1 ⟨rfl, k1, rfl⟩))
              go_ret
              exact ⟨rfl, by repeat (first | (with_reducible first | exact hB | apply below_alloc | apply pw_below_drewN | apply below_drew1) | exact hB)⟩
    · rw [if_neg hs] at h
      cases h
end
end Go.Proofs.YtefmoefiamjmpaaDoor
