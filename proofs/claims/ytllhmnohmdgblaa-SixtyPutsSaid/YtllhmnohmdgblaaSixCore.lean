/- Plain facts of layer 7: letters, numbers, and what bytes are put as; no program in sight. -/
import Derived.Laws.BitsLemmas
import Derived.Laws.BytesArg
import Derived.Lib.Bytes
namespace Go.Proofs.Ytllhmnohmdgblaa.Six

/-- All are bytes. -/
def Byt (xs : List Int) : Prop := ∀ x ∈ xs, 0 ≤ x ∧ x < 256

theorem Byt.cons {x : Int} {xs : List Int} (h : Byt (x :: xs)) : (0 ≤ x ∧ x < 256) ∧ Byt xs :=
  ⟨h x (by simp), fun y hy => h y (by simp [hy])⟩

theorem Byt.mk {x : Int} {xs : List Int} (h : 0 ≤ x ∧ x < 256) (k : Byt xs) : Byt (x :: xs) := by
  intro y hy
  rcases List.mem_cons.1 hy with rfl | hy
  · exact h
  · exact k y hy

theorem Byt.nil : Byt [] := fun _ h => by simp at h

theorem Byt.app {xs ys : List Int} (h : Byt xs) (k : Byt ys) : Byt (xs ++ ys) := by
  intro y hy
  rcases List.mem_append.1 hy with hy | hy
  · exact h y hy
  · exact k y hy

theorem str_app (xs ys : List Int) : strOfNums xs ++ strOfNums ys = strOfNums (xs ++ ys) := by
  apply ByteArray.ext
  simp [strOfNums, ByteArray.data_append]

theorem str_inj {xs ys : List Int} (hx : Byt xs) (hy : Byt ys) (h : (strOfNums xs).toList = (strOfNums ys).toList) : xs = ys := by
  rw [Go.Lib.strOfNums_toList, Go.Lib.strOfNums_toList] at h
  unfold Go.Lib.bytesOf at h
  induction xs generalizing ys with
  | nil => cases ys with
    | nil => rfl
    | cons y ys => simp at h
  | cons x xs ih => cases ys with
    | nil => simp at h
    | cons y ys =>
      simp only [List.map_cons, List.cons.injEq] at h
      obtain ⟨h1, h2⟩ := h
      have a := hx.cons
      have b := hy.cons
      have : (UInt8.ofNat x.toNat).toNat = (UInt8.ofNat y.toNat).toNat := by rw [h1]
      simp only [UInt8.toNat_ofNat'] at this
      have e : x = y := by omega
      rw [e, ih a.2 b.2 h2]

theorem str_of (s : ByteArray) : ∃ xs, Byt xs ∧ s = strOfNums xs ∧ xs.length = s.size := by
  refine ⟨s.data.toList.map fun b => (b.toNat : Int), ?_, ?_, ?_⟩
  · intro x hx
    obtain ⟨b, _, rfl⟩ := List.mem_map.1 hx
    have := b.toNat_lt
    omega
  · apply ByteArray.ext
    apply Array.ext'
    simp only [strOfNums, List.map_map]
    conv => lhs; rw [← List.map_id s.data.toList]
    apply List.map_congr_left
    intro b _
    simp
  · rw [List.length_map, Array.length_toList]; rfl

theorem toList_str (xs : List Int) : (strOfNums xs).toList = xs.map fun n => UInt8.ofNat n.toNat := by
  rw [Go.Lib.strOfNums_toList]; rfl

/-- The letter of a number. -/
def L (n : Int) : Int := if n < 26 then 65 + n else if n < 52 then 71 + n else if n < 62 then n - 4 else if n = 62 then 43 else 47
/-- The number of a letter. -/
def N (c : Int) : Int := if 65 ≤ c ∧ c ≤ 90 then c - 65 else if 97 ≤ c ∧ c ≤ 122 then c - 71 else if 48 ≤ c ∧ c ≤ 57 then c + 4 else if c = 43 then 62 else if c = 47 then 63 else -1

theorem N_L {n : Int} (h0 : 0 ≤ n) (h1 : n < 64) : N (L n) = n := by
  unfold N L
  repeat' split
  all_goals omega
theorem L_byte {n : Int} (h0 : 0 ≤ n) (h1 : n < 64) : 0 ≤ L n ∧ L n < 256 := by
  unfold L
  repeat' split
  all_goals omega
theorem L_N {c : Int} (h : 0 ≤ N c) : L (N c) = c := by
  unfold N at h ⊢
  unfold L
  repeat' split at h
  all_goals (repeat' split)
  all_goals omega
theorem N_range (c : Int) : -1 ≤ N c ∧ N c < 64 := by
  unfold N
  repeat' split
  all_goals omega
theorem L_ne {n : Int} (h0 : 0 ≤ n) (h1 : n < 64) : L n ≠ 61 := by
  unfold L
  repeat' split
  all_goals omega
theorem N_61 : N 61 = -1 := by decide

/-- What bytes are put as. -/
def enc : List Int → List Int
  | [] => []
  | [a] => [L (a / 4), L (a % 4 * 16), 61, 61]
  | [a, b] => [L (a / 4), L (a % 4 * 16 + b / 16), L (b % 16 * 4), 61]
  | a :: b :: c :: r => L (a / 4) :: L (a % 4 * 16 + b / 16) :: L (b % 16 * 4 + c / 64) :: L (c % 64) :: enc r

/-- The last four letters. -/
def dec4 (a b c d : Int) : Option (List Int) :=
  if d = 61 then
    if c = 61 then (if 0 ≤ N a ∧ 0 ≤ N b ∧ N b % 16 = 0 then some [N a * 4 + N b / 16] else none)
    else (if 0 ≤ N a ∧ 0 ≤ N b ∧ 0 ≤ N c ∧ N c % 4 = 0 then some [N a * 4 + N b / 16, N b % 16 * 16 + N c / 4] else none)
  else (if 0 ≤ N a ∧ 0 ≤ N b ∧ 0 ≤ N c ∧ 0 ≤ N d then some [N a * 4 + N b / 16, N b % 16 * 16 + N c / 4, N c % 4 * 64 + N d] else none)

/-- Which bytes letters are. -/
def dec : List Int → Option (List Int)
  | [] => some []
  | a :: b :: c :: d :: r =>
    if r = [] then dec4 a b c d
    else if 0 ≤ N a ∧ 0 ≤ N b ∧ 0 ≤ N c ∧ 0 ≤ N d then (dec r).map fun o => (N a * 4 + N b / 16) :: (N b % 16 * 16 + N c / 4) :: (N c % 4 * 64 + N d) :: o
    else none
  | _ => none

theorem enc_ne {xs : List Int} (h : xs ≠ []) : enc xs ≠ [] := by
  match xs, h with
  | [a], _ => simp [enc]
  | [a, b], _ => simp [enc]
  | a :: b :: c :: r, _ => simp [enc]

theorem dec_enc : ∀ {xs : List Int}, Byt xs → dec (enc xs) = some xs
  | [], _ => rfl
  | [a], h => by
    have ha := h.cons.1
    simp only [enc, dec, dec4, if_true]
    rw [N_L (by omega) (by omega), N_L (by omega) (by omega), if_pos (by omega)]
    congr 2; omega
  | [a, b], h => by
    have ha := h.cons.1
    have hb := h.cons.2.cons.1
    simp only [enc, dec, dec4, if_true]
    rw [if_neg (L_ne (by omega) (by omega)), N_L (by omega) (by omega), N_L (by omega) (by omega), N_L (by omega) (by omega), if_pos (by omega)]
    congr 2
    · omega
    · congr 1; omega
  | a :: b :: c :: r, h => by
    have ha := h.cons.1
    have hb := h.cons.2.cons.1
    have hc := h.cons.2.cons.2.cons.1
    have hr := h.cons.2.cons.2.cons.2
    have ih := dec_enc hr
    simp only [enc, dec, dec4]
    rw [if_neg (L_ne (by omega) (by omega)), N_L (by omega) (by omega), N_L (by omega) (by omega), N_L (by omega) (by omega), N_L (by omega) (by omega)]
    have e1 : a / 4 * 4 + (a % 4 * 16 + b / 16) / 16 = a := by omega
    have e2 : (a % 4 * 16 + b / 16) % 16 * 16 + (b % 16 * 4 + c / 64) / 4 = b := by omega
    have e3 : (b % 16 * 4 + c / 64) % 4 * 64 + c % 64 = c := by omega
    have q : 0 ≤ a / 4 ∧ 0 ≤ a % 4 * 16 + b / 16 ∧ 0 ≤ b % 16 * 4 + c / 64 ∧ 0 ≤ c % 64 := by omega
    rw [if_pos q, e1, e2, e3, ih]
    by_cases hn : r = []
    · subst hn; simp [enc]
    · rw [if_neg (enc_ne hn), if_pos q]; rfl

theorem enc_byte : ∀ {xs : List Int}, Byt xs → Byt (enc xs)
  | [], _ => Byt.nil
  | [a], h => by
    have ha := h.cons.1
    exact .mk (L_byte (by omega) (by omega)) (.mk (L_byte (by omega) (by omega)) (.mk (by omega) (.mk (by omega) .nil)))
  | [a, b], h => by
    have ha := h.cons.1
    have hb := h.cons.2.cons.1
    exact .mk (L_byte (by omega) (by omega)) (.mk (L_byte (by omega) (by omega)) (.mk (L_byte (by omega) (by omega)) (.mk (by omega) .nil)))
  | a :: b :: c :: r, h => by
    have ha := h.cons.1
    have hb := h.cons.2.cons.1
    have hc := h.cons.2.cons.2.cons.1
    have ih := enc_byte h.cons.2.cons.2.cons.2
    exact .mk (L_byte (by omega) (by omega)) (.mk (L_byte (by omega) (by omega)) (.mk (L_byte (by omega) (by omega)) (.mk (L_byte (by omega) (by omega)) ih)))

theorem enc_len : ∀ (xs : List Int), (enc xs).length % 4 = 0 ∧ (enc xs).length ≤ 2 * xs.length + 2
  | [] => by simp [enc]
  | [a] => by simp [enc]
  | [a, b] => by simp [enc]
  | a :: b :: c :: r => by
    have := enc_len r
    simp only [enc, List.length_cons]
    omega

theorem dec4_enc {a b c d : Int} {o : List Int} (h : dec4 a b c d = some o) : enc o = [a, b, c, d] ∧ Byt o ∧ o.length ≤ 3 := by
  have na := N_range a
  have nb := N_range b
  have nc := N_range c
  have nd := N_range d
  unfold dec4 at h
  split at h
  · rename_i hd
    split at h
    · rename_i hc
      split at h
      · rename_i hk
        cases h
        simp only [enc]
        have e1 : (N a * 4 + N b / 16) / 4 = N a := by omega
        have e2 : (N a * 4 + N b / 16) % 4 * 16 = N b := by omega
        rw [e1, e2, L_N hk.1, L_N hk.2.1, hc, hd]
        exact ⟨rfl, .mk (by omega) .nil, by simp⟩
      · cases h
    · split at h
      · rename_i hk
        cases h
        simp only [enc]
        have e1 : (N a * 4 + N b / 16) / 4 = N a := by omega
        have e2 : (N a * 4 + N b / 16) % 4 * 16 + (N b % 16 * 16 + N c / 4) / 16 = N b := by omega
        have e3 : (N b % 16 * 16 + N c / 4) % 16 * 4 = N c := by omega
        rw [e1, e2, e3, L_N hk.1, L_N hk.2.1, L_N hk.2.2.1, hd]
        exact ⟨rfl, .mk (by omega) (.mk (by omega) .nil), by simp⟩
      · cases h
  · split at h
    · rename_i hk
      cases h
      simp only [enc]
      have e1 : (N a * 4 + N b / 16) / 4 = N a := by omega
      have e2 : (N a * 4 + N b / 16) % 4 * 16 + (N b % 16 * 16 + N c / 4) / 16 = N b := by omega
      have e3 : (N b % 16 * 16 + N c / 4) % 16 * 4 + (N c % 4 * 64 + N d) / 64 = N c := by omega
      have e4 : (N c % 4 * 64 + N d) % 64 = N d := by omega
      rw [e1, e2, e3, e4, L_N hk.1, L_N hk.2.1, L_N hk.2.2.1, L_N hk.2.2.2]
      exact ⟨rfl, .mk (by omega) (.mk (by omega) (.mk (by omega) .nil)), by simp⟩
    · cases h

theorem enc_dec : ∀ {s o : List Int}, dec s = some o → enc o = s ∧ Byt o ∧ o.length ≤ s.length
  | [], o, h => by simp only [dec] at h; cases h; exact ⟨rfl, .nil, by simp⟩
  | a :: b :: c :: d :: r, o, h => by
    simp only [dec] at h
    split at h
    · rename_i hr
      subst hr
      have := dec4_enc h
      exact ⟨this.1, this.2.1, by simp only [List.length_cons, List.length_nil]; omega⟩
    · split at h
      · rename_i hk
        obtain ⟨o', ho', rfl⟩ := Option.map_eq_some_iff.1 h
        have ih := enc_dec ho'
        have na := N_range a
        have nb := N_range b
        have nc := N_range c
        have nd := N_range d
        simp only [enc]
        have e1 : (N a * 4 + N b / 16) / 4 = N a := by omega
        have e2 : (N a * 4 + N b / 16) % 4 * 16 + (N b % 16 * 16 + N c / 4) / 16 = N b := by omega
        have e3 : (N b % 16 * 16 + N c / 4) % 16 * 4 + (N c % 4 * 64 + N d) / 64 = N c := by omega
        have e4 : (N c % 4 * 64 + N d) % 64 = N d := by omega
        rw [e1, e2, e3, e4, L_N hk.1, L_N hk.2.1, L_N hk.2.2.1, L_N hk.2.2.2, ih.1]
        exact ⟨rfl, .mk (by omega) (.mk (by omega) (.mk (by omega) ih.2.1)), by simp only [List.length_cons]; omega⟩
      · cases h
  | [_], _, h => by simp [dec] at h
  | [_, _], _, h => by simp [dec] at h
  | [_, _, _], _, h => by simp [dec] at h

/-! ### What the reference does: bits of numbers -/
/-- Bytes out of numbers of letters. -/
def ob : List Int → List Int
  | x :: y :: z :: w :: r => (x * 4 + y / 16) :: (y % 16 * 16 + z / 4) :: (z % 4 * 64 + w) :: ob r
  | [x, y, z] => [x * 4 + y / 16, y % 16 * 16 + z / 4]
  | [x, y] => [x * 4 + y / 16]
  | [_] => []
  | [] => []

/-- A text without up to two signs behind. -/
def strip : List Int → List Int
  | a :: b :: c :: d :: r => if r = [] then (if d = 61 then (if c = 61 then [a, b] else [a, b, c]) else [a, b, c, d]) else a :: b :: c :: d :: strip r
  | l => l

/-- What the reference tells. -/
def rdec (s : List Int) : Option (List Int) :=
  if (∀ c ∈ strip s, 0 ≤ N c) then (if enc (ob ((strip s).map N)) = s then some (ob ((strip s).map N)) else none) else none

theorem rdec4 (a b c d : Int) : rdec [a, b, c, d] = dec4 a b c d := by
  have na := N_range a
  have nb := N_range b
  have nc := N_range c
  have nd := N_range d
  unfold rdec dec4
  simp only [strip, if_true]
  split
  · rename_i hd
    split
    · rename_i hc
      simp only [List.forall_mem_cons, List.map_cons, List.map_nil, ob, enc]
      by_cases h : 0 ≤ N a ∧ 0 ≤ N b
      · rw [if_pos ⟨h.1, h.2, by simp⟩]
        have e1 : (N a * 4 + N b / 16) / 4 = N a := by omega
        have e2 : (N a * 4 + N b / 16) % 4 * 16 = N b / 16 * 16 := by omega
        rw [e1, e2, L_N h.1, hc, hd]
        by_cases k : N b % 16 = 0
        · rw [show N b / 16 * 16 = N b by omega, L_N h.2, if_pos rfl, if_pos ⟨h.1, h.2, k⟩]
        · rw [if_neg, if_neg (fun q => k q.2.2)]
          intro q
          simp only [List.cons.injEq, true_and, and_true] at q
          have := congrArg N q
          rw [N_L (by omega) (by omega)] at this
          omega
      · rw [if_neg (fun q => h ⟨q.1, q.2.1⟩), if_neg (fun q => h ⟨q.1, q.2.1⟩)]
    · rename_i hc
      simp only [List.forall_mem_cons, List.map_cons, List.map_nil, ob, enc]
      by_cases h : 0 ≤ N a ∧ 0 ≤ N b ∧ 0 ≤ N c
      · rw [if_pos ⟨h.1, h.2.1, h.2.2, by simp⟩]
        have e1 : (N a * 4 + N b / 16) / 4 = N a := by omega
        have e2 : (N a * 4 + N b / 16) % 4 * 16 + (N b % 16 * 16 + N c / 4) / 16 = N b := by omega
        have e3 : (N b % 16 * 16 + N c / 4) % 16 * 4 = N c / 4 * 4 := by omega
        rw [e1, e2, e3, L_N h.1, L_N h.2.1, hd]
        by_cases k : N c % 4 = 0
        · rw [show N c / 4 * 4 = N c by omega, L_N h.2.2, if_pos rfl, if_pos ⟨h.1, h.2.1, h.2.2, k⟩]
        · rw [if_neg, if_neg (fun q => k q.2.2.2)]
          intro q
          simp only [List.cons.injEq, true_and, and_true] at q
          have := congrArg N q
          rw [N_L (by omega) (by omega)] at this
          omega
      · rw [if_neg (fun q => h ⟨q.1, q.2.1, q.2.2.1⟩), if_neg (fun q => h ⟨q.1, q.2.1, q.2.2.1⟩)]
  · simp only [List.forall_mem_cons, List.map_cons, List.map_nil, ob, enc]
    by_cases h : 0 ≤ N a ∧ 0 ≤ N b ∧ 0 ≤ N c ∧ 0 ≤ N d
    · rw [if_pos ⟨h.1, h.2.1, h.2.2.1, h.2.2.2, by simp⟩, if_pos h]
      have e1 : (N a * 4 + N b / 16) / 4 = N a := by omega
      have e2 : (N a * 4 + N b / 16) % 4 * 16 + (N b % 16 * 16 + N c / 4) / 16 = N b := by omega
      have e3 : (N b % 16 * 16 + N c / 4) % 16 * 4 + (N c % 4 * 64 + N d) / 64 = N c := by omega
      have e4 : (N c % 4 * 64 + N d) % 64 = N d := by omega
      rw [e1, e2, e3, e4, L_N h.1, L_N h.2.1, L_N h.2.2.1, L_N h.2.2.2, if_pos rfl]
    · rw [if_neg (fun q => h ⟨q.1, q.2.1, q.2.2.1, q.2.2.2.1⟩), if_neg h]

theorem rdec_dec : ∀ (s : List Int), s.length % 4 = 0 → rdec s = dec s
  | [], _ => by simp [rdec, strip, ob, enc, dec]
  | a :: b :: c :: d :: r, hl => by
    by_cases hr : r = []
    · subst hr
      rw [rdec4]; simp [dec]
    · have ih := rdec_dec r (by simp only [List.length_cons] at hl; omega)
      have na := N_range a
      have nb := N_range b
      have nc := N_range c
      have nd := N_range d
      simp only [dec, if_neg hr]
      rw [← ih]
      unfold rdec
      simp only [strip, if_neg hr, List.forall_mem_cons, List.map_cons, ob, enc]
      by_cases h : 0 ≤ N a ∧ 0 ≤ N b ∧ 0 ≤ N c ∧ 0 ≤ N d
      · have e1 : (N a * 4 + N b / 16) / 4 = N a := by omega
        have e2 : (N a * 4 + N b / 16) % 4 * 16 + (N b % 16 * 16 + N c / 4) / 16 = N b := by omega
        have e3 : (N b % 16 * 16 + N c / 4) % 16 * 4 + (N c % 4 * 64 + N d) / 64 = N c := by omega
        have e4 : (N c % 4 * 64 + N d) % 64 = N d := by omega
        rw [e1, e2, e3, e4, L_N h.1, L_N h.2.1, L_N h.2.2.1, L_N h.2.2.2, if_pos h]
        simp only [List.cons.injEq, true_and, h.1, h.2.1, h.2.2.1, h.2.2.2]
        by_cases k : ∀ x ∈ strip r, 0 ≤ N x
        · rw [if_pos k, if_pos k]
          by_cases q : enc (ob ((strip r).map N)) = r
          · rw [if_pos q, if_pos q]; rfl
          · rw [if_neg q, if_neg q]; rfl
        · rw [if_neg k, if_neg k]; rfl
      · rw [if_neg (fun q => h ⟨q.1, q.2.1, q.2.2.1, q.2.2.2.1⟩), if_neg h]
  | [_], h => by simp at h
  | [_, _], h => by simp at h
  | [_, _, _], h => by simp at h

theorem dec_inj {s t o : List Int} (hs : dec s = some o) (ht : dec t = some o) : s = t :=
  (enc_dec hs).1.symm.trans (enc_dec ht).1
end Go.Proofs.Ytllhmnohmdgblaa.Six
