/- Lines, digits and letters of requests, and what else there is of them, walked by hand; each condition stands in its theorem. -/
import Derived.Test.YtjkehapbemjnpaaDoorVGet
import Derived.Test.YtjkehapbemjnpaaDoorVSame
import Derived.Deep.DeepCutAuto
namespace Go.Proofs.YtjkehapbemjnpaaDoor
open Go.RowKit Go.Proofs.YtjkehapbemjnpaaDoorW.PrintWords Go.Proofs.YtjkehapbemjnpaaDoorW.PrintLast Go.Proofs.YtjkehapbemjnpaaDoorW.PrintMore Lf Kit Cut Pl Num
set_option linter.unusedVariables false
set_option linter.unusedSimpArgs false
structure AskS (a : AskP) : Prop where
 b : AskB a
 l1 : a.x1.length ≤ 3000
 l2 : a.x2.length ≤ 3000
 l4 : a.x4.length ≤ 3000
 l5 : a.x5.length ≤ 3000
 l6 : a.x6.length ≤ 3000
 l7 : a.x7.length ≤ 3000
 l8 : a.x8.length ≤ 3000
 l9 : a.x9.length ≤ 3000
 l10 : a.x10.length ≤ 3000
 l12 : a.x12.length ≤ 3000
 l13 : a.x13.length ≤ 3000
 l14 : a.x14.length ≤ 3000
 l16 : a.x16.length ≤ 3000
 l17 : a.x17.length ≤ 3000
 l19 : a.x19.length ≤ 3000
 l22 : a.x22.length ≤ 60
theorem AskS.t {a : AskP} (h : AskS a) (k : Nat) : (a.t k).length ≤ 3000 := by
 unfold AskP.t
 split
 ·exact h.l6
 ·exact h.l7
 ·exact h.l8
 ·exact h.l12
 ·exact h.l13
 ·exact h.l14
 ·exact Nat.zero_le _
theorem AskS.o {a : AskP} (h : AskS a) (k : Nat) : (a.o k).length ≤ 3000 := by
 unfold AskP.o
 split
 ·exact h.l5
 ·exact h.l9
 ·exact h.l10
 ·exact h.l19
 ·exact Nat.zero_le _
theorem rowL_eq (word value : List Int) (h : value ≠ []) : rowL word value = 10 :: word ++ 58 :: 32 :: value := by unfold rowL; rw [if_neg h]
theorem rowL_nil (word : List Int) : rowL word [] = [] := rfl
theorem row_calls (word value : List Int) (hv : value ≠ []) (h1 : word.length ≤ 1000000) (h2 : value.length ≤ 1000000) (w : World) :
  Calls Tryd.prog 31 #[.string (strOfNums word), .string (strOfNums value)] w fun e w' => e = .returned (.string (strOfNums (rowL word value))) ∧ ∃ nd, w' = w.drewN nd := by
 rw [rowL_eq word value hv]
 refine (ask_row.calls _ _ (strOfNums (10 :: word ++ 58 :: 32 :: value)) w ?_).mono fun e w' ⟨h1, h2⟩ => ⟨h1, drawn_ex h2⟩
 unfold ask_row.f
 have s1 : (strOfNums word).size = word.length := strOfNums_size _
 have s2 : (strOfNums value).size = value.length := strOfNums_size _
 rw [if_pos (by omega), if_pos (by omega), if_pos (by omega)]
 have e1 : (⟨#[10]⟩ : ByteArray) = strOfNums [10] := rfl
 have e2 : (⟨#[58, 32]⟩ : ByteArray) = strOfNums [58, 32] := rfl
 rw [e1, e2, str_app, str_app, str_app]
 simp
theorem digits_calls (n : Int) (h0 : 0 ≤ n) (h1 : n ≤ most) (w : World) :
  Calls Tryd.prog 35 #[.int .i64 n] w fun e w' => e = .returned (.string (strOfNums (digits n.toNat))) ∧ ∃ nd, w' = w.drewN nd := by
 unfold most at h1
 obtain ⟨k, hk⟩ := (TellN.digits_tell n h0 (by omega)).rounds
 exact (name_Digits.calls k n _ w hk).mono fun e w' ⟨h1, h2⟩ => ⟨h1, drawn_ex h2⟩
theorem digits_short (n : Int) (h0 : 0 ≤ n) (h1 : n ≤ most) : (digits n.toNat).length ≤ 13 := digits_len _ 12 (by unfold most at h1; omega)
theorem put6_calls (A : Option Addr) (c : Nat) (l : List Int) (w : World) (hC : Kd.C (Kd.int .u8) w A l.length l) (hc : l.length ≤ c) (hB : Byt l) (hl : l.length ≤ 1000000) :
  Calls Tryd.prog 33 #[.slice A l.length c] w fun e w' => e = .returned (.string (strOfNums (Six.enc l))) ∧ Below w.heap.size w w' := by
 obtain ⟨k, hk⟩ := (TellS.put_tells l hB hl).rounds
 exact sixty_Put.calls k (fun k_ => k_ < w.heap.size) A c l _ w (Kd.V_mk hc (Kd.C_F (Kd.heap_int _) hC)) hk
theorem joinL_app (l : List (List Int)) (hl : l ≠ []) (x : List Int) : joinL (l ++ [x]) = joinL l ++ 44 :: x := by
 unfold joinL List.intercalate
 induction l with
 | nil => exact absurd rfl hl
 | cons y l ih =>
  cases l with
  | nil => simp
  | cons z l =>
   have := ih (by simp)
   simp only [List.cons_append, List.intersperse_cons_cons, List.flatten_cons] at this ⊢
   rw [this]
   simp
theorem lib_join (l : List (List Int)) : Lib.join ((l.map strOfNums).map (·.data.toList)) (⟨#[44]⟩ : ByteArray).data.toList = (joinL l).map u8 := by
 show ([(44 : UInt8)] : List UInt8).intercalate _ = _
 unfold joinL List.intercalate
 have e : (44 : UInt8) = u8 44 := rfl
 induction l with
 | nil => rfl
 | cons y l ih =>
  cases l with
  | nil => simp [data_u8]
  | cons z l =>
   simp only [List.map_cons, List.intersperse_cons_cons, List.flatten_cons, List.map_append, List.map_nil] at ih ⊢
   rw [ih, data_u8, e]
theorem joinL_len (l : List (List Int)) (m : Nat) (h : ∀ x ∈ l, x.length ≤ m) : (joinL l).length ≤ l.length * (m + 1) := by
 unfold joinL List.intercalate
 induction l with
 | nil => simp
 | cons y l ih =>
  cases l with
  | nil => simp; have := h y (by simp); omega
  | cons z l =>
   have := ih (fun x hx => h x (List.mem_cons_of_mem _ hx))
   have h2 := h y (by simp)
   simp only [List.intersperse_cons_cons, List.flatten_cons, List.length_append, List.length_cons, List.length_nil] at this ⊢
   rw [Nat.add_mul, Nat.one_mul]
   omega
theorem joinL_ne (l : List (List Int)) (hl : l ≠ []) (h : ∀ x ∈ l, x ≠ []) : joinL l ≠ [] := by
 unfold joinL List.intercalate
 cases l with
 | nil => exact absurd rfl hl
 | cons y l =>
  have := h y (by simp)
  cases l with
  | nil => simpa using this
  | cons z l => simp
theorem join_calls (bk c : Nat) (l : List (List Int)) (w : World) (hR : Kd.C Kd.string w (some ⟨bk, 0, none⟩) l.length (l.map strOfNums)) (hbk : bk < w.heap.size) (hc : l.length ≤ c) (hN : l.length ≤ 1000) (hm : ∀ x ∈ l, x.length ≤ 100) :
  Calls Tryd.prog 51 #[.slice (some ⟨bk, 0, none⟩) l.length c, .string ⟨#[44]⟩] w fun e w' => e = .returned (.string (strOfNums (joinL l))) ∧ Below w.heap.size w w' := by
 have hlen := joinL_len l 100 hm
 have H := Tryd.strings_Join bk 0 c (l.map strOfNums) ⟨#[44]⟩ w (fun j x hj => by
   have hjl := (List.getElem?_eq_some_iff.1 hj).1
   rw [List.length_map] at hjl
   obtain ⟨ad, he, hcell⟩ := Kd.at_string hR (j : Int) (by omega) (by omega)
   obtain rfl := Option.some.inj he
   rw [Int.toNat_natCast, add_plain] at hcell
   rw [Nat.zero_add, hcell]
   unfold rdOf
   rw [Int.toNat_natCast, List.getD_eq_getElem?_getD, hj]
   rfl) hbk (by rw [List.length_map]; omega) (by rw [List.length_map]; exact hc) (by rw [lib_join, List.length_map]; have := Nat.mul_le_mul_right 101 hN; omega)
 rw [List.length_map, lib_join] at H
 exact H
end Go.Proofs.YtjkehapbemjnpaaDoor
namespace Go.Proofs.YtjkehapbemjnpaaDoor
open Go.RowKit Kit Cut Pl Num
set_option linter.unusedVariables false
/-- Bytes, no more than N. -/
def BN (N : Nat) (l : List Int) : Prop := Byt l ∧ l.length ≤ N
theorem BN.nil (N : Nat) : BN N [] := ⟨Byt.nil, Nat.zero_le _⟩
structure AskN (N : Nat) (a : AskP) : Prop where
 b1 : BN N a.x1
 b2 : BN N a.x2
 b4 : BN N a.x4
 b5 : BN N a.x5
 b6 : BN N a.x6
 b7 : BN N a.x7
 b8 : BN N a.x8
 b9 : BN N a.x9
 b10 : BN N a.x10
 b12 : BN N a.x12
 b13 : BN N a.x13
 b14 : BN N a.x14
 b16 : BN N a.x16
 b17 : BN N a.x17
 b19 : BN N a.x19
theorem AskN.none (N : Nat) : AskN N ask0 := ⟨BN.nil N, BN.nil N, BN.nil N, BN.nil N, BN.nil N, BN.nil N, BN.nil N, BN.nil N, BN.nil N, BN.nil N, BN.nil N, BN.nil N, BN.nil N, BN.nil N, BN.nil N⟩
theorem AskN.w1 {N : Nat} {a : AskP} (h : AskN N a) {v : List Int} (hv : BN N v) : AskN N { a with x1 := v } := ⟨hv, h.b2, h.b4, h.b5, h.b6, h.b7, h.b8, h.b9, h.b10, h.b12, h.b13, h.b14, h.b16, h.b17, h.b19⟩
theorem AskN.w2 {N : Nat} {a : AskP} (h : AskN N a) {v : List Int} (hv : BN N v) : AskN N { a with x2 := v } := ⟨h.b1, hv, h.b4, h.b5, h.b6, h.b7, h.b8, h.b9, h.b10, h.b12, h.b13, h.b14, h.b16, h.b17, h.b19⟩
theorem AskN.w4 {N : Nat} {a : AskP} (h : AskN N a) {v : List Int} (hv : BN N v) : AskN N { a with x4 := v } := ⟨h.b1, h.b2, hv, h.b5, h.b6, h.b7, h.b8, h.b9, h.b10, h.b12, h.b13, h.b14, h.b16, h.b17, h.b19⟩
theorem AskN.w5 {N : Nat} {a : AskP} (h : AskN N a) {v : List Int} (hv : BN N v) : AskN N { a with x5 := v } := ⟨h.b1, h.b2, h.b4, hv, h.b6, h.b7, h.b8, h.b9, h.b10, h.b12, h.b13, h.b14, h.b16, h.b17, h.b19⟩
theorem AskN.w6 {N : Nat} {a : AskP} (h : AskN N a) {v : List Int} (hv : BN N v) : AskN N { a with x6 := v } := ⟨h.b1, h.b2, h.b4, h.b5, hv, h.b7, h.b8, h.b9, h.b10, h.b12, h.b13, h.b14, h.b16, h.b17, h.b19⟩
theorem AskN.w7 {N : Nat} {a : AskP} (h : AskN N a) {v : List Int} (hv : BN N v) : AskN N { a with x7 := v } := ⟨h.b1, h.b2, h.b4, h.b5, h.b6, hv, h.b8, h.b9, h.b10, h.b12, h.b13, h.b14, h.b16, h.b17, h.b19⟩
theorem AskN.w8 {N : Nat} {a : AskP} (h : AskN N a) {v : List Int} (hv : BN N v) : AskN N { a with x8 := v } := ⟨h.b1, h.b2, h.b4, h.b5, h.b6, h.b7, hv, h.b9, h.b10, h.b12, h.b13, h.b14, h.b16, h.b17, h.b19⟩
theorem AskN.w9 {N : Nat} {a : AskP} (h : AskN N a) {v : List Int} (hv : BN N v) : AskN N { a with x9 := v } := ⟨h.b1, h.b2, h.b4, h.b5, h.b6, h.b7, h.b8, hv, h.b10, h.b12, h.b13, h.b14, h.b16, h.b17, h.b19⟩
theorem AskN.w10 {N : Nat} {a : AskP} (h : AskN N a) {v : List Int} (hv : BN N v) : AskN N { a with x10 := v } := ⟨h.b1, h.b2, h.b4, h.b5, h.b6, h.b7, h.b8, h.b9, hv, h.b12, h.b13, h.b14, h.b16, h.b17, h.b19⟩
theorem AskN.w12 {N : Nat} {a : AskP} (h : AskN N a) {v : List Int} (hv : BN N v) : AskN N { a with x12 := v } := ⟨h.b1, h.b2, h.b4, h.b5, h.b6, h.b7, h.b8, h.b9, h.b10, hv, h.b13, h.b14, h.b16, h.b17, h.b19⟩
theorem AskN.w13 {N : Nat} {a : AskP} (h : AskN N a) {v : List Int} (hv : BN N v) : AskN N { a with x13 := v } := ⟨h.b1, h.b2, h.b4, h.b5, h.b6, h.b7, h.b8, h.b9, h.b10, h.b12, hv, h.b14, h.b16, h.b17, h.b19⟩
theorem AskN.w14 {N : Nat} {a : AskP} (h : AskN N a) {v : List Int} (hv : BN N v) : AskN N { a with x14 := v } := ⟨h.b1, h.b2, h.b4, h.b5, h.b6, h.b7, h.b8, h.b9, h.b10, h.b12, h.b13, hv, h.b16, h.b17, h.b19⟩
theorem AskN.w16 {N : Nat} {a : AskP} (h : AskN N a) {v : List Int} (hv : BN N v) : AskN N { a with x16 := v } := ⟨h.b1, h.b2, h.b4, h.b5, h.b6, h.b7, h.b8, h.b9, h.b10, h.b12, h.b13, h.b14, hv, h.b17, h.b19⟩
theorem AskN.w17 {N : Nat} {a : AskP} (h : AskN N a) {v : List Int} (hv : BN N v) : AskN N { a with x17 := v } := ⟨h.b1, h.b2, h.b4, h.b5, h.b6, h.b7, h.b8, h.b9, h.b10, h.b12, h.b13, h.b14, h.b16, hv, h.b19⟩
theorem AskN.w19 {N : Nat} {a : AskP} (h : AskN N a) {v : List Int} (hv : BN N v) : AskN N { a with x19 := v } := ⟨h.b1, h.b2, h.b4, h.b5, h.b6, h.b7, h.b8, h.b9, h.b10, h.b12, h.b13, h.b14, h.b16, h.b17, hv⟩
theorem AskN.i0 {N : Nat} {a : AskP} (h : AskN N a) (v : Int) : AskN N { a with x0 := v } := ⟨h.b1, h.b2, h.b4, h.b5, h.b6, h.b7, h.b8, h.b9, h.b10, h.b12, h.b13, h.b14, h.b16, h.b17, h.b19⟩
theorem AskN.i3 {N : Nat} {a : AskP} (h : AskN N a) (v : Int) : AskN N { a with x3 := v } := ⟨h.b1, h.b2, h.b4, h.b5, h.b6, h.b7, h.b8, h.b9, h.b10, h.b12, h.b13, h.b14, h.b16, h.b17, h.b19⟩
theorem AskN.i11 {N : Nat} {a : AskP} (h : AskN N a) (v : Int) : AskN N { a with x11 := v } := ⟨h.b1, h.b2, h.b4, h.b5, h.b6, h.b7, h.b8, h.b9, h.b10, h.b12, h.b13, h.b14, h.b16, h.b17, h.b19⟩
theorem AskN.i15 {N : Nat} {a : AskP} (h : AskN N a) (v : Int) : AskN N { a with x15 := v } := ⟨h.b1, h.b2, h.b4, h.b5, h.b6, h.b7, h.b8, h.b9, h.b10, h.b12, h.b13, h.b14, h.b16, h.b17, h.b19⟩
theorem AskN.i18 {N : Nat} {a : AskP} (h : AskN N a) (v : Int) : AskN N { a with x18 := v } := ⟨h.b1, h.b2, h.b4, h.b5, h.b6, h.b7, h.b8, h.b9, h.b10, h.b12, h.b13, h.b14, h.b16, h.b17, h.b19⟩
theorem AskN.i20 {N : Nat} {a : AskP} (h : AskN N a) (v : Int) : AskN N { a with x20 := v } := ⟨h.b1, h.b2, h.b4, h.b5, h.b6, h.b7, h.b8, h.b9, h.b10, h.b12, h.b13, h.b14, h.b16, h.b17, h.b19⟩
theorem AskN.i21 {N : Nat} {a : AskP} (h : AskN N a) (v : Int) : AskN N { a with x21 := v } := ⟨h.b1, h.b2, h.b4, h.b5, h.b6, h.b7, h.b8, h.b9, h.b10, h.b12, h.b13, h.b14, h.b16, h.b17, h.b19⟩
theorem AskN.i23 {N : Nat} {a : AskP} (h : AskN N a) (v : Int) : AskN N { a with x23 := v } := ⟨h.b1, h.b2, h.b4, h.b5, h.b6, h.b7, h.b8, h.b9, h.b10, h.b12, h.b13, h.b14, h.b16, h.b17, h.b19⟩
theorem AskN.l22 {N : Nat} {a : AskP} (h : AskN N a) (v : List Int) : AskN N { a with x22 := v } := ⟨h.b1, h.b2, h.b4, h.b5, h.b6, h.b7, h.b8, h.b9, h.b10, h.b12, h.b13, h.b14, h.b16, h.b17, h.b19⟩
theorem AskN.tSet {N : Nat} {a : AskP} (h : AskN N a) (k : Nat) {v : List Int} (hv : BN N v) : AskN N (a.tSet k v) := by
 unfold AskP.tSet
 split
 ·exact h.w6 hv
 ·exact h.w7 hv
 ·exact h.w8 hv
 ·exact h.w12 hv
 ·exact h.w13 hv
 ·exact h.w14 hv
 ·exact h
theorem AskN.oSet {N : Nat} {a : AskP} (h : AskN N a) (k : Nat) {v : List Int} (hv : BN N v) : AskN N (a.oSet k v) := by
 unfold AskP.oSet
 split
 ·exact h.w5 hv
 ·exact h.w9 hv
 ·exact h.w10 hv
 ·exact h.w19 hv
 ·exact h
theorem AskN.nSet {N : Nat} {a : AskP} (h : AskN N a) (k : Nat) (v : Int) : AskN N (a.nSet k v) := by
 unfold AskP.nSet
 split
 ·exact h.i3 v
 ·exact h.i11 v
 ·exact h.i15 v
 ·exact h.i18 v
 ·exact h.i20 v
 ·exact h.i21 v
 ·exact h
theorem BN.cut1 {N : Nat} {sep s : List Int} (h : BN N s) : BN N (cutL sep s).1 := ⟨(cutL_byt h.1).1, Nat.le_trans (cutL_len sep s).1 h.2⟩
theorem BN.cut2 {N : Nat} {sep s : List Int} (h : BN N s) : BN N (cutL sep s).2.1 := ⟨(cutL_byt h.1).2, Nat.le_trans (cutL_len sep s).2 h.2⟩
theorem setS_n {N : Nat} {a : AskP} (h : AskN N a) (ws : List Int) {v : List Int} (hv : BN N v) : AskN N (setS a ws v).1 := by
 unfold setS
 split
 ·exact h.tSet _ hv
 ·split
  ·split
   ·rename_i hd
    have := Six.enc_dec hd
    exact h.oSet _ ⟨this.2.1, Nat.le_trans this.2.2 hv.2⟩
   ·exact h
  ·split
   ·split
    ·exact h.nSet _ _
    ·exact h
   ·unfold otherS
    split
    ·exact (h.w16 hv.cut1).w17 hv.cut2
    ·split
     ·split
      ·split
       ·exact h.l22 _
       ·exact h
      ·exact h
     ·split
      ·split
       ·exact h.i23 _
       ·exact h
      ·exact h
theorem rowsS_n {N : Nat} : ∀ (l : List (List Int)) (seen : List (List Int)) (a : AskP), AskN N a → (∀ r ∈ l, BN N r) → AskN N (rowsS seen a l).1
 | [], seen, a, h, _ => h
 | r :: l, seen, a, h, hl => by
  rw [rowsS_cons]
  have hr := hl r (by simp)
  split
  ·exact h
  ·split
   ·exact h
   ·split
    ·exact h
    ·exact rowsS_n l _ _ (setS_n h _ hr.cut2) (fun x hx => hl x (List.mem_cons_of_mem _ hx))
theorem firstS_n {N : Nat} (f : List Int) (hf : BN N f) : AskN N (firstS f).1 := by
 unfold firstS
 split
 ·exact ((((AskN.none N).i0 _).w1 hf.cut2.cut1).w2 hf.cut2.cut2).i3 (-1) |>.i18 (-1)
 ·exact AskN.none N
theorem endS_n {N : Nat} {a : AskP} {bd : List Int} (h : AskN N a) (hb : BN N bd) : AskN N (endS bd a).1 := by
 unfold endS
 split
 ·exact AskN.none N
 ·exact h.w4 hb
theorem getS_n {N : Nat} (b : List Int) (hb : BN N b) : AskN N (getS b).1 := by
 unfold getS
 split
 ·exact AskN.none N
 ·split
  ·exact AskN.none N
  ·have hp : ∀ r ∈ splitC 10 (cutL [10, 10] b).1, BN N r := fun r hr => ⟨split_byt _ (Nat.le_refl _) hb.cut1.1 r hr, Nat.le_trans (split_part _ _ (Nat.le_refl _) r hr) hb.cut1.2⟩
   generalize splitC 10 (cutL [10, 10] b).1 = l at hp
   cases l with
   | nil => exact AskN.none N
   | cons f rest =>
    show AskN N (if (firstS f).2 ≠ 0 then (ask0, (firstS f).2) else if (rowsS [] (firstS f).1 rest).2 ≠ 0 then (ask0, (rowsS [] (firstS f).1 rest).2) else endS (cutL [10, 10] b).2.1 (rowsS [] (firstS f).1 rest).1).1
    by_cases h1 : (firstS f).2 ≠ 0
    ·rw [if_pos h1]; exact AskN.none N
    ·rw [if_neg h1]
     by_cases h2 : (rowsS [] (firstS f).1 rest).2 ≠ 0
     ·rw [if_pos h2]; exact AskN.none N
     ·rw [if_neg h2]
      exact endS_n (rowsS_n rest [] _ (firstS_n f (hp f (by simp))) (fun x hx => hp x (List.mem_cons_of_mem _ hx))) hb.cut2
theorem AskN.toB {N : Nat} {a : AskP} (h : AskN N a) (hN : N < 1000000) : AskB a := ⟨⟨h.b1.1, Nat.lt_of_le_of_lt h.b1.2 hN⟩, ⟨h.b2.1, Nat.lt_of_le_of_lt h.b2.2 hN⟩, ⟨h.b4.1, Nat.lt_of_le_of_lt h.b4.2 hN⟩, ⟨h.b5.1, Nat.lt_of_le_of_lt h.b5.2 hN⟩, ⟨h.b6.1, Nat.lt_of_le_of_lt h.b6.2 hN⟩, ⟨h.b7.1, Nat.lt_of_le_of_lt h.b7.2 hN⟩, ⟨h.b8.1, Nat.lt_of_le_of_lt h.b8.2 hN⟩, ⟨h.b9.1, Nat.lt_of_le_of_lt h.b9.2 hN⟩, ⟨h.b10.1, Nat.lt_of_le_of_lt h.b10.2 hN⟩, ⟨h.b12.1, Nat.lt_of_le_of_lt h.b12.2 hN⟩, ⟨h.b13.1, Nat.lt_of_le_of_lt h.b13.2 hN⟩, ⟨h.b14.1, Nat.lt_of_le_of_lt h.b14.2 hN⟩, ⟨h.b16.1, Nat.lt_of_le_of_lt h.b16.2 hN⟩, ⟨h.b17.1, Nat.lt_of_le_of_lt h.b17.2 hN⟩, ⟨h.b19.1, Nat.lt_of_le_of_lt h.b19.2 hN⟩⟩
theorem AskN.toS {a : AskP} (h : AskN 3000 a) (h22 : a.x22.length ≤ 60) : AskS a := ⟨h.toB (by decide), h.b1.2, h.b2.2, h.b4.2, h.b5.2, h.b6.2, h.b7.2, h.b8.2, h.b9.2, h.b10.2, h.b12.2, h.b13.2, h.b14.2, h.b16.2, h.b17.2, h.b19.2, h22⟩
end Go.Proofs.YtjkehapbemjnpaaDoor
