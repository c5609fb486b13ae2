/- A request as bytes: how much it is, of which bytes; each condition stands in its theorem. -/
import Derived.Test.YtjkehapbemjnpaaDoorVBack
import Derived.Deep.DeepCutAuto
namespace Go.Proofs.YtjkehapbemjnpaaDoor
open Go.RowKit Go.Proofs.YtjkehapbemjnpaaDoorW.PrintWords Go.Proofs.YtjkehapbemjnpaaDoorW.PrintLast Go.Proofs.YtjkehapbemjnpaaDoorW.PrintMore Lf Kit Cut Pl Num
set_option linter.unusedVariables false
set_option linter.unusedSimpArgs false
theorem wordOf_eq (op : Int) : wordOf op = strOfNums (wordS op) := by
 unfold wordOf wordS
 split
 ·rfl
 ·rw [wW_eq]
  exact getD_str wL op.toNat
def accR (L : List (List Int)) (v : Nat → List Int) : Nat → List Int
 | 0 => []
 | j + 1 => accR L v j ++ rowL (L.getD j []) (v j)
def leastN (k : Nat) : Int := if k = 0 ∨ k = 3 then -1 else 0
theorem lines_eq (a : AskP) : linesS a = accR tL a.t 6 ++ accR oL (fun k => Six.enc (a.o k)) 4 ++ accR nL (fun k => told (a.n k) (leastN k)) 6 ++ extraS a := by
 unfold linesS pairsOf extraS
 simp only [List.flatMap_cons, List.flatMap_nil, accR, List.nil_append, List.append_nil, List.append_assoc]
 rfl
theorem check_yes {a : AskP} (h0 : wordS a.x0 ≠ []) (h1 : 0 ≤ a.x23 ∧ a.x23 ≤ 2) (hn : ∀ k, k < 6 → leastN k ≤ a.n k ∧ a.n k ≤ most) (hl : ∀ n ∈ a.x22, 0 ≤ n ∧ n ≤ most) : checkS a = 0 := by
 unfold checkS
 rw [if_neg h0, if_neg (by omega), if_pos ⟨hn 0 (by decide), hn 1 (by decide), hn 2 (by decide), hn 3 (by decide), hn 4 (by decide), hn 5 (by decide), hl⟩]
theorem check_num {a : AskP} (h0 : wordS a.x0 ≠ []) (h1 : 0 ≤ a.x23 ∧ a.x23 ≤ 2) (k : Nat) (hk : k < 6) (hn : ¬ (leastN k ≤ a.n k ∧ a.n k ≤ most)) : checkS a = 2 := by
 unfold checkS
 rw [if_neg h0, if_neg (by omega), if_neg]
 rintro ⟨h3, h4, h5, h6, h7, h8, _⟩
 match k, hk, hn with
 | 0, _, hn => exact hn h3
 | 1, _, hn => exact hn h4
 | 2, _, hn => exact hn h5
 | 3, _, hn => exact hn h6
 | 4, _, hn => exact hn h7
 | 5, _, hn => exact hn h8
theorem check_list {a : AskP} (h0 : wordS a.x0 ≠ []) (h1 : 0 ≤ a.x23 ∧ a.x23 ≤ 2) (n : Int) (hn : n ∈ a.x22) (h2 : ¬ (0 ≤ n ∧ n ≤ most)) : checkS a = 2 := by
 unfold checkS
 rw [if_neg h0, if_neg (by omega), if_neg]
 rintro ⟨_, _, _, _, _, _, h⟩
 exact h2 (h n hn)
theorem put_no {a : AskP} {c : Int} (h : checkS a = c) (hc : c ≠ 0) : putS a = ([], c) := by
 unfold putS
 rw [h, if_pos hc]
theorem rowL_len (word value : List Int) (hw : word.length ≤ 20) : (rowL word value).length ≤ value.length + 30 := by
 unfold rowL
 split
 ·simp
 ·simp only [List.length_append, List.length_cons]
  omega
theorem wordS_len (op : Int) : (wordS op).length ≤ 20 := by
 unfold wordS
 split
 ·simp
 ·by_cases h : op.toNat < 21
  ·have : ∀ n : Fin 21, (wL.getD n.1 []).length ≤ 20 := by decide
   exact this ⟨op.toNat, h⟩
  ·rw [List.getD_eq_getElem?_getD, List.getElem?_eq_none (by show 21 ≤ op.toNat; omega)]
   simp
theorem getD_len {L : List (List Int)} {m : Nat} (h : ∀ x ∈ L, x.length ≤ m) (j : Nat) : (L.getD j []).length ≤ m := by
 rw [List.getD_eq_getElem?_getD]
 cases he : L[j]? with
 | none => simp
 | some x => exact h x (List.mem_of_getElem? he)
theorem len24 {α : Type} {l : List α} (h : l.length = 24) : ∃ y0 y1 y2 y3 y4 y5 y6 y7 y8 y9 y10 y11 y12 y13 y14 y15 y16 y17 y18 y19 y20 y21 y22 y23, l = [y0, y1, y2, y3, y4, y5, y6, y7, y8, y9, y10, y11, y12, y13, y14, y15, y16, y17, y18, y19, y20, y21, y22, y23] := by
 match l, h with
 | [y0, y1, y2, y3, y4, y5, y6, y7, y8, y9, y10, y11, y12, y13, y14, y15, y16, y17, y18, y19, y20, y21, y22, y23], _ => exact ⟨y0, y1, y2, y3, y4, y5, y6, y7, y8, y9, y10, y11, y12, y13, y14, y15, y16, y17, y18, y19, y20, y21, y22, y23, rfl⟩
theorem accR_len (L : List (List Int)) (v : Nat → List Int) (m : Nat) (hL : ∀ x ∈ L, x.length ≤ 20) (hv : ∀ k, (v k).length ≤ m) : ∀ j, (accR L v j).length ≤ j * (m + 30)
 | 0 => by simp [accR]
 | j + 1 => by
  have ih := accR_len L v m hL hv j
  have h1 := rowL_len (L.getD j []) (v j) (getD_len hL j)
  have h2 := hv j
  rw [accR, List.length_append, Nat.add_mul]
  omega
theorem told_short (n least : Int) (h0 : -1 ≤ n) (h1 : n ≤ most) : (told n least).length ≤ 13 := by
 unfold told
 split
 ·simp
 ·by_cases h : 0 ≤ n
  ·exact digits_short n h h1
  ·rw [show n.toNat = 0 by omega]
   decide +kernel
theorem extraS_len {a : AskP} (sa : AskS a) (hl : ∀ n ∈ a.x22, 0 ≤ n ∧ n ≤ most) : (extraS a).length ≤ 10000 := by
 have h1 : (fromV a).length ≤ 6001 := by
  unfold fromV
  have := sa.l16
  have := sa.l17
  split
  ·simp
  ·simp only [List.length_append, List.length_cons]; omega
 have h2 : (listV a).length ≤ 840 := by
  have h3 := joinL_len (a.x22.map fun n => digits n.toNat) 13 (fun x hx => by
   obtain ⟨n, hn, rfl⟩ := List.mem_map.1 hx
   have := hl n hn
   exact digits_short n this.1 this.2)
  rw [List.length_map] at h3
  have := Nat.mul_le_mul_right (13 + 1) sa.l22
  unfold listV
  omega
 have h3 : (stateV a).length ≤ 20 := by
  unfold stateV
  split
  ·simp
  ·exact getD_len (by decide) _
 have e1 := rowL_len [102, 114, 111, 109] (fromV a) (by simp)
 have e2 := rowL_len [108, 105, 115, 116] (listV a) (by simp)
 have e3 := rowL_len [115, 116, 97, 116, 101] (stateV a) (by simp)
 unfold extraS
 simp only [List.length_append]
 omega
theorem headS_len {a : AskP} (sa : AskS a) : (headS a).length ≤ 7000 := by
 have h0 := wordS_len a.x0
 have h1 := sa.l1
 have h2 := sa.l2
 unfold headS
 simp only [List.length_append]
 have h5 : (if a.x1 = [] ∧ a.x2 = [] then [] else 32 :: a.x1).length ≤ 3001 := by split <;> simp <;> omega
 have h6 : (if a.x2 = [] then [] else 47 :: a.x2).length ≤ 3001 := by split <;> simp <;> omega
 omega
theorem bytesS_len {a : AskP} (sa : AskS a) (hn : ∀ k, k < 6 → leastN k ≤ a.n k ∧ a.n k ≤ most) (hl : ∀ n ∈ a.x22, 0 ≤ n ∧ n ≤ most) : (bytesS a).length ≤ 70000 := by
 have h1 := accR_len tL a.t 3000 (by decide) sa.t 6
 have h2 := accR_len oL (fun k => Six.enc (a.o k)) 6002 (by decide) (fun k => by have := (Six.enc_len (a.o k)).2; have := sa.o k; show (Six.enc (a.o k)).length ≤ 6002; omega) 4
 have h3 := accR_len nL (fun k => told (a.n k) (leastN k)) 13 (by decide) (fun k => by
  by_cases hk : k < 6
  ·have := hn k hk
   exact told_short _ _ (by have h5 := this.1; unfold leastN at h5; split at h5 <;> omega) this.2
  ·show (told (a.n k) (leastN k)).length ≤ 13
   rw [show a.n k = 0 from by unfold AskP.n; split <;> first | rfl | omega, show leastN k = 0 from by unfold leastN; rw [if_neg (by omega)]]
   simp [told]) 6
 have h4 := extraS_len sa hl
 have h5 := headS_len sa
 have h6 := sa.l4
 unfold bytesS
 rw [lines_eq]
 simp only [List.length_append, List.length_cons, List.length_nil]
 omega
theorem rowL_byt {word value : List Int} (hw : Byt word) (hv : Byt value) : Byt (rowL word value) := by
 unfold rowL
 split
 ·exact Byt.nil
 ·exact Byt.app (Byt.mk (by omega) hw) (Byt.mk (by omega) (Byt.mk (by omega) hv))
theorem getD_byt {L : List (List Int)} (h : ∀ x ∈ L, Byt x) (j : Nat) : Byt (L.getD j []) := by
 rw [List.getD_eq_getElem?_getD]
 cases he : L[j]? with
 | none => exact Byt.nil
 | some x => exact h x (List.mem_of_getElem? he)
theorem accR_byt {L : List (List Int)} {v : Nat → List Int} (hL : ∀ x ∈ L, Byt x) (hv : ∀ k, Byt (v k)) : ∀ j, Byt (accR L v j)
 | 0 => Byt.nil
 | j + 1 => (accR_byt hL hv j).app (rowL_byt (getD_byt hL j) (hv j))
theorem told_byt (n least : Int) : Byt (told n least) := by
 unfold told
 split
 ·exact Byt.nil
 ·exact (digits_dig _).byt
theorem joinL_byt : ∀ (l : List (List Int)), (∀ x ∈ l, Byt x) → Byt (joinL l)
 | [], _ => Byt.nil
 | [x], h => by
  have : joinL [x] = x := by simp [joinL, List.intercalate]
  rw [this]
  exact h x (by simp)
 | x :: y :: l, h => by
  have : joinL (x :: y :: l) = x ++ 44 :: joinL (y :: l) := by simp [joinL, List.intercalate]
  rw [this]
  exact (h x (by simp)).app (Byt.mk (by omega) (joinL_byt (y :: l) (fun z hz => h z (List.mem_cons_of_mem _ hz))))
theorem headS_byt {a : AskP} (ba : AskB a) : Byt (headS a) := by
 unfold headS wordS
 refine Byt.app (Byt.app ?_ ?_) ?_
 ·split
  ·exact Byt.nil
  ·exact getD_byt wL_byt _
 ·split
  ·exact Byt.nil
  ·exact Byt.mk (by omega) ba.b1.1
 ·split
  ·exact Byt.nil
  ·exact Byt.mk (by omega) ba.b2.1
theorem lines_byt {a : AskP} (ba : AskB a) : Byt (linesS a) := by
 rw [lines_eq]
 refine Byt.app (Byt.app (Byt.app ?_ ?_) ?_) ?_
 ·exact accR_byt tL_byt (fun k => (ba.t k).1) 6
 ·exact accR_byt oL_byt (fun k => Six.enc_byte (ba.o k).1) 4
 ·exact accR_byt nL_byt (fun k => told_byt _ _) 6
 ·unfold extraS
  refine Byt.app (Byt.app (rowL_byt (by unfold Byt; decide) ?_) (rowL_byt (by unfold Byt; decide) ?_)) (rowL_byt (by unfold Byt; decide) ?_)
  ·unfold fromV
   split
   ·exact Byt.nil
   ·exact ba.b16.1.app (Byt.mk (by omega) ba.b17.1)
  ·exact joinL_byt _ (fun x hx => by
    obtain ⟨n, _, rfl⟩ := List.mem_map.1 hx
    exact (digits_dig _).byt)
  ·unfold stateV
   split
   ·exact Byt.nil
   ·exact getD_byt sL_byt _
theorem bytesS_byt {a : AskP} (ba : AskB a) : Byt (bytesS a) := (((headS_byt ba).app (lines_byt ba)).app (by unfold Byt; decide)).app ba.b4.1
theorem bytes_C (W : World) (s : ByteArray) (hs : s.size ≤ 1000000) : Kd.C (Kd.int .u8) (Lib.bytesWorld W 5 s) (some ⟨W.heap.size, 0, none⟩) s.size (bytesOf s) :=
 Kd.C_of_reads (d := 0) (bytes_reads W 5 s (by omega))
theorem two_rows (W : World) (A1 : Option Addr) (c1 : Nat) (x : List Int) (A2 : Option Addr) (c2 : Nat) (y : List Int) (n1 : Nat) (h1 : n1 = x.length) (hc1 : x.length ≤ c1) (C1 : Kd.C (Kd.int .u8) W A1 x.length x) (hc2 : y.length ≤ c2) (C2 : Kd.C (Kd.int .u8) W A2 y.length y) :
  Kd.C (Kd.slice 5 (Kd.int .u8)) (W.alloc (.cells #[.slice A1 n1 c1, .slice A2 y.length c2] 22)) (some ⟨W.heap.size, 0, none⟩) [x, y].length [x, y] := by
 subst h1
 refine C_rows (blk_new W _) (by simp) (fun j xs hj => ?_)
 match j, hj with
 | 0, hj =>
  obtain rfl : x = xs := by simpa using hj
  exact ⟨A1, c1, rfl, hc1, Kd.C_alloc C1 _⟩
 | 1, hj =>
  obtain rfl : y = xs := by simpa using hj
  exact ⟨A2, c2, rfl, hc2, Kd.C_alloc C2 _⟩
theorem some_cap {W : World} {A : Option Addr} {xs : List Int} (c : Nat) (h : Kd.C (Kd.int .u8) W A xs.length xs) (hl : 0 < xs.length) : A = none → c = 0 := fun hA => by
 obtain ⟨_, _, h3⟩ := h
 obtain ⟨ad, h4, _⟩ := h3 hl
 rw [hA] at h4
 cases h4
theorem nW_id (j : Nat) (h : j < 6) : ((nW.getD j ⟨#[]⟩).toList == [105, 100]) = decide (j = 0) := by
 have : ∀ j : Fin 6, ((nW.getD j.1 ⟨#[]⟩).toList == [105, 100]) = decide (j.1 = 0) := by decide +kernel
 exact this ⟨j, h⟩
theorem nW_from (j : Nat) (h : j < 6) : ((nW.getD j ⟨#[]⟩).toList == [102, 114, 111, 109, 45, 105, 100]) = decide (j = 3) := by
 have : ∀ j : Fin 6, ((nW.getD j.1 ⟨#[]⟩).toList == [102, 114, 111, 109, 45, 105, 100]) = decide (j.1 = 3) := by decide +kernel
 exact this ⟨j, h⟩
end Go.Proofs.YtjkehapbemjnpaaDoor
