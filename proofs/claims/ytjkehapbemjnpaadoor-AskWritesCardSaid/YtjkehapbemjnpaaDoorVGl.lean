/- Go's library where requests use it, in plain words; each condition stands in its theorem. -/
import Derived.Test.YtjkehapbemjnpaaDoorVShelf
import Derived.Test.YtjkehapbemjnpaaDoorVKit
import Derived.Test.YtjkehapbemjnpaaDoorVRec
namespace Go.Proofs.YtjkehapbemjnpaaDoor
open Go.RowKit Go.Proofs.YtjkehapbemjnpaaDoorW.PrintWords Go.Proofs.YtjkehapbemjnpaaDoorW.PrintLast Go.Proofs.YtjkehapbemjnpaaDoorW.PrintMore Lf Kit Cut Pl
set_option linter.unusedVariables false
set_option linter.unusedSimpArgs false
def GF (w : World) : Prop := ∃ m, w.cell? ⟨0, 0, none⟩ = some (.int .i64 m)
theorem GF.of {w W : World} (h : GF w) (hb : Below w.heap.size w W) : GF W := by
  obtain ⟨m, hm⟩ := h
  exact ⟨m, (hb.cell (World.block_lt_of_cell? w _ hm)).trans hm⟩
theorem GF.shaped {w : World} (h : w.ShapedOpen Tryd.prog) : GF w :=
  cell_of_shapedOpen_int (zero := #[.int .i64 0]) (t := 3) h (of_decide_eq_true (by kernel_rfl)) (by kernel_rfl) rfl (by kernel_rfl) (by kernel_rfl) Tryd.underlying3
theorem cut_calls (sep : List Int) (sb : ByteArray) (hsb : sb = strOfNums sep) (hne : sep ≠ []) (hs : Byt sep) (s : List Int) (h : Byt s) (hl : s.length < 1000000) (w : World) (hG : GF w) :
    Calls Tryd.prog 20 #[.string (strOfNums s), .string sb] w fun e w' => e = .returned (.tuple #[.string (strOfNums (cutL sep s).1), .string (strOfNums (cutL sep s).2.1), .bool (cutL sep s).2.2]) ∧ ∃ n, w' = w.drewN n := by
  subst hsb
  obtain ⟨m, hm⟩ := hG
  have H := Tryd.strings_Cut (strOfNums s) (strOfNums sep) m w (by rw [strOfNums_size]; omega) hm
  rw [data_u8, data_u8, lib_cut hne hs h] at H
  exact H
theorem split_calls (c : Int) (hc : 0 ≤ c ∧ c < 256) (sb : ByteArray) (hsb : sb = strOfNums [c]) (s : List Int) (h : Byt s) (hl : s.length < 1000000) (w : World) (hG : GF w) :
    Calls Tryd.prog 18 #[.string (strOfNums s), .string sb] w fun e w' => e = .returned (.slice (some ⟨w.heap.size, 0, none⟩) (splitC c s).length (splitC c s).length) ∧ w' = w.alloc (.cells (((splitC c s).map strOfNums).map Value.string).toArray 9) := by
  subst hsb
  obtain ⟨m, hm⟩ := hG
  have H := Tryd.strings_Split (strOfNums s) (strOfNums [c]) m w (by rw [strOfNums_size]; omega) hm (by rw [strOfNums_size]; exact Nat.le_refl 1)
  have e := splitB_eq hc s.length (Nat.le_refl _) h
  rw [e.1, e.2] at H
  exact H
theorem pre_calls (s p : List Int) (hs : Byt s) (hp : Byt p) (w : World) :
    Calls Tryd.prog 21 #[.string (strOfNums s), .string (strOfNums p)] w fun e w' => e = .returned (.bool (p.isPrefixOf s)) ∧ w' = w := by
  have H := Tryd.strings_HasPrefix (strOfNums s) (strOfNums p) w
  unfold Lib.hasPrefix at H
  rw [data_u8, data_u8, isPre_map hp hs] at H
  exact H
theorem bytesIn_C {w : World} {A : Option Addr} {xs : List Int} (h : Kd.C (Kd.int .u8) w A xs.length xs) : Lib.BytesIn w A xs.length xs := fun hn => by
  obtain ⟨_, _, h3⟩ := h
  obtain ⟨ad, rfl, hc⟩ := h3 hn
  refine Lib.BytesIn.of_cells (fun i hi => ?_) hn
  obtain ⟨cs, h4, h5, h6⟩ := hc i (xs.getD i 0) (by rw [List.getD_eq_getElem?_getD, List.getElem?_eq_getElem hi]; rfl)
  obtain rfl : cs = [.int .u8 (xs.getD i 0)] := h5
  have := h6 0 _ rfl
  rwa [Nat.add_zero, show i * (Kd.int .u8).sz = i from Nat.mul_one i] at this
def BCut (A : Option Addr) (c : Nat) (b : List Int) (r : List Int × List Int × Bool) (W : World) (e : Ending) (w' : World) : Prop :=
  ∃ A2 c2, e = .returned (.tuple #[.slice A r.1.length c, .slice A2 r.2.1.length c2, .bool r.2.2]) ∧ r.2.1.length ≤ c2 ∧ (∀ W', Kd.C (Kd.int .u8) W' A b.length b → Kd.C (Kd.int .u8) W' A r.1.length r.1 ∧ Kd.C (Kd.int .u8) W' A2 r.2.1.length r.2.1) ∧ ∃ q, w' = W.drewN q
theorem bcut_calls (A : Option Addr) (c : Nat) (b : List Int) (W : World) (g2 : Nat) (fr : Nat × Nat) (hr : Kd.C (Kd.int .u8) W A b.length b) (hc : b.length ≤ c) (hn : A = none → c = 0) (hB : Byt b) (hl : b.length ≤ 800000)
    (hk : W.heap[g2]? = some (.cells #[.int .u8 10, .int .u8 10] 5 fr)) (hG : GF W) :
    Calls Tryd.prog 17 #[.slice A b.length c, .slice (some ⟨g2, 0, none⟩) 2 2] W (BCut A c b (cutL [10, 10] b) W) := by
  obtain ⟨m, hm⟩ := hG
  have hs : Byt [10, 10] := by unfold Byt; decide
  have H := Tryd.bytes_Cut_all A (some ⟨g2, 0, none⟩) b.length c 2 2 b [10, 10] m W rfl rfl hB hs (bytesIn_C hr)
    (fun _ => ⟨g2, 0, rfl, fun i hi => by
      rw [cell_of_row W g2 _ _ 5 fr hk]
      match i, hi with
      | 0, _ => rfl
      | 1, _ => rfl⟩) hn hc (by omega) (by omega) hm
  refine H.mono fun e w' ⟨he, hq⟩ => ?_
  have hi : Lib.index (Lib.bytesOf b) (Lib.bytesOf [10, 10]) = _ := index_cutL (by simp) hs hB
  rw [hi] at he
  unfold Lib.cutV at he
  cases h2 : (cutL [10, 10] b).2.2 with
  | true =>
    have hf := cutL_found h2
    have hlen := cutL_room [10, 10] b h2
    rw [h2] at he
    simp only [if_true, Int.toNat_natCast] at he
    rw [if_pos (by omega)] at he
    unfold BCut
    rw [h2]
    generalize (cutL [10, 10] b).1 = x at *
    generalize (cutL [10, 10] b).2.1 = y at *
    subst hf
    simp only [List.length_append, List.length_cons, List.length_nil] at hlen he hc
    refine ⟨(if c = x.length + 2 then A else A.map (·.add ((x.length + 2) * (Kd.int .u8).sz))), c - (x.length + 2), he.trans ?_, ?_, fun W' hr0 => ⟨?_, ?_⟩, hq⟩
    · unfold Lib.fromV
      rw [show (Kd.int .u8).sz = 1 from rfl, Nat.mul_one]
      rw [show x.length + (0 + 1 + 1) + y.length - (x.length + 2) = y.length by omega]
    · show y.length ≤ c - (x.length + 2)
      omega
    · have q := Kd.C_take (m := x.length) hr0 (by simp)
      have e1 : (x ++ [10, 10] ++ y).take x.length = x := by rw [List.append_assoc, List.take_left]
      rwa [e1] at q
    · have q := Kd.C_drop (m := x.length + 2) (c := c) hr0 (by simp) (by simp; omega)
      have e1 : (x ++ [10, 10] ++ y).drop (x.length + 2) = y := by rw [show x.length + 2 = (x ++ [10, 10]).length by simp, List.drop_left]
      rwa [e1] at q
  | false =>
    have hf := cutL_not h2
    rw [h2] at he
    simp only [Bool.false_eq_true, if_false] at he
    rw [if_neg (by omega)] at he
    unfold BCut
    rw [h2, hf.1, hf.2]
    exact ⟨none, 0, he, Nat.le_refl _, fun W' hr0 => ⟨hr0, Kd.C_nil _ _⟩, hq⟩
end Go.Proofs.YtjkehapbemjnpaaDoor
namespace Go.Proofs.YtjkehapbemjnpaaDoor
open Go.RowKit Kit Cut Pl Num
set_option linter.unusedVariables false
def tL : List (List Int) := [[114, 97, 110, 103, 101], [109, 97, 116, 99, 104], [110, 111, 110, 101], [112, 114, 101, 102, 105, 120], [115, 105, 103, 110], [97, 102, 116, 101, 114]]
def oL : List (List Int) := [[111, 119, 110], [109, 101, 116, 97], [116, 97, 103, 115], [107, 101, 121]]
def nL : List (List Int) := [[105, 100], [117, 110, 116, 105, 108], [109, 111, 115, 116], [102, 114, 111, 109, 45, 105, 100], [117, 112, 108, 111, 97, 100], [110, 111]]
def sL : List (List Int) := [[111, 102, 102], [111, 110], [115, 117, 115, 112, 101, 110, 100, 101, 100]]
def wL : List (List Int) := [[], [109, 97, 107, 101], [100, 114, 111, 112], [115, 116, 97, 116, 101], [98, 117, 99, 107, 101, 116, 115], [112, 117, 116], [103, 101, 116], [104, 101, 97, 100], [100, 101, 108, 101, 116, 101], [108, 105, 115, 116], [118, 101, 114, 115, 105, 111, 110, 115], [99, 111, 112, 121], [116, 97, 103], [104, 111, 108, 100], [116, 105, 99, 107], [98, 101, 103, 105, 110], [112, 97, 114, 116], [102, 105, 110, 105, 115, 104], [97, 98, 111, 114, 116], [116, 117, 114, 110], [115, 116, 101, 112]]
theorem tW_eq : tW = tL.map strOfNums := rfl
theorem oW_eq : oW = oL.map strOfNums := rfl
theorem nW_eq : nW = nL.map strOfNums := rfl
theorem sW_eq : statesL = sL.map strOfNums := rfl
theorem wW_eq : wordsL = wL.map strOfNums := rfl
def findW (ws : List (List Int)) (w : List Int) : Option Nat := ws.findIdx? (fun x => x == w)
instance (s : List Int) : Decidable (Dig s) := by unfold Dig; exact inferInstance
instance (s : List Int) : Decidable (IsNum s) := by unfold IsNum; exact inferInstance
instance (s : List Int) (m : Int) : Decidable (NumOk s m) := by unfold NumOk; exact inferInstance
def most : Int := 1099511627776
def numO (s : List Int) : Option Int := if NumOk s most then some (vfrom 0 s) else none
def numsO : List (List Int) → Option (List Int)
  | [] => some []
  | x :: xs => match numO x with
    | none => none
    | some n => (numsO xs).map (n :: ·)
def otherS (a : AskP) (word value : List Int) : AskP × Int :=
  if word = [102, 114, 111, 109] then ({ a with x16 := (cutL [47] value).1, x17 := (cutL [47] value).2.1 }, 0)
  else if word = [108, 105, 115, 116] then (match numsO (splitC 44 value) with
    | some l => if l.length ≤ 32 then ({ a with x22 := l }, 0) else (a, 4)
    | none => (a, 4))
  else if word = [115, 116, 97, 116, 101] then (match findW sL value with
    | some k => ({ a with x23 := k }, 0)
    | none => (a, 4))
  else (a, 19)
def setS (a : AskP) (word value : List Int) : AskP × Int :=
  match findW tL word with
  | some k => (a.tSet k value, 0)
  | none => match findW oL word with
    | some k => (match Six.dec value with
      | some b => (a.oSet k b, 0)
      | none => (a, 4))
    | none => match findW nL word with
      | some k => (match numO value with
        | some n => (a.nSet k n, 0)
        | none => (a, 4))
      | none => otherS a word value
def firstS (line : List Int) : AskP × Int :=
  match findW wL.tail (cutL [32] line).1 with
  | some k => ({ ask0 with x0 := (k : Int) + 1, x1 := (cutL [47] (cutL [32] line).2.1).1, x2 := (cutL [47] (cutL [32] line).2.1).2.1, x3 := -1, x18 := -1 }, 0)
  | none => (ask0, 19)
def rowsS (seen : List (List Int)) (a : AskP) : List (List Int) → AskP × Int
  | [] => (a, 0)
  | row :: rest =>
    if (cutL [58, 32] row).2.2 = false then (a, 4)
    else if (cutL [58, 32] row).1 ∈ seen then (a, 10)
    else if (setS a (cutL [58, 32] row).1 (cutL [58, 32] row).2.1).2 ≠ 0 then (a, (setS a (cutL [58, 32] row).1 (cutL [58, 32] row).2.1).2)
    else rowsS (seen ++ [(cutL [58, 32] row).1]) (setS a (cutL [58, 32] row).1 (cutL [58, 32] row).2.1).1 rest
def endS (body : List Int) (a : AskP) : AskP × Int := if body ≠ [] ∧ a.x0 ≠ 5 ∧ a.x0 ≠ 16 then (ask0, 4) else ({ a with x4 := body }, 0)
def linesGet (body : List Int) : List (List Int) → AskP × Int
  | [] => (ask0, 19)
  | f :: rest => if (firstS f).2 ≠ 0 then (ask0, (firstS f).2) else if (rowsS [] (firstS f).1 rest).2 ≠ 0 then (ask0, (rowsS [] (firstS f).1 rest).2) else endS body (rowsS [] (firstS f).1 rest).1
def getS (b : List Int) : AskP × Int :=
  if 4096 < (cutL [10, 10] b).1.length then (ask0, 17)
  else if 32 < (splitC 10 (cutL [10, 10] b).1).length then (ask0, 17)
  else linesGet (cutL [10, 10] b).2.1 (splitC 10 (cutL [10, 10] b).1)
def wordS (op : Int) : List Int := if op < 0 ∨ 21 ≤ op then [] else wL.getD op.toNat []
def told (n least : Int) : List Int := if n = least then [] else digits n.toNat
def joinL (l : List (List Int)) : List Int := ([44] : List Int).intercalate l
def pairsOf (a : AskP) : List (List Int × List Int) :=
  [([114, 97, 110, 103, 101], a.x6), ([109, 97, 116, 99, 104], a.x7), ([110, 111, 110, 101], a.x8), ([112, 114, 101, 102, 105, 120], a.x12), ([115, 105, 103, 110], a.x13), ([97, 102, 116, 101, 114], a.x14),
   ([111, 119, 110], Six.enc a.x5), ([109, 101, 116, 97], Six.enc a.x9), ([116, 97, 103, 115], Six.enc a.x10), ([107, 101, 121], Six.enc a.x19),
   ([105, 100], told a.x3 (-1)), ([117, 110, 116, 105, 108], told a.x11 0), ([109, 111, 115, 116], told a.x15 0), ([102, 114, 111, 109, 45, 105, 100], told a.x18 (-1)), ([117, 112, 108, 111, 97, 100], told a.x20 0), ([110, 111], told a.x21 0),
   ([102, 114, 111, 109], if a.x16 = [] ∧ a.x17 = [] then [] else a.x16 ++ 47 :: a.x17),
   ([108, 105, 115, 116], joinL (a.x22.map fun n => digits n.toNat)),
   ([115, 116, 97, 116, 101], if a.x23 = 0 then [] else sL.getD a.x23.toNat [])]
def rowL (word value : List Int) : List Int := if value = [] then [] else 10 :: word ++ 58 :: 32 :: value
def linesS (a : AskP) : List Int := (pairsOf a).flatMap fun p => rowL p.1 p.2
def headS (a : AskP) : List Int := wordS a.x0 ++ (if a.x1 = [] ∧ a.x2 = [] then [] else 32 :: a.x1) ++ (if a.x2 = [] then [] else 47 :: a.x2)
def bytesS (a : AskP) : List Int := headS a ++ linesS a ++ [10, 10] ++ a.x4
def checkS (a : AskP) : Int :=
  if wordS a.x0 = [] then 19 else if a.x23 < 0 ∨ 2 < a.x23 then 4
  else if (-1 ≤ a.x3 ∧ a.x3 ≤ most) ∧ (0 ≤ a.x11 ∧ a.x11 ≤ most) ∧ (0 ≤ a.x15 ∧ a.x15 ≤ most) ∧ (-1 ≤ a.x18 ∧ a.x18 ≤ most) ∧ (0 ≤ a.x20 ∧ a.x20 ≤ most) ∧ (0 ≤ a.x21 ∧ a.x21 ≤ most) ∧ (∀ n ∈ a.x22, 0 ≤ n ∧ n ≤ most) then 0 else 2
def backS (a : AskP) (b : List Int) : List Int × Int := if (getS b).2 ≠ 0 then ([], (getS b).2) else if a = (getS b).1 then (b, 0) else ([], 4)
def putS (a : AskP) : List Int × Int := if checkS a ≠ 0 then ([], checkS a) else backS a (bytesS a)
end Go.Proofs.YtjkehapbemjnpaaDoor
