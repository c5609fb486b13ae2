/- Contracts, by hand, of the program's functions that a range over a function stands in, and of Go's Join: each comes to what its plain function tells; no condition beside those in each theorem. -/
import Derived.RangeFuncBox
import Derived.RangeFuncLeaves
import Derived.RangeFuncCalls
import Derived.Shelf.Abstract
import Derived.WalkKit
import Derived.OwnWalkIn
import Derived.TacticsInMore
import Derived.LoopNIn
import Derived.LoopIn
import Derived.Maps.AppendAt
import Derived.Lib.Hide
import Derived.Lib.TrimByte
import Derived.Test.YtkjmffhkchlkeaaDoorShelf
import Derived.Test.YtkjmffhkchlkeaaDoorQreadx1
import Derived.Test.YtkjmffhkchlkeaaDoorQCutx1
import Derived.Test.YtkjmffhkchlkeaaDoorWMore
namespace Go.Proofs.YtkjmffhkchlkeaaDoor
open Go.RowKit Go.Shelf Go.Proofs.YtkjmffhkchlkeaaDoorW.PrintWords Go.Proofs.YtkjmffhkchlkeaaDoorW.PrintLast
set_option linter.unusedVariables false
set_option linter.unusedSimpArgs false
/-! ### a range over an iterator that keeps its place in a cell of its own -/
section
variable {F : Fence} {n : Nat} {P : Program}
/-- The iterator g, its place in block gb: it hands the words ws to yield, one by one, till yield says no. -/
def Steps (F : Fence) (n : Nat) (P : Program) (g gb : Nat) (ws : List ByteArray) (o : Obj) : Prop :=
  ∀ (l : Nat) (J Jx : List ByteArray → World → Prop),
    (∀ pre W k, J pre W → J pre (W.drewN k)) →
    (∀ pre W v, J pre W → J pre (W.setCell ⟨gb, 0, none⟩ v)) →
    (∀ pre x W, (∃ rest, ws = pre ++ x :: rest) → J pre W → YieldAt F (n - 1) P l #[.string x] W fun e W' =>
      (e = .returned (.bool true) ∧ J (pre ++ [x]) W' ∧ W'.heap[gb]? = W.heap[gb]?) ∨ (e = .returned (.bool false) ∧ Jx (pre ++ [x]) W')) →
    ∀ W, W.heap[gb]? = some o → J [] W →
    CallsIn F n P g #[.func (.yield l) #[] #[], .pointer (some ⟨gb, 0, none⟩)] W fun e W' =>
      (∃ v, e = .returned v) ∧ (J ws W' ∨ ∃ pre x rest, ws = pre ++ x :: rest ∧ Jx (pre ++ [x]) W')
/-- How a round may be left. -/
def LeftAs (gb : Nat) (I Ix : List ByteArray → World → Prop) (s : List ByteArray) (W : World) : Exit → Act → World → Prop
  | .normal, _, W' => KeepsOthers W W' ∧ W'.heap[gb]? = W.heap[gb]? ∧ I s W'
  | .ret, _, W' => KeepsOthers W W' ∧ Ix s W'
  | _, _, _ => False
/-- What is said of the caller's own blocks: it abides what the loop and the iterator turn. -/
def Abides (D : Nat) (I : List ByteArray → World → Prop) : Prop :=
  ∀ s W W' row, I s W → W.grownBy W' row → (∀ r, row = some r → D ≤ r ∧ ∃ o : Obj, W.heap[r]? = some o ∧ o.isCells = false) → I s W'
theorem grown_drewN (W : World) (k : Nat) : W.grownBy (W.drewN k) none := ⟨rfl, rfl, rfl, Nat.le_refl _, fun _ _ _ => rfl⟩
theorem set_keeps {W : World} {gb k : Nat} {o : Obj} (v : Value) (h : W.heap[k]? = some o) (ho : o.isCells = false) : (W.setCell ⟨gb, 0, none⟩ v).heap[k]? = some o :=
  (KeepsOthers.setCell W ⟨gb, 0, none⟩ v).same k o h ho
theorem put_new {w : World} {o : Obj} : (w.alloc o).heap[w.heap.size]? = some o := World.alloc_heap_new w o
theorem wpIn_range_steps {g : Operand} {p : Tmp} {assign body : Code} {Q : Exit → Act → World → Prop} {a : Act} {w : World} (hro : F.round = none) (h1 : 1 ≤ n) {gf gb : Nat} {o : Obj}
    (hg : a.eval g = .func (.func gf) #[] #[.pointer (some ⟨gb, 0, none⟩)]) (hFg : F.fn gf) (eg : ∀ args w, (callFunc gf args).run P w = .ok (.enter gf args) w)
    {ws : List ByteArray} (hs : Steps F (n - 1) P gf gb ws o) (hgb : w.heap[gb]? = some o) (I Ix : List ByteArray → World → Prop) (hI : Abides w.heap.size I) (hIs : ∀ s W v, I s W → I s (W.setCell ⟨gb, 0, none⟩ v)) (hIx : Abides w.heap.size Ix) (h0 : I [] w) (a₁ : ByteArray → Act)
    (hassign : ∀ (l : Nat) (x : ByteArray) (W : World) (K : Act → World → Prop), K (a₁ x) W →
      assign.wpIn (F.inRound l) (n - 1 - 1) P (Exit.then K (fun _ _ _ => False)) { tmps := ((#[p] : Array Tmp).zip #[Value.string x]).foldl (fun t (p, v) => t.setIfInBounds p v) a.tmps, defers := [] } W)
    (hbody : ∀ (l : Nat) (pre : List ByteArray) (x : ByteArray) (W : World), (∃ rest, ws = pre ++ x :: rest) → I pre W → body.wpIn (F.inRound l) (n - 1 - 1) P (LeftAs gb I Ix (pre ++ [x]) W) (a₁ x) W)
    (hdone : ∀ (D : Nat) (W : World), w.heap.size ≤ D → I ws W → W.heap[D]? = some (.deferred (some [])) → Q .normal { a with defers := { target := .collected D, args := #[] } :: a.defers } W)
    (hstop : ∀ (D : Nat) (pre : List ByteArray) (x : ByteArray) (rest : List ByteArray) (W : World), w.heap.size ≤ D → ws = pre ++ x :: rest → Ix (pre ++ [x]) W → W.heap[D]? = some (.deferred (some [])) →
      Code.ret.wpIn F n P Q { a with defers := { target := .collected D, args := #[] } :: a.defers } W) :
    (Code.rangeFunc g #[p] assign body).wpIn F n P Q a w := by
  refine wpIn_rangeFunc fun fn hfn => ?_
  rw [hro]
  let rec_ : LoopState → Option Code → Loop := fun st pe => { state := st, pending := pe, fn := fn, tmps := a.tmps, params := #[p], assign := assign, body := body, defers := w.heap.size }
  have hlt : gb < w.heap.size := (Array.getElem?_eq_some_iff.1 hgb).1
  -- the two blocks that the statement lays
  let L := w.heap.size + 1
  let W1 := (w.alloc (.deferred (some []))).alloc (.loop (rec_ .ready none))
  have hL1 : W1.heap[L]? = some (.loop (rec_ .ready none)) := by
    have := put_new (w := w.alloc (.deferred (some []))) (o := .loop (rec_ .ready none))
    rwa [World.size_alloc] at this
  have hD1 : W1.heap[w.heap.size]? = some (.deferred (some [])) := (Below.heap_alloc _ _ _ (by simp)).trans put_new
  have hg1 : W1.heap[gb]? = some o := (Below.heap_alloc _ _ _ (by simp; omega)).trans ((Below.heap_alloc _ _ _ hlt).trans hgb)
  have hI1 : I [] W1 := hI _ _ _ none (hI _ _ _ none h0 (World.grownBy_alloc w _ none) (fun r e => by cases e)) (World.grownBy_alloc _ _ none) (fun r e => by cases e)
  refine ⟨L, [{ target := .collected w.heap.size, args := #[] }], W1, { target := .fn (.func gf) #[.pointer (some ⟨gb, 0, none⟩)], args := #[.func (.yield L) #[] #[]] }, W1, gf,
    #[.func (.yield L) #[] #[], .pointer (some ⟨gb, 0, none⟩)], W1, run_enterLoop_outer _ _ _ _ _, ?_, ?_, ?_, fun _ => h1, ?_⟩
  · simp only [resolve, hg]
    simp [go_sem]
  · intro f' hf'
    simp [Target.leads] at hf'
    exact hf' ▸ hFg
  · simp [invoke, go_sem, eg]
  have turn : ∀ {A : World} {st : LoopState} {pe : Option Code} (o' : Obj) (X : List ByteArray → World → Prop) (s : List ByteArray), Abides w.heap.size X → X s A → A.heap[L]? = some (.loop (rec_ st pe)) → X s (A.putObj L o') := by
    intro A st pe o' X s hX hx hl
    refine hX _ _ _ (some L) hx (grownBy_putObj' A L o') fun r e => ?_
    cases e
    exact ⟨Nat.le_succ _, _, hl, rfl⟩
  have refl1 : ∀ {A : World} {o' : Obj} {k : Nat}, k ≠ L → (A.putObj L o').heap[k]? = A.heap[k]? := fun hk => World.putObj_heap_other hk
  refine (hs L (fun s W => I s W ∧ W.heap[L]? = some (.loop (rec_ .ready none)) ∧ W.heap[w.heap.size]? = some (.deferred (some [])))
    (fun s W => Ix s W ∧ W.heap[L]? = some (.loop (rec_ .done (some .ret))) ∧ W.heap[w.heap.size]? = some (.deferred (some [])))
    (fun pre W k ⟨hi, hl, hd⟩ => ⟨hI _ _ _ none hi (grown_drewN W k) (fun r e => by cases e), hl, hd⟩)
    (fun pre W v ⟨hi, hl, hd⟩ => ⟨hIs _ _ _ hi, set_keeps v hl rfl, set_keeps v hd rfl⟩) ?_ W1 hg1 ⟨hI1, hL1, hD1⟩).mono ?_
  · -- one round
    rintro pre x W hrest ⟨hi, hl, hd⟩
    have hy := run_yield (P := P) (args := #[.string x]) hl rfl
    refine ⟨fn, _, assign, body, hy, roundIn_of_wpIn hfn ?_⟩
    refine hassign L x W _ ?_
    refine ⟨_, run_beginRound hl rfl, ?_⟩
    have hlL : L < W.heap.size := (Array.getElem?_eq_some_iff.1 hl).1
    have hl2 : (W.putObj L (.loop (rec_ .busy none))).heap[L]? = some (.loop (rec_ .busy none)) := World.putObj_heap_same hlL
    have hd2 : (W.putObj L (.loop (rec_ .busy none))).heap[w.heap.size]? = some (.deferred (some [])) := (refl1 (by omega)).trans hd
    refine wpIn_mono (hbody L pre x _ hrest (turn _ I _ hI hi hl)) ?_
    intro e a3 W3 hp
    cases e with
    | normal =>
      obtain ⟨hk, hgb3, hi3⟩ := hp
      have hl3 := hk.same _ _ hl2 rfl
      have hr := run_endRound (P := P) none hl3
      refine ⟨_, _, hr, Or.inl ⟨rfl, ⟨turn _ I _ hI hi3 hl3, World.putObj_heap_same (Array.getElem?_eq_some_iff.1 hl3).1, (refl1 (by omega)).trans (hk.same _ _ hd2 rfl)⟩, ?_⟩⟩
      exact (refl1 (by omega)).trans (hgb3.trans (refl1 (by omega)))
    | ret =>
      obtain ⟨hk, hi3⟩ := hp
      have hl3 := hk.same _ _ hl2 rfl
      have hr := run_endRound (P := P) (some .ret) hl3
      exact ⟨_, _, hr, Or.inr ⟨rfl, turn _ Ix _ hIx hi3 hl3, World.putObj_heap_same (Array.getElem?_eq_some_iff.1 hl3).1, (refl1 (by omega)).trans (hk.same _ _ hd2 rfl)⟩⟩
    | exit id => exact hp.elim
    | goto t => exact hp.elim
    | panic c => exact hp.elim
    | outgrown => exact hp.elim
  · -- behind the iterator
    rintro e W2 ⟨⟨v, rfl⟩, ⟨hi, hl, hd⟩ | ⟨pre, x, rest, hw, hi, hl, hd⟩⟩
    · exact ⟨none, _, run_endLoop hl (by simp [rec_]), hdone _ _ (Nat.le_refl _) (turn _ I _ hI hi hl) ((refl1 (by omega)).trans hd)⟩
    · exact ⟨some .ret, _, run_endLoop hl (by simp [rec_]), hstop _ pre x rest _ (Nat.le_refl _) hw (turn _ Ix _ hIx hi hl) ((refl1 (by omega)).trans hd)⟩
end
/-! ### the parts of a line -/
def comma : ByteArray := ⟨#[44]⟩
def trimS (b : ByteArray) : ByteArray := ⟨(Lib.trimB b.data.toList 32).toArray⟩
/-- The parts of a line, blanks about them left out (so many at most). -/
def words : Nat → ByteArray → List ByteArray
  | 0, _ => []
  | k + 1, s => if s.toList = [] then [] else match QCut.strings_Cut.f s comma with
    | some (p, r, _) => trimS p :: words k r
    | none => []
theorem cut_total (s : ByteArray) (hs : s.size ≤ 140737488351232) : ∃ p r b, QCut.strings_Cut.f s comma = some (p, r, b) ∧ p.size ≤ s.size ∧ (s.size ≠ 0 → r.size < s.size) := by
  unfold QCut.strings_Cut.f QCut.stringslite_Cut.f QCut.stringslite_Index.f
  have h1 : comma.size = 1 := rfl
  rw [if_pos h1, Option.bind_some]
  have hle := Lib.index_le s.data.toList [44]
  have hro := Lib.index_room s.data.toList [44]
  rw [Lib.index_one] at hle hro
  rw [show comma.data.toList.getD 0 0 = 44 from rfl]
  have hsz : (s.data.toList.length : Int) = s.size := by rw [Array.length_toList]; rfl
  rw [hsz] at hle hro
  generalize Lib.indexByte s.data.toList 44 = i at *
  by_cases hi : i ≥ 0
  · have hro := hro hi
    simp only [List.length_singleton] at hro
    have hw : wrap64 (i + (comma.size : Int)) = i + 1 := by rw [h1]; unfold wrap64; omega
    rw [if_pos hi, if_pos hi, if_pos (by omega), hw, if_pos (by omega), if_pos (by omega), Option.bind_some]
    refine ⟨_, _, _, rfl, ?_, fun _ => ?_⟩
    · rw [ByteArray.size_extract]; omega
    · rw [ByteArray.size_extract]; omega
  · rw [if_neg hi, Option.bind_some]
    exact ⟨_, _, _, rfl, Nat.le_refl _, fun h => by show 0 < s.size; omega⟩
theorem words_nil (k : Nat) (s : ByteArray) (h : s.toList = []) : words k s = [] := by
  cases k with
  | zero => rfl
  | succ k => unfold words; rw [if_pos h]
/-- strings.Trim at a blank: a draw at the most. -/
theorem trim_calls (s : ByteArray) (w : World) (hs : s.size ≤ 140737488351232) :
    Calls Tryd.prog 19 #[.string s, .string ⟨#[32]⟩] w fun e w' => e = .returned (.string (trimS s)) ∧ ∃ k, w' = w.drewN k :=
  (Tryd.strings_Trim_one s 32 (by decide) w (by omega)).mono fun e w' ⟨he, hw⟩ => ⟨he, by
    rcases hw with rfl | rfl
    · exact ⟨0, rfl⟩
    · exact ⟨1, rfl⟩⟩
theorem cut_calls (s p r : ByteArray) (b : Bool) (w : World) (h : QCut.strings_Cut.f s comma = some (p, r, b)) :
    Calls Tryd.prog 36 #[.string s, .string ⟨#[44]⟩] w fun e w' => e = .returned (.tuple #[.string p, .string r, .bool b]) ∧ ∃ k, w' = w.drewN k :=
  (QCut.strings_Cut.calls s comma p r b w h).mono fun e w' ⟨he, hw⟩ => ⟨he, hw.out⟩
attribute [local go_sem] Oper.semAt_some
def placeOf (gb : Nat) (W : World) : Nat := match W.cell? ⟨gb, 0, none⟩ with
  | some (.string s) => s.size
  | _ => 0
set_option maxRecDepth 100000 in
set_option maxHeartbeats 2000000 in
theorem iter_steps (gb : Nat) (s : ByteArray) (n : Nat) (hn : 1 ≤ n) (hs : s.size ≤ 140737488351232) :
    Steps Fence.wide n Tryd.prog 35 gb (words (s.size + 1) s) (.cells #[.string s] 9) := by
  intro l J Jx hJd hJc hY W hgb hJ0
  have hcell : ∀ {A : World} {x : ByteArray}, A.heap[gb]? = some (.cells #[.string x] 9) → A.cell? ⟨gb, 0, none⟩ = some (.string x) ∧ A.frozen? ⟨gb, 0, none⟩ = false := fun h => ⟨by simp [World.cell?, h], by simp [World.frozen?, h]⟩
  refine callsIn_of_wp Tryd.func35 rfl trivial ?_ rfl
  simp only [Tryd.ntmps35, List.size_toArray, List.length_cons, List.length_nil, Nat.reduceAdd, Nat.reduceSub, Array.replicate_succ, Array.replicate_zero, List.push_toArray, List.append_toArray, List.nil_append, List.cons_append]
  gi_wp2
  gi_loopw [3] (fun _ wr => ∃ (pre : List ByteArray) (t : ByteArray) (k : Nat), wr.heap[gb]? = some (.cells #[.string t] 9) ∧ words (s.size + 1) s = pre ++ words k t ∧ t.size < k ∧ t.size ≤ s.size ∧ J pre wr)
    (fun _ wr => placeOf gb wr)
  case atStart => exact ⟨[], s, s.size + 1, hgb, rfl, by omega, Nat.le_refl _, hJ0⟩
  case round =>
    obtain ⟨pre, t, k, hb, hw, hk, hts, hJs⟩ := hrel
    obtain ⟨hc, hf⟩ := hcell hb
    obtain ⟨k, rfl⟩ : ∃ m, k = m + 1 := ⟨k - 1, by omega⟩
    have Hw := Lib.hid hw
    clear hw
    by_cases ht : t.toList = []
    · have hb1 : (t.toList == []) = true := by rw [ht]; rfl
      gi_wp2
      go_end0
      refine ⟨⟨_, rfl⟩, .inl ?_⟩
      rw [Hw.out, words_nil _ _ ht, List.append_nil]
      exact hJs
    · have hb1 : (t.toList == []) = false := beq_eq_false_iff_ne.2 ht
      have ht0 : t.size ≠ 0 := fun h0 => ht (by
        rw [Lib.toList_data]
        have : t.data.size = 0 := h0
        exact List.eq_nil_of_length_eq_zero (by rw [Array.length_toList]; exact this))
      obtain ⟨p, r, b, hcut, hp, hr⟩ := cut_total t (by omega)
      have hr := hr ht0
      have Hc := Lib.hid hcut
      clear hcut
      gi_wp2_with fail
      refine ⟨trivial, ?_⟩
      refine (callsIn_wide.2 (cut_calls t p r b _ Hc.out)).mono ?_
      rintro e w1 ⟨rfl, k1, hk1⟩
      have hb2 : w1.heap[gb]? = some (.cells #[.string t] 9) := by rw [hk1]; exact hb
      have hJ1 : J pre w1 := by rw [hk1]; exact hJd _ _ _ hJs
      clear hk1
      gi_wp2_with fail
      refine ⟨trivial, ?_⟩
      refine (callsIn_wide.2 (trim_calls p _ (by omega))).mono ?_
      rintro e w2 ⟨rfl, k2, hk2⟩
      have hb3 : w2.heap[gb]? = some (.cells #[.string t] 9) := by rw [hk2]; exact hb2
      have hJ2 : J pre w2 := by rw [hk2]; exact hJd _ _ _ hJ1
      clear hk2
      have Hk := Lib.hid (show words (s.size + 1) s = pre ++ trimS p :: words k r from by
        rw [Hw.out]
        conv => lhs; unfold words
        rw [if_neg ht, Hc.out])
      obtain ⟨fn, tmps, assign, body, hy, hR⟩ := hY pre (trimS p) w2 ⟨_, Hk.out⟩ hJ2
      gi_wp2_with fail
      refine hR.mono ?_
      rintro e w3 (⟨rfl, hJ3, hk3⟩ | ⟨rfl, hJx3⟩)
      · have hb4 : w3.heap[gb]? = some (.cells #[.string t] 9) := hk3.trans hb3
        clear hk3
        obtain ⟨hc4, hf4⟩ := hcell hb4
        gi_wp2
        go_roundw
        case rel =>
          refine ⟨pre ++ [trimS p], r, k, Boxed.set (t := 9) _ hb4, ?_, by omega, by omega, hJc _ _ _ hJ3⟩
          rw [Hk.out, List.append_assoc]
          rfl
        case measure =>
          have e1 : placeOf gb (w3.setCell ⟨gb, 0, none⟩ (.string r)) = r.size := by
            unfold placeOf
            rw [(hcell (Boxed.set (t := 9) (.string r) hb4)).1]
          have e2 : placeOf gb wr = t.size := by
            unfold placeOf
            rw [hc]
          rw [e1, e2]
          exact hr
      · gi_wp2
        refine bodyPost_ret (results_none rfl _ _ _) rfl ?_
        exact ⟨⟨_, rfl⟩, .inr ⟨pre, trimS p, words k r, Hk.out, hJx3⟩⟩
set_option maxHeartbeats 1000000 in
/-- The iterator of a line's parts: its place lies in a block of its own. -/
theorem parts_calls (s : ByteArray) (w : World) :
    Calls Tryd.prog 20 #[.string s] w fun e w' => e = .returned (.func (.func 35) #[] #[.pointer (some ⟨w.heap.size, 0, none⟩)]) ∧ w' = w.alloc (.cells #[.string s] 9) := by
  go_enter Tryd.func20, Tryd.ntmps20
  go_wp2
  go_ret
  exact ⟨rfl, rfl⟩
/-! ### Parse -/
def readS (s : ByteArray) : Option (Int × Bool) := Qread.cond_read.f (s.size + 10) s
/-- The versions of tags, one by one: none: not told; false: a tag is none, or there are too many. -/
def takes : List ByteArray → List Int → Option (Bool × List Int)
  | [], vals => some (true, vals)
  | p :: ps, vals => match readS p with
    | none => none
    | some (n, ok) => if ok = true ∧ vals.length < 8 then takes ps (vals ++ [n]) else some (false, [])
def cond_Parse.f (a0 : ByteArray) : Option (Bool × Bool × List Int × Int) :=
  if a0.size ≤ 100000 then
    if a0.toList = [] then some (false, false, [], 0) else
    if (trimS a0).toList = [42] then some (true, true, [], 0) else
    match takes (words (a0.size + 1) a0) [] with
    | none => none
    | some (true, vals) => some (true, false, vals, 0)
    | some (false, _) => some (false, false, [], 4)
  else none
theorem Tryd.infoInt : (Tryd.prog.info? 3).map (fun i => (i.zero, i.size, i.bytes)) = some (some (.int .i64 0), 1, 8) := by kernel_rfl
attribute [local go_sem] Oper.semAt_some
abbrev lst (b1 b2 : Bool) (v : Value) : Obj := .cells #[.bool b1, .bool b2, v] 26 (0, 0)
abbrev cod (c : Int) : Obj := .cells #[.int .i64 c] 27 (0, 0)
theorem parse_results (tmps : Array Value) (W : World) (g2 g3 : Nat) (b1 b2 : Bool) (v : Value) (c : Int) (hp : tmps.getD 2 undef = .pointer (some ⟨g2, 0, none⟩)) (hp' : tmps.getD 3 undef = .pointer (some ⟨g3, 0, none⟩))
    (h2 : W.heap[g2]? = some (lst b1 b2 v)) (h3 : W.heap[g3]? = some (cod c)) : (results Tryd.f7 tmps).run Tryd.prog W = .ok (.tuple #[.agg #[.bool b1, .bool b2, v], .int .i64 c]) W := by
  have e1 : tmps[2]?.getD undef = .pointer (some ⟨g2, 0, none⟩) := by simpa using hp
  have e2 : tmps[3]?.getD undef = .pointer (some ⟨g3, 0, none⟩) := by simpa using hp'
  have hc : W.cell? ⟨g3, 0, none⟩ = some (.int .i64 c) := blk_cell h3 0
  have h20 : W.cell? ⟨g2, 0, none⟩ = some (.bool b1) := blk_cell h2 0
  have h21 : W.cell? ⟨g2, 1, none⟩ = some (.bool b2) := blk_cell h2 1
  have h22 : W.cell? ⟨g2, 2, none⟩ = some v := blk_cell h2 2
  simp [results, Tryd.results7, e1, e2, asAddr, go_sem, hc, h20, h21, h22]
/-- What the call must leave. -/
def Fin (w : World) (r1 r2 : Bool) (r3 : List Int) (r4 : Int) (e : Ending) (w' : World) : Prop :=
  ∃ v2_ : Value, e = .returned (.tuple #[.agg #[.bool r1, .bool r2, v2_], .int .i64 r4]) ∧ Kd.R (Kd.int .i64) 3 w' w.heap.size (fun _ => True) v2_ r3 ∧ Below w.heap.size w w'
theorem fin_mk {w W : World} {tmps : Array Value} {g2 g3 : Nat} {b1 b2 : Bool} {v : Value} {c : Int} {r3 : List Int} (hp : tmps.getD 2 undef = .pointer (some ⟨g2, 0, none⟩)) (hp' : tmps.getD 3 undef = .pointer (some ⟨g3, 0, none⟩))
    (h2 : W.heap[g2]? = some (lst b1 b2 v)) (h3 : W.heap[g3]? = some (cod c)) (hr : Kd.R (Kd.int .i64) 3 W w.heap.size (fun _ => True) v r3) (hb : Below w.heap.size w W) :
    LeavesIn Fence.wide 3 Tryd.prog Tryd.f7 tmps (Fin w b1 b2 r3 c) [] .returning W :=
  ⟨_, parse_results tmps W g2 g3 b1 b2 v c hp hp' h2 h3, v, rfl, hr, hb⟩
/-- Between two rounds. -/
def Inv (w : World) (g2 g3 gl gb : Nat) (pre : List ByteArray) (W : World) : Prop :=
  ∃ (v : Value) (vals : List Int), (∀ rest, takes (pre ++ rest) [] = takes rest vals) ∧ vals.length ≤ 8 ∧ (∃ u, Boxed W gb 9 u) ∧ W.heap[g2]? = some (lst false false (.slice none 0 0)) ∧ W.heap[g3]? = some (cod 0) ∧
    W.heap[gl]? = some (lst true false v) ∧ W.ownsRow w.heap.size 3 1 v vals.length (nums .i64 vals) ∧ Below w.heap.size w W
/-- Where a round has said no more. -/
def InvX (w : World) (g2 g3 : Nat) (pre : List ByteArray) (W : World) : Prop :=
  (∀ rest, takes (pre ++ rest) [] = some (false, [])) ∧ W.heap[g2]? = some (lst false false (.slice none 0 0)) ∧ W.heap[g3]? = some (cod 4) ∧ Below w.heap.size w W
theorem blk_turn {W W' : World} {g D : Nat} {row : Option Nat} {cs : Array Value} {t : TypeId} (h : W.heap[g]? = some (.cells cs t (0, 0))) (hg : W.grownBy W' row) (hr : ∀ r, row = some r → D ≤ r ∧ ∃ o : Obj, W.heap[r]? = some o ∧ o.isCells = false) : W'.heap[g]? = some (.cells cs t (0, 0)) := by
  refine (hg.block g (blk_lt h) fun e => ?_).trans h
  obtain ⟨_, o, ho, hc⟩ := hr g e.symm
  rw [h] at ho; cases ho; cases hc
/-- A block of another type is none of the row's. -/
theorem row_ne {W : World} {base g k : Nat} {v : Value} {xs : List Value} {cs : Array Value} {t : TypeId} (h : W.ownsRow base 3 1 v k xs) (hb : W.heap[g]? = some (.cells cs t (0, 0))) (ht : t ≠ 3) : v.ownBlock = none ∨ v.ownBlock ≠ some g := by
  rcases h.2 with ⟨rfl, _⟩ | ⟨g', cap, cur, rfl, _, hgb, _⟩
  · exact .inl rfl
  · refine .inr fun e => ?_
    obtain rfl : g' = g := by simpa [Value.ownBlock] using e
    rw [hb] at hgb
    simp at hgb
    exact ht hgb.2
theorem inv_abides {w : World} {g2 g3 gl gb D : Nat} (hD : w.heap.size ≤ D) : Abides D (Inv w g2 g3 gl gb) := by
  rintro s W W' row ⟨v, vals, a1, a2, ⟨u, a3⟩, a4, a5, a6, a7, a8⟩ hg hr
  refine ⟨v, vals, a1, a2, ⟨u, blk_turn a3 hg hr⟩, blk_turn a4 hg hr, blk_turn a5 hg hr, blk_turn a6 hg hr, a7.kept hg ?_, a8.grown hg a8.size (fun k e => by have := (hr k e).1; omega)⟩
  rcases a7.2 with ⟨rfl, _⟩ | ⟨g, cap, cur, rfl, _, hgb, _⟩
  · exact .inl rfl
  · refine .inr fun e => ?_
    obtain ⟨_, o, ho, hc⟩ := hr g e.symm
    rw [hgb] at ho; cases ho; cases hc
theorem inv_set {w : World} {g2 g3 gl gb : Nat} (hn : w.heap.size ≤ gb) (h2 : g2 ≠ gb) (h3 : g3 ≠ gb) (hl : gl ≠ gb) (s : List ByteArray) (W : World) (x : Value) : Inv w g2 g3 gl gb s W → Inv w g2 g3 gl gb s (W.setCell ⟨gb, 0, none⟩ x) := by
  rintro ⟨v, vals, a1, a2, ⟨u, a3⟩, a4, a5, a6, a7, a8⟩
  exact ⟨v, vals, a1, a2, ⟨x, a3.set x⟩, blk_far a4 h2 _, blk_far a5 h3 _, blk_far a6 hl _, a7.kept (grownBy_setCell' W gb x) (row_ne a7 a3 (by decide)), a8.setCell hn _⟩
theorem invx_abides {w : World} {g2 g3 D : Nat} (hD : w.heap.size ≤ D) : Abides D (InvX w g2 g3) := by
  rintro s W W' row ⟨a1, a4, a5, a8⟩ hg hr
  exact ⟨a1, blk_turn a4 hg hr, blk_turn a5 hg hr, a8.grown hg a8.size (fun k e => by have := (hr k e).1; omega)⟩
theorem grown_set (W : World) (p : Addr) (v : Value) : W.grownBy (W.setCell p v) (some p.block) :=
  ⟨rfl, rfl, rfl, (KeepsWalks.setCell W _ v).size, fun k _ hk => Below.heap_setCell _ _ _ k (fun e => hk (by rw [e]))⟩
theorem grown_blk {W W1 : World} {g k base : Nat} {cs : Array Value} {t : TypeId} {o : Obj} {v : Value} {xs : List Value} (h : W.heap[g]? = some (.cells cs t (0, 0))) (hr : W.ownsRow base 3 1 v k xs) (ht : t ≠ 3) (hg : (W.alloc o).grownBy W1 v.ownBlock) : W1.heap[g]? = some (.cells cs t (0, 0)) := by
  refine (hg.block g (blk_lt (blk_alloc h o)) ?_).trans (blk_alloc h o)
  rcases row_ne hr h ht with h0 | h0
  · rw [h0]; simp
  · exact fun e => h0 e.symm
theorem takes_on {pre : List ByteArray} {vals : List Int} {x : ByteArray} {nn : Int} (a1 : ∀ rest, takes (pre ++ rest) [] = takes rest vals) (hr : readS x = some (nn, true)) (hl : vals.length < 8) : ∀ rest, takes ((pre ++ [x]) ++ rest) [] = takes rest (vals ++ [nn]) := by
  intro rest
  rw [List.append_assoc, a1, List.singleton_append]
  conv => lhs; unfold takes
  rw [hr]
  simp [hl]
theorem takes_off {pre : List ByteArray} {vals : List Int} {x : ByteArray} {nn : Int} {ok : Bool} (a1 : ∀ rest, takes (pre ++ rest) [] = takes rest vals) (hr : readS x = some (nn, ok)) (hl : ¬ (ok = true ∧ vals.length < 8)) : ∀ rest, takes ((pre ++ [x]) ++ rest) [] = some (false, []) := by
  intro rest
  rw [List.append_assoc, a1, List.singleton_append]
  conv => lhs; unfold takes
  rw [hr]
  simp only [if_neg hl]
theorem round_on {w W W1 w3 : World} {g2 g3 gl gb : Nat} {pre : List ByteArray} {vals : List Int} {x : ByteArray} {nn : Int} {v v' u : Value} (kW : KeepsOthers W W1) (gW : W1.heap[gb]? = W.heap[gb]?) (a1 : ∀ rest, takes (pre ++ rest) [] = takes rest vals) (hr : readS x = some (nn, true)) (hl : vals.length < 8)
    (b9 : Boxed W1 gb 9 u) (b4 : W1.heap[g2]? = some (lst false false (.slice none 0 0))) (b5 : W1.heap[g3]? = some (cod 0)) (b6 : W1.heap[gl]? = some (lst true false v)) (b7 : W1.ownsRow w.heap.size 3 1 v vals.length (nums .i64 vals)) (b8 : Below w.heap.size w W1)
    (hown : w3.ownsRow w.heap.size 3 1 v' (vals.length + 1) (nums .i64 vals ++ [.int .i64 nn])) (hg : (W1.alloc (.cells #[.int .i64 nn] 3)).grownBy w3 v.ownBlock) (h2 : g2 ≠ gl) (h3 : g3 ≠ gl) (hb : gb ≠ gl) (hgl : w.heap.size ≤ gl) :
    KeepsOthers W (w3.setCell ⟨gl, 2, none⟩ v') ∧ (w3.setCell ⟨gl, 2, none⟩ v').heap[gb]? = W.heap[gb]? ∧ Inv w g2 g3 gl gb (pre ++ [x]) (w3.setCell ⟨gl, 2, none⟩ v') := by
  have c9 := grown_blk b9 b7 (by decide) hg
  have c4 := grown_blk b4 b7 (by decide) hg
  have c5 := grown_blk b5 b7 (by decide) hg
  have c6 := grown_blk b6 b7 (by decide) hg
  refine ⟨?_, ?_, v', vals ++ [nn], takes_on a1 hr hl, by simp; omega, ⟨u, blk_far c9 hb _⟩, blk_far c4 h2 _, blk_far c5 h3 _, blk_put c6 2 _ rfl, ?_, ?_⟩
  · refine kW.trans ((KeepsOthers.alloc W1 _).trans ((KeepsOthers.of_grownBy hg fun j o ej hj => ?_).trans (KeepsOthers.setCell _ _ _)))
    rcases (b7.alloc (.cells #[.int .i64 nn] 3)).2 with ⟨rfl, _⟩ | ⟨g, cap, cur, rfl, _, hgb, _⟩
    · simp [Value.ownBlock] at ej
    · obtain rfl : g = j := by simpa [Value.ownBlock] using ej
      rw [hgb] at hj; cases hj; rfl
  · rw [show W.heap[gb]? = some (.cells #[u] 9 (0, 0)) from gW.symm.trans b9]
    exact blk_far c9 hb _
  · have e1 : (vals ++ [nn]).length = vals.length + 1 := by simp
    have e2 : nums .i64 (vals ++ [nn]) = nums .i64 vals ++ [.int .i64 nn] := by simp [nums]
    rw [e1, e2]
    exact hown.kept (grown_set w3 ⟨gl, 2, none⟩ v') (row_ne hown c6 (by decide))
  · refine ((b8.alloc b8.size _).grown hg (by have := b8.size; simp; omega) fun k e => ?_).setCell hgl v'
    rcases b7.2 with ⟨rfl, _⟩ | ⟨g, cap, cur, rfl, hbg, _⟩
    · simp [Value.ownBlock] at e
    · obtain rfl : g = k := by simpa [Value.ownBlock] using e
      exact hbg
theorem round_off {w W W1 : World} {g2 g3 : Nat} {pre : List ByteArray} {vals : List Int} {x : ByteArray} {nn : Int} {ok : Bool} (kW : KeepsOthers W W1) (a1 : ∀ rest, takes (pre ++ rest) [] = takes rest vals) (hr : readS x = some (nn, ok)) (hl : ¬ (ok = true ∧ vals.length < 8))
    (b4 : W1.heap[g2]? = some (lst false false (.slice none 0 0))) (b5 : W1.heap[g3]? = some (cod 0)) (b8 : Below w.heap.size w W1) (h2 : g2 ≠ g3) (hg2 : w.heap.size ≤ g2) (hg3 : w.heap.size ≤ g3) :
    KeepsOthers W ((((W1.setCell ⟨g2, 0, none⟩ (.bool false)).setCell ⟨g2, 1, none⟩ (.bool false)).setCell ⟨g2, 2, none⟩ (.slice none 0 0)).setCell ⟨g3, 0, none⟩ (.int .i64 4)) ∧
    InvX w g2 g3 (pre ++ [x]) ((((W1.setCell ⟨g2, 0, none⟩ (.bool false)).setCell ⟨g2, 1, none⟩ (.bool false)).setCell ⟨g2, 2, none⟩ (.slice none 0 0)).setCell ⟨g3, 0, none⟩ (.int .i64 4)) := by
  refine ⟨kW.trans ((((KeepsOthers.setCell _ _ _).trans (KeepsOthers.setCell _ _ _)).trans (KeepsOthers.setCell _ _ _)).trans (KeepsOthers.setCell _ _ _)), takes_off a1 hr hl, ?_, ?_, ?_⟩
  · exact blk_far (blk_put (blk_put (blk_put b4 0 _ rfl) 1 _ rfl) 2 _ rfl) h2 _
  · exact blk_put (cs := #[.int .i64 0]) (blk_far (blk_far (blk_far b5 h2.symm _) h2.symm _) h2.symm _) 0 _ rfl
  · exact (((b8.setCell hg2 _).setCell hg2 _).setCell hg2 _).setCell hg3 _
theorem put_blk {W : World} {g D : Nat} {cs : Array Value} {t : TypeId} {o : Obj} (h : W.heap[g]? = some (.cells cs t (0, 0))) (hK : W.heap[D]? = some (.deferred (some []))) : (W.putObj D o).heap[g]? = some (.cells cs t (0, 0)) :=
  (World.putObj_heap_other (fun e => by subst e; rw [h] at hK; cases hK)).trans h
theorem put_below {w W : World} {D : Nat} {o : Obj} (h : Below w.heap.size w W) (hD : w.heap.size ≤ D) : Below w.heap.size w (W.putObj D o) := h.grown (grownBy_putObj' W D o) h.size (fun k e => by cases e; exact hD)
set_option maxRecDepth 100000 in
set_option maxHeartbeats 4000000 in
theorem cond_Parse.calls (a0 : ByteArray) (r1 : Bool) (r2 : Bool) (r3 : List Int) (r4 : Int) (w : World) (h : cond_Parse.f a0 = some (r1, r2, r3, r4)) :
    Calls Tryd.prog 7 #[.string a0] w fun e w' => ∃ v2_ : Value, e = .returned (.tuple #[.agg #[.bool r1, .bool r2, v2_], .int .i64 r4]) ∧ Kd.R (Kd.int .i64) 3 w' w.heap.size (fun _ => True) v2_ r3 ∧ Below w.heap.size w w' := by
  have hs : a0.size ≤ 100000 := by
    unfold cond_Parse.f at h
    by_cases hs : a0.size ≤ 100000
    · exact hs
    · rw [if_neg hs] at h; cases h
  unfold cond_Parse.f at h
  rw [if_pos hs] at h
  have hu26 := Tryd.underlying26
  refine (callsIn_wide (n := 3)).1 ?_
  show CallsIn Fence.wide 3 Tryd.prog 7 #[.string a0] w (Fin w r1 r2 r3 r4)
  refine callsIn_of_wp_marks Tryd.func7 rfl trivial ?_
  simp only [Tryd.ntmps7, List.size_toArray, List.length_cons, List.length_nil, Nat.reduceAdd, Nat.reduceSub, Array.replicate_succ, Array.replicate_zero, List.push_toArray, List.append_toArray, List.nil_append, List.cons_append]
  by_cases ht : a0.toList = []
  · rw [if_pos ht] at h
    simp only [Option.some.injEq, Prod.mk.injEq] at h
    obtain ⟨rfl, rfl, rfl, rfl⟩ := h
    have hb1 : (a0.toList == []) = true := by rw [ht]; rfl
    gi_wp2
    refine fin_mk (g2 := w.heap.size) (g3 := w.heap.size + 1) rfl rfl (blk_alloc (blk_new w _) _) ?_ (Kd.R_nil _ _ _ _ _) (((Below.refl _ w).alloc (Nat.le_refl _) _).alloc (by simp) _)
    have := blk_new (w.alloc (lst false false (.slice none 0 0))) (cod 0)
    rwa [World.size_alloc] at this
  · rw [if_neg ht] at h
    have hb1 : (a0.toList == []) = false := beq_eq_false_iff_ne.2 ht
    gi_wp2_with fail
    refine ⟨trivial, ?_⟩
    refine (callsIn_wide.2 (trim_calls a0 _ (by omega))).mono ?_
    rintro e w1 ⟨rfl, k1, hk1⟩
    have b2 : w1.heap[w.heap.size]? = some (lst false false (.slice none 0 0)) := by rw [hk1]; exact blk_alloc (blk_new w _) _
    have b3 : w1.heap[w.heap.size + 1]? = some (cod 0) := by
      have := blk_new (w.alloc (lst false false (.slice none 0 0))) (cod 0)
      rw [World.size_alloc] at this
      rw [hk1]; exact this
    have hB : Below w.heap.size w w1 := by rw [hk1]; exact pw_below_drewN (((Below.refl _ w).alloc (Nat.le_refl _) _).alloc (by simp) _) _
    have hz1 : w1.heap.size = w.heap.size + 2 := by rw [hk1]; show ((w.alloc _).alloc _).heap.size = _; simp
    clear hk1
    have B2 := Lib.hid b2
    have B3 := Lib.hid b3
    have HZ := Lib.hid hz1
    have c20 := (blk_cell b2 0).trans rfl
    have c21 := (blk_cell b2 1).trans rfl
    have c22 := (blk_cell b2 2).trans rfl
    have c30 := (blk_cell b3 0).trans rfl
    have f20 := blk_frozen b2 0
    have f21 := blk_frozen b2 1
    have f22 := blk_frozen b2 2
    have f30 := blk_frozen b3 0
    clear b2 b3 hz1
    by_cases hst : (trimS a0).toList = [42]
    · rw [if_pos hst] at h
      simp only [Option.some.injEq, Prod.mk.injEq] at h
      obtain ⟨rfl, rfl, rfl, rfl⟩ := h
      have hb2 : ((trimS a0).toList == [42]) = true := by rw [hst]; rfl
      gi_wp2
      refine fin_mk (g2 := w.heap.size) (g3 := w.heap.size + 1) rfl rfl ?_ ?_ (Kd.R_nil _ _ _ _ _) ?_
      · refine blk_far ?_ (by simp) _
        exact blk_put (blk_put (blk_put B2.out 0 _ rfl) 1 _ rfl) 2 _ rfl
      · exact blk_put (cs := #[.int .i64 0]) (blk_far (blk_far (blk_far B3.out (by simp) _) (by simp) _) (by simp) _) 0 _ rfl
      · exact (((hB.setCell (by simp) _).setCell (by simp) _).setCell (by simp) _).setCell (by simp) _
    · rw [if_neg hst] at h
      have hb2 : ((trimS a0).toList == [42]) = false := beq_eq_false_iff_ne.2 hst
      gi_wp2_with fail
      refine ⟨trivial, ?_⟩
      refine (callsIn_wide.2 (parts_calls a0 _)).mono ?_
      rintro e w2 ⟨rfl, hw2⟩
      rw [World.size_alloc]
      have bl : w2.heap[w1.heap.size]? = some (lst true false (.slice none 0 0)) := by rw [hw2]; exact blk_alloc (blk_new w1 _) _
      have bb : w2.heap[w1.heap.size + 1]? = some (.cells #[.string a0] 9) := by
        have := blk_new (w1.alloc (lst true false (.slice none 0 0))) (.cells #[.string a0] 9)
        rw [World.size_alloc] at this
        rw [hw2]; exact this
      have b22 : w2.heap[w.heap.size]? = some (lst false false (.slice none 0 0)) := by rw [hw2]; exact blk_alloc (blk_alloc B2.out _) _
      have b23 : w2.heap[w.heap.size + 1]? = some (cod 0) := by rw [hw2]; exact blk_alloc (blk_alloc B3.out _) _
      have hB2 : Below w.heap.size w w2 := by rw [hw2]; exact (hB.alloc hB.size _).alloc (by have := hB.size; simp; omega) _
      have hz2 : w2.heap.size = w1.heap.size + 2 := by rw [hw2]; simp
      have hz1 := HZ.out
      clear hw2 c20 c21 c22 c30 f20 f21 f22 f30 B2 B3
      have BL := Lib.hid bl
      have BB := Lib.hid bb
      have B22 := Lib.hid b22
      have B23 := Lib.hid b23
      have HZ2 := Lib.hid hz2
      clear bl bb b22 b23 hz2 hz1
      gi_wp2
      have hsz1 : w1.heap.size = w.heap.size + 2 := HZ.out
      have hsz2 : w2.heap.size = w1.heap.size + 2 := HZ2.out
      have HS1 := Lib.hid hsz1
      have HS2 := Lib.hid hsz2
      refine wpIn_range_steps (n := 3) (gf := 35) (gb := w1.heap.size + 1) (o := .cells #[.string a0] 9) rfl (by omega) rfl trivial (enters_of Tryd.func35 (by kernel_rfl) rfl)
        (iter_steps (w1.heap.size + 1) a0 2 (by omega) (by omega)) BB.out (Inv w w.heap.size (w.heap.size + 1) w1.heap.size (w1.heap.size + 1)) (InvX w w.heap.size (w.heap.size + 1))
        (inv_abides (by omega)) (inv_set (by omega) (by omega) (by omega) (by omega)) (invx_abides (by omega))
        ⟨.slice none 0 0, [], fun rest => rfl, by simp, ⟨_, BB.out⟩, B22.out, B23.out, BL.out, own_nil _ _ _ _, hB2⟩
        (fun x => { tmps := #[Value.string a0, undef, Value.pointer (some { block := w.heap.size, off := 0 }),
          Value.pointer (some { block := w.heap.size + 1, off := 0 }),
          Value.pointer (some { block := w1.heap.size, off := 0 }), Value.string x, undef, undef, Value.string a0,
          Value.bool false, undef, Value.string a0, Value.string (trimS a0), Value.bool false, undef,
          Value.agg #[Value.bool true, Value.bool false, Value.slice none 0 0], Value.string a0,
          Value.func (Fn.func 35) #[] #[Value.pointer (some { block := w1.heap.size + 1, off := 0 })], Value.string x, undef,
          undef, undef, undef, undef, undef, undef, undef, undef, undef, undef, undef, undef, undef, undef, undef,
          undef, undef, undef, undef, undef], defers := [] }) ?assign ?body ?done ?stop
      case assign =>
        intro l x W K hK
        clear hsz1 hsz2
        gi_wp2
        exact hK
      case body =>
        rintro l pre x W ⟨rest, hws⟩ ⟨v, vals, a1, a2, ⟨u, a3⟩, a4, a5, a6, a7, a8⟩
        clear hsz1 hsz2
        have hT : takes (words (a0.size + 1) a0) [] = takes (x :: rest) vals := by rw [hws]; exact a1 _
        cases hrd : readS x with
        | none =>
          rw [hT] at h
          simp only [takes, hrd] at h
          cases h
        | some nb =>
        obtain ⟨nn, ok⟩ := nb
        have HR := Lib.hid hrd
        have HT := Lib.hid hT
        have HW := Lib.hid hws
        have A1 := Lib.hid a1
        have A3 := Lib.hid a3
        have A4 := Lib.hid a4
        have A5 := Lib.hid a5
        have A6 := Lib.hid a6
        have H := Lib.hid h
        obtain ⟨AA, cc, rfl⟩ := own_slice a7
        clear hrd hT hws a1 a3 a4 a5 a6 h
        gi_wp2_with fail
        refine ⟨trivial, ?_⟩
        refine (CallsIn.inRound l (callsIn_wide.2 (Qread.cond_read.calls (x.size + 10) x nn ok _ HR.out))).mono ?_
        rintro e W1 ⟨rfl, hdr⟩
        obtain ⟨kd, hkd⟩ := hdr.out
        have b4 : W1.heap[w.heap.size]? = some (lst false false (.slice none 0 0)) := by rw [hkd]; exact A4.out
        have b5 : W1.heap[w.heap.size + 1]? = some (cod 0) := by rw [hkd]; exact A5.out
        have b6 : W1.heap[w1.heap.size]? = some (lst true false (.slice AA vals.length cc)) := by rw [hkd]; exact A6.out
        have b7 : W1.ownsRow w.heap.size 3 1 (.slice AA vals.length cc) vals.length (nums .i64 vals) := by rw [hkd]; exact a7.kept (grown_drewN W kd) (by rcases a7.2 with ⟨e1, _⟩ | ⟨g, cap, cur, e1, _⟩ <;> simp [e1, Value.ownBlock])
        have b8 : Below w.heap.size w W1 := by rw [hkd]; exact pw_below_drewN a8 _
        have b9 : Boxed W1 (w1.heap.size + 1) 9 u := by rw [hkd]; exact A3.out
        have kW : KeepsOthers W W1 := by rw [hkd]; exact ⟨Nat.le_refl _, fun _ _ h _ => h⟩
        have gW : W1.heap[w1.heap.size + 1]? = W.heap[w1.heap.size + 1]? := by rw [hkd]; rfl
        clear hkd hdr a7 a8
        have c20 := (blk_cell b4 0).trans rfl
        have c21 := (blk_cell b4 1).trans rfl
        have c22 := (blk_cell b4 2).trans rfl
        have c30 := (blk_cell b5 0).trans rfl
        have cl2 := (blk_cell b6 2).trans rfl
        have f20 := blk_frozen b4 0
        have f21 := blk_frozen b4 1
        have f22 := blk_frozen b4 2
        have f30 := blk_frozen b5 0
        have fl2 := blk_frozen b6 2
        have B4 := Lib.hid b4
        have B5 := Lib.hid b5
        have B6 := Lib.hid b6
        have B9 := Lib.hid b9
        have GW := Lib.hid gW
        clear b4 b5 b6 b9 gW
        by_cases hok : ok = true
        · subst hok
          by_cases hl8 : vals.length < 8
          · have d8 : decide ((8 : Int) ≤ (vals.length : Int)) = false := decide_eq_false (by omega)
            obtain ⟨i0, hi, hz0, hz1, hz2⟩ := info_parts Tryd.infoInt
            gi_wp2_with (gi_at_builtin; refine wpListIn_append_own _ rfl _ _ 22 rfl w.heap.size 3 i0 (.int .i64 0) 1 8 Tryd.underlying22 hi hz0 hz1 hz2 rfl (by decide) _ _ _ rfl (b7.alloc _) ⟨W1.heap.size, 0, none⟩ 1 1 [.int .i64 nn] rfl rfl (cell_one_new _ _ _) (by simp [Value.oneCell']) (by unfold maxLen; omega) (by omega) (by have := b8.size; simp; omega) ?_; intro v' w3 hown' hgrow _; obtain ⟨g', cap', rfl⟩ := ownsRow_succ hown'; have b6' := grown_blk B6.out b7 (by decide) hgrow; have cl3 := (blk_cell b6' 2).trans rfl; have fl3 := blk_frozen b6' 2; have B6' := Lib.hid b6'; have HG := Lib.hid hgrow; clear b6' hgrow)
            exact round_on kW GW.out A1.out HR.out hl8 B9.out B4.out B5.out B6.out b7 b8 hown' HG.out (by have := HS1.out; omega) (by have := HS1.out; omega) (by omega) (by have := HS1.out; omega)
          · have d8 : decide ((8 : Int) ≤ (vals.length : Int)) = true := decide_eq_true (by omega)
            gi_wp2
            exact round_off kW A1.out HR.out (fun h => hl8 h.2) B4.out B5.out b8 (by omega) (Nat.le_refl _) (by omega)
        · obtain rfl : ok = false := by simpa using hok
          gi_wp2
          exact round_off kW A1.out HR.out (fun h => by cases h.1) B4.out B5.out b8 (by omega) (Nat.le_refl _) (by omega)
      case done =>
        rintro D W hD ⟨v, vals, a1, a2, ⟨u, a3⟩, a4, a5, a6, a7, a8⟩ hK
        have hT : takes (words (a0.size + 1) a0) [] = some (true, vals) := by
          have := a1 []
          rwa [List.append_nil] at this
        rw [hT] at h
        simp only [Option.some.injEq, Prod.mk.injEq] at h
        obtain ⟨rfl, rfl, rfl, rfl⟩ := h
        obtain ⟨AA, cc, rfl⟩ := own_slice a7
        have cl0 := (blk_cell a6 0).trans rfl
        have cl1 := (blk_cell a6 1).trans rfl
        have cl2 := (blk_cell a6 2).trans rfl
        have c20 := (blk_cell a4 0).trans rfl
        have c21 := (blk_cell a4 1).trans rfl
        have c22 := (blk_cell a4 2).trans rfl
        have c30 := (blk_cell a5 0).trans rfl
        have f20 := blk_frozen a4 0
        have f21 := blk_frozen a4 1
        have f22 := blk_frozen a4 2
        have f30 := blk_frozen a5 0
        have A4 := Lib.hid a4
        have A5 := Lib.hid a5
        have A6 := Lib.hid a6
        have HK := Lib.hid hK
        have HT := Lib.hid hT
        clear hsz1 hsz2 a1 a3 a4 a5 a6 hK hT
        gi_wp2
        have hK4 := (((KeepsOthers.setCell W ⟨w.heap.size, 0, none⟩ (.bool true)).trans (KeepsOthers.setCell _ ⟨w.heap.size, 1, none⟩ (.bool false))).trans (KeepsOthers.setCell _ ⟨w.heap.size, 2, none⟩ (.slice AA vals.length cc))).trans (KeepsOthers.setCell _ ⟨w.heap.size + 1, 0, none⟩ (.int .i64 0))
        have hK5 := hK4.same _ _ HK.out rfl
        have hDw : w.heap.size ≤ D := by have := HS1.out; have := HS2.out; omega
        refine ⟨by simp, .inl ⟨_, _, rfl, run_takeDeferred hK5, ?_⟩⟩
        refine fin_mk (v := .slice AA vals.length cc) (g2 := w.heap.size) (g3 := w.heap.size + 1) rfl rfl (put_blk ?_ hK5) (put_blk ?_ hK5) ?_ (put_below ?_ hDw)
        · exact blk_far (blk_put (blk_put (blk_put A4.out 0 _ rfl) 1 _ rfl) 2 _ rfl) (by simp) _
        · exact blk_put (cs := #[.int .i64 0]) (blk_far (blk_far (blk_far A5.out (by simp) _) (by simp) _) (by simp) _) 0 _ rfl
        · refine Kd.R_of_own (enc := Value.int .i64) (ownsRow_putObj ?_ _ hK5 rfl) (fun _ _ => trivial)
          have q0 := blk_put (cs' := #[.bool true, .bool false, .slice none 0 0]) A4.out 0 (.bool true) rfl
          have r0 := a7.kept (grown_set W ⟨w.heap.size, 0, none⟩ (.bool true)) (row_ne a7 A4.out (by decide))
          have q1 := blk_put (cs' := #[.bool true, .bool false, .slice none 0 0]) q0 1 (.bool false) rfl
          have r1 := r0.kept (grown_set _ ⟨w.heap.size, 1, none⟩ (.bool false)) (row_ne r0 q0 (by decide))
          have q2 := blk_put (cs' := #[.bool true, .bool false, .slice AA vals.length cc]) q1 2 (.slice AA vals.length cc) rfl
          have r2 := r1.kept (grown_set _ ⟨w.heap.size, 2, none⟩ (.slice AA vals.length cc)) (row_ne r1 q1 (by decide))
          exact r2.kept (grown_set _ ⟨w.heap.size + 1, 0, none⟩ (.int .i64 0)) (row_ne r2 (blk_far (blk_far (blk_far A5.out (by simp) _) (by simp) _) (by simp) _) (by decide))
        · exact (((a8.setCell (by simp) _).setCell (by simp) _).setCell (by simp) _).setCell (by simp) _
      case stop =>
        rintro D pre x rest W hD hws ⟨a1, a4, a5, a8⟩ hK
        have hT : takes (words (a0.size + 1) a0) [] = some (false, []) := by
          rw [hws]
          have := a1 rest
          rwa [List.append_assoc, List.singleton_append] at this
        rw [hT] at h
        simp only [Option.some.injEq, Prod.mk.injEq] at h
        obtain ⟨rfl, rfl, rfl, rfl⟩ := h
        have A4 := Lib.hid a4
        have A5 := Lib.hid a5
        have HK := Lib.hid hK
        have HT := Lib.hid hT
        clear hsz1 hsz2 a1 a4 a5 hK hT hws
        have hDw : w.heap.size ≤ D := by have := HS1.out; have := HS2.out; omega
        gi_wp2
        refine ⟨by simp, .inl ⟨_, _, rfl, run_takeDeferred HK.out, ?_⟩⟩
        exact fin_mk (g2 := w.heap.size) (g3 := w.heap.size + 1) rfl rfl (put_blk A4.out HK.out) (put_blk A5.out HK.out) (Kd.R_nil _ _ _ _ _) (put_below a8 hDw)
/-! ### strings.Join, at a row that is read -/
def strings_Join.f (l0 : List ByteArray) (a1 : ByteArray) : Option ByteArray :=
  if l0.length ≤ 100000 ∧ (Lib.join (l0.map (·.data.toList)) a1.data.toList).length ≤ 140737488351232 then some ⟨(Lib.join (l0.map (·.data.toList)) a1.data.toList).toArray⟩ else none
theorem strings_Join.calls (A0 : Option Addr) (c0 : Nat) (l0 : List ByteArray) (a1 : ByteArray) (r : ByteArray) (w : World) (hr0 : Kd.C Kd.string w A0 l0.length l0) (hc0 : l0.length ≤ c0) (h : strings_Join.f l0 a1 = some r) :
    Calls Tryd.prog 25 #[.slice A0 l0.length c0, .string a1] w fun e w' => e = .returned (.string r) ∧ Below w.heap.size w w' := by
  unfold strings_Join.f at h
  by_cases hl : l0.length ≤ 100000 ∧ (Lib.join (l0.map (·.data.toList)) a1.data.toList).length ≤ 140737488351232
  · rw [if_pos hl] at h
    obtain rfl := Option.some.inj h
    cases l0 with
    | nil => exact (Tryd.strings_Join_none A0 c0 a1 w).mono fun e w' ⟨he, hw⟩ => ⟨he, hw ▸ Below.refl _ _⟩
    | cons x xs =>
      obtain ⟨ad, rfl, h0⟩ := Kd.at_string hr0 0 (by omega) (by simp)
      have hspot : ad.spot = none := by
        cases hsp : ad.spot with
        | none => rfl
        | some s =>
          have h9 : (ad.add (0 : Int).toNat).spot = some s := by simp [Addr.add, hsp]
          unfold World.cell? at h0
          split at h0
          · rw [h9] at h0
            simp at h0
          · cases h0
      obtain ⟨bk, o, sp⟩ := ad
      simp only at hspot
      subst hspot
      have hadd : ∀ j : Nat, ((⟨bk, o, none⟩ : Addr).add j) = ⟨bk, o + j, none⟩ := fun j => by simp [Addr.add]
      refine Tryd.strings_Join bk o c0 (x :: xs) a1 w (fun j y hj => ?_) ?_ (by omega) hc0 (by omega)
      · have hj' := (List.getElem?_eq_some_iff.1 hj).1
        obtain ⟨ad', e, hcj⟩ := Kd.at_string hr0 (j : Int) (by omega) (by omega)
        obtain rfl := Option.some.inj e
        rw [Int.toNat_natCast, hadd] at hcj
        rw [hcj]
        have : rdOf ByteArray.empty (x :: xs) (j : Int) = y := by
          unfold rdOf
          rw [Int.toNat_natCast, List.getD_eq_getElem?_getD, hj]
          rfl
        rw [this]
      · rw [show (0 : Int).toNat = 0 from rfl, hadd] at h0
        exact World.block_lt_of_cell? w _ h0
  · rw [if_neg hl] at h
    cases h
end Go.Proofs.YtkjmffhkchlkeaaDoor
