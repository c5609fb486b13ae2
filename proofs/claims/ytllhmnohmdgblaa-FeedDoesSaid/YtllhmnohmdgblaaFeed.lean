/- Walks of the feed: a channel in one goroutine. -/
import Derived.Test.YtllhmnohmdgblaaProg
import Derived.Below
import Derived.Deep.Draws
import Derived.Deep.AppendLies
import Derived.Maps.AppendAt
import Derived.OwnWalk
import Derived.Laws.BytesArg
import Derived.Laws.MakeOwn
import Derived.Laws.OwnMore
import Derived.Deep.OwnRows
import Derived.Tactics
import Derived.Lib.ConvBytes
import Derived.Laws.Slices
import Derived.WalkKit
import Derived.KernelRfl
import Derived.RowKit3
import Derived.Deep.LoopGhost
import Derived.Deep.QuietTactic
import Derived.BigQuiet
import Derived.WideLaws
import Derived.Deep.DeepCutAuto
import Derived.Deep.CutBlock
import Derived.Deep.RegionHeld3
import Derived.Laws.Rows
import Derived.Lib.AppendStr
import Derived.ArgAppend
import Derived.Laws.IdiomCopy
import Derived.OrdersHeld
import Derived.Laws.BitsLemmas
import Derived.RowKit
import Derived.Laws.Runes
import Derived.Lib.SlBytesConst
import Derived.Test.YtllhmnohmdgblaaWWords
import Derived.Test.YtllhmnohmdgblaaWLast
import Derived.Test.YtllhmnohmdgblaaWTab
import Derived.Test.YtllhmnohmdgblaaWFour
import Derived.Test.YtllhmnohmdgblaaWQPut
import Derived.Test.YtllhmnohmdgblaaWApart
import Derived.Test.YtllhmnohmdgblaaWArr
import Derived.Test.YtllhmnohmdgblaaWZeros
import Derived.Test.YtllhmnohmdgblaaWFoot
import Derived.Test.YtllhmnohmdgblaaWKept
import Derived.Test.YtllhmnohmdgblaaWShare
import Derived.Test.YtllhmnohmdgblaaWN
import Derived.Test.YtllhmnohmdgblaaWFootNe
import Derived.Test.YtllhmnohmdgblaaWAt
import Derived.Test.YtllhmnohmdgblaaWEqStruct
import Derived.Test.YtllhmnohmdgblaaWRepsOne
import Derived.Test.YtllhmnohmdgblaaWInv
import Derived.Test.YtllhmnohmdgblaaWInvWords
import Derived.Test.YtllhmnohmdgblaaWGuard
import Derived.Test.YtllhmnohmdgblaaWNEv
import Derived.Test.YtllhmnohmdgblaaWMore
import Derived.Conc.LoneCalls
import Derived.Conc.LoneSelect
import Derived.Conc.LoneSelectN
import Derived.Conc.Own5
namespace Go.Proofs.Ytllhmnohmdgblaa
open Go.Conc Go.RowKit Go.Proofs.YtllhmnohmdgblaaW.PrintWords
set_option linter.unusedVariables false
set_option linter.unusedSimpArgs false
abbrev FNews := Int × ByteArray × ByteArray × Int
def fenc (n : FNews) : Value := .agg #[.int .i64 n.1, .string n.2.1, .string n.2.2.1, .int .i64 n.2.2.2]
/-- A feed at block g of W: its room, the news that wait, how many were told, and lost; its channel's block is another. -/
def IsS71 (w0 W : World) (g : Nat) (f0 : Int) (f1 : List FNews) (f2 f3 : Int) : Prop :=
  ∃ c s r, W.heap[g]? = some (.cells #[.chan (some c), .int .i64 f2, .int .i64 f3] 71 (0, 0)) ∧ w0.heap.size ≤ g ∧ w0.heap.size ≤ c ∧ W.heap[c]? = some (.chan f0.toNat (f1.map fenc).toArray false s r false)
/-- All blocks but g and the channels stay. -/
def KeepF (w w1 : World) (g : Nat) : Prop := w.heap.size ≤ w1.heap.size ∧ ∀ k, k < w.heap.size → k ≠ g → (∀ cap buf cl s r tm, w.heap[k]? ≠ some (.chan cap buf cl s r tm)) → w1.heap[k]? = w.heap[k]?
section
variable {w0 W W1 : World} {g : Nat} {f0 : Int} {f1 : List FNews} {f2 f3 : Int}
theorem IsS71.below (h : IsS71 w0 W g f0 f1 f2 f3) (hw : Below W.heap.size W W1) : IsS71 w0 W1 g f0 f1 f2 f3 := by
  obtain ⟨c, s, r, hb, hg, hcg, hc⟩ := h
  exact ⟨c, s, r, (hw.block g (blk_lt hb)).trans hb, hg, hcg, (hw.block c (blk_lt hc)).trans hc⟩
theorem IsS71.alloc (h : IsS71 w0 W g f0 f1 f2 f3) (o : Obj) : IsS71 w0 (W.alloc o) g f0 f1 f2 f3 := h.below (below_alloc (Below.refl _ _) o)
theorem IsS71.drewN (h : IsS71 w0 W g f0 f1 f2 f3) (m : Nat) : IsS71 w0 (W.drewN m) g f0 f1 f2 f3 := h
theorem IsS71.drew (h : IsS71 w0 W g f0 f1 f2 f3) : IsS71 w0 W.drew g f0 f1 f2 f3 := h
theorem IsS71.at_ {w' : World} {m : Nat} (hq : W.drewN m = w') (h : IsS71 w0 W g f0 f1 f2 f3) : IsS71 w0 w' g f0 f1 f2 f3 := by subst hq; exact IsS71.drewN h m
theorem IsS71.fresh (h : IsS71 w0 W g f0 f1 f2 f3) : ∀ k, W.heap.size ≤ k → k ≠ g := by
  obtain ⟨c, s, r, hb, hg, hcg, hc⟩ := h
  exact Kd.freshB hb
theorem IsS71.apart {α : Type} {d : Kd α} {e : Nat} {base : Nat} {ok : Nat → Prop} {v : Value} {xs : List α} (h : IsS71 w0 W g f0 f1 f2 f3) (ho : d.R e W base ok v xs) (ht : ∀ q, q ∈ e :: d.E → q ≠ 71) : d.R e W base (fun k => ok k ∧ k ≠ g) v xs := by
  obtain ⟨c, s, r, hb, hg, hcg, hc⟩ := h
  exact Kd.R_types ho hb ht
theorem IsS71.own_ne {α : Type} {d : Kd α} {e : Nat} {base : Nat} {ok : Nat → Prop} {v : Value} {xs : List α} (h : IsS71 w0 W g f0 f1 f2 f3) (ho : d.R e W base ok v xs) (ht : e ≠ 71) : some g ≠ v.ownBlock := by
  obtain ⟨c, s, r, hb, hg, hcg, hc⟩ := h
  exact Kd.R_ne ho hb ht
theorem IsS71.apartQ {α : Type} {d : Kd α} {e : Nat} {base : Nat} {ok : Nat → Prop} {v : Value} {xs : List α} (h : IsS71 w0 W g f0 f1 f2 f3) (ho : d.Q e W base ok v xs) (ht : ∀ q, q ∈ e :: d.E → q ≠ 71) : d.Q e W base (fun k => ok k ∧ k ≠ g) v xs := by
  obtain ⟨c, s, r, hb, hg, hcg, hc⟩ := h
  exact Kd.Q_types ho hb ht
theorem IsS71.own_neQ {α : Type} {d : Kd α} {e : Nat} {base : Nat} {ok : Nat → Prop} {v : Value} {xs : List α} (h : IsS71 w0 W g f0 f1 f2 f3) (ho : d.Q e W base ok v xs) (ht : e ≠ 71) : some g ≠ v.ownBlock := by
  obtain ⟨c, s, r, hb, hg, hcg, hc⟩ := h
  exact Kd.Q_ne ho hb ht
theorem IsS71.lt (h : IsS71 w0 W g f0 f1 f2 f3) : g < W.heap.size := by
  obtain ⟨c, s, r, hb, hg, hcg, hc⟩ := h
  exact blk_lt hb
theorem IsS71.ge (h : IsS71 w0 W g f0 f1 f2 f3) : w0.heap.size ≤ g := by
  obtain ⟨c, s, r, hb, hg, hcg, hc⟩ := h
  exact hg
theorem IsS71.ne_blk {a : Nat} {cs : Array Value} {t : TypeId} {fr : Nat × Nat} (h : IsS71 w0 W g f0 f1 f2 f3) (hb2 : W.heap[a]? = some (.cells cs t fr)) (ht : t ≠ 71) : g ≠ a := by
  obtain ⟨c, s, r, hb, hg, hcg, hc⟩ := h
  rintro rfl
  rw [hb] at hb2
  injection hb2 with hb2
  injection hb2 with _ ht2
  exact ht ht2.symm
/-- A store into memory of cells changes no channel. -/
theorem chan_setCell {c cap : Nat} {buf : Array Value} {cl : Bool} {s r : Nat} {tm : Bool} (h : W.heap[c]? = some (.chan cap buf cl s r tm)) (p : Addr) (u : Value) : (W.setCell p u).heap[c]? = some (.chan cap buf cl s r tm) := by
  by_cases hp : c = p.block
  · subst hp
    simp only [World.setCell, Array.getElem?_modify, h, if_true, Option.map_some]
  · rw [Below.heap_setCell _ _ _ _ hp]; exact h
theorem IsS71.far {p : Addr} (h : IsS71 w0 W g f0 f1 f2 f3) (hne : g ≠ p.block) (u : Value) : IsS71 w0 (W.setCell p u) g f0 f1 f2 f3 := by
  obtain ⟨c, s, r, hb, hg, hcg, hc⟩ := h
  exact ⟨c, s, r, blk_far hb hne u, hg, hcg, chan_setCell hc p u⟩
theorem IsS71.kept {S : Nat → Prop} (h : IsS71 w0 W g f0 f1 f2 f3) (hk : Kept W W1 S) (hne : ¬ S g) (hch : ∀ k, (∃ cap buf cl s r tm, W.heap[k]? = some (.chan cap buf cl s r tm)) → ¬ S k) : IsS71 w0 W1 g f0 f1 f2 f3 := by
  obtain ⟨c, s, r, hb, hg, hcg, hc⟩ := h
  exact ⟨c, s, r, blk_kept hb hk hne, hg, hcg, blk_kept hc hk (hch c ⟨_, _, _, _, _, _, hc⟩)⟩
theorem KeepF.blk {g' : Nat} {o : Obj} (h : KeepF W W1 g) (hb : W.heap[g']? = some o) (hg : g' ≠ g) (hr : ∀ cap buf cl s r tm, o ≠ .chan cap buf cl s r tm) : W1.heap[g']? = some o :=
  (h.2 g' (blk_lt hb) hg (by intro cap buf cl s r tm hc; rw [hb] at hc; exact hr cap buf cl s r tm (Option.some.inj hc))).trans hb
theorem KeepF.R {α : Type} {d : Kd α} {e : Nat} {base : Nat} {ok : Nat → Prop} {v : Value} {xs : List α} (h : d.R e W base ok v xs) (hk : KeepF W W1 g) (hok : ∀ k, ok k → k ≠ g) : d.R e W1 base ok v xs :=
  Kd.R_mono (Kd.R_move (Kd.R_bound h) (fun k hkk => hk.2 k hkk.2.2.1 (hok k hkk.1) (by
    intro _ _ _ _ _ _ hc
    obtain ⟨_, _, _, _, _, _, hcc⟩ := hkk
    rw [hcc] at hc; cases hc))) (fun _ hkk => hkk.1)
end
section
open Classical
variable {α : Type} {d : Kd α} {W W1 : World} {g : Nat} {ok : Nat → Prop} {A : Option Addr} {n e base : Nat} {v : Value} {xs : List α}
/-- What a row of flat elements reads is cells: channels, wherever they are, don't matter. -/
theorem KeepF.F_flat (hflat : ∀ (w w1 : World) x cs, d.K w x cs → d.K w1 x cs) (h : Kd.F d W ok A n xs) (hk : KeepF W W1 g) (hok : ∀ k, ok k → k ≠ g) : Kd.F d W1 ok A n xs := by
  intro W' hW'
  let H : Array Obj := Array.ofFn (n := max W'.heap.size W.heap.size) (fun i => if ok i.1 ∧ i.1 < W.heap.size then W.heap[i.1]?.getD (.chan 0 #[] false 0 0 false) else W'.heap[i.1]?.getD (.chan 0 #[] false 0 0 false))
  have hH : ∀ i, i < max W'.heap.size W.heap.size → H[i]? = some (if ok i ∧ i < W.heap.size then W.heap[i]?.getD (.chan 0 #[] false 0 0 false) else W'.heap[i]?.getD (.chan 0 #[] false 0 0 false)) := by
    intro i hi
    simp only [H, Array.getElem?_ofFn, hi, dif_pos]
  have h2 := h { W' with heap := H } (fun k hkk hlt => by
    show H[k]? = W.heap[k]?
    rw [hH k (by omega), if_pos ⟨hkk, hlt⟩, Array.getElem?_eq_getElem hlt]
    rfl)
  refine ⟨h2.1, h2.2.1, fun h0 => ?_⟩
  obtain ⟨ad, hA, hc⟩ := h2.2.2 h0
  refine ⟨ad, hA, fun j p hp => ?_⟩
  obtain ⟨c, hl, hK, hcell⟩ := hc j p hp
  refine ⟨c, hl, hflat _ _ _ _ hK, fun i u hu => ?_⟩
  have hcu := hcell i u hu
  rw [← hcu]
  refine (World.cell?_of_block ?_).symm
  show H[_]? = W'.heap[_]?
  generalize hb : (ad.add (j * d.sz + i)).block = b
  by_cases hbk : ok b ∧ b < W.heap.size
  · have hm : b < max W'.heap.size W.heap.size := by omega
    have e1 := hH b hm
    rw [if_pos hbk, Array.getElem?_eq_getElem hbk.2, Option.getD_some] at e1
    have hnc : ∀ cap buf cl s r tm, W.heap[b]? ≠ some (.chan cap buf cl s r tm) := by
      intro cap buf cl s r tm hch
      rw [Array.getElem?_eq_getElem hbk.2] at hch
      rw [Option.some.inj hch] at e1
      have : ({ W' with heap := H } : World).cell? (ad.add (j * d.sz + i)) = none := by
        simp only [World.cell?, hb, e1]
      rw [this] at hcu; cases hcu
    have e2 := hk.2 b hbk.2 (hok b hbk.1) hnc
    have hlt1 : b < W1.heap.size := by have := hk.1; omega
    rw [hW' b hbk.1 hlt1, e2, e1, Array.getElem?_eq_getElem hbk.2]
  · by_cases hm : b < max W'.heap.size W.heap.size
    · have e1 := hH b hm
      rw [if_neg hbk] at e1
      by_cases hs : b < W'.heap.size
      · rw [e1, Array.getElem?_eq_getElem hs]; rfl
      · exfalso
        have e0 : W'.heap[b]? = none := Array.getElem?_eq_none (by omega)
        rw [e0, Option.getD_none] at e1
        have : ({ W' with heap := H } : World).cell? (ad.add (j * d.sz + i)) = none := by
          simp only [World.cell?, hb, e1]
        rw [this] at hcu; cases hcu
    · rw [Array.getElem?_eq_none (by simp only [H, Array.size_ofFn]; omega), Array.getElem?_eq_none (by omega)]
theorem KeepF.V_flat (hflat : ∀ (w w1 : World) x cs, d.K w x cs → d.K w1 x cs) (h : Kd.V d e W base ok v xs) (hk : KeepF W W1 g) (hok : ∀ k, ok k → k ≠ g) : Kd.V d e W1 base ok v xs := by
  obtain ⟨A, c, hv, hl, hf⟩ := h
  exact ⟨A, c, hv, hl, KeepF.F_flat hflat hf hk hok⟩
end
/-- Where a row that is only read holds something, its block is one that it is told to lie in. -/
theorem V_away_ {α : Type} {d : Kd α} {w : World} {g e base : Nat} {ok : Nat → Prop} {v : Value} {xs : List α} (h : Kd.V d e w base ok v xs) (hok : ∀ k, ok k → k ≠ g) (hn : 0 < xs.length) (hs : 0 < d.sz) : some g ≠ v.ownBlock := by
  obtain ⟨A, c, rfl, hl, hf⟩ := h
  have h2 := hf { w with heap := w.heap.setIfInBounds g (.cells #[] 0 (0, 0)) } (fun k hk _ => by
    show (w.heap.setIfInBounds g _)[k]? = w.heap[k]?
    rw [Array.getElem?_setIfInBounds_ne (fun e => hok k hk e.symm)])
  obtain ⟨ad, rfl, hc⟩ := h2.2.2 hn
  obtain ⟨cs, hl2, _, hcell⟩ := hc 0 xs[0] (List.getElem?_eq_getElem hn)
  have hu : cs[0]? = some (cs[0]'(by omega)) := List.getElem?_eq_getElem (by omega)
  have hcu := hcell 0 _ hu
  intro he
  have hb : ad.block = g := by
    simp only [Value.ownBlock] at he
    first | exact (Option.some.inj he).symm | (split at he <;> first | exact (Option.some.inj he).symm | cases he)
  rw [Nat.zero_mul, Nat.zero_add, Addr.add_zero'] at hcu
  have : ({ w with heap := w.heap.setIfInBounds g (.cells #[] 0 (0, 0)) } : World).cell? ad = none := by
    simp only [World.cell?, hb]
    by_cases hg : g < w.heap.size
    · rw [Array.getElem?_setIfInBounds_self_of_lt hg]
      simp
    · rw [Array.getElem?_eq_none (by simp; omega)]
  rw [this] at hcu
  cases hcu
end Go.Proofs.Ytllhmnohmdgblaa
namespace Go.Proofs.YtllhmnohmdgblaaW.PrintWords.Kd
/-- The word that the printed walks ask for: a row that is only read, and holds something, lies in no block that it isn't told to lie in. -/
theorem V_away {α : Type} {d : Kd α} {w : World} {g e base : Nat} {ok : Nat → Prop} {v : Value} {xs : List α} (h : Kd.V d e w base ok v xs) (hok : ∀ k, ok k → k ≠ g) (hn : 0 < xs.length := by first | omega | (simp only [decide_eq_true_eq, decide_eq_false_iff_not, eq_iff_iff, iff_true] at *; omega)) (hs : 0 < d.sz := by decide) : some g ≠ v.ownBlock := Go.Proofs.Ytllhmnohmdgblaa.V_away_ h hok hn hs
end Go.Proofs.YtllhmnohmdgblaaW.PrintWords.Kd
namespace Go.Proofs.Ytllhmnohmdgblaa
open Go.Conc Go.RowKit Go.Proofs.YtllhmnohmdgblaaW.PrintWords
set_option linter.unusedVariables false
set_option linter.unusedSimpArgs false
set_option maxRecDepth 100000 in
theorem told_walk (g : Nat) (f0 : Int) (f1 : List FNews) (f2 f3 : Int) (w0 w : World) (hI : IsS71 w0 w g f0 f1 f2 f3) : Calls Try.prog 19 #[.pointer (some ⟨g, 0, none⟩)] w fun e w' => e = .returned (.int .i64 f2) ∧ w' = w := by
  obtain ⟨c, s, r, hb, hg, hcg, hc⟩ := hI
  have h1 : w.cell? ⟨g, 1, none⟩ = some (.int .i64 f2) := (blk_cell hb 1).trans rfl
  refine calls_of_loneTo fun cs => ?_
  have e : Frame.enter Try.prog 19 #[.pointer (some ⟨g, 0, none⟩)] .normal = (base 19).at ⟨#[.pointer (some ⟨g, 0, none⟩), undef, undef, undef, undef, undef, undef], []⟩ [.code (Try.f19.body.getD .skip)] := by
    simp [Frame.enter, Frame.at, Try.func19, base, Try.f19]
  rw [e]
  refine LoneTo.goes (n := 14) ?_
  simp only [Try.f19, Option.getD_some]
  s_c stepG_seq
  s_reg
  s_op
  s_c stepG_region_end
  s_c stepG_seq
  s_reg
  s_op
  s_op
  s_op
  s_op
  s_op
  s_c stepG_region_end
  s_c stepG_ret'
  s_stop
  refine LoneTo.done ⟨.returned (.int .i64 f2), _, rfl, ⟨rfl, rfl⟩, rfl, rfl, rfl, rfl, _, Try.func19, by simp [results, Try.f19, Frame.at]⟩
set_option maxRecDepth 100000 in
theorem lost_walk (g : Nat) (f0 : Int) (f1 : List FNews) (f2 f3 : Int) (w0 w : World) (hI : IsS71 w0 w g f0 f1 f2 f3) : Calls Try.prog 20 #[.pointer (some ⟨g, 0, none⟩)] w fun e w' => e = .returned (.int .i64 f3) ∧ w' = w := by
  obtain ⟨c, s, r, hb, hg, hcg, hc⟩ := hI
  have h1 : w.cell? ⟨g, 2, none⟩ = some (.int .i64 f3) := (blk_cell hb 2).trans rfl
  refine calls_of_loneTo fun cs => ?_
  have e : Frame.enter Try.prog 20 #[.pointer (some ⟨g, 0, none⟩)] .normal = (base 20).at ⟨#[.pointer (some ⟨g, 0, none⟩), undef, undef, undef, undef, undef, undef], []⟩ [.code (Try.f20.body.getD .skip)] := by
    simp [Frame.enter, Frame.at, Try.func20, base, Try.f20]
  rw [e]
  refine LoneTo.goes (n := 14) ?_
  simp only [Try.f20, Option.getD_some]
  s_c stepG_seq
  s_reg
  s_op
  s_c stepG_region_end
  s_c stepG_seq
  s_reg
  s_op
  s_op
  s_op
  s_op
  s_op
  s_c stepG_region_end
  s_c stepG_ret'
  s_stop
  refine LoneTo.done ⟨.returned (.int .i64 f3), _, rfl, ⟨rfl, rfl⟩, rfl, rfl, rfl, rfl, _, Try.func20, by simp [results, Try.f20, Frame.at]⟩
set_option maxRecDepth 100000 in
theorem waits_walk (g : Nat) (f0 : Int) (f1 : List FNews) (f2 f3 : Int) (w0 w : World) (hI : IsS71 w0 w g f0 f1 f2 f3) : Calls Try.prog 18 #[.pointer (some ⟨g, 0, none⟩)] w fun e w' => e = .returned (.int .i64 (f1.length : Int)) ∧ w' = w := by
  obtain ⟨c, s, r, hb, hg, hcg, hc⟩ := hI
  have h1 : w.cell? ⟨g, 0, none⟩ = some (.chan (some c)) := (blk_cell hb 0).trans rfl
  have hlen := fun ty => run_len_chan (P := Try.prog) 69 ty Try.underlying69 hc
  refine calls_of_loneTo fun cs => ?_
  have e : Frame.enter Try.prog 18 #[.pointer (some ⟨g, 0, none⟩)] .normal = (base 18).at ⟨#[.pointer (some ⟨g, 0, none⟩), undef, undef, undef, undef, undef, undef, undef], []⟩ [.code (Try.f18.body.getD .skip)] := by
    simp [Frame.enter, Frame.at, Try.func18, base, Try.f18]
  rw [e]
  refine LoneTo.goes (n := 15) ?_
  simp only [Try.f18, Option.getD_some]
  s_c stepG_seq
  s_reg
  s_op
  s_c stepG_region_end
  s_c stepG_seq
  s_reg
  s_op
  s_op
  s_op
  s_op
  s_op
  s_op
  s_c stepG_region_end
  s_c stepG_ret'
  s_stop
  refine LoneTo.done ⟨.returned (.int .i64 (f1.length : Int)), _, rfl, ⟨rfl, rfl⟩, rfl, rfl, rfl, rfl, _, Try.func18, by simp [results, Try.f18, Frame.at, goInt]⟩
theorem res_r_default (a : Nat) (z : Value) : commResult #[rcase a z] .select (-1) undef false = .tuple #[goInt (-1), .bool false, z] := by
  simp [commResult, rcase, List.zipIdx_cons]
def fzero : Value := .agg #[.int .i64 0, .string ⟨#[]⟩, .string ⟨#[]⟩, .int .i64 0]
set_option maxRecDepth 100000 in
theorem hear_none_walk (g : Nat) (f0 : Int) (f2 f3 : Int) (w0 w : World) (hI : IsS71 w0 w g f0 [] f2 f3) : Calls Try.prog 12 #[.pointer (some ⟨g, 0, none⟩)] w fun e w' => e = .returned (.tuple #[fzero, .bool false]) ∧ Below w.heap.size w w' := by
  obtain ⟨c, s, r, hb, hg, hcg, hc⟩ := hI
  have hlt := blk_lt hb
  have hltc := blk_lt hc
  have h1 : ∀ o, (w.alloc o).cell? ⟨g, 0, none⟩ = some (.chan (some c)) := fun o => (blk_cell (by rw [Below.heap_alloc _ _ _ hlt]; exact hb) 0).trans rfl
  refine calls_of_loneTo fun cs => ?_
  have e : Frame.enter Try.prog 12 #[.pointer (some ⟨g, 0, none⟩)] .normal = (base 12).at ⟨#[.pointer (some ⟨g, 0, none⟩), undef, undef, undef, undef, undef, undef, undef, undef, undef, undef, undef, undef, undef, undef], []⟩ [.code (Try.f12.body.getD .skip)] := by
    simp [Frame.enter, Frame.at, Try.func12, base, Try.f12]
  rw [e]
  refine LoneTo.goes (n := 14) ?_
  simp only [Try.f12, Option.getD_some]
  s_c stepG_seq
  s_reg
  s_op
  s_op
  s_c stepG_region_end
  s_c stepG_seq
  s_reg
  s_op
  s_op
  s_op
  s_op
  s_c stepG_region_end
  s_c stepG_seq
  s_reg
  s_stop
  refine LoneTo.step (step_lone_select_default (c := c) (z := fzero) (cap := f0.toNat) (s := s) (r := r) (tm := false) (stepG_comm (cases := #[rcase c fzero]) (blocking := false) (shape := .select) (w' := (w.alloc (.cells #[.int .i64 0, .string ⟨#[]⟩, .string ⟨#[]⟩, .int .i64 0] 39))) rfl rfl (by decide) (by simp [go_sem, execOp, rcase, Act.eval, fzero])) (by rw [Below.heap_alloc _ _ _ hltc]; exact hc)) ?_
  rw [Frame.finish_at]
  walk_nrm
  refine LoneTo.goes (n := 12) ?_
  s_op
  s_op
  s_c stepG_region_end
  s_c stepG_block
  s_cond false
  s_c stepG_seq
  s_reg
  s_op
  s_op
  s_op
  s_c stepG_region_end
  s_c stepG_ret'
  s_stop
  refine LoneTo.done ⟨.returned (.tuple #[fzero, .bool false]), _, rfl, ⟨rfl, ?_⟩, rfl, rfl, rfl, rfl, _, Try.func12, ?_⟩
  · exact (Below.refl _ w).alloc (Nat.le_refl _) _
  · exact results_ct (fn := Try.f12) (p := 2) (u := 3) (ty := 39) rfl #[.pointer (some ⟨g, 0, none⟩), undef, .pointer (some ⟨w.heap.size, 0, none⟩), .bool false, undef, .pointer (some ⟨g, 0, none⟩), .pointer (some ⟨g, 0, none⟩), .pointer (some ⟨g, 0, none⟩), .chan (some c), .tuple #[.int .i64 (-1), .bool false, fzero], .int .i64 (-1), .bool false, .agg #[.int .i64 0, .string ⟨#[]⟩, .string ⟨#[]⟩, .int .i64 0], undef, undef] _ w.heap.size 39 #[.int .i64 0, .string ⟨#[]⟩, .string ⟨#[]⟩, .int .i64 0] (0, 0) _ rfl (heap_alloc_new _ _) Try.underlying39 rfl (by kernel_rfl)
set_option maxRecDepth 100000 in
theorem hear_some_walk (g : Nat) (f0 : Int) (n0 : Int) (n1 n2 : ByteArray) (n3 : Int) (f1 : List FNews) (f2 f3 : Int) (w0 w : World) (hI : IsS71 w0 w g f0 ((n0, n1, n2, n3) :: f1) f2 f3) : Calls Try.prog 12 #[.pointer (some ⟨g, 0, none⟩)] w fun e w' => e = .returned (.tuple #[.agg #[.int .i64 n0, .string n1, .string n2, .int .i64 n3], .bool true]) ∧ IsS71 w0 w' g f0 f1 f2 f3 ∧ KeepF w w' g ∧ (Below w0.heap.size w0 w → Below w0.heap.size w0 w') := by
  obtain ⟨c, s, r, hb, hg, hcg, hc⟩ := hI
  have hlt := blk_lt hb
  have hltc := blk_lt hc
  have h1 : ∀ o, (w.alloc o).cell? ⟨g, 0, none⟩ = some (.chan (some c)) := fun o => (blk_cell (by rw [Below.heap_alloc _ _ _ hlt]; exact hb) 0).trans rfl
  refine calls_of_loneTo fun cs => ?_
  have e : Frame.enter Try.prog 12 #[.pointer (some ⟨g, 0, none⟩)] .normal = (base 12).at ⟨#[.pointer (some ⟨g, 0, none⟩), undef, undef, undef, undef, undef, undef, undef, undef, undef, undef, undef, undef, undef, undef], []⟩ [.code (Try.f12.body.getD .skip)] := by
    simp [Frame.enter, Frame.at, Try.func12, base, Try.f12]
  rw [e]
  refine LoneTo.goes (n := 14) ?_
  simp only [Try.f12, Option.getD_some]
  s_c stepG_seq
  s_reg
  s_op
  s_op
  s_c stepG_region_end
  s_c stepG_seq
  s_reg
  s_op
  s_op
  s_op
  s_op
  s_c stepG_region_end
  s_c stepG_seq
  s_reg
  s_stop
  refine LoneTo.step (step_lone_select_recv_buf (c := c) (z := fzero) (cap := f0.toNat) (buf := (((n0, n1, n2, n3) :: f1).map fenc).toArray) (closed := false) (s := s) (r := r) (tm := false) (stepG_comm (cases := #[rcase c fzero]) (blocking := false) (shape := .select) (w' := (w.alloc (.cells #[.int .i64 0, .string ⟨#[]⟩, .string ⟨#[]⟩, .int .i64 0] 39))) rfl rfl (by decide) (by simp [go_sem, execOp, rcase, Act.eval, fzero])) (by rw [Below.heap_alloc _ _ _ hltc]; exact hc) (by simp)) ?_
  rw [Frame.finish_at]
  have hv : (((n0, n1, n2, n3) :: f1).map fenc).toArray.getD 0 undef = .agg #[.int .i64 n0, .string n1, .string n2, .int .i64 n3] := by simp [fenc]
  rw [hv]
  generalize hW1 : (w.alloc (.cells #[.int .i64 0, .string ⟨#[]⟩, .string ⟨#[]⟩, .int .i64 0] 39)).setChan c f0.toNat ((((n0, n1, n2, n3) :: f1).map fenc).toArray.extract 1 (((n0, n1, n2, n3) :: f1).map fenc).toArray.size) false s (r + 1) false = W1
  have hgb : W1.heap[w.heap.size]? = some (.cells #[.int .i64 0, .string ⟨#[]⟩, .string ⟨#[]⟩, .int .i64 0] 39) := by
    rw [← hW1]; simp only [World.setChan]; rw [Array.getElem?_setIfInBounds_ne (by omega)]; exact heap_alloc_new _ _
  have hsz : w.heap.size ≠ W1.heap.size := by rw [← hW1]; simp [size_setChan]
  generalize hgw : w.heap.size = gb at *
  walk_nrm
  refine LoneTo.goes (n := 20) ?_
  s_op
  s_op
  s_c stepG_region_end
  s_c stepG_block
  s_cond true
  s_c stepG_seq
  s_reg
  s_op
  s_op
  s_op
  s_c stepG_region_end
  s_c stepG_seq
  s_reg
  generalize hW2 : W1.alloc (.cells #[.int .i64 n0, .string n1, .string n2, .int .i64 n3] 39) = W2
  have hgb2 : W2.heap[gb]? = some (.cells #[.int .i64 0, .string ⟨#[]⟩, .string ⟨#[]⟩, .int .i64 0] 39) := by rw [← hW2, Below.heap_alloc _ _ _ (blk_lt hgb)]; exact hgb
  have hnew : W2.heap[W1.heap.size]? = some (.cells #[.int .i64 n0, .string n1, .string n2, .int .i64 n3] 39) := by rw [← hW2]; exact heap_alloc_new _ _
  have x0 : W2.cell? ⟨W1.heap.size, 0, none⟩ = some (.int .i64 n0) := (blk_cell hnew 0).trans rfl
  have x1 : W2.cell? ⟨W1.heap.size, 1, none⟩ = some (.string n1) := (blk_cell hnew 1).trans rfl
  have x2 : W2.cell? ⟨W1.heap.size, 2, none⟩ = some (.string n2) := (blk_cell hnew 2).trans rfl
  have x3 : W2.cell? ⟨W1.heap.size, 3, none⟩ = some (.int .i64 n3) := (blk_cell hnew 3).trans rfl
  have z0 : W2.cell? ⟨gb, 0, none⟩ = some (.int .i64 0) := (blk_cell hgb2 0).trans rfl
  have z1 : W2.cell? ⟨gb, 1, none⟩ = some (.string ⟨#[]⟩) := (blk_cell hgb2 1).trans rfl
  have z2 : W2.cell? ⟨gb, 2, none⟩ = some (.string ⟨#[]⟩) := (blk_cell hgb2 2).trans rfl
  have z3 : W2.cell? ⟨gb, 3, none⟩ = some (.int .i64 0) := (blk_cell hgb2 3).trans rfl
  have y0 := blk_frozen hgb2 0
  have y1 := blk_frozen hgb2 1
  have y2 := blk_frozen hgb2 2
  have y3 := blk_frozen hgb2 3
  s_op
  s_op
  s_op
  s_c stepG_region_end
  s_c stepG_ret'
  s_stop
  have hsz1 : W1.heap.size = gb + 1 := by rw [← hW1]; simp [size_setChan, hgw]
  have hgc : g ≠ c := by rintro rfl; rw [hb] at hc; cases hc
  have hk1 : ∀ k, k < gb → k ≠ c → W1.heap[k]? = w.heap[k]? := fun k hk hkc => by
    rw [← hW1]; simp only [World.setChan]; rw [Array.getElem?_setIfInBounds_ne (fun h => hkc h.symm)]; exact Below.heap_alloc _ _ _ (by omega)
  have hc1 : W1.heap[c]? = some (.chan f0.toNat (f1.map fenc).toArray false s (r + 1) false) := by
    rw [← hW1]
    refine (heap_setChan _ c f0.toNat _ false s (r + 1) false (by simp; omega)).trans ?_
    simp
    exact List.take_of_length_le (by simp)
  have hk2 : ∀ k, k < gb → W2.heap[k]? = W1.heap[k]? := fun k hk => by rw [← hW2]; exact Below.heap_alloc _ _ _ (by omega)
  have hk3 : ∀ (a b cc d : Value) k, k ≠ gb → ((((W2.setCell ⟨gb, 0, none⟩ a).setCell ⟨gb, 1, none⟩ b).setCell ⟨gb, 2, none⟩ cc).setCell ⟨gb, 3, none⟩ d).heap[k]? = W2.heap[k]? := fun a b cc d k hk => by
    rw [Below.heap_setCell _ _ _ _ hk, Below.heap_setCell _ _ _ _ hk, Below.heap_setCell _ _ _ _ hk, Below.heap_setCell _ _ _ _ hk]
  have hbf : ((((W2.setCell ⟨gb, 0, none⟩ (.int .i64 n0)).setCell ⟨gb, 1, none⟩ (.string n1)).setCell ⟨gb, 2, none⟩ (.string n2)).setCell ⟨gb, 3, none⟩ (.int .i64 n3)).heap[gb]? = some (.cells #[.int .i64 n0, .string n1, .string n2, .int .i64 n3] 39 (0, 0)) := by
    refine blk_put (cs := #[.int .i64 n0, .string n1, .string n2, .int .i64 0]) ?_ 3 _ rfl
    refine blk_put (cs := #[.int .i64 n0, .string n1, .string ⟨#[]⟩, .int .i64 0]) ?_ 2 _ rfl
    refine blk_put (cs := #[.int .i64 n0, .string ⟨#[]⟩, .string ⟨#[]⟩, .int .i64 0]) ?_ 1 _ rfl
    exact blk_put (cs := #[.int .i64 0, .string ⟨#[]⟩, .string ⟨#[]⟩, .int .i64 0]) hgb2 0 _ rfl
  refine LoneTo.done ⟨.returned (.tuple #[.agg #[.int .i64 n0, .string n1, .string n2, .int .i64 n3], .bool true]), _, rfl, ⟨rfl, ?_, ?_, ?_⟩, rfl, rfl, rfl, rfl, _, Try.func12, ?_⟩
  · refine ⟨c, s, r + 1, ?_, hg, hcg, ?_⟩
    · rw [hk3 _ _ _ _ g (by omega), hk2 g hlt, hk1 g hlt hgc]; exact hb
    · rw [hk3 _ _ _ _ c (by omega), hk2 c hltc]; exact hc1
  · refine ⟨by simp [← hW2, hsz1, hgw]; omega, fun k hk hkg hnc => ?_⟩
    rw [hgw] at hk
    rw [hk3 _ _ _ _ k (by omega), hk2 k hk, hk1 k hk (by rintro rfl; exact hnc _ _ _ _ _ _ hc)]
  · intro hB
    have h0 := hB.size
    have hB1 : Below w0.heap.size w0 W1 := by rw [← hW1]; exact below_setChan (hB.alloc hB.size _) hcg _ _ _ _ _ _
    have hB2 : Below w0.heap.size w0 W2 := by rw [← hW2]; exact hB1.alloc hB1.size _
    exact below_set (below_set (below_set (below_set hB2 (by show _ ≤ gb; omega)) (by show _ ≤ gb; omega)) (by show _ ≤ gb; omega)) (by show _ ≤ gb; omega)
  · exact results_ct (fn := Try.f12) (p := 2) (u := 3) (ty := 39) rfl #[.pointer (some ⟨g, 0, none⟩), undef, .pointer (some ⟨gb, 0, none⟩), .bool true, .pointer (some ⟨W1.heap.size, 0, none⟩), .pointer (some ⟨g, 0, none⟩), .pointer (some ⟨g, 0, none⟩), .pointer (some ⟨g, 0, none⟩), .chan (some c), .tuple #[.int .i64 0, .bool true, .agg #[.int .i64 n0, .string n1, .string n2, .int .i64 n3]], .int .i64 0, .bool true, undef, .agg #[.int .i64 n0, .string n1, .string n2, .int .i64 n3], .agg #[.int .i64 n0, .string n1, .string n2, .int .i64 n3]] _ gb 39 #[.int .i64 n0, .string n1, .string n2, .int .i64 n3] (0, 0) _ rfl hbf Try.underlying39 rfl (by kernel_rfl)
set_option maxRecDepth 100000 in
theorem tell_room_walk (g : Nat) (f0 : Int) (f1 : List FNews) (f2 f3 n0 : Int) (n1 n2 : ByteArray) (n3 : Int) (w0 w : World) (hI : IsS71 w0 w g f0 f1 f2 f3) (hroom : f1.length < f0.toNat) : Calls Try.prog 15 #[.pointer (some ⟨g, 0, none⟩), .agg #[.int .i64 n0, .string n1, .string n2, .int .i64 n3]] w fun e w' => e = .returned (.bool true) ∧ IsS71 w0 w' g f0 (f1 ++ [(n0, n1, n2, n3)]) (wrap64 (f2 + 1)) f3 ∧ KeepF w w' g ∧ (Below w0.heap.size w0 w → Below w0.heap.size w0 w') := by
  obtain ⟨c, s, r, hb, hg, hcg, hc⟩ := hI
  have hlt := blk_lt hb
  have hltc := blk_lt hc
  have hgc : g ≠ c := by rintro rfl; rw [hb] at hc; cases hc
  refine calls_of_loneTo fun cs => ?_
  have e : Frame.enter Try.prog 15 #[.pointer (some ⟨g, 0, none⟩), .agg #[.int .i64 n0, .string n1, .string n2, .int .i64 n3]] .normal = (base 15).at ⟨#[.pointer (some ⟨g, 0, none⟩), .agg #[.int .i64 n0, .string n1, .string n2, .int .i64 n3], undef, undef, undef, undef, undef, undef, undef, undef, undef, undef, undef, undef, undef, undef, undef, undef, undef, undef, undef, undef, undef, undef, undef, undef, undef], []⟩ [.code (Try.f15.body.getD .skip)] := by
    simp [Frame.enter, Frame.at, Try.func15, base, Try.f15]
  rw [e]
  have hC : ∀ o, (w.alloc o).cell? ⟨g, 0, none⟩ = some (.chan (some c)) := fun o => (blk_cell (by rw [Below.heap_alloc _ _ _ hlt]; exact hb) 0).trans rfl
  refine LoneTo.goes (n := 24) ?_
  simp only [Try.f15, Option.getD_some]
  s_c stepG_seq
  s_reg
  s_op
  s_op
  s_c stepG_region_end
  s_c stepG_seq
  s_c stepG_seq
  s_reg
  s_op
  s_op
  s_op
  s_op
  s_c stepG_region_end
  s_reg
  s_op
  s_c stepG_region_end
  s_c stepG_seq
  s_reg
  s_stop
  refine LoneTo.step (step_lone_select_send_room (c := c) (v := fenc (n0, n1, n2, n3)) (z' := fzero) (cap := f0.toNat) (buf := (f1.map fenc).toArray) (s := s) (r := r) (tm := false) (stepG_comm (cases := #[scase c (fenc (n0, n1, n2, n3)) fzero]) (blocking := false) (shape := .select) (w' := (w.alloc (.cells #[.int .i64 n0, .string n1, .string n2, .int .i64 n3] 39))) rfl rfl (by decide) (by simp [go_sem, execOp, scase, Act.eval, fzero, fenc])) (by rw [Below.heap_alloc _ _ _ hltc]; exact hc) (by simpa using hroom)) ?_
  rw [Frame.finish_at]
  generalize hW1 : (w.alloc (.cells #[.int .i64 n0, .string n1, .string n2, .int .i64 n3] 39)).setChan c f0.toNat ((f1.map fenc).toArray.push (fenc (n0, n1, n2, n3))) false (s + 1) r false = W1
  have hsz1 : W1.heap.size = w.heap.size + 1 := by rw [← hW1]; simp [size_setChan]
  have hk1 : ∀ k, k < w.heap.size → k ≠ c → W1.heap[k]? = w.heap[k]? := fun k hk hkc => by
    rw [← hW1]; simp only [World.setChan]; rw [Array.getElem?_setIfInBounds_ne (fun h => hkc h.symm)]; exact Below.heap_alloc _ _ _ (by omega)
  have hc1 : W1.heap[c]? = some (.chan f0.toNat ((f1 ++ [(n0, n1, n2, n3)]).map fenc).toArray false (s + 1) r false) := by
    rw [← hW1]
    refine (heap_setChan _ c f0.toNat _ false (s + 1) r false (by simp; omega)).trans ?_
    simp
  have hbg : W1.heap[g]? = some (.cells #[.chan (some c), .int .i64 f2, .int .i64 f3] 71) := by rw [hk1 g hlt hgc]; exact hb
  have z1 : W1.cell? ⟨g, 1, none⟩ = some (.int .i64 f2) := (blk_cell hbg 1).trans rfl
  have y1 := blk_frozen hbg 1
  walk_nrm
  refine LoneTo.goes (n := 24) ?_
  s_op
  s_op
  s_c stepG_region_end
  s_c stepG_block
  s_cond true
  s_c stepG_seq
  s_reg
  s_op
  s_op
  s_op
  s_op
  s_op
  s_op
  s_op
  s_op
  s_c stepG_region_end
  s_c stepG_seq
  s_reg
  s_op
  s_c stepG_region_end
  s_c stepG_ret'
  s_stop
  refine LoneTo.done ⟨.returned (.bool true), _, rfl, ⟨rfl, ?_, ?_, ?_⟩, rfl, rfl, rfl, rfl, _, Try.func15, by simp [results, Try.f15, Frame.at]⟩
  · refine ⟨c, s + 1, r, ?_, hg, hcg, ?_⟩
    · exact blk_put (cs := #[.chan (some c), .int .i64 f2, .int .i64 f3]) hbg 1 _ (by rw [IntWalk.i64_left]; rfl)
    · rw [Below.heap_setCell _ _ _ _ (fun h => hgc h.symm)]; exact hc1
  · refine ⟨by simp [hsz1], fun k hk hkg hnc => ?_⟩
    rw [Below.heap_setCell _ _ _ _ hkg, hk1 k hk (by rintro rfl; exact hnc _ _ _ _ _ _ hc)]
  · intro hB
    have hB1 : Below w0.heap.size w0 W1 := by rw [← hW1]; exact below_setChan (hB.alloc hB.size _) hcg _ _ _ _ _ _
    exact below_set hB1 hg
set_option maxRecDepth 100000 in
theorem tell_full_walk (g : Nat) (f0 : Int) (f1 : List FNews) (f2 f3 n0 : Int) (n1 n2 : ByteArray) (n3 : Int) (w0 w : World) (hI : IsS71 w0 w g f0 f1 f2 f3) (hroom : f0.toNat ≤ f1.length) : Calls Try.prog 15 #[.pointer (some ⟨g, 0, none⟩), .agg #[.int .i64 n0, .string n1, .string n2, .int .i64 n3]] w fun e w' => e = .returned (.bool false) ∧ IsS71 w0 w' g f0 f1 f2 (wrap64 (f3 + 1)) ∧ KeepF w w' g ∧ (Below w0.heap.size w0 w → Below w0.heap.size w0 w') := by
  obtain ⟨c, s, r, hb, hg, hcg, hc⟩ := hI
  have hlt := blk_lt hb
  have hltc := blk_lt hc
  have hgc : g ≠ c := by rintro rfl; rw [hb] at hc; cases hc
  refine calls_of_loneTo fun cs => ?_
  have e : Frame.enter Try.prog 15 #[.pointer (some ⟨g, 0, none⟩), .agg #[.int .i64 n0, .string n1, .string n2, .int .i64 n3]] .normal = (base 15).at ⟨#[.pointer (some ⟨g, 0, none⟩), .agg #[.int .i64 n0, .string n1, .string n2, .int .i64 n3], undef, undef, undef, undef, undef, undef, undef, undef, undef, undef, undef, undef, undef, undef, undef, undef, undef, undef, undef, undef, undef, undef, undef, undef, undef], []⟩ [.code (Try.f15.body.getD .skip)] := by
    simp [Frame.enter, Frame.at, Try.func15, base, Try.f15]
  rw [e]
  have hC : ∀ o, (w.alloc o).cell? ⟨g, 0, none⟩ = some (.chan (some c)) := fun o => (blk_cell (by rw [Below.heap_alloc _ _ _ hlt]; exact hb) 0).trans rfl
  refine LoneTo.goes (n := 24) ?_
  simp only [Try.f15, Option.getD_some]
  s_c stepG_seq
  s_reg
  s_op
  s_op
  s_c stepG_region_end
  s_c stepG_seq
  s_c stepG_seq
  s_reg
  s_op
  s_op
  s_op
  s_op
  s_c stepG_region_end
  s_reg
  s_op
  s_c stepG_region_end
  s_c stepG_seq
  s_reg
  s_stop
  refine LoneTo.step (step_lone_select_send_full (c := c) (v := fenc (n0, n1, n2, n3)) (z' := fzero) (cap := f0.toNat) (buf := (f1.map fenc).toArray) (s := s) (r := r) (tm := false) (stepG_comm (cases := #[scase c (fenc (n0, n1, n2, n3)) fzero]) (blocking := false) (shape := .select) (w' := (w.alloc (.cells #[.int .i64 n0, .string n1, .string n2, .int .i64 n3] 39))) rfl rfl (by decide) (by simp [go_sem, execOp, scase, Act.eval, fzero, fenc])) (by rw [Below.heap_alloc _ _ _ hltc]; exact hc) (by simpa using hroom)) ?_
  rw [Frame.finish_at]
  generalize hW1 : (w.alloc (.cells #[.int .i64 n0, .string n1, .string n2, .int .i64 n3] 39)) = W1
  have hsz1 : W1.heap.size = w.heap.size + 1 := by rw [← hW1]; simp [size_setChan]
  have hk1 : ∀ k, k < w.heap.size → k ≠ c → W1.heap[k]? = w.heap[k]? := fun k hk hkc => by
    rw [← hW1]; exact Below.heap_alloc _ _ _ (by omega)
  have hc1 : W1.heap[c]? = some (.chan f0.toNat (f1.map fenc).toArray false s r false) := by
    rw [← hW1, Below.heap_alloc _ _ _ hltc]; exact hc
  have hbg : W1.heap[g]? = some (.cells #[.chan (some c), .int .i64 f2, .int .i64 f3] 71) := by rw [hk1 g hlt hgc]; exact hb
  have z1 : W1.cell? ⟨g, 2, none⟩ = some (.int .i64 f3) := (blk_cell hbg 2).trans rfl
  have y1 := blk_frozen hbg 2
  walk_nrm
  refine LoneTo.goes (n := 24) ?_
  s_op
  s_op
  s_c stepG_region_end
  s_c stepG_block
  s_cond false
  s_c stepG_seq
  s_reg
  s_op
  s_op
  s_op
  s_op
  s_op
  s_op
  s_op
  s_op
  s_c stepG_region_end
  s_c stepG_seq
  s_reg
  s_op
  s_c stepG_region_end
  s_c stepG_ret'
  s_stop
  refine LoneTo.done ⟨.returned (.bool false), _, rfl, ⟨rfl, ?_, ?_, ?_⟩, rfl, rfl, rfl, rfl, _, Try.func15, by simp [results, Try.f15, Frame.at]⟩
  · refine ⟨c, s, r, ?_, hg, hcg, ?_⟩
    · exact blk_put (cs := #[.chan (some c), .int .i64 f2, .int .i64 f3]) hbg 2 _ (by rw [IntWalk.i64_left]; rfl)
    · rw [Below.heap_setCell _ _ _ _ (fun h => hgc h.symm)]; exact hc1
  · refine ⟨by simp [hsz1], fun k hk hkg hnc => ?_⟩
    rw [Below.heap_setCell _ _ _ _ hkg, hk1 k hk (by rintro rfl; exact hnc _ _ _ _ _ _ hc)]
  · intro hB
    have hB1 : Below w0.heap.size w0 W1 := by rw [← hW1]; exact hB.alloc hB.size _
    exact below_set hB1 hg
theorem elem39 : ∃ i, Try.prog.info? 39 = some i ∧ i.bytes = 48 := by
  have h : (Try.prog.info? 39).map (·.bytes) = some 48 := by kernel_rfl
  obtain ⟨i, hi, hb⟩ := Option.map_eq_some_iff.1 h
  exact ⟨i, hi, hb⟩
theorem mkc (n : Int) (h0 : 0 ≤ n) (h1 : n ≤ 64) (w : World) : (Instr.makeChan 69 (.int .i64 n)).run Try.prog w = .ok (.chan (some w.heap.size)) (w.alloc (.chan n.toNat #[] false 0 0 false)) := by
  obtain ⟨i, hi, hb⟩ := elem39
  have h := run_makeChan (P := Try.prog) (w := w) Try.underlying69 hi .i64 n.toNat (by omega) (by rw [hb]; omega)
  have e : ((n.toNat : Nat) : Int) = n := by omega
  rw [e] at h
  exact h
set_option maxRecDepth 100000 in
theorem new_ok_walk (n : Int) (h0 : 0 ≤ n) (h1 : n ≤ 64) (w0 w : World) (hB : Below w0.heap.size w0 w) : Calls Try.prog 9 #[.int .i64 n] w fun e w' => ∃ g, e = .returned (.tuple #[.pointer (some ⟨g, 0, none⟩), .int .i64 0]) ∧ IsS71 w0 w' g n [] 0 0 ∧ Below w0.heap.size w0 w' ∧ Below w.heap.size w w' := by
  refine calls_of_loneTo fun cs => ?_
  have e : Frame.enter Try.prog 9 #[.int .i64 n] .normal = (base 9).at ⟨#[.int .i64 n, undef, undef, undef, undef, undef, undef, undef, undef, undef, undef, undef, undef, undef], []⟩ [.code (Try.f9.body.getD .skip)] := by
    simp [Frame.enter, Frame.at, Try.func9, base, Try.f9]
  rw [e]
  have hm := mkc n h0 h1
  have t0 : decide (n < 0) = false := decide_eq_false (by omega)
  have t1 : decide (64 < n) = false := decide_eq_false (by omega)
  refine LoneTo.goes (n := 31) ?_
  simp only [Try.f9, Option.getD_some]
  s_c stepG_seq
  s_reg
  s_op
  s_op
  s_c stepG_region_end
  s_c stepG_seq
  s_c stepG_seq
  s_reg
  s_op
  s_op
  s_op
  s_op
  s_op
  s_op
  s_c stepG_region_end
  s_cond false
  s_c stepG_skip
  s_c stepG_seq
  s_reg
  s_op
  s_op
  s_op
  s_op
  s_op
  s_op
  s_c stepG_region_end
  s_c stepG_ret'
  s_stop
  refine LoneTo.done ⟨.returned (.tuple #[.pointer (some ⟨w.heap.size + 1, 0, none⟩), .int .i64 0]), _, rfl, ⟨w.heap.size + 1, rfl, ?_, ?_, ?_⟩, rfl, rfl, rfl, rfl, _, Try.func9, by simp [results, Try.f9, Frame.at]⟩
  · have hs := hB.size
    refine ⟨w.heap.size, 0, 0, ?_, by omega, by omega, ?_⟩
    · have h := heap_alloc_new (w.alloc (.chan n.toNat #[] false 0 0 false)) (.cells #[.chan (some w.heap.size), .int .i64 0, .int .i64 0] 71)
      simpa only [World.size_alloc] using h
    · rw [Below.heap_alloc _ _ _ (by simp)]
      exact heap_alloc_new w _
  · have h := hB.alloc hB.size (.chan n.toNat #[] false 0 0 false)
    exact h.alloc h.size _
  · have h := (Below.refl w.heap.size w).alloc (Nat.le_refl _) (.chan n.toNat #[] false 0 0 false)
    exact h.alloc h.size _
set_option maxRecDepth 100000 in
theorem new_low_walk (n : Int) (h0 : n < 0) (w : World) : Calls Try.prog 9 #[.int .i64 n] w fun e w' => e = .returned (.tuple #[.pointer none, .int .i64 2]) ∧ w' = w := by
  refine calls_of_loneTo fun cs => ?_
  have e : Frame.enter Try.prog 9 #[.int .i64 n] .normal = (base 9).at ⟨#[.int .i64 n, undef, undef, undef, undef, undef, undef, undef, undef, undef, undef, undef, undef, undef], []⟩ [.code (Try.f9.body.getD .skip)] := by
    simp [Frame.enter, Frame.at, Try.func9, base, Try.f9]
  rw [e]
  have t0 : decide (n < 0) = true := decide_eq_true h0
  refine LoneTo.goes (n := 31) ?_
  simp only [Try.f9, Option.getD_some]
  s_c stepG_seq
  s_reg
  s_op
  s_op
  s_c stepG_region_end
  s_c stepG_seq
  s_c stepG_seq
  s_reg
  s_op
  s_op
  s_op
  s_in; rw [stepG_unwanted rfl rfl]; simp only [goes_go]; refine ⟨trivial, ?_⟩
  walk_nrm
  s_in; rw [stepG_unwanted rfl rfl]; simp only [goes_go]; refine ⟨trivial, ?_⟩
  walk_nrm
  s_op
  s_c stepG_region_end
  s_cond true
  s_c stepG_seq
  s_reg
  s_op
  s_op
  s_c stepG_region_end
  s_c stepG_ret'
  s_stop
  refine LoneTo.done ⟨.returned (.tuple #[.pointer none, .int .i64 2]), _, rfl, ⟨rfl, rfl⟩, rfl, rfl, rfl, rfl, _, Try.func9, by simp [results, Try.f9, Frame.at]⟩
set_option maxRecDepth 100000 in
theorem new_high_walk (n : Int) (h0 : 64 < n) (w : World) : Calls Try.prog 9 #[.int .i64 n] w fun e w' => e = .returned (.tuple #[.pointer none, .int .i64 2]) ∧ w' = w := by
  refine calls_of_loneTo fun cs => ?_
  have e : Frame.enter Try.prog 9 #[.int .i64 n] .normal = (base 9).at ⟨#[.int .i64 n, undef, undef, undef, undef, undef, undef, undef, undef, undef, undef, undef, undef, undef], []⟩ [.code (Try.f9.body.getD .skip)] := by
    simp [Frame.enter, Frame.at, Try.func9, base, Try.f9]
  rw [e]
  have t0 : decide (n < 0) = false := decide_eq_false (by omega)
  have t1 : decide (64 < n) = true := decide_eq_true h0
  refine LoneTo.goes (n := 31) ?_
  simp only [Try.f9, Option.getD_some]
  s_c stepG_seq
  s_reg
  s_op
  s_op
  s_c stepG_region_end
  s_c stepG_seq
  s_c stepG_seq
  s_reg
  s_op
  s_op
  s_op
  s_op
  s_op
  s_op
  s_c stepG_region_end
  s_cond true
  s_c stepG_seq
  s_reg
  s_op
  s_op
  s_c stepG_region_end
  s_c stepG_ret'
  s_stop
  refine LoneTo.done ⟨.returned (.tuple #[.pointer none, .int .i64 2]), _, rfl, ⟨rfl, rfl⟩, rfl, rfl, rfl, rfl, _, Try.func9, by simp [results, Try.f9, Frame.at]⟩
/-! ### contracts, as the printed walks take them -/
def feed_NewOk.f (n : Int) : Option (Int × List FNews × Int × Int) := if 0 ≤ n ∧ n ≤ 64 then some (n, [], 0, 0) else none
theorem feed_NewOk.calls (n : Int) (r1 : Int) (r2 : List FNews) (r3 r4 : Int) (w0 w : World) (hB : Below w0.heap.size w0 w) (h : feed_NewOk.f n = some (r1, r2, r3, r4)) :
    Calls Try.prog 9 #[.int .i64 n] w fun e w' => ∃ g_ : Nat, e = .returned (.tuple #[.pointer (some ⟨g_, 0, none⟩), .int .i64 0]) ∧ IsS71 w0 w' g_ r1 r2 r3 r4 ∧ Below w0.heap.size w0 w' ∧ Below w.heap.size w w' := by
  unfold feed_NewOk.f at h
  split at h
  · rename_i hn
    simp only [Option.some.injEq, Prod.mk.injEq] at h
    obtain ⟨rfl, rfl, rfl, rfl⟩ := h
    exact new_ok_walk n hn.1 hn.2 w0 w hB
  · cases h
def feed_NewBad.f (n : Int) : Option Unit := if 0 ≤ n ∧ n ≤ 64 then none else some ()
theorem feed_NewBad.calls (n : Int) (w : World) (h : feed_NewBad.f n = some ()) :
    Calls Try.prog 9 #[.int .i64 n] w fun e w' => e = .returned (.tuple #[.pointer none, .int .i64 2]) ∧ Drawn0 w w' := by
  unfold feed_NewBad.f at h
  split at h
  · cases h
  · rename_i hn
    by_cases h0 : n < 0
    · exact (new_low_walk n h0 w).mono fun e w' ⟨he, hw⟩ => ⟨he, hw ▸ Drawn0.refl _⟩
    · exact (new_high_walk n (by omega) w).mono fun e w' ⟨he, hw⟩ => ⟨he, hw ▸ Drawn0.refl _⟩
theorem KeepF.refl (w : World) (g : Nat) : KeepF w w g := ⟨Nat.le_refl _, fun _ _ _ _ => rfl⟩
def feed_Feed_Told.f (s0 : Int) (s1 : List FNews) (s2 s3 : Int) : Option (Int × Int × List FNews × Int × Int) := some (s2, s0, s1, s2, s3)
theorem feed_Feed_Told.calls (g : Nat) (s0 : Int) (s1 : List FNews) (s2 s3 : Int) (r0 : Int) (r1 : Int) (r2 : List FNews) (r3 r4 : Int) (w0 w : World) (hI : IsS71 w0 w g s0 s1 s2 s3) (hB : Below w0.heap.size w0 w) (h : feed_Feed_Told.f s0 s1 s2 s3 = some (r0, r1, r2, r3, r4)) :
    Calls Try.prog 19 #[.pointer (some ⟨g, 0, none⟩)] w fun e w' => e = .returned (.int .i64 r0) ∧ IsS71 w0 w' g r1 r2 r3 r4 ∧ Below w0.heap.size w0 w' ∧ KeepF w w' g := by
  unfold feed_Feed_Told.f at h
  simp only [Option.some.injEq, Prod.mk.injEq] at h
  obtain ⟨rfl, rfl, rfl, rfl, rfl⟩ := h
  exact (told_walk g s0 s1 s2 s3 w0 w hI).mono fun e w' ⟨he, hw⟩ => by subst hw; exact ⟨he, hI, hB, KeepF.refl _ _⟩
def feed_Feed_Lost.f (s0 : Int) (s1 : List FNews) (s2 s3 : Int) : Option (Int × Int × List FNews × Int × Int) := some (s3, s0, s1, s2, s3)
theorem feed_Feed_Lost.calls (g : Nat) (s0 : Int) (s1 : List FNews) (s2 s3 : Int) (r0 : Int) (r1 : Int) (r2 : List FNews) (r3 r4 : Int) (w0 w : World) (hI : IsS71 w0 w g s0 s1 s2 s3) (hB : Below w0.heap.size w0 w) (h : feed_Feed_Lost.f s0 s1 s2 s3 = some (r0, r1, r2, r3, r4)) :
    Calls Try.prog 20 #[.pointer (some ⟨g, 0, none⟩)] w fun e w' => e = .returned (.int .i64 r0) ∧ IsS71 w0 w' g r1 r2 r3 r4 ∧ Below w0.heap.size w0 w' ∧ KeepF w w' g := by
  unfold feed_Feed_Lost.f at h
  simp only [Option.some.injEq, Prod.mk.injEq] at h
  obtain ⟨rfl, rfl, rfl, rfl, rfl⟩ := h
  exact (lost_walk g s0 s1 s2 s3 w0 w hI).mono fun e w' ⟨he, hw⟩ => by subst hw; exact ⟨he, hI, hB, KeepF.refl _ _⟩
def feed_Feed_Waits.f (s0 : Int) (s1 : List FNews) (s2 s3 : Int) : Option (Int × Int × List FNews × Int × Int) := some ((s1.length : Int), s0, s1, s2, s3)
theorem feed_Feed_Waits.calls (g : Nat) (s0 : Int) (s1 : List FNews) (s2 s3 : Int) (r0 : Int) (r1 : Int) (r2 : List FNews) (r3 r4 : Int) (w0 w : World) (hI : IsS71 w0 w g s0 s1 s2 s3) (hB : Below w0.heap.size w0 w) (h : feed_Feed_Waits.f s0 s1 s2 s3 = some (r0, r1, r2, r3, r4)) :
    Calls Try.prog 18 #[.pointer (some ⟨g, 0, none⟩)] w fun e w' => e = .returned (.int .i64 r0) ∧ IsS71 w0 w' g r1 r2 r3 r4 ∧ Below w0.heap.size w0 w' ∧ KeepF w w' g := by
  unfold feed_Feed_Waits.f at h
  simp only [Option.some.injEq, Prod.mk.injEq] at h
  obtain ⟨rfl, rfl, rfl, rfl, rfl⟩ := h
  exact (waits_walk g s0 s1 s2 s3 w0 w hI).mono fun e w' ⟨he, hw⟩ => by subst hw; exact ⟨he, hI, hB, KeepF.refl _ _⟩
def feed_Feed_Hear.f (s0 : Int) (s1 : List FNews) (s2 s3 : Int) : Option (Int × ByteArray × ByteArray × Int × Bool × Int × List FNews × Int × Int) :=
  match s1 with
  | [] => some (0, ⟨#[]⟩, ⟨#[]⟩, 0, false, s0, [], s2, s3)
  | n :: l => some (n.1, n.2.1, n.2.2.1, n.2.2.2, true, s0, l, s2, s3)
theorem feed_Feed_Hear.calls (g : Nat) (s0 : Int) (s1 : List FNews) (s2 s3 : Int) (q0 : Int) (q1 q2 : ByteArray) (q3 : Int) (q4 : Bool) (r1 : Int) (r2 : List FNews) (r3 r4 : Int) (w0 w : World) (hI : IsS71 w0 w g s0 s1 s2 s3) (hB : Below w0.heap.size w0 w) (h : feed_Feed_Hear.f s0 s1 s2 s3 = some (q0, q1, q2, q3, q4, r1, r2, r3, r4)) :
    Calls Try.prog 12 #[.pointer (some ⟨g, 0, none⟩)] w fun e w' => e = .returned (.tuple #[.agg #[.int .i64 q0, .string q1, .string q2, .int .i64 q3], .bool q4]) ∧ IsS71 w0 w' g r1 r2 r3 r4 ∧ Below w0.heap.size w0 w' ∧ KeepF w w' g := by
  cases s1 with
  | nil =>
    simp only [feed_Feed_Hear.f, Option.some.injEq, Prod.mk.injEq] at h
    obtain ⟨rfl, rfl, rfl, rfl, rfl, rfl, rfl, rfl, rfl⟩ := h
    exact (hear_none_walk g s0 s2 s3 w0 w hI).mono fun e w' ⟨he, hb⟩ => ⟨he, hI.below hb, below_step hB hb, hb.size, fun k hk _ _ => hb.block k hk⟩
  | cons n l =>
    obtain ⟨n0, n1, n2, n3⟩ := n
    simp only [feed_Feed_Hear.f, Option.some.injEq, Prod.mk.injEq] at h
    obtain ⟨rfl, rfl, rfl, rfl, rfl, rfl, rfl, rfl, rfl⟩ := h
    exact (hear_some_walk g s0 n0 n1 n2 n3 l s2 s3 w0 w hI).mono fun e w' ⟨he, hi, hk, hb⟩ => ⟨he, hi, hb hB, hk⟩
def feed_Feed_Tell.f (s0 : Int) (s1 : List FNews) (s2 s3 : Int) (n0 : Int) (n1 n2 : ByteArray) (n3 : Int) : Option (Bool × Int × List FNews × Int × Int) :=
  if s1.length < s0.toNat then some (true, s0, s1 ++ [(n0, n1, n2, n3)], wrap64 (s2 + 1), s3) else some (false, s0, s1, s2, wrap64 (s3 + 1))
theorem feed_Feed_Tell.calls (g : Nat) (s0 : Int) (s1 : List FNews) (s2 s3 : Int) (n0 : Int) (n1 n2 : ByteArray) (n3 : Int) (q : Bool) (r1 : Int) (r2 : List FNews) (r3 r4 : Int) (w0 w : World) (hI : IsS71 w0 w g s0 s1 s2 s3) (hB : Below w0.heap.size w0 w) (h : feed_Feed_Tell.f s0 s1 s2 s3 n0 n1 n2 n3 = some (q, r1, r2, r3, r4)) :
    Calls Try.prog 15 #[.pointer (some ⟨g, 0, none⟩), .agg #[.int .i64 n0, .string n1, .string n2, .int .i64 n3]] w fun e w' => e = .returned (.bool q) ∧ IsS71 w0 w' g r1 r2 r3 r4 ∧ Below w0.heap.size w0 w' ∧ KeepF w w' g := by
  unfold feed_Feed_Tell.f at h
  split at h
  · rename_i hr
    simp only [Option.some.injEq, Prod.mk.injEq] at h
    obtain ⟨rfl, rfl, rfl, rfl, rfl⟩ := h
    exact (tell_room_walk g s0 s1 s2 s3 n0 n1 n2 n3 w0 w hI hr).mono fun e w' ⟨he, hi, hk, hb⟩ => ⟨he, hi, hb hB, hk⟩
  · rename_i hr
    simp only [Option.some.injEq, Prod.mk.injEq] at h
    obtain ⟨rfl, rfl, rfl, rfl, rfl⟩ := h
    exact (tell_full_walk g s0 s1 s2 s3 n0 n1 n2 n3 w0 w hI (by omega)).mono fun e w' ⟨he, hi, hk, hb⟩ => ⟨he, hi, hb hB, hk⟩
end Go.Proofs.Ytllhmnohmdgblaa
