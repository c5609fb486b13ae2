/- A request handed by value, as the reference has it: its cells, its blocks; each condition stands in its theorem. -/
import Derived.Test.YtjkehapbemjnpaaDoorVFirst
namespace Go.Proofs.YtjkehapbemjnpaaDoor
open Go.RowKit Go.Proofs.YtjkehapbemjnpaaDoorW.PrintWords Go.Proofs.YtjkehapbemjnpaaDoorW.PrintLast Go.Proofs.YtjkehapbemjnpaaDoorW.PrintMore Lf Kit Cut Pl Num
set_option linter.unusedVariables false
set_option linter.unusedSimpArgs false
def RP (ok : Nat → Prop) (w : World) (a : AskP) (b : Bool) (e : Ending) (w' : World) : Prop :=
 ∃ cs, e = .returned (.tuple #[.agg cs, .bool b]) ∧ AskC w' ok False cs a ∧ Below w.heap.size w w'
theorem AskC.below {w W : World} {cs : Array Value} {a : AskP} {ok : Nat → Prop} {nl : Prop} (h : AskC w ok nl cs a) (hb : Below w.heap.size w W) : AskC W ok nl cs a := h.step fun k _ hk => hb.block k hk
theorem size_alloc (w : World) (o : Obj) : (w.alloc o).heap.size = w.heap.size + 1 := by simp
def RR (ok : Nat → Prop) (w : World) (r : AskP × Int) (e : Ending) (w' : World) : Prop :=
 ∃ cs, e = .returned (.tuple #[.agg cs, .int .i64 r.2]) ∧ AskC w' ok False cs r.1 ∧ Below w.heap.size w w'
structure RAt (ok : Nat → Prop) (w : World) (cs : Array Value) (a : AskP) (W : World) : Prop where
 b0 : W.heap[w.heap.size]? = some (.cells cs 26 (0, 0))
 b1 : W.heap[w.heap.size + 1]? = some (.cells zA 26 (0, 0))
 be : Below w.heap.size w W
 ac : AskC W (fun k => ok k ∧ k ≠ w.heap.size ∧ k ≠ w.heap.size + 1) False cs a
 sz : w.heap.size + 2 ≤ W.heap.size
theorem RAt.below {ok : Nat → Prop} {w W W2 : World} {cs : Array Value} {a : AskP} (h : RAt ok w cs a W) (hb : Below W.heap.size W W2) : RAt ok w cs a W2 :=
 ⟨blk_below h.b0 hb, blk_below h.b1 hb, below_step h.be hb, h.ac.below hb, Nat.le_trans h.sz hb.size⟩
theorem RAt.start {ok : Nat → Prop} {w : World} {cs : Array Value} {a : AskP} (h : AskC w ok False cs a) : RAt ok w cs a ((w.alloc (.cells cs 26)).alloc (.cells zA 26)) where
 b0 := blk_alloc (blk_new w (.cells cs 26)) (.cells zA 26)
 b1 := by have := blk_new (w.alloc (.cells cs 26)) (.cells zA 26); rwa [size_alloc] at this
 be := below_alloc (below_alloc (Below.refl w.heap.size w) (.cells cs 26)) (.cells zA 26)
 ac := (h.bound.below (below_alloc (below_alloc (Below.refl w.heap.size w) (.cells cs 26)) (.cells zA 26))).mono fun k hk => ⟨hk.1, by have := hk.2; omega, by have := hk.2; omega⟩
 sz := by rw [size_alloc, size_alloc]; omega
theorem RAt.fin {ok : Nat → Prop} {w W : World} {cs cF : Array Value} {a b : AskP} {c : Int} (h : RAt ok w cs a W) (hF : AskC W (fun k => ok k ∧ k ≠ w.heap.size ∧ k ≠ w.heap.size + 1) False cF b) :
  RR ok w (b, c) (.returned (.tuple #[.agg cF, .int .i64 c])) (W.setRow (w.heap.size + 1) cF) :=
 ⟨cF, rfl, (hF.step fun k hk _ => setRow_other W _ cF k hk.2.2).mono fun _ hk => hk.1, below_row h.be (Nat.le_succ _) cF⟩
theorem up_ok {ok : Nat → Prop} {w W : World} (hk : ∀ k, w.heap.size ≤ k → ok k) (hs : w.heap.size + 2 ≤ W.heap.size) : ∀ k, W.heap.size ≤ k → ok k ∧ k ≠ w.heap.size ∧ k ≠ w.heap.size + 1 := fun k h => ⟨hk k (by omega), by omega, by omega⟩
theorem not_decide {xs ys : List Int} : (!decide (xs = ys)) = decide (xs ≠ ys) := by by_cases h : xs = ys <;> simp [h]
end Go.Proofs.YtjkehapbemjnpaaDoor
namespace Go.Proofs.YtjkehapbemjnpaaDoor
open Go.RowKit Go.Proofs.YtjkehapbemjnpaaDoorW.PrintWords Go.Proofs.YtjkehapbemjnpaaDoorW.PrintLast Go.Proofs.YtjkehapbemjnpaaDoorW.PrintMore Lf Kit Cut Pl Num
set_option linter.unusedVariables false
set_option linter.unusedSimpArgs false
/-- A call's own three blocks: the request that came in, what is told, and a request (co, b) that is being made. -/
structure ROut (ok : Nat → Prop) (w : World) (cs : Array Value) (a : AskP) (g : Nat) (co : Array Value) (b : AskP) (W : World) : Prop where
 b0 : W.heap[w.heap.size]? = some (.cells cs 26 (0, 0))
 b1 : W.heap[w.heap.size + 1]? = some (.cells zA 26 (0, 0))
 bg : W.heap[g]? = some (.cells co 26 (0, 0))
 be : Below w.heap.size w W
 hg : w.heap.size + 2 ≤ g
 ac : AskC W (fun k => (ok k ∧ k ≠ w.heap.size ∧ k ≠ w.heap.size + 1) ∧ k ≠ g) False cs a
 ao : AskC W (fun k => (ok k ∧ k ≠ w.heap.size ∧ k ≠ w.heap.size + 1) ∧ k ≠ g) False co b
section
variable {ok : Nat → Prop} {w W W2 : World} {cs co : Array Value} {a b b' : AskP} {g : Nat}
theorem ROut.below (h : ROut ok w cs a g co b W) (hb : Below W.heap.size W W2) : ROut ok w cs a g co b W2 :=
 ⟨blk_below h.b0 hb, blk_below h.b1 hb, blk_below h.bg hb, below_step h.be hb, h.hg, h.ac.below hb, h.ao.below hb⟩
theorem ROut.drewN (h : ROut ok w cs a g co b W) (n : Nat) : ROut ok w cs a g co b (W.drewN n) := h.below (pw_below_drewN (Below.refl _ _) n)
theorem ROut.start (h : RAt ok w cs a W) (hc : AskC W (fun k => ok k ∧ k ≠ w.heap.size ∧ k ≠ w.heap.size + 1) False co b) : ROut ok w cs a W.heap.size co b (W.alloc (.cells co 26)) where
 b0 := blk_alloc h.b0 _
 b1 := blk_alloc h.b1 _
 bg := blk_new W _
 be := below_alloc h.be _
 hg := h.sz
 ac := (h.ac.bound.below (below_alloc (Below.refl W.heap.size W) (.cells co 26))).mono fun k hk => ⟨hk.1, by have := hk.2; omega⟩
 ao := (hc.bound.below (below_alloc (Below.refl W.heap.size W) (.cells co 26))).mono fun k hk => ⟨hk.1, by have := hk.2; omega⟩
theorem ROut.setc (h : ROut ok w cs a g co b W) (p : Nat) (u : Value) (hp : AskC W (fun k => (ok k ∧ k ≠ w.heap.size ∧ k ≠ w.heap.size + 1) ∧ k ≠ g) False (co.setIfInBounds p u) b') : ROut ok w cs a g (co.setIfInBounds p u) b' (W.setCell ⟨g, p, none⟩ u) where
 b0 := blk_far h.b0 (p := ⟨g, p, none⟩) (by have := h.hg; show w.heap.size ≠ g; omega) u
 b1 := blk_far h.b1 (p := ⟨g, p, none⟩) (by have := h.hg; show w.heap.size + 1 ≠ g; omega) u
 bg := blk_put h.bg p u rfl
 be := below_set h.be (by have := h.hg; omega)
 hg := h.hg
 ac := h.ac.step fun k hk _ => Below.heap_setCell W ⟨g, p, none⟩ u k hk.2
 ao := hp.step fun k hk _ => Below.heap_setCell W ⟨g, p, none⟩ u k hk.2
theorem ROut.setr (h : ROut ok w cs a g co b W) {cn : Array Value} (hp : AskC W (fun k => (ok k ∧ k ≠ w.heap.size ∧ k ≠ w.heap.size + 1) ∧ k ≠ g) False cn b') : ROut ok w cs a g cn b' (W.setRow g cn) where
 b0 := (setRow_other W g cn _ (by have := h.hg; omega)).trans h.b0
 b1 := (setRow_other W g cn _ (by have := h.hg; omega)).trans h.b1
 bg := blk_row h.bg cn
 be := below_row h.be (by have := h.hg; omega) cn
 hg := h.hg
 ac := h.ac.step fun k hk _ => setRow_other W g cn k hk.2
 ao := hp.step fun k hk _ => setRow_other W g cn k hk.2
theorem ROut.toR (h : ROut ok w cs a g co b W) : RAt ok w cs a W := ⟨h.b0, h.b1, h.be, h.ac.mono fun _ hk => hk.1, by have := blk_lt h.bg; have := h.hg; omega⟩
theorem ROut.fin (h : ROut ok w cs a g co b W) {c : Int} : RR ok w (b, c) (.returned (.tuple #[.agg co, .int .i64 c])) (W.setRow (w.heap.size + 1) co) := h.toR.fin (h.ao.mono fun _ hk => hk.1)
theorem ROut.up (h : ROut ok w cs a g co b W) (hk : ∀ k, w.heap.size ≤ k → ok k) : ∀ k, W.heap.size ≤ k → (ok k ∧ k ≠ w.heap.size ∧ k ≠ w.heap.size + 1) ∧ k ≠ g := fun k h1 => by
 have h2 := blk_lt h.bg
 have h3 := h.hg
 exact ⟨⟨hk k (by omega), by omega, by omega⟩, by omega⟩
end
end Go.Proofs.YtjkehapbemjnpaaDoor
