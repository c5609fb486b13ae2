/- A request as plain data, and in memory; no condition beside those in each theorem. -/
import Derived.Test.YtjkehapbemjnpaaDoorVAb
namespace Go.Proofs.YtjkehapbemjnpaaDoor
open Go.RowKit Go.Proofs.YtjkehapbemjnpaaDoorW.PrintWords Go.Proofs.YtjkehapbemjnpaaDoorW.PrintLast Go.Proofs.YtjkehapbemjnpaaDoorW.PrintMore Lf
set_option linter.unusedVariables false
set_option linter.unusedSimpArgs false
structure AskP where
 x0 : Int
 x1 : List Int
 x2 : List Int
 x3 : Int
 x4 : List Int
 x5 : List Int
 x6 : List Int
 x7 : List Int
 x8 : List Int
 x9 : List Int
 x10 : List Int
 x11 : Int
 x12 : List Int
 x13 : List Int
 x14 : List Int
 x15 : Int
 x16 : List Int
 x17 : List Int
 x18 : Int
 x19 : List Int
 x20 : Int
 x21 : Int
 x22 : List Int
 x23 : Int
deriving DecidableEq
def ask0 : AskP := ⟨0, [], [], 0, [], [], [], [], [], [], [], 0, [], [], [], 0, [], [], 0, [], 0, 0, [], 0⟩
def AskP.t (a : AskP) : Nat → List Int
 | 0 => a.x6
 | 1 => a.x7
 | 2 => a.x8
 | 3 => a.x12
 | 4 => a.x13
 | 5 => a.x14
 | _ => []
def AskP.tSet (a : AskP) (k : Nat) (v : List Int) : AskP := match k with
 | 0 => { a with x6 := v }
 | 1 => { a with x7 := v }
 | 2 => { a with x8 := v }
 | 3 => { a with x12 := v }
 | 4 => { a with x13 := v }
 | 5 => { a with x14 := v }
 | _ => a
def AskP.o (a : AskP) : Nat → List Int
 | 0 => a.x5
 | 1 => a.x9
 | 2 => a.x10
 | 3 => a.x19
 | _ => []
def AskP.oSet (a : AskP) (k : Nat) (v : List Int) : AskP := match k with
 | 0 => { a with x5 := v }
 | 1 => { a with x9 := v }
 | 2 => { a with x10 := v }
 | 3 => { a with x19 := v }
 | _ => a
def AskP.n (a : AskP) : Nat → Int
 | 0 => a.x3
 | 1 => a.x11
 | 2 => a.x15
 | 3 => a.x18
 | 4 => a.x20
 | 5 => a.x21
 | _ => 0
def AskP.nSet (a : AskP) (k : Nat) (v : Int) : AskP := match k with
 | 0 => { a with x3 := v }
 | 1 => { a with x11 := v }
 | 2 => { a with x15 := v }
 | 3 => { a with x18 := v }
 | 4 => { a with x20 := v }
 | 5 => { a with x21 := v }
 | _ => a
def cellOk (w : World) (ok : Nat → Prop) (nl : Prop) (a : AskP) (v : Value) : Nat → Prop
 | 0 => v = .int .i64 a.x0
 | 1 => v = .string (strOfNums a.x1)
 | 2 => v = .string (strOfNums a.x2)
 | 3 => v = .int .i64 a.x3
 | 4 => Kd.V (Kd.int .u8) 5 w 0 ok v a.x4
 | 5 => Kd.V (Kd.int .u8) 5 w 0 ok v a.x5
 | 6 => v = .string (strOfNums a.x6)
 | 7 => v = .string (strOfNums a.x7)
 | 8 => v = .string (strOfNums a.x8)
 | 9 => Kd.V (Kd.int .u8) 5 w 0 ok v a.x9
 | 10 => Kd.V (Kd.int .u8) 5 w 0 ok v a.x10
 | 11 => v = .int .i64 a.x11
 | 12 => v = .string (strOfNums a.x12)
 | 13 => v = .string (strOfNums a.x13)
 | 14 => v = .string (strOfNums a.x14)
 | 15 => v = .int .i64 a.x15
 | 16 => v = .string (strOfNums a.x16)
 | 17 => v = .string (strOfNums a.x17)
 | 18 => v = .int .i64 a.x18
 | 19 => Kd.V (Kd.int .u8) 5 w 0 ok v a.x19
 | 20 => v = .int .i64 a.x20
 | 21 => v = .int .i64 a.x21
 | 22 => Kd.V (Kd.int .i64) 3 w 0 ok v a.x22 ∧ (nl → a.x22 = [] → v = .slice none 0 0)
 | 23 => v = .int .i64 a.x23
 | _ => True
structure AskC (w : World) (ok : Nat → Prop) (nl : Prop) (cs : Array Value) (a : AskP) : Prop where
 size : cs.size = 24
 one : cs.all (·.oneCell') = true
 cell : ∀ j v, cs[j]? = some v → cellOk w ok nl a v j
theorem AskC.get {w : World} {ok : Nat → Prop} {nl : Prop} {cs : Array Value} {a : AskP} (h : AskC w ok nl cs a) (j : Nat) (hj : j < 24) : ∃ v, cs[j]? = some v ∧ cellOk w ok nl a v j :=
 ⟨cs[j]'(by rw [h.size]; exact hj), Array.getElem?_eq_getElem _, h.cell j _ (Array.getElem?_eq_getElem _)⟩
theorem set_one {cs : Array Value} {u : Value} (h : cs.all (·.oneCell') = true) (hu : u.oneCell' = true) (p : Nat) : (cs.setIfInBounds p u).all (·.oneCell') = true := by
 rw [Array.all_eq_true_iff_forall_mem] at h ⊢
 intro x hx
 rcases Array.mem_or_eq_of_mem_setIfInBounds hx with hx | rfl
 ·exact h x hx
 ·exact hu
theorem AskC.put {w : World} {ok : Nat → Prop} {nl : Prop} {cs : Array Value} {a a' : AskP} (h : AskC w ok nl cs a) (p : Nat) (u : Value) (hu1 : u.oneCell' = true) (hu : cellOk w ok nl a' u p) (hne : ∀ j v, j ≠ p → cellOk w ok nl a v j → cellOk w ok nl a' v j) : AskC w ok nl (cs.setIfInBounds p u) a' where
 size := by rw [Array.size_setIfInBounds]; exact h.size
 one := set_one h.one hu1 p
 cell := fun j v hv => by
  rw [Array.getElem?_setIfInBounds] at hv
  by_cases hj : p = j
  ·subst hj
   rw [if_pos rfl] at hv
   split at hv
   ·obtain rfl := Option.some.inj hv
    exact hu
   ·cases hv
  ·rw [if_neg hj] at hv
   exact hne j v (fun e => hj e.symm) (h.cell j v hv)
theorem AskC.step {w w1 : World} {ok : Nat → Prop} {nl : Prop} {cs : Array Value} {a : AskP} (h : AskC w ok nl cs a) (hm : ∀ k, ok k → k < w.heap.size → w1.heap[k]? = w.heap[k]?) : AskC w1 ok nl cs a where
 size := h.size
 one := h.one
 cell := fun j v hv => by
  have hc := h.cell j v hv
  match j, hc with
  | 0, hc => exact hc
  | 1, hc => exact hc
  | 2, hc => exact hc
  | 3, hc => exact hc
  | 4, hc => exact Kd.V_step (e := 5) (base := 0) hc hm
  | 5, hc => exact Kd.V_step (e := 5) (base := 0) hc hm
  | 6, hc => exact hc
  | 7, hc => exact hc
  | 8, hc => exact hc
  | 9, hc => exact Kd.V_step (e := 5) (base := 0) hc hm
  | 10, hc => exact Kd.V_step (e := 5) (base := 0) hc hm
  | 11, hc => exact hc
  | 12, hc => exact hc
  | 13, hc => exact hc
  | 14, hc => exact hc
  | 15, hc => exact hc
  | 16, hc => exact hc
  | 17, hc => exact hc
  | 18, hc => exact hc
  | 19, hc => exact Kd.V_step (e := 5) (base := 0) hc hm
  | 20, hc => exact hc
  | 21, hc => exact hc
  | 22, hc => exact ⟨Kd.V_step (e := 3) (base := 0) hc.1 hm, hc.2⟩
  | 23, hc => exact hc
  | _ + 24, _ => trivial
theorem AskC.mono {w : World} {ok ok' : Nat → Prop} {nl : Prop} {cs : Array Value} {a : AskP} (h : AskC w ok nl cs a) (hm : ∀ k, ok k → ok' k) : AskC w ok' nl cs a where
 size := h.size
 one := h.one
 cell := fun j v hv => by
  have hc := h.cell j v hv
  match j, hc with
  | 0, hc => exact hc
  | 1, hc => exact hc
  | 2, hc => exact hc
  | 3, hc => exact hc
  | 4, hc => exact Kd.V_mono (e := 5) (base := 0) hc hm
  | 5, hc => exact Kd.V_mono (e := 5) (base := 0) hc hm
  | 6, hc => exact hc
  | 7, hc => exact hc
  | 8, hc => exact hc
  | 9, hc => exact Kd.V_mono (e := 5) (base := 0) hc hm
  | 10, hc => exact Kd.V_mono (e := 5) (base := 0) hc hm
  | 11, hc => exact hc
  | 12, hc => exact hc
  | 13, hc => exact hc
  | 14, hc => exact hc
  | 15, hc => exact hc
  | 16, hc => exact hc
  | 17, hc => exact hc
  | 18, hc => exact hc
  | 19, hc => exact Kd.V_mono (e := 5) (base := 0) hc hm
  | 20, hc => exact hc
  | 21, hc => exact hc
  | 22, hc => exact ⟨Kd.V_mono (e := 3) (base := 0) hc.1 hm, hc.2⟩
  | 23, hc => exact hc
  | _ + 24, _ => trivial
theorem AskC.bound {w : World} {ok : Nat → Prop} {nl : Prop} {cs : Array Value} {a : AskP} (h : AskC w ok nl cs a) : AskC w (fun k => ok k ∧ k < w.heap.size) nl cs a where
 size := h.size
 one := h.one
 cell := fun j v hv => by
  have hc := h.cell j v hv
  match j, hc with
  | 0, hc => exact hc
  | 1, hc => exact hc
  | 2, hc => exact hc
  | 3, hc => exact hc
  | 4, hc => exact Kd.V_bound (e := 5) (base := 0) hc
  | 5, hc => exact Kd.V_bound (e := 5) (base := 0) hc
  | 6, hc => exact hc
  | 7, hc => exact hc
  | 8, hc => exact hc
  | 9, hc => exact Kd.V_bound (e := 5) (base := 0) hc
  | 10, hc => exact Kd.V_bound (e := 5) (base := 0) hc
  | 11, hc => exact hc
  | 12, hc => exact hc
  | 13, hc => exact hc
  | 14, hc => exact hc
  | 15, hc => exact hc
  | 16, hc => exact hc
  | 17, hc => exact hc
  | 18, hc => exact hc
  | 19, hc => exact Kd.V_bound (e := 5) (base := 0) hc
  | 20, hc => exact hc
  | 21, hc => exact hc
  | 22, hc => exact ⟨Kd.V_bound (e := 3) (base := 0) hc.1, hc.2⟩
  | 23, hc => exact hc
  | _ + 24, _ => trivial
theorem AskC.weak {w : World} {ok : Nat → Prop} {nl nl' : Prop} {cs : Array Value} {a : AskP} (h : AskC w ok nl cs a) (hn : nl' → nl) : AskC w ok nl' cs a where
 size := h.size
 one := h.one
 cell := fun j v hv => by
  have hc := h.cell j v hv
  match j, hc with
  | 0, hc => exact hc
  | 1, hc => exact hc
  | 2, hc => exact hc
  | 3, hc => exact hc
  | 4, hc => exact hc
  | 5, hc => exact hc
  | 6, hc => exact hc
  | 7, hc => exact hc
  | 8, hc => exact hc
  | 9, hc => exact hc
  | 10, hc => exact hc
  | 11, hc => exact hc
  | 12, hc => exact hc
  | 13, hc => exact hc
  | 14, hc => exact hc
  | 15, hc => exact hc
  | 16, hc => exact hc
  | 17, hc => exact hc
  | 18, hc => exact hc
  | 19, hc => exact hc
  | 20, hc => exact hc
  | 21, hc => exact hc
  | 22, hc => exact ⟨hc.1, fun q => hc.2 (hn q)⟩
  | 23, hc => exact hc
  | _ + 24, _ => trivial
theorem zA_ask (w : World) (ok : Nat → Prop) (nl : Prop) : AskC w ok nl zA ask0 where
 size := zA_size
 one := zA_one
 cell := fun j v hv => by
  match j, hv with
  | 0, hv => obtain rfl := Option.some.inj hv; exact rfl
  | 1, hv => obtain rfl := Option.some.inj hv; exact rfl
  | 2, hv => obtain rfl := Option.some.inj hv; exact rfl
  | 3, hv => obtain rfl := Option.some.inj hv; exact rfl
  | 4, hv => obtain rfl := Option.some.inj hv; exact Kd.V_nil (Kd.int .u8) 5 w 0 ok
  | 5, hv => obtain rfl := Option.some.inj hv; exact Kd.V_nil (Kd.int .u8) 5 w 0 ok
  | 6, hv => obtain rfl := Option.some.inj hv; exact rfl
  | 7, hv => obtain rfl := Option.some.inj hv; exact rfl
  | 8, hv => obtain rfl := Option.some.inj hv; exact rfl
  | 9, hv => obtain rfl := Option.some.inj hv; exact Kd.V_nil (Kd.int .u8) 5 w 0 ok
  | 10, hv => obtain rfl := Option.some.inj hv; exact Kd.V_nil (Kd.int .u8) 5 w 0 ok
  | 11, hv => obtain rfl := Option.some.inj hv; exact rfl
  | 12, hv => obtain rfl := Option.some.inj hv; exact rfl
  | 13, hv => obtain rfl := Option.some.inj hv; exact rfl
  | 14, hv => obtain rfl := Option.some.inj hv; exact rfl
  | 15, hv => obtain rfl := Option.some.inj hv; exact rfl
  | 16, hv => obtain rfl := Option.some.inj hv; exact rfl
  | 17, hv => obtain rfl := Option.some.inj hv; exact rfl
  | 18, hv => obtain rfl := Option.some.inj hv; exact rfl
  | 19, hv => obtain rfl := Option.some.inj hv; exact Kd.V_nil (Kd.int .u8) 5 w 0 ok
  | 20, hv => obtain rfl := Option.some.inj hv; exact rfl
  | 21, hv => obtain rfl := Option.some.inj hv; exact rfl
  | 22, hv => obtain rfl := Option.some.inj hv; exact ⟨Kd.V_nil (Kd.int .i64) 3 w 0 ok, fun _ _ => rfl⟩
  | 23, hv => obtain rfl := Option.some.inj hv; exact rfl
  | n + 24, _ => trivial
theorem AskC.put0 {w : World} {ok : Nat → Prop} {nl : Prop} {cs : Array Value} {a : AskP} (h : AskC w ok nl cs a) (v : Int) : AskC w ok nl (cs.setIfInBounds 0 (.int .i64 v)) { a with x0 := v } := h.put 0 _ rfl rfl (fun j u hj hu => by
 match j, hj, hu with
 | 0, hj, hu => exact absurd rfl hj
 | 1, hj, hu => exact hu
 | 2, hj, hu => exact hu
 | 3, hj, hu => exact hu
 | 4, hj, hu => exact hu
 | 5, hj, hu => exact hu
 | 6, hj, hu => exact hu
 | 7, hj, hu => exact hu
 | 8, hj, hu => exact hu
 | 9, hj, hu => exact hu
 | 10, hj, hu => exact hu
 | 11, hj, hu => exact hu
 | 12, hj, hu => exact hu
 | 13, hj, hu => exact hu
 | 14, hj, hu => exact hu
 | 15, hj, hu => exact hu
 | 16, hj, hu => exact hu
 | 17, hj, hu => exact hu
 | 18, hj, hu => exact hu
 | 19, hj, hu => exact hu
 | 20, hj, hu => exact hu
 | 21, hj, hu => exact hu
 | 22, hj, hu => exact hu
 | 23, hj, hu => exact hu
 | _ + 24, _, _ => trivial)
theorem AskC.put1 {w : World} {ok : Nat → Prop} {nl : Prop} {cs : Array Value} {a : AskP} (h : AskC w ok nl cs a) (v : List Int) : AskC w ok nl (cs.setIfInBounds 1 (.string (strOfNums v))) { a with x1 := v } := h.put 1 _ rfl rfl (fun j u hj hu => by
 match j, hj, hu with
 | 0, hj, hu => exact hu
 | 1, hj, hu => exact absurd rfl hj
 | 2, hj, hu => exact hu
 | 3, hj, hu => exact hu
 | 4, hj, hu => exact hu
 | 5, hj, hu => exact hu
 | 6, hj, hu => exact hu
 | 7, hj, hu => exact hu
 | 8, hj, hu => exact hu
 | 9, hj, hu => exact hu
 | 10, hj, hu => exact hu
 | 11, hj, hu => exact hu
 | 12, hj, hu => exact hu
 | 13, hj, hu => exact hu
 | 14, hj, hu => exact hu
 | 15, hj, hu => exact hu
 | 16, hj, hu => exact hu
 | 17, hj, hu => exact hu
 | 18, hj, hu => exact hu
 | 19, hj, hu => exact hu
 | 20, hj, hu => exact hu
 | 21, hj, hu => exact hu
 | 22, hj, hu => exact hu
 | 23, hj, hu => exact hu
 | _ + 24, _, _ => trivial)
theorem AskC.put2 {w : World} {ok : Nat → Prop} {nl : Prop} {cs : Array Value} {a : AskP} (h : AskC w ok nl cs a) (v : List Int) : AskC w ok nl (cs.setIfInBounds 2 (.string (strOfNums v))) { a with x2 := v } := h.put 2 _ rfl rfl (fun j u hj hu => by
 match j, hj, hu with
 | 0, hj, hu => exact hu
 | 1, hj, hu => exact hu
 | 2, hj, hu => exact absurd rfl hj
 | 3, hj, hu => exact hu
 | 4, hj, hu => exact hu
 | 5, hj, hu => exact hu
 | 6, hj, hu => exact hu
 | 7, hj, hu => exact hu
 | 8, hj, hu => exact hu
 | 9, hj, hu => exact hu
 | 10, hj, hu => exact hu
 | 11, hj, hu => exact hu
 | 12, hj, hu => exact hu
 | 13, hj, hu => exact hu
 | 14, hj, hu => exact hu
 | 15, hj, hu => exact hu
 | 16, hj, hu => exact hu
 | 17, hj, hu => exact hu
 | 18, hj, hu => exact hu
 | 19, hj, hu => exact hu
 | 20, hj, hu => exact hu
 | 21, hj, hu => exact hu
 | 22, hj, hu => exact hu
 | 23, hj, hu => exact hu
 | _ + 24, _, _ => trivial)
theorem AskC.put3 {w : World} {ok : Nat → Prop} {nl : Prop} {cs : Array Value} {a : AskP} (h : AskC w ok nl cs a) (v : Int) : AskC w ok nl (cs.setIfInBounds 3 (.int .i64 v)) { a with x3 := v } := h.put 3 _ rfl rfl (fun j u hj hu => by
 match j, hj, hu with
 | 0, hj, hu => exact hu
 | 1, hj, hu => exact hu
 | 2, hj, hu => exact hu
 | 3, hj, hu => exact absurd rfl hj
 | 4, hj, hu => exact hu
 | 5, hj, hu => exact hu
 | 6, hj, hu => exact hu
 | 7, hj, hu => exact hu
 | 8, hj, hu => exact hu
 | 9, hj, hu => exact hu
 | 10, hj, hu => exact hu
 | 11, hj, hu => exact hu
 | 12, hj, hu => exact hu
 | 13, hj, hu => exact hu
 | 14, hj, hu => exact hu
 | 15, hj, hu => exact hu
 | 16, hj, hu => exact hu
 | 17, hj, hu => exact hu
 | 18, hj, hu => exact hu
 | 19, hj, hu => exact hu
 | 20, hj, hu => exact hu
 | 21, hj, hu => exact hu
 | 22, hj, hu => exact hu
 | 23, hj, hu => exact hu
 | _ + 24, _, _ => trivial)
theorem AskC.put4 {w : World} {ok : Nat → Prop} {nl : Prop} {cs : Array Value} {a : AskP} (h : AskC w ok nl cs a) (v : Value) (l : List Int) (hv : Kd.V (Kd.int .u8) 5 w 0 ok v l) : AskC w ok nl (cs.setIfInBounds 4 v) { a with x4 := l } := h.put 4 _ (by obtain ⟨A, c, rfl, _⟩ := hv; rfl) hv (fun j u hj hu => by
 match j, hj, hu with
 | 0, hj, hu => exact hu
 | 1, hj, hu => exact hu
 | 2, hj, hu => exact hu
 | 3, hj, hu => exact hu
 | 4, hj, hu => exact absurd rfl hj
 | 5, hj, hu => exact hu
 | 6, hj, hu => exact hu
 | 7, hj, hu => exact hu
 | 8, hj, hu => exact hu
 | 9, hj, hu => exact hu
 | 10, hj, hu => exact hu
 | 11, hj, hu => exact hu
 | 12, hj, hu => exact hu
 | 13, hj, hu => exact hu
 | 14, hj, hu => exact hu
 | 15, hj, hu => exact hu
 | 16, hj, hu => exact hu
 | 17, hj, hu => exact hu
 | 18, hj, hu => exact hu
 | 19, hj, hu => exact hu
 | 20, hj, hu => exact hu
 | 21, hj, hu => exact hu
 | 22, hj, hu => exact hu
 | 23, hj, hu => exact hu
 | _ + 24, _, _ => trivial)
theorem AskC.put5 {w : World} {ok : Nat → Prop} {nl : Prop} {cs : Array Value} {a : AskP} (h : AskC w ok nl cs a) (v : Value) (l : List Int) (hv : Kd.V (Kd.int .u8) 5 w 0 ok v l) : AskC w ok nl (cs.setIfInBounds 5 v) { a with x5 := l } := h.put 5 _ (by obtain ⟨A, c, rfl, _⟩ := hv; rfl) hv (fun j u hj hu => by
 match j, hj, hu with
 | 0, hj, hu => exact hu
 | 1, hj, hu => exact hu
 | 2, hj, hu => exact hu
 | 3, hj, hu => exact hu
 | 4, hj, hu => exact hu
 | 5, hj, hu => exact absurd rfl hj
 | 6, hj, hu => exact hu
 | 7, hj, hu => exact hu
 | 8, hj, hu => exact hu
 | 9, hj, hu => exact hu
 | 10, hj, hu => exact hu
 | 11, hj, hu => exact hu
 | 12, hj, hu => exact hu
 | 13, hj, hu => exact hu
 | 14, hj, hu => exact hu
 | 15, hj, hu => exact hu
 | 16, hj, hu => exact hu
 | 17, hj, hu => exact hu
 | 18, hj, hu => exact hu
 | 19, hj, hu => exact hu
 | 20, hj, hu => exact hu
 | 21, hj, hu => exact hu
 | 22, hj, hu => exact hu
 | 23, hj, hu => exact hu
 | _ + 24, _, _ => trivial)
theorem AskC.put6 {w : World} {ok : Nat → Prop} {nl : Prop} {cs : Array Value} {a : AskP} (h : AskC w ok nl cs a) (v : List Int) : AskC w ok nl (cs.setIfInBounds 6 (.string (strOfNums v))) { a with x6 := v } := h.put 6 _ rfl rfl (fun j u hj hu => by
 match j, hj, hu with
 | 0, hj, hu => exact hu
 | 1, hj, hu => exact hu
 | 2, hj, hu => exact hu
 | 3, hj, hu => exact hu
 | 4, hj, hu => exact hu
 | 5, hj, hu => exact hu
 | 6, hj, hu => exact absurd rfl hj
 | 7, hj, hu => exact hu
 | 8, hj, hu => exact hu
 | 9, hj, hu => exact hu
 | 10, hj, hu => exact hu
 | 11, hj, hu => exact hu
 | 12, hj, hu => exact hu
 | 13, hj, hu => exact hu
 | 14, hj, hu => exact hu
 | 15, hj, hu => exact hu
 | 16, hj, hu => exact hu
 | 17, hj, hu => exact hu
 | 18, hj, hu => exact hu
 | 19, hj, hu => exact hu
 | 20, hj, hu => exact hu
 | 21, hj, hu => exact hu
 | 22, hj, hu => exact hu
 | 23, hj, hu => exact hu
 | _ + 24, _, _ => trivial)
theorem AskC.put7 {w : World} {ok : Nat → Prop} {nl : Prop} {cs : Array Value} {a : AskP} (h : AskC w ok nl cs a) (v : List Int) : AskC w ok nl (cs.setIfInBounds 7 (.string (strOfNums v))) { a with x7 := v } := h.put 7 _ rfl rfl (fun j u hj hu => by
 match j, hj, hu with
 | 0, hj, hu => exact hu
 | 1, hj, hu => exact hu
 | 2, hj, hu => exact hu
 | 3, hj, hu => exact hu
 | 4, hj, hu => exact hu
 | 5, hj, hu => exact hu
 | 6, hj, hu => exact hu
 | 7, hj, hu => exact absurd rfl hj
 | 8, hj, hu => exact hu
 | 9, hj, hu => exact hu
 | 10, hj, hu => exact hu
 | 11, hj, hu => exact hu
 | 12, hj, hu => exact hu
 | 13, hj, hu => exact hu
 | 14, hj, hu => exact hu
 | 15, hj, hu => exact hu
 | 16, hj, hu => exact hu
 | 17, hj, hu => exact hu
 | 18, hj, hu => exact hu
 | 19, hj, hu => exact hu
 | 20, hj, hu => exact hu
 | 21, hj, hu => exact hu
 | 22, hj, hu => exact hu
 | 23, hj, hu => exact hu
 | _ + 24, _, _ => trivial)
theorem AskC.put8 {w : World} {ok : Nat → Prop} {nl : Prop} {cs : Array Value} {a : AskP} (h : AskC w ok nl cs a) (v : List Int) : AskC w ok nl (cs.setIfInBounds 8 (.string (strOfNums v))) { a with x8 := v } := h.put 8 _ rfl rfl (fun j u hj hu => by
 match j, hj, hu with
 | 0, hj, hu => exact hu
 | 1, hj, hu => exact hu
 | 2, hj, hu => exact hu
 | 3, hj, hu => exact hu
 | 4, hj, hu => exact hu
 | 5, hj, hu => exact hu
 | 6, hj, hu => exact hu
 | 7, hj, hu => exact hu
 | 8, hj, hu => exact absurd rfl hj
 | 9, hj, hu => exact hu
 | 10, hj, hu => exact hu
 | 11, hj, hu => exact hu
 | 12, hj, hu => exact hu
 | 13, hj, hu => exact hu
 | 14, hj, hu => exact hu
 | 15, hj, hu => exact hu
 | 16, hj, hu => exact hu
 | 17, hj, hu => exact hu
 | 18, hj, hu => exact hu
 | 19, hj, hu => exact hu
 | 20, hj, hu => exact hu
 | 21, hj, hu => exact hu
 | 22, hj, hu => exact hu
 | 23, hj, hu => exact hu
 | _ + 24, _, _ => trivial)
theorem AskC.put9 {w : World} {ok : Nat → Prop} {nl : Prop} {cs : Array Value} {a : AskP} (h : AskC w ok nl cs a) (v : Value) (l : List Int) (hv : Kd.V (Kd.int .u8) 5 w 0 ok v l) : AskC w ok nl (cs.setIfInBounds 9 v) { a with x9 := l } := h.put 9 _ (by obtain ⟨A, c, rfl, _⟩ := hv; rfl) hv (fun j u hj hu => by
 match j, hj, hu with
 | 0, hj, hu => exact hu
 | 1, hj, hu => exact hu
 | 2, hj, hu => exact hu
 | 3, hj, hu => exact hu
 | 4, hj, hu => exact hu
 | 5, hj, hu => exact hu
 | 6, hj, hu => exact hu
 | 7, hj, hu => exact hu
 | 8, hj, hu => exact hu
 | 9, hj, hu => exact absurd rfl hj
 | 10, hj, hu => exact hu
 | 11, hj, hu => exact hu
 | 12, hj, hu => exact hu
 | 13, hj, hu => exact hu
 | 14, hj, hu => exact hu
 | 15, hj, hu => exact hu
 | 16, hj, hu => exact hu
 | 17, hj, hu => exact hu
 | 18, hj, hu => exact hu
 | 19, hj, hu => exact hu
 | 20, hj, hu => exact hu
 | 21, hj, hu => exact hu
 | 22, hj, hu => exact hu
 | 23, hj, hu => exact hu
 | _ + 24, _, _ => trivial)
theorem AskC.put10 {w : World} {ok : Nat → Prop} {nl : Prop} {cs : Array Value} {a : AskP} (h : AskC w ok nl cs a) (v : Value) (l : List Int) (hv : Kd.V (Kd.int .u8) 5 w 0 ok v l) : AskC w ok nl (cs.setIfInBounds 10 v) { a with x10 := l } := h.put 10 _ (by obtain ⟨A, c, rfl, _⟩ := hv; rfl) hv (fun j u hj hu => by
 match j, hj, hu with
 | 0, hj, hu => exact hu
 | 1, hj, hu => exact hu
 | 2, hj, hu => exact hu
 | 3, hj, hu => exact hu
 | 4, hj, hu => exact hu
 | 5, hj, hu => exact hu
 | 6, hj, hu => exact hu
 | 7, hj, hu => exact hu
 | 8, hj, hu => exact hu
 | 9, hj, hu => exact hu
 | 10, hj, hu => exact absurd rfl hj
 | 11, hj, hu => exact hu
 | 12, hj, hu => exact hu
 | 13, hj, hu => exact hu
 | 14, hj, hu => exact hu
 | 15, hj, hu => exact hu
 | 16, hj, hu => exact hu
 | 17, hj, hu => exact hu
 | 18, hj, hu => exact hu
 | 19, hj, hu => exact hu
 | 20, hj, hu => exact hu
 | 21, hj, hu => exact hu
 | 22, hj, hu => exact hu
 | 23, hj, hu => exact hu
 | _ + 24, _, _ => trivial)
theorem AskC.put11 {w : World} {ok : Nat → Prop} {nl : Prop} {cs : Array Value} {a : AskP} (h : AskC w ok nl cs a) (v : Int) : AskC w ok nl (cs.setIfInBounds 11 (.int .i64 v)) { a with x11 := v } := h.put 11 _ rfl rfl (fun j u hj hu => by
 match j, hj, hu with
 | 0, hj, hu => exact hu
 | 1, hj, hu => exact hu
 | 2, hj, hu => exact hu
 | 3, hj, hu => exact hu
 | 4, hj, hu => exact hu
 | 5, hj, hu => exact hu
 | 6, hj, hu => exact hu
 | 7, hj, hu => exact hu
 | 8, hj, hu => exact hu
 | 9, hj, hu => exact hu
 | 10, hj, hu => exact hu
 | 11, hj, hu => exact absurd rfl hj
 | 12, hj, hu => exact hu
 | 13, hj, hu => exact hu
 | 14, hj, hu => exact hu
 | 15, hj, hu => exact hu
 | 16, hj, hu => exact hu
 | 17, hj, hu => exact hu
 | 18, hj, hu => exact hu
 | 19, hj, hu => exact hu
 | 20, hj, hu => exact hu
 | 21, hj, hu => exact hu
 | 22, hj, hu => exact hu
 | 23, hj, hu => exact hu
 | _ + 24, _, _ => trivial)
theorem AskC.put12 {w : World} {ok : Nat → Prop} {nl : Prop} {cs : Array Value} {a : AskP} (h : AskC w ok nl cs a) (v : List Int) : AskC w ok nl (cs.setIfInBounds 12 (.string (strOfNums v))) { a with x12 := v } := h.put 12 _ rfl rfl (fun j u hj hu => by
 match j, hj, hu with
 | 0, hj, hu => exact hu
 | 1, hj, hu => exact hu
 | 2, hj, hu => exact hu
 | 3, hj, hu => exact hu
 | 4, hj, hu => exact hu
 | 5, hj, hu => exact hu
 | 6, hj, hu => exact hu
 | 7, hj, hu => exact hu
 | 8, hj, hu => exact hu
 | 9, hj, hu => exact hu
 | 10, hj, hu => exact hu
 | 11, hj, hu => exact hu
 | 12, hj, hu => exact absurd rfl hj
 | 13, hj, hu => exact hu
 | 14, hj, hu => exact hu
 | 15, hj, hu => exact hu
 | 16, hj, hu => exact hu
 | 17, hj, hu => exact hu
 | 18, hj, hu => exact hu
 | 19, hj, hu => exact hu
 | 20, hj, hu => exact hu
 | 21, hj, hu => exact hu
 | 22, hj, hu => exact hu
 | 23, hj, hu => exact hu
 | _ + 24, _, _ => trivial)
theorem AskC.put13 {w : World} {ok : Nat → Prop} {nl : Prop} {cs : Array Value} {a : AskP} (h : AskC w ok nl cs a) (v : List Int) : AskC w ok nl (cs.setIfInBounds 13 (.string (strOfNums v))) { a with x13 := v } := h.put 13 _ rfl rfl (fun j u hj hu => by
 match j, hj, hu with
 | 0, hj, hu => exact hu
 | 1, hj, hu => exact hu
 | 2, hj, hu => exact hu
 | 3, hj, hu => exact hu
 | 4, hj, hu => exact hu
 | 5, hj, hu => exact hu
 | 6, hj, hu => exact hu
 | 7, hj, hu => exact hu
 | 8, hj, hu => exact hu
 | 9, hj, hu => exact hu
 | 10, hj, hu => exact hu
 | 11, hj, hu => exact hu
 | 12, hj, hu => exact hu
 | 13, hj, hu => exact absurd rfl hj
 | 14, hj, hu => exact hu
 | 15, hj, hu => exact hu
 | 16, hj, hu => exact hu
 | 17, hj, hu => exact hu
 | 18, hj, hu => exact hu
 | 19, hj, hu => exact hu
 | 20, hj, hu => exact hu
 | 21, hj, hu => exact hu
 | 22, hj, hu => exact hu
 | 23, hj, hu => exact hu
 | _ + 24, _, _ => trivial)
theorem AskC.put14 {w : World} {ok : Nat → Prop} {nl : Prop} {cs : Array Value} {a : AskP} (h : AskC w ok nl cs a) (v : List Int) : AskC w ok nl (cs.setIfInBounds 14 (.string (strOfNums v))) { a with x14 := v } := h.put 14 _ rfl rfl (fun j u hj hu => by
 match j, hj, hu with
 | 0, hj, hu => exact hu
 | 1, hj, hu => exact hu
 | 2, hj, hu => exact hu
 | 3, hj, hu => exact hu
 | 4, hj, hu => exact hu
 | 5, hj, hu => exact hu
 | 6, hj, hu => exact hu
 | 7, hj, hu => exact hu
 | 8, hj, hu => exact hu
 | 9, hj, hu => exact hu
 | 10, hj, hu => exact hu
 | 11, hj, hu => exact hu
 | 12, hj, hu => exact hu
 | 13, hj, hu => exact hu
 | 14, hj, hu => exact absurd rfl hj
 | 15, hj, hu => exact hu
 | 16, hj, hu => exact hu
 | 17, hj, hu => exact hu
 | 18, hj, hu => exact hu
 | 19, hj, hu => exact hu
 | 20, hj, hu => exact hu
 | 21, hj, hu => exact hu
 | 22, hj, hu => exact hu
 | 23, hj, hu => exact hu
 | _ + 24, _, _ => trivial)
theorem AskC.put15 {w : World} {ok : Nat → Prop} {nl : Prop} {cs : Array Value} {a : AskP} (h : AskC w ok nl cs a) (v : Int) : AskC w ok nl (cs.setIfInBounds 15 (.int .i64 v)) { a with x15 := v } := h.put 15 _ rfl rfl (fun j u hj hu => by
 match j, hj, hu with
 | 0, hj, hu => exact hu
 | 1, hj, hu => exact hu
 | 2, hj, hu => exact hu
 | 3, hj, hu => exact hu
 | 4, hj, hu => exact hu
 | 5, hj, hu => exact hu
 | 6, hj, hu => exact hu
 | 7, hj, hu => exact hu
 | 8, hj, hu => exact hu
 | 9, hj, hu => exact hu
 | 10, hj, hu => exact hu
 | 11, hj, hu => exact hu
 | 12, hj, hu => exact hu
 | 13, hj, hu => exact hu
 | 14, hj, hu => exact hu
 | 15, hj, hu => exact absurd rfl hj
 | 16, hj, hu => exact hu
 | 17, hj, hu => exact hu
 | 18, hj, hu => exact hu
 | 19, hj, hu => exact hu
 | 20, hj, hu => exact hu
 | 21, hj, hu => exact hu
 | 22, hj, hu => exact hu
 | 23, hj, hu => exact hu
 | _ + 24, _, _ => trivial)
theorem AskC.put16 {w : World} {ok : Nat → Prop} {nl : Prop} {cs : Array Value} {a : AskP} (h : AskC w ok nl cs a) (v : List Int) : AskC w ok nl (cs.setIfInBounds 16 (.string (strOfNums v))) { a with x16 := v } := h.put 16 _ rfl rfl (fun j u hj hu => by
 match j, hj, hu with
 | 0, hj, hu => exact hu
 | 1, hj, hu => exact hu
 | 2, hj, hu => exact hu
 | 3, hj, hu => exact hu
 | 4, hj, hu => exact hu
 | 5, hj, hu => exact hu
 | 6, hj, hu => exact hu
 | 7, hj, hu => exact hu
 | 8, hj, hu => exact hu
 | 9, hj, hu => exact hu
 | 10, hj, hu => exact hu
 | 11, hj, hu => exact hu
 | 12, hj, hu => exact hu
 | 13, hj, hu => exact hu
 | 14, hj, hu => exact hu
 | 15, hj, hu => exact hu
 | 16, hj, hu => exact absurd rfl hj
 | 17, hj, hu => exact hu
 | 18, hj, hu => exact hu
 | 19, hj, hu => exact hu
 | 20, hj, hu => exact hu
 | 21, hj, hu => exact hu
 | 22, hj, hu => exact hu
 | 23, hj, hu => exact hu
 | _ + 24, _, _ => trivial)
theorem AskC.put17 {w : World} {ok : Nat → Prop} {nl : Prop} {cs : Array Value} {a : AskP} (h : AskC w ok nl cs a) (v : List Int) : AskC w ok nl (cs.setIfInBounds 17 (.string (strOfNums v))) { a with x17 := v } := h.put 17 _ rfl rfl (fun j u hj hu => by
 match j, hj, hu with
 | 0, hj, hu => exact hu
 | 1, hj, hu => exact hu
 | 2, hj, hu => exact hu
 | 3, hj, hu => exact hu
 | 4, hj, hu => exact hu
 | 5, hj, hu => exact hu
 | 6, hj, hu => exact hu
 | 7, hj, hu => exact hu
 | 8, hj, hu => exact hu
 | 9, hj, hu => exact hu
 | 10, hj, hu => exact hu
 | 11, hj, hu => exact hu
 | 12, hj, hu => exact hu
 | 13, hj, hu => exact hu
 | 14, hj, hu => exact hu
 | 15, hj, hu => exact hu
 | 16, hj, hu => exact hu
 | 17, hj, hu => exact absurd rfl hj
 | 18, hj, hu => exact hu
 | 19, hj, hu => exact hu
 | 20, hj, hu => exact hu
 | 21, hj, hu => exact hu
 | 22, hj, hu => exact hu
 | 23, hj, hu => exact hu
 | _ + 24, _, _ => trivial)
theorem AskC.put18 {w : World} {ok : Nat → Prop} {nl : Prop} {cs : Array Value} {a : AskP} (h : AskC w ok nl cs a) (v : Int) : AskC w ok nl (cs.setIfInBounds 18 (.int .i64 v)) { a with x18 := v } := h.put 18 _ rfl rfl (fun j u hj hu => by
 match j, hj, hu with
 | 0, hj, hu => exact hu
 | 1, hj, hu => exact hu
 | 2, hj, hu => exact hu
 | 3, hj, hu => exact hu
 | 4, hj, hu => exact hu
 | 5, hj, hu => exact hu
 | 6, hj, hu => exact hu
 | 7, hj, hu => exact hu
 | 8, hj, hu => exact hu
 | 9, hj, hu => exact hu
 | 10, hj, hu => exact hu
 | 11, hj, hu => exact hu
 | 12, hj, hu => exact hu
 | 13, hj, hu => exact hu
 | 14, hj, hu => exact hu
 | 15, hj, hu => exact hu
 | 16, hj, hu => exact hu
 | 17, hj, hu => exact hu
 | 18, hj, hu => exact absurd rfl hj
 | 19, hj, hu => exact hu
 | 20, hj, hu => exact hu
 | 21, hj, hu => exact hu
 | 22, hj, hu => exact hu
 | 23, hj, hu => exact hu
 | _ + 24, _, _ => trivial)
theorem AskC.put19 {w : World} {ok : Nat → Prop} {nl : Prop} {cs : Array Value} {a : AskP} (h : AskC w ok nl cs a) (v : Value) (l : List Int) (hv : Kd.V (Kd.int .u8) 5 w 0 ok v l) : AskC w ok nl (cs.setIfInBounds 19 v) { a with x19 := l } := h.put 19 _ (by obtain ⟨A, c, rfl, _⟩ := hv; rfl) hv (fun j u hj hu => by
 match j, hj, hu with
 | 0, hj, hu => exact hu
 | 1, hj, hu => exact hu
 | 2, hj, hu => exact hu
 | 3, hj, hu => exact hu
 | 4, hj, hu => exact hu
 | 5, hj, hu => exact hu
 | 6, hj, hu => exact hu
 | 7, hj, hu => exact hu
 | 8, hj, hu => exact hu
 | 9, hj, hu => exact hu
 | 10, hj, hu => exact hu
 | 11, hj, hu => exact hu
 | 12, hj, hu => exact hu
 | 13, hj, hu => exact hu
 | 14, hj, hu => exact hu
 | 15, hj, hu => exact hu
 | 16, hj, hu => exact hu
 | 17, hj, hu => exact hu
 | 18, hj, hu => exact hu
 | 19, hj, hu => exact absurd rfl hj
 | 20, hj, hu => exact hu
 | 21, hj, hu => exact hu
 | 22, hj, hu => exact hu
 | 23, hj, hu => exact hu
 | _ + 24, _, _ => trivial)
theorem AskC.put20 {w : World} {ok : Nat → Prop} {nl : Prop} {cs : Array Value} {a : AskP} (h : AskC w ok nl cs a) (v : Int) : AskC w ok nl (cs.setIfInBounds 20 (.int .i64 v)) { a with x20 := v } := h.put 20 _ rfl rfl (fun j u hj hu => by
 match j, hj, hu with
 | 0, hj, hu => exact hu
 | 1, hj, hu => exact hu
 | 2, hj, hu => exact hu
 | 3, hj, hu => exact hu
 | 4, hj, hu => exact hu
 | 5, hj, hu => exact hu
 | 6, hj, hu => exact hu
 | 7, hj, hu => exact hu
 | 8, hj, hu => exact hu
 | 9, hj, hu => exact hu
 | 10, hj, hu => exact hu
 | 11, hj, hu => exact hu
 | 12, hj, hu => exact hu
 | 13, hj, hu => exact hu
 | 14, hj, hu => exact hu
 | 15, hj, hu => exact hu
 | 16, hj, hu => exact hu
 | 17, hj, hu => exact hu
 | 18, hj, hu => exact hu
 | 19, hj, hu => exact hu
 | 20, hj, hu => exact absurd rfl hj
 | 21, hj, hu => exact hu
 | 22, hj, hu => exact hu
 | 23, hj, hu => exact hu
 | _ + 24, _, _ => trivial)
theorem AskC.put21 {w : World} {ok : Nat → Prop} {nl : Prop} {cs : Array Value} {a : AskP} (h : AskC w ok nl cs a) (v : Int) : AskC w ok nl (cs.setIfInBounds 21 (.int .i64 v)) { a with x21 := v } := h.put 21 _ rfl rfl (fun j u hj hu => by
 match j, hj, hu with
 | 0, hj, hu => exact hu
 | 1, hj, hu => exact hu
 | 2, hj, hu => exact hu
 | 3, hj, hu => exact hu
 | 4, hj, hu => exact hu
 | 5, hj, hu => exact hu
 | 6, hj, hu => exact hu
 | 7, hj, hu => exact hu
 | 8, hj, hu => exact hu
 | 9, hj, hu => exact hu
 | 10, hj, hu => exact hu
 | 11, hj, hu => exact hu
 | 12, hj, hu => exact hu
 | 13, hj, hu => exact hu
 | 14, hj, hu => exact hu
 | 15, hj, hu => exact hu
 | 16, hj, hu => exact hu
 | 17, hj, hu => exact hu
 | 18, hj, hu => exact hu
 | 19, hj, hu => exact hu
 | 20, hj, hu => exact hu
 | 21, hj, hu => exact absurd rfl hj
 | 22, hj, hu => exact hu
 | 23, hj, hu => exact hu
 | _ + 24, _, _ => trivial)
theorem AskC.put22 {w : World} {ok : Nat → Prop} {nl : Prop} {cs : Array Value} {a : AskP} (h : AskC w ok nl cs a) (v : Value) (l : List Int) (hv : Kd.V (Kd.int .i64) 3 w 0 ok v l ∧ (nl → l = [] → v = .slice none 0 0)) : AskC w ok nl (cs.setIfInBounds 22 v) { a with x22 := l } := h.put 22 _ (by obtain ⟨A, c, rfl, _⟩ := hv.1; rfl) hv (fun j u hj hu => by
 match j, hj, hu with
 | 0, hj, hu => exact hu
 | 1, hj, hu => exact hu
 | 2, hj, hu => exact hu
 | 3, hj, hu => exact hu
 | 4, hj, hu => exact hu
 | 5, hj, hu => exact hu
 | 6, hj, hu => exact hu
 | 7, hj, hu => exact hu
 | 8, hj, hu => exact hu
 | 9, hj, hu => exact hu
 | 10, hj, hu => exact hu
 | 11, hj, hu => exact hu
 | 12, hj, hu => exact hu
 | 13, hj, hu => exact hu
 | 14, hj, hu => exact hu
 | 15, hj, hu => exact hu
 | 16, hj, hu => exact hu
 | 17, hj, hu => exact hu
 | 18, hj, hu => exact hu
 | 19, hj, hu => exact hu
 | 20, hj, hu => exact hu
 | 21, hj, hu => exact hu
 | 22, hj, hu => exact absurd rfl hj
 | 23, hj, hu => exact hu
 | _ + 24, _, _ => trivial)
theorem AskC.put23 {w : World} {ok : Nat → Prop} {nl : Prop} {cs : Array Value} {a : AskP} (h : AskC w ok nl cs a) (v : Int) : AskC w ok nl (cs.setIfInBounds 23 (.int .i64 v)) { a with x23 := v } := h.put 23 _ rfl rfl (fun j u hj hu => by
 match j, hj, hu with
 | 0, hj, hu => exact hu
 | 1, hj, hu => exact hu
 | 2, hj, hu => exact hu
 | 3, hj, hu => exact hu
 | 4, hj, hu => exact hu
 | 5, hj, hu => exact hu
 | 6, hj, hu => exact hu
 | 7, hj, hu => exact hu
 | 8, hj, hu => exact hu
 | 9, hj, hu => exact hu
 | 10, hj, hu => exact hu
 | 11, hj, hu => exact hu
 | 12, hj, hu => exact hu
 | 13, hj, hu => exact hu
 | 14, hj, hu => exact hu
 | 15, hj, hu => exact hu
 | 16, hj, hu => exact hu
 | 17, hj, hu => exact hu
 | 18, hj, hu => exact hu
 | 19, hj, hu => exact hu
 | 20, hj, hu => exact hu
 | 21, hj, hu => exact hu
 | 22, hj, hu => exact hu
 | 23, hj, hu => exact absurd rfl hj
 | _ + 24, _, _ => trivial)
theorem AskC.tGet {w : World} {ok : Nat → Prop} {nl : Prop} {cs : Array Value} {a : AskP} (h : AskC w ok nl cs a) (k : Nat) (hk : k < 6) : cs[tP.getD k 0]? = some (.string (strOfNums (a.t k))) := by
 match k, hk with
 | 0, _ => obtain ⟨v, hv, rfl⟩ := h.get 6 (by decide); exact hv
 | 1, _ => obtain ⟨v, hv, rfl⟩ := h.get 7 (by decide); exact hv
 | 2, _ => obtain ⟨v, hv, rfl⟩ := h.get 8 (by decide); exact hv
 | 3, _ => obtain ⟨v, hv, rfl⟩ := h.get 12 (by decide); exact hv
 | 4, _ => obtain ⟨v, hv, rfl⟩ := h.get 13 (by decide); exact hv
 | 5, _ => obtain ⟨v, hv, rfl⟩ := h.get 14 (by decide); exact hv
theorem AskC.tPut {w : World} {ok : Nat → Prop} {nl : Prop} {cs : Array Value} {a : AskP} (h : AskC w ok nl cs a) (k : Nat) (hk : k < 6) (v : List Int) : AskC w ok nl (cs.setIfInBounds (tP.getD k 0) (.string (strOfNums v))) (a.tSet k v) := by
 match k, hk with
 | 0, _ => exact h.put6 v
 | 1, _ => exact h.put7 v
 | 2, _ => exact h.put8 v
 | 3, _ => exact h.put12 v
 | 4, _ => exact h.put13 v
 | 5, _ => exact h.put14 v
theorem AskC.nGet {w : World} {ok : Nat → Prop} {nl : Prop} {cs : Array Value} {a : AskP} (h : AskC w ok nl cs a) (k : Nat) (hk : k < 6) : cs[nP.getD k 0]? = some (.int .i64 (a.n k)) := by
 match k, hk with
 | 0, _ => obtain ⟨v, hv, rfl⟩ := h.get 3 (by decide); exact hv
 | 1, _ => obtain ⟨v, hv, rfl⟩ := h.get 11 (by decide); exact hv
 | 2, _ => obtain ⟨v, hv, rfl⟩ := h.get 15 (by decide); exact hv
 | 3, _ => obtain ⟨v, hv, rfl⟩ := h.get 18 (by decide); exact hv
 | 4, _ => obtain ⟨v, hv, rfl⟩ := h.get 20 (by decide); exact hv
 | 5, _ => obtain ⟨v, hv, rfl⟩ := h.get 21 (by decide); exact hv
theorem AskC.nPut {w : World} {ok : Nat → Prop} {nl : Prop} {cs : Array Value} {a : AskP} (h : AskC w ok nl cs a) (k : Nat) (hk : k < 6) (v : Int) : AskC w ok nl (cs.setIfInBounds (nP.getD k 0) (.int .i64 v)) (a.nSet k v) := by
 match k, hk with
 | 0, _ => exact h.put3 v
 | 1, _ => exact h.put11 v
 | 2, _ => exact h.put15 v
 | 3, _ => exact h.put18 v
 | 4, _ => exact h.put20 v
 | 5, _ => exact h.put21 v
theorem AskC.oGet {w : World} {ok : Nat → Prop} {nl : Prop} {cs : Array Value} {a : AskP} (h : AskC w ok nl cs a) (k : Nat) (hk : k < 4) : ∃ v, cs[oP.getD k 0]? = some v ∧ Kd.V (Kd.int .u8) 5 w 0 ok v (a.o k) := by
 match k, hk with
 | 0, _ => exact h.get 5 (by decide)
 | 1, _ => exact h.get 9 (by decide)
 | 2, _ => exact h.get 10 (by decide)
 | 3, _ => exact h.get 19 (by decide)
theorem AskC.oPut {w : World} {ok : Nat → Prop} {nl : Prop} {cs : Array Value} {a : AskP} (h : AskC w ok nl cs a) (k : Nat) (hk : k < 4) (v : Value) (l : List Int) (hv : Kd.V (Kd.int .u8) 5 w 0 ok v l) : AskC w ok nl (cs.setIfInBounds (oP.getD k 0) v) (a.oSet k l) := by
 match k, hk with
 | 0, _ => exact h.put5 v l hv
 | 1, _ => exact h.put9 v l hv
 | 2, _ => exact h.put10 v l hv
 | 3, _ => exact h.put19 v l hv
def AskAt (w : World) (g : Nat) (a : AskP) : Prop := ∃ cs, w.heap[g]? = some (.cells cs 26 (0, 0)) ∧ AskC w (g < ·) True cs a
theorem AskAt.lt {w : World} {g : Nat} {a : AskP} (h : AskAt w g a) : g < w.heap.size := by
 obtain ⟨cs, hb, _⟩ := h
 exact blk_lt hb
theorem AskAt.below {w w1 : World} {g : Nat} {a : AskP} (h : AskAt w g a) (hb : Below w.heap.size w w1) : AskAt w1 g a := by
 obtain ⟨cs, hg, hc⟩ := h
 exact ⟨cs, blk_below hg hb, hc.step (fun k _ hlt => hb.block k hlt)⟩
theorem AskAt.setc {w : World} {g p : Nat} {a a' : AskP} {u : Value} (h : AskAt w g a) (hp : ∀ cs, AskC w (g < ·) True cs a → AskC w (g < ·) True (cs.setIfInBounds p u) a') : AskAt (w.setCell ⟨g, p, none⟩ u) g a' := by
 obtain ⟨cs, hg, hc⟩ := h
 exact ⟨_, blk_put hg p u rfl, (hp cs hc).step (fun k hk _ => Below.heap_setCell w ⟨g, p, none⟩ u k (show k ≠ g by have q : g < k := hk; omega))⟩
theorem AskAt.frozen {w : World} {g : Nat} {a : AskP} (h : AskAt w g a) (i : Nat) : w.frozen? ⟨g, i, none⟩ = false := by
 obtain ⟨cs, hg, _⟩ := h
 exact blk_frozen hg i
theorem AskAt.cell {w : World} {g : Nat} {a : AskP} (h : AskAt w g a) (j : Nat) (hj : j < 24) : ∃ v, w.cell? ⟨g, j, none⟩ = some v ∧ cellOk w (g < ·) True a v j := by
 obtain ⟨cs, hg, hc⟩ := h
 obtain ⟨v, hv, h2⟩ := hc.get j hj
 exact ⟨v, (blk_cell hg j).trans hv, h2⟩
theorem AskAt.mem {w : World} {g j : Nat} {a : AskP} {v : Value} (h : AskAt w g a) (hp : ∀ cs, AskC w (g < ·) True cs a → cs[j]? = some v) : w.cell? ⟨g, j, none⟩ = some v := by
 obtain ⟨cs, hg, hc⟩ := h
 exact (blk_cell hg j).trans (hp cs hc)
end Go.Proofs.YtjkehapbemjnpaaDoor
