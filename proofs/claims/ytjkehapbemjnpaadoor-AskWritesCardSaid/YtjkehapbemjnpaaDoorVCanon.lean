/- What is read of bytes is of the form that can be put; no program in sight. -/
import Derived.Test.YtjkehapbemjnpaaDoorVPutP
namespace Go.Proofs.YtjkehapbemjnpaaDoor
open Go.RowKit Kit Cut Pl Num
set_option linter.unusedVariables false
def NT (l : List Int) : Prop := 10 ∉ l
def NP (l : List Int) : Prop := 10 ∉ l ∧ 47 ∉ l
def N0 (n : Int) : Prop := 0 ≤ n ∧ n ≤ most
def N1 (n : Int) : Prop := -1 ≤ n ∧ n ≤ most
def X0 (n : Int) : Prop := 1 ≤ n ∧ n ≤ 20
def NL (l : List Int) : Prop := (∀ n ∈ l, 0 ≤ n ∧ n ≤ most) ∧ l.length ≤ 32
def NS (n : Int) : Prop := 0 ≤ n ∧ n ≤ 2
structure Canon (a : AskP) : Prop where
 c0 : X0 a.x0
 c1 : NP a.x1
 c2 : NT a.x2
 c3 : N1 a.x3
 c6 : NT a.x6
 c7 : NT a.x7
 c8 : NT a.x8
 c11 : N0 a.x11
 c12 : NT a.x12
 c13 : NT a.x13
 c14 : NT a.x14
 c15 : N0 a.x15
 c16 : NP a.x16
 c17 : NT a.x17
 c18 : N1 a.x18
 c20 : N0 a.x20
 c21 : N0 a.x21
 c22 : NL a.x22
 c23 : NS a.x23
theorem Canon.w1 {a : AskP} (h : Canon a) {v : List Int} (hv : NP v) : Canon { a with x1 := v } := ⟨h.c0, hv, h.c2, h.c3, h.c6, h.c7, h.c8, h.c11, h.c12, h.c13, h.c14, h.c15, h.c16, h.c17, h.c18, h.c20, h.c21, h.c22, h.c23⟩
theorem Canon.w2 {a : AskP} (h : Canon a) {v : List Int} (hv : NT v) : Canon { a with x2 := v } := ⟨h.c0, h.c1, hv, h.c3, h.c6, h.c7, h.c8, h.c11, h.c12, h.c13, h.c14, h.c15, h.c16, h.c17, h.c18, h.c20, h.c21, h.c22, h.c23⟩
theorem Canon.w3 {a : AskP} (h : Canon a) {v : Int} (hv : N1 v) : Canon { a with x3 := v } := ⟨h.c0, h.c1, h.c2, hv, h.c6, h.c7, h.c8, h.c11, h.c12, h.c13, h.c14, h.c15, h.c16, h.c17, h.c18, h.c20, h.c21, h.c22, h.c23⟩
theorem Canon.w6 {a : AskP} (h : Canon a) {v : List Int} (hv : NT v) : Canon { a with x6 := v } := ⟨h.c0, h.c1, h.c2, h.c3, hv, h.c7, h.c8, h.c11, h.c12, h.c13, h.c14, h.c15, h.c16, h.c17, h.c18, h.c20, h.c21, h.c22, h.c23⟩
theorem Canon.w7 {a : AskP} (h : Canon a) {v : List Int} (hv : NT v) : Canon { a with x7 := v } := ⟨h.c0, h.c1, h.c2, h.c3, h.c6, hv, h.c8, h.c11, h.c12, h.c13, h.c14, h.c15, h.c16, h.c17, h.c18, h.c20, h.c21, h.c22, h.c23⟩
theorem Canon.w8 {a : AskP} (h : Canon a) {v : List Int} (hv : NT v) : Canon { a with x8 := v } := ⟨h.c0, h.c1, h.c2, h.c3, h.c6, h.c7, hv, h.c11, h.c12, h.c13, h.c14, h.c15, h.c16, h.c17, h.c18, h.c20, h.c21, h.c22, h.c23⟩
theorem Canon.w11 {a : AskP} (h : Canon a) {v : Int} (hv : N0 v) : Canon { a with x11 := v } := ⟨h.c0, h.c1, h.c2, h.c3, h.c6, h.c7, h.c8, hv, h.c12, h.c13, h.c14, h.c15, h.c16, h.c17, h.c18, h.c20, h.c21, h.c22, h.c23⟩
theorem Canon.w12 {a : AskP} (h : Canon a) {v : List Int} (hv : NT v) : Canon { a with x12 := v } := ⟨h.c0, h.c1, h.c2, h.c3, h.c6, h.c7, h.c8, h.c11, hv, h.c13, h.c14, h.c15, h.c16, h.c17, h.c18, h.c20, h.c21, h.c22, h.c23⟩
theorem Canon.w13 {a : AskP} (h : Canon a) {v : List Int} (hv : NT v) : Canon { a with x13 := v } := ⟨h.c0, h.c1, h.c2, h.c3, h.c6, h.c7, h.c8, h.c11, h.c12, hv, h.c14, h.c15, h.c16, h.c17, h.c18, h.c20, h.c21, h.c22, h.c23⟩
theorem Canon.w14 {a : AskP} (h : Canon a) {v : List Int} (hv : NT v) : Canon { a with x14 := v } := ⟨h.c0, h.c1, h.c2, h.c3, h.c6, h.c7, h.c8, h.c11, h.c12, h.c13, hv, h.c15, h.c16, h.c17, h.c18, h.c20, h.c21, h.c22, h.c23⟩
theorem Canon.w15 {a : AskP} (h : Canon a) {v : Int} (hv : N0 v) : Canon { a with x15 := v } := ⟨h.c0, h.c1, h.c2, h.c3, h.c6, h.c7, h.c8, h.c11, h.c12, h.c13, h.c14, hv, h.c16, h.c17, h.c18, h.c20, h.c21, h.c22, h.c23⟩
theorem Canon.w16 {a : AskP} (h : Canon a) {v : List Int} (hv : NP v) : Canon { a with x16 := v } := ⟨h.c0, h.c1, h.c2, h.c3, h.c6, h.c7, h.c8, h.c11, h.c12, h.c13, h.c14, h.c15, hv, h.c17, h.c18, h.c20, h.c21, h.c22, h.c23⟩
theorem Canon.w17 {a : AskP} (h : Canon a) {v : List Int} (hv : NT v) : Canon { a with x17 := v } := ⟨h.c0, h.c1, h.c2, h.c3, h.c6, h.c7, h.c8, h.c11, h.c12, h.c13, h.c14, h.c15, h.c16, hv, h.c18, h.c20, h.c21, h.c22, h.c23⟩
theorem Canon.w18 {a : AskP} (h : Canon a) {v : Int} (hv : N1 v) : Canon { a with x18 := v } := ⟨h.c0, h.c1, h.c2, h.c3, h.c6, h.c7, h.c8, h.c11, h.c12, h.c13, h.c14, h.c15, h.c16, h.c17, hv, h.c20, h.c21, h.c22, h.c23⟩
theorem Canon.w20 {a : AskP} (h : Canon a) {v : Int} (hv : N0 v) : Canon { a with x20 := v } := ⟨h.c0, h.c1, h.c2, h.c3, h.c6, h.c7, h.c8, h.c11, h.c12, h.c13, h.c14, h.c15, h.c16, h.c17, h.c18, hv, h.c21, h.c22, h.c23⟩
theorem Canon.w21 {a : AskP} (h : Canon a) {v : Int} (hv : N0 v) : Canon { a with x21 := v } := ⟨h.c0, h.c1, h.c2, h.c3, h.c6, h.c7, h.c8, h.c11, h.c12, h.c13, h.c14, h.c15, h.c16, h.c17, h.c18, h.c20, hv, h.c22, h.c23⟩
theorem Canon.w4 {a : AskP} (h : Canon a) {v : List Int} : Canon { a with x4 := v } := ⟨h.c0, h.c1, h.c2, h.c3, h.c6, h.c7, h.c8, h.c11, h.c12, h.c13, h.c14, h.c15, h.c16, h.c17, h.c18, h.c20, h.c21, h.c22, h.c23⟩
theorem Canon.w5 {a : AskP} (h : Canon a) {v : List Int} : Canon { a with x5 := v } := ⟨h.c0, h.c1, h.c2, h.c3, h.c6, h.c7, h.c8, h.c11, h.c12, h.c13, h.c14, h.c15, h.c16, h.c17, h.c18, h.c20, h.c21, h.c22, h.c23⟩
theorem Canon.w9 {a : AskP} (h : Canon a) {v : List Int} : Canon { a with x9 := v } := ⟨h.c0, h.c1, h.c2, h.c3, h.c6, h.c7, h.c8, h.c11, h.c12, h.c13, h.c14, h.c15, h.c16, h.c17, h.c18, h.c20, h.c21, h.c22, h.c23⟩
theorem Canon.w10 {a : AskP} (h : Canon a) {v : List Int} : Canon { a with x10 := v } := ⟨h.c0, h.c1, h.c2, h.c3, h.c6, h.c7, h.c8, h.c11, h.c12, h.c13, h.c14, h.c15, h.c16, h.c17, h.c18, h.c20, h.c21, h.c22, h.c23⟩
theorem Canon.w19 {a : AskP} (h : Canon a) {v : List Int} : Canon { a with x19 := v } := ⟨h.c0, h.c1, h.c2, h.c3, h.c6, h.c7, h.c8, h.c11, h.c12, h.c13, h.c14, h.c15, h.c16, h.c17, h.c18, h.c20, h.c21, h.c22, h.c23⟩
theorem NT.cut {sep s : List Int} (h : NT s) : NT (cutL sep s).1 ∧ NT (cutL sep s).2.1 := by
 cases hc : (cutL sep s).2.2 with
 | true =>
  have := cutL_found hc
  unfold NT at *
  rw [this] at h
  simp only [List.mem_append, not_or] at h
  exact ⟨h.1.1, h.2⟩
 | false =>
  obtain ⟨h1, h2⟩ := cutL_not hc
  rw [h1, h2]
  exact ⟨h, by simp [NT]⟩
theorem Canon.tSet {a : AskP} (h : Canon a) (k : Nat) {v : List Int} (hv : NT v) : Canon (a.tSet k v) := by
 unfold AskP.tSet
 split
 ·exact h.w6 hv
 ·exact h.w7 hv
 ·exact h.w8 hv
 ·exact h.w12 hv
 ·exact h.w13 hv
 ·exact h.w14 hv
 ·exact h
theorem Canon.oSet {a : AskP} (h : Canon a) (k : Nat) {v : List Int} : Canon (a.oSet k v) := by
 unfold AskP.oSet
 split
 ·exact h.w5
 ·exact h.w9
 ·exact h.w10
 ·exact h.w19
 ·exact h
theorem N0.n1 {n : Int} (h : N0 n) : N1 n := ⟨by have := h.1; omega, h.2⟩
theorem Canon.nSet {a : AskP} (h : Canon a) (k : Nat) {v : Int} (hv : N0 v) : Canon (a.nSet k v) := by
 unfold AskP.nSet
 split
 ·exact h.w3 hv.n1
 ·exact h.w11 hv
 ·exact h.w15 hv
 ·exact h.w18 hv.n1
 ·exact h.w20 hv
 ·exact h.w21 hv
 ·exact h
end Go.Proofs.YtjkehapbemjnpaaDoor
namespace Go.Proofs.YtjkehapbemjnpaaDoor
open Go.RowKit Kit Cut Pl Num
set_option linter.unusedVariables false
/-- One pair after the other is set. -/
inductive Run : AskP → List (List Int × List Int) → AskP → Prop
 | nil (a : AskP) : Run a [] a
 | cons {a a1 a2 : AskP} {w v : List Int} {ps : List (List Int × List Int)} (hw : 58 ∉ w) (hv : v ≠ [] → setS a w v = (a1, 0)) (h0 : v = [] → a = a1) (h : Run a1 ps a2) : Run a ((w, v) :: ps) a2
theorem NT.app {a b : List Int} (h : NT a) (h2 : NT b) : NT (a ++ b) := fun hm => (List.mem_append.1 hm).elim h h2
theorem NT.cons {x : Int} {b : List Int} (h : x ≠ 10) (h2 : NT b) : NT (x :: b) := fun hm => (List.mem_cons.1 hm).elim (fun e => h e.symm) h2
end Go.Proofs.YtjkehapbemjnpaaDoor
