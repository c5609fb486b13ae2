/- What came in, opened by hand: bytes, buckets, parts, keys, uploads, versions. -/
import Derived.Test.YtmciigdfhikdnaaDoorRows
import Derived.Test.YtmciigdfhikdnaaDoorWWords
import Derived.Test.YtmciigdfhikdnaaDoorKit
import Derived.WalkKit
import Derived.ProofKit
import Derived.OpenShut
import Derived.ShutString
import Derived.ChangeOld
import Derived.Below
import Derived.SizedLaws
import Derived.Deep.Strs
namespace Go.Proofs.YtmciigdfhikdnaaDoor.Open
open Go.ChangeShapes Go.WideShapes Go.ChangeAt Go.RowKit Go.Proofs.YtmciigdfhikdnaaDoorW.PrintWords Go.Deep Go.Proofs.YtmciigdfhikdnaaDoor.Kit
set_option linter.unusedVariables false
variable {H : Type} {enc : TypeId × Value → H} {W : World} {base : Nat} {held : Bool}
theorem c3 : Tryd.prog.cellsOf 3 = 1 := by kernel_rfl
theorem c4 : Tryd.prog.cellsOf 4 = 1 := by kernel_rfl
theorem c9 : Tryd.prog.cellsOf 9 = 1 := by kernel_rfl
theorem c22 : Tryd.prog.cellsOf 22 = 1 := by kernel_rfl
theorem c24 : Tryd.prog.cellsOf 24 = 3 := by kernel_rfl
theorem c26 : Tryd.prog.cellsOf 26 = 11 := by kernel_rfl
theorem c38 : Tryd.prog.cellsOf 38 = 4 := by kernel_rfl
theorem c44 : Tryd.prog.cellsOf 44 = 6 := by kernel_rfl
theorem c51 : Tryd.prog.cellsOf 51 = 4 := by kernel_rfl
theorem len3 {α : Type} {l : List α} (h : l.length = 3) : ∃ a0 a1 a2, l = [a0, a1, a2] := by
  match l, h with
  | [a0, a1, a2], _ => exact ⟨a0, a1, a2, rfl⟩
theorem len4 {α : Type} {l : List α} (h : l.length = 4) : ∃ a0 a1 a2 a3, l = [a0, a1, a2, a3] := by
  match l, h with
  | [a0, a1, a2, a3], _ => exact ⟨a0, a1, a2, a3, rfl⟩
theorem len6 {α : Type} {l : List α} (h : l.length = 6) : ∃ a0 a1 a2 a3 a4 a5, l = [a0, a1, a2, a3, a4, a5] := by
  match l, h with
  | [a0, a1, a2, a3, a4, a5], _ => exact ⟨a0, a1, a2, a3, a4, a5, rfl⟩
theorem len9 {α : Type} {l : List α} (h : l.length = 9) : ∃ a0 a1 a2 a3 a4 a5 a6 a7 a8, l = [a0, a1, a2, a3, a4, a5, a6, a7, a8] := by
  match l, h with
  | [a0, a1, a2, a3, a4, a5, a6, a7, a8], _ => exact ⟨a0, a1, a2, a3, a4, a5, a6, a7, a8, rfl⟩
theorem len11 {α : Type} {l : List α} (h : l.length = 11) : ∃ a0 a1 a2 a3 a4 a5 a6 a7 a8 a9 a10, l = [a0, a1, a2, a3, a4, a5, a6, a7, a8, a9, a10] := by
  match l, h with
  | [a0, a1, a2, a3, a4, a5, a6, a7, a8, a9, a10], _ => exact ⟨a0, a1, a2, a3, a4, a5, a6, a7, a8, a9, a10, rfl⟩
theorem int1 {n : Nat} {c : Value} {x : DataW H × List MemPlace} (h : DataW.trod enc Tryd.prog W base (fun _ => true) held n 3 [c] = some x) : ∃ a : Int, c = .int .i64 a := by
  obtain ⟨a, e, _⟩ := DataW.trod_int Tryd.underlying3 h
  simp only [List.cons.injEq, and_true] at e
  exact ⟨a, e⟩
theorem bool1 {n : Nat} {c : Value} {x : DataW H × List MemPlace} (h : DataW.trod enc Tryd.prog W base (fun _ => true) held n 4 [c] = some x) : ∃ a : Bool, c = .bool a := by
  obtain ⟨a, e, _⟩ := DataW.trod_bool Tryd.underlying4 h
  simp only [List.cons.injEq, and_true] at e
  exact ⟨a, e⟩
theorem string1 {n : Nat} {c : Value} {x : DataW H × List MemPlace} (h : DataW.trod enc Tryd.prog W base (fun _ => true) held n 9 [c] = some x) : ∃ a : ByteArray, c = .string a := by
  obtain ⟨a, e, _⟩ := DataW.trod_string Tryd.underlying9 h
  simp only [List.cons.injEq, and_true] at e
  exact ⟨a, e⟩
/-- Bytes as they came in. -/
def Bts (W : World) (c : Value) (A : Option Addr) (cap : Nat) (l : List Int) : Prop := c = .slice A l.length cap ∧ Kd.C (Kd.int .u8) W A l.length l ∧ l.length ≤ cap ∧ Byt l
theorem bytes1 {n : Nat} {c : Value} {x : DataW H × List MemPlace} (h : DataW.trod enc Tryd.prog W base (fun _ => true) held n 22 [c] = some x) : ∃ A cap l, Bts W c A cap l := by
  obtain ⟨A, len, cap, zs, e2, w2⟩ : ∃ (A : Option Addr) (len cap : Nat) (zs : List Int), c = .slice A len cap ∧ ((A = none ∧ len = 0 ∧ cap = 0 ∧ zs = []) ∨ ∃ x, A = some x ∧ len ≤ cap ∧ cap ≤ maxLen ∧ zs.length = cap ∧ (∀ i, i < zs.length → W.cell? (x.add i) = some (.int .u8 (zs.getD i 0))) ∧ ∀ n ∈ zs, (Lit.int .u8 n).wf = true) := by
    rcases open_ints Tryd.underlying22 Tryd.underlying5 (by kernel_rfl) h with ⟨hcs, _⟩ | ⟨x, l, c, zs, hcs, _, hl, hm, hz, _, hcell, hwz⟩
    · simp only [List.cons.injEq, and_true] at hcs
      exact ⟨_, _, _, [], hcs, .inl ⟨rfl, rfl, rfl, rfl⟩⟩
    · simp only [List.cons.injEq, and_true] at hcs
      exact ⟨_, _, _, zs, hcs, .inr ⟨_, rfl, hl, hm, by simpa using hz, hcell, hwz⟩⟩
  subst e2
  obtain ⟨l2, rfl, hr2, hm2, hw2, hc2⟩ := ReadsInt.ofRowC w2
  refine ⟨A, cap, l2, rfl, Kd.C_of_reads (d := (0 : Int)) (h1 := fun _ => rfl) hr2, hc2, fun t ht => ?_⟩
  have := hw2 t ht
  simp [Lit.wf, IntKind.min, IntKind.max, IntKind.signed, IntKind.bits] at this
  omega
theorem openBytes {d : DataW H} {ps : List MemPlace} {a : Option Addr} {len cap : Nat} (h : DataW.Trod enc Tryd.prog W base (fun _ => true) held 22 (.slice a len cap) d ps) : ∃ l : List Int, l.length = len ∧ Kd.C (Kd.int .u8) W a len l ∧ len ≤ cap ∧ Byt l := by
  obtain ⟨fuel, hf⟩ := h
  obtain ⟨A, c, l, e, hC, hc, hb⟩ := bytes1 hf
  simp only [Value.slice.injEq] at e
  obtain ⟨rfl, rfl, rfl⟩ := e
  exact ⟨l, rfl, hC, hc, hb⟩
/-- Four numbers as they came in. -/
theorem four {n : Nat} {cs : List Value} {x : DataW H × List MemPlace} (h : DataW.trod enc Tryd.prog W base (fun _ => true) held n 38 cs = some x) : ∃ a b c d : Int, cs = [.int .i64 a, .int .i64 b, .int .i64 c, .int .i64 d] := by
  obtain ⟨xs, m, _, _, hl, hlen, hf⟩ := DataW.trod_struct Tryd.underlying38 h
  rw [c38] at hl
  have hlen2 : xs.length = 4 := hlen
  obtain ⟨y0, y1, y2, y3, rfl⟩ := len4 hlen2
  obtain ⟨v0, v1, v2, v3, rfl⟩ := len4 hl
  have h0 : DataW.trod enc Tryd.prog W base (fun _ => true) held m 3 (([v0, v1, v2, v3].drop 0).take (Tryd.prog.cellsOf 3)) = some y0 := hf 0 _ rfl
  have h1 : DataW.trod enc Tryd.prog W base (fun _ => true) held m 3 (([v0, v1, v2, v3].drop 1).take (Tryd.prog.cellsOf 3)) = some y1 := hf 1 _ rfl
  have h2 : DataW.trod enc Tryd.prog W base (fun _ => true) held m 3 (([v0, v1, v2, v3].drop 2).take (Tryd.prog.cellsOf 3)) = some y2 := hf 2 _ rfl
  have h3 : DataW.trod enc Tryd.prog W base (fun _ => true) held m 3 (([v0, v1, v2, v3].drop 3).take (Tryd.prog.cellsOf 3)) = some y3 := hf 3 _ rfl
  simp only [c3, List.drop, List.take] at h0 h1 h2 h3
  obtain ⟨a, rfl⟩ := int1 h0
  obtain ⟨b, rfl⟩ := int1 h1
  obtain ⟨c, rfl⟩ := int1 h2
  obtain ⟨d, rfl⟩ := int1 h3
  exact ⟨a, b, c, d, rfl⟩
theorem fourP {n : Nat} {cs : List Value} {x : DataW H × List MemPlace} (h : DataW.trod enc Tryd.prog W base (fun _ => true) held n 51 cs = some x) : ∃ a b c d : Int, cs = [.int .i64 a, .int .i64 b, .int .i64 c, .int .i64 d] := by
  obtain ⟨xs, m, _, _, hl, hlen, hf⟩ := DataW.trod_struct Tryd.underlying51 h
  rw [c51] at hl
  have hlen2 : xs.length = 4 := hlen
  obtain ⟨y0, y1, y2, y3, rfl⟩ := len4 hlen2
  obtain ⟨v0, v1, v2, v3, rfl⟩ := len4 hl
  have h0 : DataW.trod enc Tryd.prog W base (fun _ => true) held m 3 (([v0, v1, v2, v3].drop 0).take (Tryd.prog.cellsOf 3)) = some y0 := hf 0 _ rfl
  have h1 : DataW.trod enc Tryd.prog W base (fun _ => true) held m 3 (([v0, v1, v2, v3].drop 1).take (Tryd.prog.cellsOf 3)) = some y1 := hf 1 _ rfl
  have h2 : DataW.trod enc Tryd.prog W base (fun _ => true) held m 3 (([v0, v1, v2, v3].drop 2).take (Tryd.prog.cellsOf 3)) = some y2 := hf 2 _ rfl
  have h3 : DataW.trod enc Tryd.prog W base (fun _ => true) held m 3 (([v0, v1, v2, v3].drop 3).take (Tryd.prog.cellsOf 3)) = some y3 := hf 3 _ rfl
  simp only [c3, List.drop, List.take] at h0 h1 h2 h3
  obtain ⟨a, rfl⟩ := int1 h0
  obtain ⟨b, rfl⟩ := int1 h1
  obtain ⟨c, rfl⟩ := int1 h2
  obtain ⟨d, rfl⟩ := int1 h3
  exact ⟨a, b, c, d, rfl⟩
theorem ofList {cs : Array Value} {l : List Value} (h : cs.toList = l) : cs = l.toArray := by
  cases cs
  simp_all
theorem openBucket {v : Value} {d : DataW H} {ps : List MemPlace} {cs : Array Value} (hv : v = .agg cs) (h : DataW.Trod enc Tryd.prog W base (fun _ => true) held 38 v d ps) : ∃ a b c d : Int, v = .agg #[.int .i64 a, .int .i64 b, .int .i64 c, .int .i64 d] := by
  obtain ⟨fuel, hf⟩ := h
  subst hv
  obtain ⟨a, b, c, d, e⟩ := four hf
  exact ⟨a, b, c, d, by rw [ofList (cs := cs) e]⟩
theorem openPiece {v : Value} {d : DataW H} {ps : List MemPlace} {cs : Array Value} (hv : v = .agg cs) (h : DataW.Trod enc Tryd.prog W base (fun _ => true) held 51 v d ps) : ∃ a b c d : Int, v = .agg #[.int .i64 a, .int .i64 b, .int .i64 c, .int .i64 d] := by
  obtain ⟨fuel, hf⟩ := h
  subst hv
  obtain ⟨a, b, c, d, e⟩ := fourP hf
  exact ⟨a, b, c, d, by rw [ofList (cs := cs) e]⟩
/-- A sealed key as it came in. -/
theorem lock3 {n : Nat} {cs : List Value} {x : DataW H × List MemPlace} (h : DataW.trod enc Tryd.prog W base (fun _ => true) held n 24 cs = some x) : ∃ (g : Int) (v1 v2 : Value) (A1 : Option Addr) (c1 : Nat) (l1 : List Int) (A2 : Option Addr) (c2 : Nat) (l2 : List Int), cs = [.int .i64 g, v1, v2] ∧ Bts W v1 A1 c1 l1 ∧ Bts W v2 A2 c2 l2 := by
  obtain ⟨xs, m, _, _, hl, hlen, hf⟩ := DataW.trod_struct Tryd.underlying24 h
  rw [c24] at hl
  have hlen2 : xs.length = 3 := hlen
  obtain ⟨y0, y1, y2, rfl⟩ := len3 hlen2
  obtain ⟨v0, v1, v2, rfl⟩ := len3 hl
  have h0 : DataW.trod enc Tryd.prog W base (fun _ => true) held m 3 (([v0, v1, v2].drop 0).take (Tryd.prog.cellsOf 3)) = some y0 := hf 0 _ rfl
  have h1 : DataW.trod enc Tryd.prog W base (fun _ => true) held m 22 (([v0, v1, v2].drop 1).take (Tryd.prog.cellsOf 22)) = some y1 := hf 1 _ rfl
  have h2 : DataW.trod enc Tryd.prog W base (fun _ => true) held m 22 (([v0, v1, v2].drop 2).take (Tryd.prog.cellsOf 22)) = some y2 := hf 2 _ rfl
  simp only [c3, c22, List.drop, List.take] at h0 h1 h2
  obtain ⟨a, rfl⟩ := int1 h0
  obtain ⟨A1, c1, l1, b1⟩ := bytes1 h1
  obtain ⟨A2, c2, l2, b2⟩ := bytes1 h2
  exact ⟨a, v1, v2, A1, c1, l1, A2, c2, l2, rfl, b1, b2⟩
theorem openUpload {v : Value} {d : DataW H} {ps : List MemPlace} {cs : Array Value} (hv : v = .agg cs) (h : DataW.Trod enc Tryd.prog W base (fun _ => true) held 44 v d ps) :
    ∃ (a : Int) (s : ByteArray) (v2 : Value) (A2 : Option Addr) (c2 : Nat) (l2 : List Int) (g : Int) (v4 v5 : Value) (A4 : Option Addr) (c4 : Nat) (l4 : List Int) (A5 : Option Addr) (c5 : Nat) (l5 : List Int), v = .agg #[.int .i64 a, .string s, v2, .int .i64 g, v4, v5] ∧ Bts W v2 A2 c2 l2 ∧ Bts W v4 A4 c4 l4 ∧ Bts W v5 A5 c5 l5 := by
  obtain ⟨fuel, hf0⟩ := h
  subst hv
  obtain ⟨xs, m, _, _, hl, hlen, hf⟩ := DataW.trod_struct Tryd.underlying44 hf0
  rw [c44] at hl
  simp only [Value.cells] at hl hf
  obtain ⟨l⟩ := cs
  simp only at hl hf
  have hlen2 : xs.length = 4 := hlen
  obtain ⟨y0, y1, y2, y3, rfl⟩ := len4 hlen2
  obtain ⟨v0, v1, v2, v3, v4, v5, rfl⟩ := len6 hl
  have h0 : DataW.trod enc Tryd.prog W base (fun _ => true) held m 3 (([v0, v1, v2, v3, v4, v5].drop 0).take (Tryd.prog.cellsOf 3)) = some y0 := hf 0 _ rfl
  have h1 : DataW.trod enc Tryd.prog W base (fun _ => true) held m 9 (([v0, v1, v2, v3, v4, v5].drop 1).take (Tryd.prog.cellsOf 9)) = some y1 := hf 1 _ rfl
  have h2 : DataW.trod enc Tryd.prog W base (fun _ => true) held m 22 (([v0, v1, v2, v3, v4, v5].drop 2).take (Tryd.prog.cellsOf 22)) = some y2 := hf 2 _ rfl
  have h3 : DataW.trod enc Tryd.prog W base (fun _ => true) held m 24 (([v0, v1, v2, v3, v4, v5].drop 3).take (Tryd.prog.cellsOf 24)) = some y3 := hf 3 _ rfl
  simp only [c3, c9, c22, c24, List.drop, List.take] at h0 h1 h2 h3
  obtain ⟨a, rfl⟩ := int1 h0
  obtain ⟨s, rfl⟩ := string1 h1
  obtain ⟨A2, c2, l2, b2⟩ := bytes1 h2
  obtain ⟨g, w1, w2, A4, c4, l4, A5, c5, l5, e, b4, b5⟩ := lock3 h3
  simp only [List.cons.injEq, and_true] at e
  obtain ⟨rfl, rfl, rfl⟩ := e
  exact ⟨a, s, v2, A2, c2, l2, g, v4, v5, A4, c4, l4, A5, c5, l5, rfl, b2, b4, b5⟩
theorem openVersion {v : Value} {d : DataW H} {ps : List MemPlace} {cs : Array Value} (hv : v = .agg cs) (h : DataW.Trod enc Tryd.prog W base (fun _ => true) held 26 v d ps) :
    ∃ (a0 : Int) (a1 a2 : Bool) (a3 a4 a5 : Int) (v6 v7 : Value) (A6 : Option Addr) (c6 : Nat) (l6 : List Int) (A7 : Option Addr) (c7 : Nat) (l7 : List Int) (g : Int) (v9 v10 : Value) (A9 : Option Addr) (c9 : Nat) (l9 : List Int) (A10 : Option Addr) (c10 : Nat) (l10 : List Int),
      v = .agg #[.int .i64 a0, .bool a1, .bool a2, .int .i64 a3, .int .i64 a4, .int .i64 a5, v6, v7, .int .i64 g, v9, v10] ∧ Bts W v6 A6 c6 l6 ∧ Bts W v7 A7 c7 l7 ∧ Bts W v9 A9 c9 l9 ∧ Bts W v10 A10 c10 l10 := by
  obtain ⟨fuel, hf0⟩ := h
  subst hv
  obtain ⟨xs, m, _, _, hl, hlen, hf⟩ := DataW.trod_struct Tryd.underlying26 hf0
  rw [c26] at hl
  simp only [Value.cells] at hl hf
  obtain ⟨l⟩ := cs
  simp only at hl hf
  have hlen2 : xs.length = 9 := hlen
  obtain ⟨y0, y1, y2, y3, y4, y5, y6, y7, y8, rfl⟩ := len9 hlen2
  obtain ⟨v0, v1, v2, v3, v4, v5, v6, v7, v8, v9, v10, rfl⟩ := len11 hl
  have h0 : DataW.trod enc Tryd.prog W base (fun _ => true) held m 3 (([v0, v1, v2, v3, v4, v5, v6, v7, v8, v9, v10].drop 0).take (Tryd.prog.cellsOf 3)) = some y0 := hf 0 _ rfl
  have h1 : DataW.trod enc Tryd.prog W base (fun _ => true) held m 4 (([v0, v1, v2, v3, v4, v5, v6, v7, v8, v9, v10].drop 1).take (Tryd.prog.cellsOf 4)) = some y1 := hf 1 _ rfl
  have h2 : DataW.trod enc Tryd.prog W base (fun _ => true) held m 4 (([v0, v1, v2, v3, v4, v5, v6, v7, v8, v9, v10].drop 2).take (Tryd.prog.cellsOf 4)) = some y2 := hf 2 _ rfl
  have h3 : DataW.trod enc Tryd.prog W base (fun _ => true) held m 3 (([v0, v1, v2, v3, v4, v5, v6, v7, v8, v9, v10].drop 3).take (Tryd.prog.cellsOf 3)) = some y3 := hf 3 _ rfl
  have h4 : DataW.trod enc Tryd.prog W base (fun _ => true) held m 3 (([v0, v1, v2, v3, v4, v5, v6, v7, v8, v9, v10].drop 4).take (Tryd.prog.cellsOf 3)) = some y4 := hf 4 _ rfl
  have h5 : DataW.trod enc Tryd.prog W base (fun _ => true) held m 3 (([v0, v1, v2, v3, v4, v5, v6, v7, v8, v9, v10].drop 5).take (Tryd.prog.cellsOf 3)) = some y5 := hf 5 _ rfl
  have h6 : DataW.trod enc Tryd.prog W base (fun _ => true) held m 22 (([v0, v1, v2, v3, v4, v5, v6, v7, v8, v9, v10].drop 6).take (Tryd.prog.cellsOf 22)) = some y6 := hf 6 _ rfl
  have h7 : DataW.trod enc Tryd.prog W base (fun _ => true) held m 22 (([v0, v1, v2, v3, v4, v5, v6, v7, v8, v9, v10].drop 7).take (Tryd.prog.cellsOf 22)) = some y7 := hf 7 _ rfl
  have h8 : DataW.trod enc Tryd.prog W base (fun _ => true) held m 24 (([v0, v1, v2, v3, v4, v5, v6, v7, v8, v9, v10].drop 8).take (Tryd.prog.cellsOf 24)) = some y8 := hf 8 _ rfl
  simp only [c3, c4, c22, c24, List.drop, List.take] at h0 h1 h2 h3 h4 h5 h6 h7 h8
  obtain ⟨a0, rfl⟩ := int1 h0
  obtain ⟨a1, rfl⟩ := bool1 h1
  obtain ⟨a2, rfl⟩ := bool1 h2
  obtain ⟨a3, rfl⟩ := int1 h3
  obtain ⟨a4, rfl⟩ := int1 h4
  obtain ⟨a5, rfl⟩ := int1 h5
  obtain ⟨A6, c6, l6, b6⟩ := bytes1 h6
  obtain ⟨A7, c7, l7, b7⟩ := bytes1 h7
  obtain ⟨g, w1, w2, A9, c9, l9, A10, c10, l10, e, b9, b10⟩ := lock3 h8
  simp only [List.cons.injEq, and_true] at e
  obtain ⟨rfl, rfl, rfl⟩ := e
  exact ⟨a0, a1, a2, a3, a4, a5, v6, v7, A6, c6, l6, A7, c7, l7, g, v9, v10, A9, c9, l9, A10, c10, l10, rfl, b6, b7, b9, b10⟩
end Go.Proofs.YtmciigdfhikdnaaDoor.Open
