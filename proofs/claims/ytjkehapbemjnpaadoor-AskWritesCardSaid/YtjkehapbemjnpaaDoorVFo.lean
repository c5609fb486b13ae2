/- Numbers that came in, kept by what touches no elder block; texts as bytes. -/
import Derived.Test.YtjkehapbemjnpaaDoorVLawK
import Derived.Test.YtjkehapbemjnpaaDoorRows
import Derived.WalkKit
import Derived.ProofKit
import Derived.OpenShut
import Derived.ShutString
import Derived.ChangeOld
import Derived.Below
import Derived.SizedLaws
import Derived.Handed
import Derived.Deep.Strs
namespace Go.Proofs.YtjkehapbemjnpaaDoor
open Go.RowKit Go.Proofs.YtjkehapbemjnpaaDoorW.PrintWords Go.Proofs.YtjkehapbemjnpaaDoorW.PrintMore Kit
theorem F_ints {k : IntKind} {w : World} {A : Option Addr} {n : Nat} {xs : List Int} (h : Kd.C (Kd.int k) w A n xs) : Kd.F (Kd.int k) w (fun _ => True) A n xs := fun W' hW => by
 have hr := Kd.reads_of_C (enc := Value.int k) (d := (0 : Int)) (h1 := fun _ => rfl) h
 refine Kd.C_of_reads (d := (0 : Int)) ⟨hr.1, hr.2.1, fun hn => ?_⟩
 obtain ⟨ad, e, hc⟩ := hr.2.2 hn
 refine ⟨ad, e, fun j hj => ?_⟩
 have h1 := hc j hj
 have h2 := World.block_lt_of_cell? w _ h1
 have h3 := hW (ad.add j).block trivial h2
 rw [← h1]
 unfold World.cell?
 rw [h3]
theorem str_nums (s : ByteArray) : strOfNums (bytesOf s) = s := by
 have h : (strOfNums (bytesOf s)).data = s.data := by
  apply Array.toList_inj.1
  simp only [strOfNums, bytesOf, List.map_map, List.toList_toArray]
  conv => rhs; rw [← List.map_id s.data.toList]
  apply List.map_congr_left
  intro u _
  simp
 cases s
 cases hq : strOfNums (bytesOf _) 
 rw [hq] at h
 simp only at h
 rw [h]
theorem bytesOf_byt (s : ByteArray) : Byt (bytesOf s) := fun x hx => by
 unfold bytesOf at hx
 obtain ⟨u, _, rfl⟩ := List.mem_map.1 hx
 have := u.toNat_lt
 omega
end Go.Proofs.YtjkehapbemjnpaaDoor
namespace Go.Proofs.YtjkehapbemjnpaaDoor.Open
open Go.ChangeShapes Go.WideShapes Go.ChangeAt Go.RowKit Go.Proofs.YtjkehapbemjnpaaDoorW.PrintWords Go.Deep Kit
set_option linter.unusedVariables false
variable {H : Type} {enc : TypeId × Value → H} {W : World} {base : Nat} {held : Bool}
theorem c3 : Tryd.prog.cellsOf 3 = 1 := by kernel_rfl
theorem c9 : Tryd.prog.cellsOf 9 = 1 := by kernel_rfl
theorem c22 : Tryd.prog.cellsOf 22 = 1 := by kernel_rfl
theorem c24 : Tryd.prog.cellsOf 24 = 1 := by kernel_rfl
theorem c26 : Tryd.prog.cellsOf 26 = 24 := by kernel_rfl
theorem len24 {α : Type} {l : List α} (h : l.length = 24) : ∃ v0 v1 v2 v3 v4 v5 v6 v7 v8 v9 v10 v11 v12 v13 v14 v15 v16 v17 v18 v19 v20 v21 v22 v23, l = [v0, v1, v2, v3, v4, v5, v6, v7, v8, v9, v10, v11, v12, v13, v14, v15, v16, v17, v18, v19, v20, v21, v22, v23] := by
 match l, h with
 | [v0, v1, v2, v3, v4, v5, v6, v7, v8, v9, v10, v11, v12, v13, v14, v15, v16, v17, v18, v19, v20, v21, v22, v23], _ => exact ⟨v0, v1, v2, v3, v4, v5, v6, v7, v8, v9, v10, v11, v12, v13, v14, v15, v16, v17, v18, v19, v20, v21, v22, v23, rfl⟩
theorem int1 {n : Nat} {c : Value} {x : DataW H × List MemPlace} (h : DataW.trod enc Tryd.prog W base (fun _ => true) held n 3 [c] = some x) : ∃ a : Int, c = .int .i64 a := by
 obtain ⟨a, e, _⟩ := DataW.trod_int Tryd.underlying3 h
 simp only [List.cons.injEq, and_true] at e
 exact ⟨a, e⟩
theorem string1 {n : Nat} {c : Value} {x : DataW H × List MemPlace} (h : DataW.trod enc Tryd.prog W base (fun _ => true) held n 9 [c] = some x) : ∃ a : ByteArray, c = .string a := by
 obtain ⟨a, e, _⟩ := DataW.trod_string Tryd.underlying9 h
 simp only [List.cons.injEq, and_true] at e
 exact ⟨a, e⟩
theorem bytes0 {n : Nat} {c : Value} {x : DataW H × List MemPlace} (h : DataW.trod enc Tryd.prog W base (fun _ => true) held n 22 [c] = some x) : ∃ A cap l, c = .slice A l.length cap ∧ Kd.C (Kd.int .u8) W A l.length l ∧ l.length ≤ cap ∧ (A = none → cap = 0) ∧ ∀ n ∈ l, (Lit.int .u8 n).wf = true := by
 obtain ⟨A, len, cap, zs, e2, hn, w2⟩ : ∃ (A : Option Addr) (len cap : Nat) (zs : List Int), c = .slice A len cap ∧ (A = none → cap = 0) ∧ ((A = none ∧ len = 0 ∧ cap = 0 ∧ zs = []) ∨ ∃ x, A = some x ∧ len ≤ cap ∧ cap ≤ maxLen ∧ zs.length = cap ∧ (∀ i, i < zs.length → W.cell? (x.add i) = some (.int .u8 (zs.getD i 0))) ∧ ∀ n ∈ zs, (Lit.int .u8 n).wf = true) := by
  rcases open_ints Tryd.underlying22 Tryd.underlying5 (by kernel_rfl) h with ⟨hcs, _⟩ | ⟨x, l, c, zs, hcs, _, hl, hm, hz, _, hcell, hwz⟩
  ·simp only [List.cons.injEq, and_true] at hcs
   exact ⟨_, _, _, [], hcs, fun _ => rfl, .inl ⟨rfl, rfl, rfl, rfl⟩⟩
  ·simp only [List.cons.injEq, and_true] at hcs
   exact ⟨_, _, _, zs, hcs, (fun h => by cases h), .inr ⟨_, rfl, hl, hm, by simpa using hz, hcell, hwz⟩⟩
 subst e2
 obtain ⟨l2, rfl, hr2, hm2, hw2, hc2⟩ := ReadsInt.ofRowC w2
 exact ⟨A, cap, l2, rfl, Kd.C_of_reads (d := (0 : Int)) (h1 := fun _ => rfl) hr2, hc2, hn, hw2⟩
theorem ints0 {n : Nat} {c : Value} {x : DataW H × List MemPlace} (h : DataW.trod enc Tryd.prog W base (fun _ => true) held n 24 [c] = some x) : ∃ A cap l, c = .slice A l.length cap ∧ Kd.C (Kd.int .i64) W A l.length l ∧ l.length ≤ cap ∧ (A = none → cap = 0) ∧ ∀ n ∈ l, (Lit.int .i64 n).wf = true := by
 obtain ⟨A, len, cap, zs, e2, hn, w2⟩ : ∃ (A : Option Addr) (len cap : Nat) (zs : List Int), c = .slice A len cap ∧ (A = none → cap = 0) ∧ ((A = none ∧ len = 0 ∧ cap = 0 ∧ zs = []) ∨ ∃ x, A = some x ∧ len ≤ cap ∧ cap ≤ maxLen ∧ zs.length = cap ∧ (∀ i, i < zs.length → W.cell? (x.add i) = some (.int .i64 (zs.getD i 0))) ∧ ∀ n ∈ zs, (Lit.int .i64 n).wf = true) := by
  rcases open_ints Tryd.underlying24 Tryd.underlying3 (by kernel_rfl) h with ⟨hcs, _⟩ | ⟨x, l, c, zs, hcs, _, hl, hm, hz, _, hcell, hwz⟩
  ·simp only [List.cons.injEq, and_true] at hcs
   exact ⟨_, _, _, [], hcs, fun _ => rfl, .inl ⟨rfl, rfl, rfl, rfl⟩⟩
  ·simp only [List.cons.injEq, and_true] at hcs
   exact ⟨_, _, _, zs, hcs, (fun h => by cases h), .inr ⟨_, rfl, hl, hm, by simpa using hz, hcell, hwz⟩⟩
 subst e2
 obtain ⟨l2, rfl, hr2, hm2, hw2, hc2⟩ := ReadsInt.ofRowC w2
 exact ⟨A, cap, l2, rfl, Kd.C_of_reads (d := (0 : Int)) (h1 := fun _ => rfl) hr2, hc2, hn, hw2⟩
theorem wf_byt {l : List Int} (h : ∀ n ∈ l, (Lit.int .u8 n).wf = true) : Byt l := fun t ht => by
 have := h t ht
 simp [Lit.wf, IntKind.min, IntKind.max, IntKind.signed, IntKind.bits] at this
 omega
theorem openAsk {v : Value} {d : DataW H} {ps : List MemPlace} {cs : Array Value} (hv : v = .agg cs) (h : DataW.Trod enc Tryd.prog W base (fun _ => true) held 26 v d ps) : ∃ (a : AskP) (N : Nat), AskC W (fun _ => True) False cs a ∧ AskN N a := by
 obtain ⟨fuel, hf0⟩ := h
 subst hv
 obtain ⟨xs, m, _, _, hl, hlen, hf⟩ := DataW.trod_struct Tryd.underlying26 hf0
 rw [c26] at hl
 simp only [Value.cells] at hl hf
 obtain ⟨l⟩ := cs
 simp only at hl hf
 have hlen2 : xs.length = 24 := hlen
 obtain ⟨y0, y1, y2, y3, y4, y5, y6, y7, y8, y9, y10, y11, y12, y13, y14, y15, y16, y17, y18, y19, y20, y21, y22, y23, rfl⟩ := len24 hlen2
 obtain ⟨v0, v1, v2, v3, v4, v5, v6, v7, v8, v9, v10, v11, v12, v13, v14, v15, v16, v17, v18, v19, v20, v21, v22, v23, rfl⟩ := len24 hl
 have h0 : DataW.trod enc Tryd.prog W base (fun _ => true) held m 3 (([v0, v1, v2, v3, v4, v5, v6, v7, v8, v9, v10, v11, v12, v13, v14, v15, v16, v17, v18, v19, v20, v21, v22, v23].drop 0).take (Tryd.prog.cellsOf 3)) = some y0 := hf 0 _ rfl
 have h1 : DataW.trod enc Tryd.prog W base (fun _ => true) held m 9 (([v0, v1, v2, v3, v4, v5, v6, v7, v8, v9, v10, v11, v12, v13, v14, v15, v16, v17, v18, v19, v20, v21, v22, v23].drop 1).take (Tryd.prog.cellsOf 9)) = some y1 := hf 1 _ rfl
 have h2 : DataW.trod enc Tryd.prog W base (fun _ => true) held m 9 (([v0, v1, v2, v3, v4, v5, v6, v7, v8, v9, v10, v11, v12, v13, v14, v15, v16, v17, v18, v19, v20, v21, v22, v23].drop 2).take (Tryd.prog.cellsOf 9)) = some y2 := hf 2 _ rfl
 have h3 : DataW.trod enc Tryd.prog W base (fun _ => true) held m 3 (([v0, v1, v2, v3, v4, v5, v6, v7, v8, v9, v10, v11, v12, v13, v14, v15, v16, v17, v18, v19, v20, v21, v22, v23].drop 3).take (Tryd.prog.cellsOf 3)) = some y3 := hf 3 _ rfl
 have h4 : DataW.trod enc Tryd.prog W base (fun _ => true) held m 22 (([v0, v1, v2, v3, v4, v5, v6, v7, v8, v9, v10, v11, v12, v13, v14, v15, v16, v17, v18, v19, v20, v21, v22, v23].drop 4).take (Tryd.prog.cellsOf 22)) = some y4 := hf 4 _ rfl
 have h5 : DataW.trod enc Tryd.prog W base (fun _ => true) held m 22 (([v0, v1, v2, v3, v4, v5, v6, v7, v8, v9, v10, v11, v12, v13, v14, v15, v16, v17, v18, v19, v20, v21, v22, v23].drop 5).take (Tryd.prog.cellsOf 22)) = some y5 := hf 5 _ rfl
 have h6 : DataW.trod enc Tryd.prog W base (fun _ => true) held m 9 (([v0, v1, v2, v3, v4, v5, v6, v7, v8, v9, v10, v11, v12, v13, v14, v15, v16, v17, v18, v19, v20, v21, v22, v23].drop 6).take (Tryd.prog.cellsOf 9)) = some y6 := hf 6 _ rfl
 have h7 : DataW.trod enc Tryd.prog W base (fun _ => true) held m 9 (([v0, v1, v2, v3, v4, v5, v6, v7, v8, v9, v10, v11, v12, v13, v14, v15, v16, v17, v18, v19, v20, v21, v22, v23].drop 7).take (Tryd.prog.cellsOf 9)) = some y7 := hf 7 _ rfl
 have h8 : DataW.trod enc Tryd.prog W base (fun _ => true) held m 9 (([v0, v1, v2, v3, v4, v5, v6, v7, v8, v9, v10, v11, v12, v13, v14, v15, v16, v17, v18, v19, v20, v21, v22, v23].drop 8).take (Tryd.prog.cellsOf 9)) = some y8 := hf 8 _ rfl
 have h9 : DataW.trod enc Tryd.prog W base (fun _ => true) held m 22 (([v0, v1, v2, v3, v4, v5, v6, v7, v8, v9, v10, v11, v12, v13, v14, v15, v16, v17, v18, v19, v20, v21, v22, v23].drop 9).take (Tryd.prog.cellsOf 22)) = some y9 := hf 9 _ rfl
 have h10 : DataW.trod enc Tryd.prog W base (fun _ => true) held m 22 (([v0, v1, v2, v3, v4, v5, v6, v7, v8, v9, v10, v11, v12, v13, v14, v15, v16, v17, v18, v19, v20, v21, v22, v23].drop 10).take (Tryd.prog.cellsOf 22)) = some y10 := hf 10 _ rfl
 have h11 : DataW.trod enc Tryd.prog W base (fun _ => true) held m 3 (([v0, v1, v2, v3, v4, v5, v6, v7, v8, v9, v10, v11, v12, v13, v14, v15, v16, v17, v18, v19, v20, v21, v22, v23].drop 11).take (Tryd.prog.cellsOf 3)) = some y11 := hf 11 _ rfl
 have h12 : DataW.trod enc Tryd.prog W base (fun _ => true) held m 9 (([v0, v1, v2, v3, v4, v5, v6, v7, v8, v9, v10, v11, v12, v13, v14, v15, v16, v17, v18, v19, v20, v21, v22, v23].drop 12).take (Tryd.prog.cellsOf 9)) = some y12 := hf 12 _ rfl
 have h13 : DataW.trod enc Tryd.prog W base (fun _ => true) held m 9 (([v0, v1, v2, v3, v4, v5, v6, v7, v8, v9, v10, v11, v12, v13, v14, v15, v16, v17, v18, v19, v20, v21, v22, v23].drop 13).take (Tryd.prog.cellsOf 9)) = some y13 := hf 13 _ rfl
 have h14 : DataW.trod enc Tryd.prog W base (fun _ => true) held m 9 (([v0, v1, v2, v3, v4, v5, v6, v7, v8, v9, v10, v11, v12, v13, v14, v15, v16, v17, v18, v19, v20, v21, v22, v23].drop 14).take (Tryd.prog.cellsOf 9)) = some y14 := hf 14 _ rfl
 have h15 : DataW.trod enc Tryd.prog W base (fun _ => true) held m 3 (([v0, v1, v2, v3, v4, v5, v6, v7, v8, v9, v10, v11, v12, v13, v14, v15, v16, v17, v18, v19, v20, v21, v22, v23].drop 15).take (Tryd.prog.cellsOf 3)) = some y15 := hf 15 _ rfl
 have h16 : DataW.trod enc Tryd.prog W base (fun _ => true) held m 9 (([v0, v1, v2, v3, v4, v5, v6, v7, v8, v9, v10, v11, v12, v13, v14, v15, v16, v17, v18, v19, v20, v21, v22, v23].drop 16).take (Tryd.prog.cellsOf 9)) = some y16 := hf 16 _ rfl
 have h17 : DataW.trod enc Tryd.prog W base (fun _ => true) held m 9 (([v0, v1, v2, v3, v4, v5, v6, v7, v8, v9, v10, v11, v12, v13, v14, v15, v16, v17, v18, v19, v20, v21, v22, v23].drop 17).take (Tryd.prog.cellsOf 9)) = some y17 := hf 17 _ rfl
 have h18 : DataW.trod enc Tryd.prog W base (fun _ => true) held m 3 (([v0, v1, v2, v3, v4, v5, v6, v7, v8, v9, v10, v11, v12, v13, v14, v15, v16, v17, v18, v19, v20, v21, v22, v23].drop 18).take (Tryd.prog.cellsOf 3)) = some y18 := hf 18 _ rfl
 have h19 : DataW.trod enc Tryd.prog W base (fun _ => true) held m 22 (([v0, v1, v2, v3, v4, v5, v6, v7, v8, v9, v10, v11, v12, v13, v14, v15, v16, v17, v18, v19, v20, v21, v22, v23].drop 19).take (Tryd.prog.cellsOf 22)) = some y19 := hf 19 _ rfl
 have h20 : DataW.trod enc Tryd.prog W base (fun _ => true) held m 3 (([v0, v1, v2, v3, v4, v5, v6, v7, v8, v9, v10, v11, v12, v13, v14, v15, v16, v17, v18, v19, v20, v21, v22, v23].drop 20).take (Tryd.prog.cellsOf 3)) = some y20 := hf 20 _ rfl
 have h21 : DataW.trod enc Tryd.prog W base (fun _ => true) held m 3 (([v0, v1, v2, v3, v4, v5, v6, v7, v8, v9, v10, v11, v12, v13, v14, v15, v16, v17, v18, v19, v20, v21, v22, v23].drop 21).take (Tryd.prog.cellsOf 3)) = some y21 := hf 21 _ rfl
 have h22 : DataW.trod enc Tryd.prog W base (fun _ => true) held m 24 (([v0, v1, v2, v3, v4, v5, v6, v7, v8, v9, v10, v11, v12, v13, v14, v15, v16, v17, v18, v19, v20, v21, v22, v23].drop 22).take (Tryd.prog.cellsOf 24)) = some y22 := hf 22 _ rfl
 have h23 : DataW.trod enc Tryd.prog W base (fun _ => true) held m 3 (([v0, v1, v2, v3, v4, v5, v6, v7, v8, v9, v10, v11, v12, v13, v14, v15, v16, v17, v18, v19, v20, v21, v22, v23].drop 23).take (Tryd.prog.cellsOf 3)) = some y23 := hf 23 _ rfl
 simp only [c3, c9, c22, c24, List.drop, List.take] at h0 h1 h2 h3 h4 h5 h6 h7 h8 h9 h10 h11 h12 h13 h14 h15 h16 h17 h18 h19 h20 h21 h22 h23
 obtain ⟨x0, rfl⟩ := int1 h0
 obtain ⟨s1, rfl⟩ := string1 h1
 obtain ⟨s2, rfl⟩ := string1 h2
 obtain ⟨x3, rfl⟩ := int1 h3
 obtain ⟨A4, k4, l4, rfl, C4, n4, -, w4⟩ := bytes0 h4
 obtain ⟨A5, k5, l5, rfl, C5, n5, -, w5⟩ := bytes0 h5
 obtain ⟨s6, rfl⟩ := string1 h6
 obtain ⟨s7, rfl⟩ := string1 h7
 obtain ⟨s8, rfl⟩ := string1 h8
 obtain ⟨A9, k9, l9, rfl, C9, n9, -, w9⟩ := bytes0 h9
 obtain ⟨A10, k10, l10, rfl, C10, n10, -, w10⟩ := bytes0 h10
 obtain ⟨x11, rfl⟩ := int1 h11
 obtain ⟨s12, rfl⟩ := string1 h12
 obtain ⟨s13, rfl⟩ := string1 h13
 obtain ⟨s14, rfl⟩ := string1 h14
 obtain ⟨x15, rfl⟩ := int1 h15
 obtain ⟨s16, rfl⟩ := string1 h16
 obtain ⟨s17, rfl⟩ := string1 h17
 obtain ⟨x18, rfl⟩ := int1 h18
 obtain ⟨A19, k19, l19, rfl, C19, n19, -, w19⟩ := bytes0 h19
 obtain ⟨x20, rfl⟩ := int1 h20
 obtain ⟨x21, rfl⟩ := int1 h21
 obtain ⟨A22, k22, l22, rfl, C22, n22, -, w22⟩ := ints0 h22
 obtain ⟨x23, rfl⟩ := int1 h23
 clear h0 h1 h2 h3 h4 h5 h6 h7 h8 h9 h10 h11 h12 h13 h14 h15 h16 h17 h18 h19 h20 h21 h22 h23 hf hf0 hl hlen hlen2
 refine ⟨⟨x0, bytesOf s1, bytesOf s2, x3, l4, l5, bytesOf s6, bytesOf s7, bytesOf s8, l9, l10, x11, bytesOf s12, bytesOf s13, bytesOf s14, x15, bytesOf s16, bytesOf s17, x18, l19, x20, x21, l22, x23⟩, (bytesOf s1).length + (bytesOf s2).length + l4.length + l5.length + (bytesOf s6).length + (bytesOf s7).length + (bytesOf s8).length + l9.length + l10.length + (bytesOf s12).length + (bytesOf s13).length + (bytesOf s14).length + (bytesOf s16).length + (bytesOf s17).length + l19.length, ⟨rfl, by simp [Value.oneCell'], fun j v hv => ?_⟩, ?_⟩
 ·match j, hv with
  | 0, hv =>
   obtain rfl := Option.some.inj (show some (.int .i64 x0) = some v from hv)
   exact rfl
  | 1, hv =>
   obtain rfl := Option.some.inj (show some (.string s1) = some v from hv)
   exact (show Value.string s1 = .string (strOfNums (bytesOf s1)) from by rw [str_nums])
  | 2, hv =>
   obtain rfl := Option.some.inj (show some (.string s2) = some v from hv)
   exact (show Value.string s2 = .string (strOfNums (bytesOf s2)) from by rw [str_nums])
  | 3, hv =>
   obtain rfl := Option.some.inj (show some (.int .i64 x3) = some v from hv)
   exact rfl
  | 4, hv =>
   obtain rfl := Option.some.inj (show some (.slice A4 l4.length k4) = some v from hv)
   exact ⟨A4, k4, rfl, n4, F_ints C4⟩
  | 5, hv =>
   obtain rfl := Option.some.inj (show some (.slice A5 l5.length k5) = some v from hv)
   exact ⟨A5, k5, rfl, n5, F_ints C5⟩
  | 6, hv =>
   obtain rfl := Option.some.inj (show some (.string s6) = some v from hv)
   exact (show Value.string s6 = .string (strOfNums (bytesOf s6)) from by rw [str_nums])
  | 7, hv =>
   obtain rfl := Option.some.inj (show some (.string s7) = some v from hv)
   exact (show Value.string s7 = .string (strOfNums (bytesOf s7)) from by rw [str_nums])
  | 8, hv =>
   obtain rfl := Option.some.inj (show some (.string s8) = some v from hv)
   exact (show Value.string s8 = .string (strOfNums (bytesOf s8)) from by rw [str_nums])
  | 9, hv =>
   obtain rfl := Option.some.inj (show some (.slice A9 l9.length k9) = some v from hv)
   exact ⟨A9, k9, rfl, n9, F_ints C9⟩
  | 10, hv =>
   obtain rfl := Option.some.inj (show some (.slice A10 l10.length k10) = some v from hv)
   exact ⟨A10, k10, rfl, n10, F_ints C10⟩
  | 11, hv =>
   obtain rfl := Option.some.inj (show some (.int .i64 x11) = some v from hv)
   exact rfl
  | 12, hv =>
   obtain rfl := Option.some.inj (show some (.string s12) = some v from hv)
   exact (show Value.string s12 = .string (strOfNums (bytesOf s12)) from by rw [str_nums])
  | 13, hv =>
   obtain rfl := Option.some.inj (show some (.string s13) = some v from hv)
   exact (show Value.string s13 = .string (strOfNums (bytesOf s13)) from by rw [str_nums])
  | 14, hv =>
   obtain rfl := Option.some.inj (show some (.string s14) = some v from hv)
   exact (show Value.string s14 = .string (strOfNums (bytesOf s14)) from by rw [str_nums])
  | 15, hv =>
   obtain rfl := Option.some.inj (show some (.int .i64 x15) = some v from hv)
   exact rfl
  | 16, hv =>
   obtain rfl := Option.some.inj (show some (.string s16) = some v from hv)
   exact (show Value.string s16 = .string (strOfNums (bytesOf s16)) from by rw [str_nums])
  | 17, hv =>
   obtain rfl := Option.some.inj (show some (.string s17) = some v from hv)
   exact (show Value.string s17 = .string (strOfNums (bytesOf s17)) from by rw [str_nums])
  | 18, hv =>
   obtain rfl := Option.some.inj (show some (.int .i64 x18) = some v from hv)
   exact rfl
  | 19, hv =>
   obtain rfl := Option.some.inj (show some (.slice A19 l19.length k19) = some v from hv)
   exact ⟨A19, k19, rfl, n19, F_ints C19⟩
  | 20, hv =>
   obtain rfl := Option.some.inj (show some (.int .i64 x20) = some v from hv)
   exact rfl
  | 21, hv =>
   obtain rfl := Option.some.inj (show some (.int .i64 x21) = some v from hv)
   exact rfl
  | 22, hv =>
   obtain rfl := Option.some.inj (show some (.slice A22 l22.length k22) = some v from hv)
   exact ⟨⟨A22, k22, rfl, n22, F_ints C22⟩, fun h => h.elim⟩
  | 23, hv =>
   obtain rfl := Option.some.inj (show some (.int .i64 x23) = some v from hv)
   exact rfl
  | j + 24, hv => trivial
 ·constructor
  ·exact ⟨bytesOf_byt s1, by show (bytesOf s1).length ≤ (bytesOf s1).length + (bytesOf s2).length + l4.length + l5.length + (bytesOf s6).length + (bytesOf s7).length + (bytesOf s8).length + l9.length + l10.length + (bytesOf s12).length + (bytesOf s13).length + (bytesOf s14).length + (bytesOf s16).length + (bytesOf s17).length + l19.length; omega⟩
  ·exact ⟨bytesOf_byt s2, by show (bytesOf s2).length ≤ (bytesOf s1).length + (bytesOf s2).length + l4.length + l5.length + (bytesOf s6).length + (bytesOf s7).length + (bytesOf s8).length + l9.length + l10.length + (bytesOf s12).length + (bytesOf s13).length + (bytesOf s14).length + (bytesOf s16).length + (bytesOf s17).length + l19.length; omega⟩
  ·exact ⟨wf_byt w4, by show l4.length ≤ (bytesOf s1).length + (bytesOf s2).length + l4.length + l5.length + (bytesOf s6).length + (bytesOf s7).length + (bytesOf s8).length + l9.length + l10.length + (bytesOf s12).length + (bytesOf s13).length + (bytesOf s14).length + (bytesOf s16).length + (bytesOf s17).length + l19.length; omega⟩
  ·exact ⟨wf_byt w5, by show l5.length ≤ (bytesOf s1).length + (bytesOf s2).length + l4.length + l5.length + (bytesOf s6).length + (bytesOf s7).length + (bytesOf s8).length + l9.length + l10.length + (bytesOf s12).length + (bytesOf s13).length + (bytesOf s14).length + (bytesOf s16).length + (bytesOf s17).length + l19.length; omega⟩
  ·exact ⟨bytesOf_byt s6, by show (bytesOf s6).length ≤ (bytesOf s1).length + (bytesOf s2).length + l4.length + l5.length + (bytesOf s6).length + (bytesOf s7).length + (bytesOf s8).length + l9.length + l10.length + (bytesOf s12).length + (bytesOf s13).length + (bytesOf s14).length + (bytesOf s16).length + (bytesOf s17).length + l19.length; omega⟩
  ·exact ⟨bytesOf_byt s7, by show (bytesOf s7).length ≤ (bytesOf s1).length + (bytesOf s2).length + l4.length + l5.length + (bytesOf s6).length + (bytesOf s7).length + (bytesOf s8).length + l9.length + l10.length + (bytesOf s12).length + (bytesOf s13).length + (bytesOf s14).length + (bytesOf s16).length + (bytesOf s17).length + l19.length; omega⟩
  ·exact ⟨bytesOf_byt s8, by show (bytesOf s8).length ≤ (bytesOf s1).length + (bytesOf s2).length + l4.length + l5.length + (bytesOf s6).length + (bytesOf s7).length + (bytesOf s8).length + l9.length + l10.length + (bytesOf s12).length + (bytesOf s13).length + (bytesOf s14).length + (bytesOf s16).length + (bytesOf s17).length + l19.length; omega⟩
  ·exact ⟨wf_byt w9, by show l9.length ≤ (bytesOf s1).length + (bytesOf s2).length + l4.length + l5.length + (bytesOf s6).length + (bytesOf s7).length + (bytesOf s8).length + l9.length + l10.length + (bytesOf s12).length + (bytesOf s13).length + (bytesOf s14).length + (bytesOf s16).length + (bytesOf s17).length + l19.length; omega⟩
  ·exact ⟨wf_byt w10, by show l10.length ≤ (bytesOf s1).length + (bytesOf s2).length + l4.length + l5.length + (bytesOf s6).length + (bytesOf s7).length + (bytesOf s8).length + l9.length + l10.length + (bytesOf s12).length + (bytesOf s13).length + (bytesOf s14).length + (bytesOf s16).length + (bytesOf s17).length + l19.length; omega⟩
  ·exact ⟨bytesOf_byt s12, by show (bytesOf s12).length ≤ (bytesOf s1).length + (bytesOf s2).length + l4.length + l5.length + (bytesOf s6).length + (bytesOf s7).length + (bytesOf s8).length + l9.length + l10.length + (bytesOf s12).length + (bytesOf s13).length + (bytesOf s14).length + (bytesOf s16).length + (bytesOf s17).length + l19.length; omega⟩
  ·exact ⟨bytesOf_byt s13, by show (bytesOf s13).length ≤ (bytesOf s1).length + (bytesOf s2).length + l4.length + l5.length + (bytesOf s6).length + (bytesOf s7).length + (bytesOf s8).length + l9.length + l10.length + (bytesOf s12).length + (bytesOf s13).length + (bytesOf s14).length + (bytesOf s16).length + (bytesOf s17).length + l19.length; omega⟩
  ·exact ⟨bytesOf_byt s14, by show (bytesOf s14).length ≤ (bytesOf s1).length + (bytesOf s2).length + l4.length + l5.length + (bytesOf s6).length + (bytesOf s7).length + (bytesOf s8).length + l9.length + l10.length + (bytesOf s12).length + (bytesOf s13).length + (bytesOf s14).length + (bytesOf s16).length + (bytesOf s17).length + l19.length; omega⟩
  ·exact ⟨bytesOf_byt s16, by show (bytesOf s16).length ≤ (bytesOf s1).length + (bytesOf s2).length + l4.length + l5.length + (bytesOf s6).length + (bytesOf s7).length + (bytesOf s8).length + l9.length + l10.length + (bytesOf s12).length + (bytesOf s13).length + (bytesOf s14).length + (bytesOf s16).length + (bytesOf s17).length + l19.length; omega⟩
  ·exact ⟨bytesOf_byt s17, by show (bytesOf s17).length ≤ (bytesOf s1).length + (bytesOf s2).length + l4.length + l5.length + (bytesOf s6).length + (bytesOf s7).length + (bytesOf s8).length + l9.length + l10.length + (bytesOf s12).length + (bytesOf s13).length + (bytesOf s14).length + (bytesOf s16).length + (bytesOf s17).length + l19.length; omega⟩
  ·exact ⟨wf_byt w19, by show l19.length ≤ (bytesOf s1).length + (bytesOf s2).length + l4.length + l5.length + (bytesOf s6).length + (bytesOf s7).length + (bytesOf s8).length + l9.length + l10.length + (bytesOf s12).length + (bytesOf s13).length + (bytesOf s14).length + (bytesOf s16).length + (bytesOf s17).length + l19.length; omega⟩
theorem handed_and_shaped {a : Assume} {C : Checked} {os : Os} {f : FuncId} {fn : Func} {s : ChangeSpec} {conds : List PathCond} {apart fresh handsOn again : Bool} {X : World → Array Value → Prop}
  (hX : ∀ (w w' : World) (args : Array Value), w.heap = w'.heap → X w args → X w' args)
  (own : ownKnob C.prog.godebug = none) (started : os.Started) (noInit : C.prog.inits.idxOf? f = none) (hfn : C.prog.funcs[f]? = some fn)
  (witness : ∃ (w : World) (tape : Tape) (i : Input), w.os = os ∧ (w.forCall tape i).Shaped C.prog ∧ i.vars = [] ∧ Input.okWide C.prog (w.forCall tape i) .any w.heap.size f i ∧
   ((s.pre enc C.prog fn conds apart (w.forCall tape i).memory i.args ∧ X (w.forCall tape i).memory i.args) ∧ sizedMet enc C.prog fn (OpenSpec.ofChange s) apart (w.forCall tape i).memory i.args) ∧ a.holds C.prog (lone (Frame.enter C.prog f i.args .normal) [] (w.forCall tape i)))
  (contract : ∀ (W : World) (base : Nat) (args : Array Value) (ds gs : List (DataW H)) (before : List MemPlace), W.ShapedOpen C.prog →
   (∀ (j : Nat) t v, fn.params[j]? = some t → args[j]? = some v → Value.okWide C.prog W .any base t v) →
   DataW.Whole enc C.prog fn.params.toList s.vars apart W args.toList ds gs before →
   Calls C.prog f args W fun e W' => ∃ v, e = .returned v ∧ s.post enc C.prog fn apart fresh handsOn again W args v W') :
  ReturnsInHanded a C os f .any (fun w args => (s.pre enc C.prog fn conds apart w args ∧ X w args) ∧ sizedMet enc C.prog fn (OpenSpec.ofChange s) apart w args) (s.post enc C.prog fn apart fresh handsOn again) := by
 refine returnsInHanded_of_calls own started noInit witness ?_
 intro w tape i _ hsh _ hok hpre _
 obtain ⟨_, _, _, fn', hfn', _, _, _, _, hval⟩ := hok
 have e : fn' = fn := Option.some.inj (hfn'.symm.trans hfn)
 subst e
 obtain ⟨⟨⟨ds, gs, before, hw, _⟩, _⟩, _⟩ := hpre
 refine (contract (w.forCall tape i) w.heap.size i.args ds gs before hsh hval (DataW.Whole.of_heap (w' := w.forCall tape i) (by rfl) hw)).mono fun e W' ⟨v, he, hp⟩ => ?_
 subst he
 exact ChangeSpec.post_blind hp
end Go.Proofs.YtjkehapbemjnpaaDoor.Open
