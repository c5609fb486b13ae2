/- A version as bytes, walked by hand: each function comes to what its plain Lean function beside it tells; no condition beside those in each theorem. -/
import Derived.Test.YtmciigdfhikdnaaDoorEnd
namespace Go.Proofs.YtmciigdfhikdnaaDoor
open Go.RowKit Go.Proofs.YtmciigdfhikdnaaDoorW.PrintWords Go.Proofs.YtmciigdfhikdnaaDoorW.PrintLast Go.Proofs.YtmciigdfhikdnaaDoorW.PrintMore Go.Proofs.YtmciigdfhikdnaaDoor.Rw
set_option linter.unusedVariables false
set_option linter.unusedSimpArgs false
theorem blk_newAt {W : World} {o : Obj} {g : Nat} (h : g = W.heap.size) : (W.alloc o).heap[g]? = some o := h ▸ blk_new W o
/-- A slice of slices, as it is built out of several. -/
theorem C_list {w : World} {g : Nat} (vs : List (Option Addr × Nat × List Int)) (hb : w.heap[g]? = some (.cells (vs.map fun v => Value.slice v.1 v.2.2.length v.2.1).toArray 22 (0, 0))) (hn : vs.length ≤ 1000)
    (h : ∀ v ∈ vs, v.2.2.length ≤ v.2.1 ∧ Kd.C (Kd.int .u8) w v.1 v.2.2.length v.2.2) : Kd.C (Kd.slice 5 (Kd.int .u8)) w (some ⟨g, 0, none⟩) (vs.map (·.2.2)).length (vs.map (·.2.2)) := by
  refine C_rows hb (by rw [List.length_map]; exact hn) (fun j xs hj => ?_)
  rw [List.getElem?_map] at hj
  obtain ⟨v, hv, rfl⟩ := Option.map_eq_some_iff.1 hj
  have := h v (List.mem_of_getElem? hv)
  exact ⟨v.1, v.2.1, by simp [hv], this.1, this.2⟩
def inB (n least most : Int) : Bool := decide (n ≥ least) && decide (n ≤ most)
theorem within_tell (n least most : Int) : row_within.f n least most = some (inB n least most) := by
  unfold row_within.f inB
  split
  · rename_i h; rw [decide_eq_true h]; rfl
  · rename_i h; rw [decide_eq_false h]; rfl
theorem within_calls (n least most : Int) (b : Bool) (h : inB n least most = b) (w : World) :
    Calls Tryd.prog 29 #[.int .i64 n, .int .i64 least, .int .i64 most] w fun e w' => e = .returned (.bool b) ∧ Drawn0 w w' := row_within.calls n least most b w (by rw [within_tell, h])
theorem short_calls (k : Nat) (A : Option Addr) (c : Nat) (l r : List Int) (w : World) (hC : Kd.C (Kd.int .u8) w A l.length l) (hc : l.length ≤ c) (h : row_short.f k l = some r) :
    Calls Tryd.prog 33 #[.slice A l.length c] w fun e w' => ∃ v, e = .returned v ∧ Kd.R (Kd.int .u8) 5 w' w.heap.size (fun _ => True) v r ∧ Below w.heap.size w w' :=
  (row_short.calls k (fun k_ => k_ < w.heap.size) A c l r w (Kd.V_mk hc (Kd.C_F (Kd.heap_int _) hC)) h).mono fun e w' ⟨v, he, hv, hb⟩ => ⟨v, he, Kd.R_mono hv (fun _ _ => trivial), hb⟩
theorem lock_calls (k : Nat) (g : Int) (A1 : Option Addr) (c1 : Nat) (l1 : List Int) (A2 : Option Addr) (c2 : Nat) (l2 r : List Int) (ok : Bool) (w : World) (h1 : Kd.C (Kd.int .u8) w A1 l1.length l1) (hc1 : l1.length ≤ c1) (h2 : Kd.C (Kd.int .u8) w A2 l2.length l2) (hc2 : l2.length ≤ c2) (h : row_lock.f k g l1 l2 = some (r, ok)) :
    Calls Tryd.prog 34 #[.agg #[.int .i64 g, .slice A1 l1.length c1, .slice A2 l2.length c2]] w fun e w' => ∃ v, e = .returned (.tuple #[v, .bool ok]) ∧ Kd.R (Kd.int .u8) 5 w' w.heap.size (fun _ => True) v r ∧ Below w.heap.size w w' :=
  (row_lock.calls k g (fun k_ => k_ < w.heap.size) A1 c1 l1 (fun k_ => k_ < w.heap.size) A2 c2 l2 r ok w (Kd.V_mk hc1 (Kd.C_F (Kd.heap_int _) h1)) (Kd.V_mk hc2 (Kd.C_F (Kd.heap_int _) h2)) h).mono fun e w' ⟨v, he, hv, hb⟩ => ⟨v, he, Kd.R_mono hv (fun _ _ => trivial), hb⟩
/-- A flag is set, or not. -/
def SetP (w0 w : World) (gf : Nat) (x : Int) (e : Ending) (w' : World) : Prop :=
  e = .returned (.tuple #[]) ∧ w'.heap[gf]? = some (.cells #[.int .u64 x] 58 (0, 0)) ∧ KeepBut w w' gf none ∧ Below w0.heap.size w0 w' ∧ w'.heap.size = w.heap.size
theorem set_calls (gf : Nat) (is : Bool) (bit x : Int) (w0 w : World) (hb : w.heap[gf]? = some (.cells #[.int .u64 x] 58 (0, 0))) (hB : Below w0.heap.size w0 w) (hg : w0.heap.size ≤ gf) :
    Calls Tryd.prog 30 #[.bool is, .int .u64 bit, .pointer (some ⟨gf, 0, none⟩)] w (SetP w0 w gf (if is = true then Go.bits .or .u64 x bit else x)) := by
  have hlt := blk_lt hb
  have k0 : w.cell? ⟨gf, 0, none⟩ = some (.int .u64 x) := (blk_cell hb 0).trans rfl
  have z0 := blk_frozen hb 0
  cases is with
  | true =>
    have F := Lib.hid (show SetP w0 w gf (Go.bits .or .u64 x bit) (.returned (.tuple #[])) (w.setCell ⟨gf, 0, none⟩ (.int .u64 (Go.bits .or .u64 x bit))) from ⟨rfl, blk_put hb 0 _ rfl, (KeepBut.refl _ _ _).set_ _ _, below_set hB hg, by simp⟩)
    go_enter Tryd.func30, Tryd.ntmps30
    go_wp2
    go_end0
    exact F.out
  | false =>
    have F := Lib.hid (show SetP w0 w gf x (.returned (.tuple #[])) w from ⟨rfl, hb, KeepBut.refl _ _ _, hB, rfl⟩)
    go_enter Tryd.func30, Tryd.ntmps30
    go_wp2
    go_end0
    exact F.out
def flagsV (a b : Bool) : Int := (if b = true then Go.bits .or .u64 (if a = true then Go.bits .or .u64 0 1 else 0) 2 else (if a = true then Go.bits .or .u64 0 1 else 0))
/-- A version's bytes, without its number. -/
def verB (k : Nat) (nul mark : Bool) (at_ size until_ : Int) (mt tags : List Int) : Option (List Int) :=
  (octet_Put.f k (flagsV nul mark) 1).bind fun p1 => (octet_Put.f k (IntKind.u64.wrap at_) 2).bind fun p2 => (octet_Put.f k (IntKind.u64.wrap size) 4).bind fun p3 => (octet_Put.f k (IntKind.u64.wrap until_) 6).bind fun p4 =>
    (row_short.f k mt).bind fun p5 => (row_short.f k tags).bind fun p6 => octet_Join.f k [p1, p2, p3, p4, p5, p6]
def verL (k : Nat) (mark : Bool) (gen : Int) (nonce wrap : List Int) (b : List Int) : Option (List Int × Int) :=
  if mark = true then some (b, 0) else (row_lock.f k gen nonce wrap).bind fun q => if q.2 = true then (octet_Join.f k [b, q.1]).bind fun r => some (r, 0) else some ([], 12)
def row_Version.f (k : Nat) (a0_0 : Int) (a0_1 a0_2 : Bool) (a0_3 a0_4 a0_5 : Int) (l0_6 l0_7 : List Int) (a0_8 : Int) (l0_9 l0_10 : List Int) : Option (List Int × Int) :=
  if inB a0_3 0 4095 = true ∧ inB a0_4 0 1048576 = true ∧ inB a0_5 0 1099511627776 = true then
    (if 24 < l0_6.length ∨ 24 < l0_7.length then some ([], 17) else (verB k a0_1 a0_2 a0_3 a0_4 a0_5 l0_6 l0_7).bind (verL k a0_2 a0_8 l0_9 l0_10))
  else some ([], 2)
theorem row_Version.mono : ∀ a0 a1 a2 a3 a4 a5 a6 a7 a8 a9 a10 k, LeO (row_Version.f k a0 a1 a2 a3 a4 a5 a6 a7 a8 a9 a10) (row_Version.f (k + 1) a0 a1 a2 a3 a4 a5 a6 a7 a8 a9 a10) := by
  intro a0 a1 a2 a3 a4 a5 a6 a7 a8 a9 a10 k
  unfold row_Version.f verB verL
  repeat' first
    | (with_reducible exact octet_Join.mono _ _)
    | (with_reducible exact octet_Put.mono _ _ _)
    | (with_reducible exact row_short.mono _ _)
    | (with_reducible exact row_lock.mono _ _ _ _)
    | (with_reducible exact LeO.refl _)
    | (with_reducible exact LeO.none _)
    | (with_reducible refine LeO.ite ?_ ?_)
    | (with_reducible refine LeO.bind ?_ (fun _ => ?_))
section
variable (a0 : Int) (a1 a2 : Bool) (a3 a4 a5 : Int) (A6 : Option Addr) (c6 : Nat) (l6 : List Int) (A7 : Option Addr) (c7 : Nat) (l7 : List Int) (a8 : Int) (A9 : Option Addr) (c9 : Nat) (l9 : List Int) (A10 : Option Addr) (c10 : Nat) (l10 : List Int)
/-- A version's cells. -/
def verC : Array Value := #[.int .i64 a0, .bool a1, .bool a2, .int .i64 a3, .int .i64 a4, .int .i64 a5, .slice A6 l6.length c6, .slice A7 l7.length c7, .int .i64 a8, .slice A9 l9.length c9, .slice A10 l10.length c10]
set_option maxRecDepth 100000 in
theorem ver_range1 (w : World) (h1 : inB a3 0 4095 = false) : Calls Tryd.prog 9 #[.agg (verC a0 a1 a2 a3 a4 a5 A6 c6 l6 A7 c7 l7 a8 A9 c9 l9 A10 c10 l10)] w (AgainP w ([], 2)) := by
  unfold verC
  have hu26 := Tryd.underlying26
  have hB := Lib.hid (below_alloc (Below.refl w.heap.size w) (.cells #[.int .i64 a0, .bool a1, .bool a2, .int .i64 a3, .int .i64 a4, .int .i64 a5, .slice A6 l6.length c6, .slice A7 l7.length c7, .int .i64 a8, .slice A9 l9.length c9, .slice A10 l10.length c10] 26))
  have fin := fun (W : World) (h : Below w.heap.size w W) => Lib.hid (show AgainP w ([], 2) (.returned (.tuple #[.slice none 0 0, .int .i64 2])) W from ⟨_, rfl, Kd.R_nil _ _ _ _ _, h⟩)
  have C1 := Lib.hid (within_calls a3 0 4095 false h1)
  clear h1
  go_enter Tryd.func9, Tryd.ntmps9
  go_wp2_with fail
  refine (C1.out _).mono ?_
  rintro e w' ⟨rfl, ⟨n1, rfl⟩⟩
  go_wp2_with fail
  go_ret2
  exact (fin _ (pw_below_drewN hB.out _)).out
set_option maxRecDepth 100000 in
theorem ver_range2 (w : World) (h1 : inB a3 0 4095 = true) (h2 : inB a4 0 1048576 = false) : Calls Tryd.prog 9 #[.agg (verC a0 a1 a2 a3 a4 a5 A6 c6 l6 A7 c7 l7 a8 A9 c9 l9 A10 c10 l10)] w (AgainP w ([], 2)) := by
  unfold verC
  have hu26 := Tryd.underlying26
  have hB := Lib.hid (below_alloc (Below.refl w.heap.size w) (.cells #[.int .i64 a0, .bool a1, .bool a2, .int .i64 a3, .int .i64 a4, .int .i64 a5, .slice A6 l6.length c6, .slice A7 l7.length c7, .int .i64 a8, .slice A9 l9.length c9, .slice A10 l10.length c10] 26))
  have fin := fun (W : World) (h : Below w.heap.size w W) => Lib.hid (show AgainP w ([], 2) (.returned (.tuple #[.slice none 0 0, .int .i64 2])) W from ⟨_, rfl, Kd.R_nil _ _ _ _ _, h⟩)
  have C1 := Lib.hid (within_calls a3 0 4095 true h1)
  have C2 := Lib.hid (within_calls a4 0 1048576 false h2)
  clear h1 h2
  go_enter Tryd.func9, Tryd.ntmps9
  go_wp2_with fail
  refine (C1.out _).mono ?_
  rintro e w' ⟨rfl, ⟨n1, rfl⟩⟩
  go_wp2_with fail
  refine (C2.out _).mono ?_
  rintro e w' ⟨rfl, ⟨n2, rfl⟩⟩
  go_wp2_with fail
  go_ret2
  exact (fin _ (pw_below_drewN hB.out _)).out
set_option maxRecDepth 100000 in
theorem ver_range3 (w : World) (h1 : inB a3 0 4095 = true) (h2 : inB a4 0 1048576 = true) (h3 : inB a5 0 1099511627776 = false) : Calls Tryd.prog 9 #[.agg (verC a0 a1 a2 a3 a4 a5 A6 c6 l6 A7 c7 l7 a8 A9 c9 l9 A10 c10 l10)] w (AgainP w ([], 2)) := by
  unfold verC
  have hu26 := Tryd.underlying26
  have hB := Lib.hid (below_alloc (Below.refl w.heap.size w) (.cells #[.int .i64 a0, .bool a1, .bool a2, .int .i64 a3, .int .i64 a4, .int .i64 a5, .slice A6 l6.length c6, .slice A7 l7.length c7, .int .i64 a8, .slice A9 l9.length c9, .slice A10 l10.length c10] 26))
  have fin := fun (W : World) (h : Below w.heap.size w W) => Lib.hid (show AgainP w ([], 2) (.returned (.tuple #[.slice none 0 0, .int .i64 2])) W from ⟨_, rfl, Kd.R_nil _ _ _ _ _, h⟩)
  have C1 := Lib.hid (within_calls a3 0 4095 true h1)
  have C2 := Lib.hid (within_calls a4 0 1048576 true h2)
  have C3 := Lib.hid (within_calls a5 0 1099511627776 false h3)
  clear h1 h2 h3
  go_enter Tryd.func9, Tryd.ntmps9
  go_wp2_with fail
  refine (C1.out _).mono ?_
  rintro e w' ⟨rfl, ⟨n1, rfl⟩⟩
  go_wp2_with fail
  refine (C2.out _).mono ?_
  rintro e w' ⟨rfl, ⟨n2, rfl⟩⟩
  go_wp2_with fail
  refine (C3.out _).mono ?_
  rintro e w' ⟨rfl, ⟨n3, rfl⟩⟩
  go_wp2_with fail
  go_ret2
  exact (fin _ (pw_below_drewN hB.out _)).out
set_option maxRecDepth 100000 in
theorem ver_size1 (w : World) (h1 : inB a3 0 4095 = true) (h2 : inB a4 0 1048576 = true) (h3 : inB a5 0 1099511627776 = true) (h4 : 24 < l6.length) : Calls Tryd.prog 9 #[.agg (verC a0 a1 a2 a3 a4 a5 A6 c6 l6 A7 c7 l7 a8 A9 c9 l9 A10 c10 l10)] w (AgainP w ([], 17)) := by
  unfold verC
  have hu26 := Tryd.underlying26
  have hB := Lib.hid (below_alloc (Below.refl w.heap.size w) (.cells #[.int .i64 a0, .bool a1, .bool a2, .int .i64 a3, .int .i64 a4, .int .i64 a5, .slice A6 l6.length c6, .slice A7 l7.length c7, .int .i64 a8, .slice A9 l9.length c9, .slice A10 l10.length c10] 26))
  have fin := fun (W : World) (h : Below w.heap.size w W) => Lib.hid (show AgainP w ([], 17) (.returned (.tuple #[.slice none 0 0, .int .i64 17])) W from ⟨_, rfl, Kd.R_nil _ _ _ _ _, h⟩)
  have C1 := Lib.hid (within_calls a3 0 4095 true h1)
  have C2 := Lib.hid (within_calls a4 0 1048576 true h2)
  have C3 := Lib.hid (within_calls a5 0 1099511627776 true h3)
  clear h1 h2 h3
  have t1 : decide (24 < l6.length) = true := decide_eq_true h4
  go_enter Tryd.func9, Tryd.ntmps9
  go_wp2_with fail
  refine (C1.out _).mono ?_
  rintro e w' ⟨rfl, ⟨n1, rfl⟩⟩
  go_wp2_with fail
  refine (C2.out _).mono ?_
  rintro e w' ⟨rfl, ⟨n2, rfl⟩⟩
  go_wp2_with fail
  refine (C3.out _).mono ?_
  rintro e w' ⟨rfl, ⟨n3, rfl⟩⟩
  go_wp2_with fail
  go_ret2
  exact (fin _ (pw_below_drewN hB.out _)).out
set_option maxRecDepth 100000 in
theorem ver_size2 (w : World) (h1 : inB a3 0 4095 = true) (h2 : inB a4 0 1048576 = true) (h3 : inB a5 0 1099511627776 = true) (h4 : ¬ 24 < l6.length) (h5 : 24 < l7.length) : Calls Tryd.prog 9 #[.agg (verC a0 a1 a2 a3 a4 a5 A6 c6 l6 A7 c7 l7 a8 A9 c9 l9 A10 c10 l10)] w (AgainP w ([], 17)) := by
  unfold verC
  have hu26 := Tryd.underlying26
  have hB := Lib.hid (below_alloc (Below.refl w.heap.size w) (.cells #[.int .i64 a0, .bool a1, .bool a2, .int .i64 a3, .int .i64 a4, .int .i64 a5, .slice A6 l6.length c6, .slice A7 l7.length c7, .int .i64 a8, .slice A9 l9.length c9, .slice A10 l10.length c10] 26))
  have fin := fun (W : World) (h : Below w.heap.size w W) => Lib.hid (show AgainP w ([], 17) (.returned (.tuple #[.slice none 0 0, .int .i64 17])) W from ⟨_, rfl, Kd.R_nil _ _ _ _ _, h⟩)
  have C1 := Lib.hid (within_calls a3 0 4095 true h1)
  have C2 := Lib.hid (within_calls a4 0 1048576 true h2)
  have C3 := Lib.hid (within_calls a5 0 1099511627776 true h3)
  clear h1 h2 h3
  have t1 : decide (24 < l6.length) = false := decide_eq_false h4
  have t3 : decide ((24 : Int) < (l6.length : Int)) = false := decide_eq_false (by omega)
  have t2 : decide (24 < l7.length) = true := decide_eq_true h5
  go_enter Tryd.func9, Tryd.ntmps9
  go_wp2_with fail
  refine (C1.out _).mono ?_
  rintro e w' ⟨rfl, ⟨n1, rfl⟩⟩
  go_wp2_with fail
  refine (C2.out _).mono ?_
  rintro e w' ⟨rfl, ⟨n2, rfl⟩⟩
  go_wp2_with fail
  refine (C3.out _).mono ?_
  rintro e w' ⟨rfl, ⟨n3, rfl⟩⟩
  go_wp2_with fail
  go_ret2
  exact (fin _ (pw_below_drewN hB.out _)).out
set_option maxRecDepth 100000 in
set_option maxHeartbeats 4000000 in
theorem ver_good (k : Nat) (r : List Int × Int) (w : World) (h1 : inB a3 0 4095 = true) (h2 : inB a4 0 1048576 = true) (h3 : inB a5 0 1099511627776 = true) (h4 : ¬ 24 < l6.length) (h5 : ¬ 24 < l7.length)
    (g6 : Kd.C (Kd.int .u8) w A6 l6.length l6) (hc6 : l6.length ≤ c6) (g7 : Kd.C (Kd.int .u8) w A7 l7.length l7) (hC7 : l7.length ≤ c7) (g9 : Kd.C (Kd.int .u8) w A9 l9.length l9) (hc9 : l9.length ≤ c9) (g10 : Kd.C (Kd.int .u8) w A10 l10.length l10) (hc10 : l10.length ≤ c10)
    (h : (verB k a1 a2 a3 a4 a5 l6 l7).bind (verL k a2 a8 l9 l10) = some r) :
    Calls Tryd.prog 9 #[.agg (verC a0 a1 a2 a3 a4 a5 A6 c6 l6 A7 c7 l7 a8 A9 c9 l9 A10 c10 l10)] w (AgainP w r) := by
  unfold verC
  have hu26 := Tryd.underlying26
  have t1 : decide (24 < l6.length) = false := decide_eq_false h4
  have t3 : decide ((24 : Int) < (l6.length : Int)) = false := decide_eq_false (by omega)
  have t2 : decide (24 < l7.length) = false := decide_eq_false h5
  have t4 : decide ((24 : Int) < (l7.length : Int)) = false := decide_eq_false (by omega)
  have C1 := Lib.hid (within_calls a3 0 4095 true h1)
  have C2 := Lib.hid (within_calls a4 0 1048576 true h2)
  have C3 := Lib.hid (within_calls a5 0 1099511627776 true h3)
  have H := Lib.hid h
  clear h h1 h2 h3 h4 h5
  have hmf : ∀ (fn : Fn) (first cap : Array Value) (w : World), (Instr.makeFunc fn first cap).run Tryd.prog w = .ok (.func fn first cap) w := fun _ _ _ _ => rfl
  go_enter Tryd.func9, Tryd.ntmps9
  go_wp2_with fail
  refine (C1.out _).mono ?_
  rintro e w' ⟨rfl, ⟨n1, rfl⟩⟩
  go_wp2_with fail
  refine (C2.out _).mono ?_
  rintro e w' ⟨rfl, ⟨n2, rfl⟩⟩
  go_wp2_with fail
  refine (C3.out _).mono ?_
  rintro e w' ⟨rfl, ⟨n3, rfl⟩⟩
  go_wp2_with fail
  refine (set_calls (w.heap.size + 1) a1 1 0 w _ (blk_newAt (by simp)) (below_alloc (pw_below_drewN (below_alloc (Below.refl _ _) _) _) _) (by omega)).mono ?_
  rintro e W4 ⟨rfl, hf4, hk4, hB4, hz4⟩
  have hc4 : W4.heap[w.heap.size]? = some (.cells #[.int .i64 a0, .bool a1, .bool a2, .int .i64 a3, .int .i64 a4, .int .i64 a5, .slice A6 l6.length c6, .slice A7 l7.length c7, .int .i64 a8, .slice A9 l9.length c9, .slice A10 l10.length c10] 26 (0, 0)) := hk4.blk (blk_alloc (blk_drewN (blk_new w _) _) _) (by omega) (by simp)
  have hlt4 := blk_lt hc4
  have hlf4 := blk_lt hf4
  have x2 : W4.cell? ⟨w.heap.size, 2, none⟩ = some (.bool a2) := (blk_cell hc4 2).trans rfl
  clear hz4 hk4
  go_wp2_with fail
  refine (set_calls (w.heap.size + 1) a2 2 _ w W4 hf4 hB4 (by omega)).mono ?_
  rintro e W5 ⟨rfl, hf5, hk5, hB5, hz5⟩
  have hf5 : W5.heap[w.heap.size + 1]? = some (.cells #[.int .u64 (flagsV a1 a2)] 58 (0, 0)) := hf5
  have hc5 := hk5.blk hc4 (by omega) (by simp)
  clear hlt4 hlf4 x2 hf4 hB4 hc4 hz5 hk5
  have hlt := blk_lt hc5
  have hlf := blk_lt hf5
  have x1 : W5.cell? ⟨w.heap.size + 1, 0, none⟩ = some (.int .u64 (flagsV a1 a2)) := (blk_cell hf5 0).trans rfl
  have x3 : W5.cell? ⟨w.heap.size, 3, none⟩ = some (.int .i64 a3) := (blk_cell hc5 3).trans rfl
  have x4 : W5.cell? ⟨w.heap.size, 4, none⟩ = some (.int .i64 a4) := (blk_cell hc5 4).trans rfl
  have x5 : W5.cell? ⟨w.heap.size, 5, none⟩ = some (.int .i64 a5) := (blk_cell hc5 5).trans rfl
  have x6 : W5.cell? ⟨w.heap.size, 6, none⟩ = some (.slice A6 l6.length c6) := (blk_cell hc5 6).trans rfl
  have x7 : W5.cell? ⟨w.heap.size, 7, none⟩ = some (.slice A7 l7.length c7) := (blk_cell hc5 7).trans rfl
  obtain ⟨b, HB, HL⟩ := Option.bind_eq_some_iff.1 H.out
  unfold verB at HB
  obtain ⟨p1, P1, HB⟩ := Option.bind_eq_some_iff.1 HB
  obtain ⟨p2, P2, HB⟩ := Option.bind_eq_some_iff.1 HB
  obtain ⟨p3, P3, HB⟩ := Option.bind_eq_some_iff.1 HB
  obtain ⟨p4, P4, HB⟩ := Option.bind_eq_some_iff.1 HB
  obtain ⟨p5, P5, HB⟩ := Option.bind_eq_some_iff.1 HB
  obtain ⟨p6, P6, HB⟩ := Option.bind_eq_some_iff.1 HB
  have P1 := Lib.hid P1
  have P2 := Lib.hid P2
  have P3 := Lib.hid P3
  have P4 := Lib.hid P4
  have P5 := Lib.hid P5
  have P6 := Lib.hid P6
  have HB := Lib.hid HB
  have HL := Lib.hid HL
  clear H C1 C2 C3
  go_wp2_with fail
  go_region_held3 (fun w' => w'.cell? ⟨w.heap.size + 1, 0, none⟩ = some (.int .u64 (flagsV a1 a2)) ∧ w'.cell? ⟨w.heap.size, 3, none⟩ = some (.int .i64 a3) ∧ w'.cell? ⟨w.heap.size, 4, none⟩ = some (.int .i64 a4) ∧ w'.cell? ⟨w.heap.size, 5, none⟩ = some (.int .i64 a5) ∧ w'.cell? ⟨w.heap.size, 6, none⟩ = some (.slice A6 l6.length c6) ∧ w'.cell? ⟨w.heap.size, 7, none⟩ = some (.slice A7 l7.length c7))
    (first | (exact ⟨x1, x3, x4, x5, x6, x7⟩) | (exact K1.out) | (exact K2.out) | (exact K3.out) | (exact K4.out) | (exact K5.out) | (exact K6.out) | (exact ⟨pw_cell_below (below_alloc (Below.refl _ _) _) K6.out.1, pw_cell_below (below_alloc (Below.refl _ _) _) K6.out.2.1, pw_cell_below (below_alloc (Below.refl _ _) _) K6.out.2.2.1, pw_cell_below (below_alloc (Below.refl _ _) _) K6.out.2.2.2.1, pw_cell_below (below_alloc (Below.refl _ _) _) K6.out.2.2.2.2.1, pw_cell_below (below_alloc (Below.refl _ _) _) K6.out.2.2.2.2.2⟩) | (exact K7.out))
    ((first
      | (go_at_call 32; (with_reducible refine (octet_Put.calls k _ 1 p1 _ P1.out).mono ?_); rintro e u1 ⟨v1, rfl, V1, D1⟩; have K1 := Lib.hid (show u1.cell? ⟨w.heap.size + 1, 0, none⟩ = some (.int .u64 (flagsV a1 a2)) ∧ u1.cell? ⟨w.heap.size, 3, none⟩ = some (.int .i64 a3) ∧ u1.cell? ⟨w.heap.size, 4, none⟩ = some (.int .i64 a4) ∧ u1.cell? ⟨w.heap.size, 5, none⟩ = some (.int .i64 a5) ∧ u1.cell? ⟨w.heap.size, 6, none⟩ = some (.slice A6 l6.length c6) ∧ u1.cell? ⟨w.heap.size, 7, none⟩ = some (.slice A7 l7.length c7) from ⟨pw_cell_below D1 x1, pw_cell_below D1 x3, pw_cell_below D1 x4, pw_cell_below D1 x5, pw_cell_below D1 x6, pw_cell_below D1 x7⟩); have B1 := below_step (below_drew1 hB5) D1; obtain ⟨E1, d1, rfl, m1, Q1⟩ := Kd.R_reads V1)
      | (go_at_call 32; (with_reducible refine (octet_Put.calls k _ 2 p2 _ P2.out).mono ?_); rintro e u2 ⟨v2, rfl, V2, D2⟩; have K2 := Lib.hid (show u2.cell? ⟨w.heap.size + 1, 0, none⟩ = some (.int .u64 (flagsV a1 a2)) ∧ u2.cell? ⟨w.heap.size, 3, none⟩ = some (.int .i64 a3) ∧ u2.cell? ⟨w.heap.size, 4, none⟩ = some (.int .i64 a4) ∧ u2.cell? ⟨w.heap.size, 5, none⟩ = some (.int .i64 a5) ∧ u2.cell? ⟨w.heap.size, 6, none⟩ = some (.slice A6 l6.length c6) ∧ u2.cell? ⟨w.heap.size, 7, none⟩ = some (.slice A7 l7.length c7) from ⟨pw_cell_below D2 K1.out.1, pw_cell_below D2 K1.out.2.1, pw_cell_below D2 K1.out.2.2.1, pw_cell_below D2 K1.out.2.2.2.1, pw_cell_below D2 K1.out.2.2.2.2.1, pw_cell_below D2 K1.out.2.2.2.2.2⟩); have B2 := below_step B1 D2; obtain ⟨E2, d2, rfl, m2, Q2⟩ := Kd.R_reads V2)
      | (go_at_call 32; (with_reducible refine (octet_Put.calls k _ 4 p3 _ P3.out).mono ?_); rintro e u3 ⟨v3, rfl, V3, D3⟩; have K3 := Lib.hid (show u3.cell? ⟨w.heap.size + 1, 0, none⟩ = some (.int .u64 (flagsV a1 a2)) ∧ u3.cell? ⟨w.heap.size, 3, none⟩ = some (.int .i64 a3) ∧ u3.cell? ⟨w.heap.size, 4, none⟩ = some (.int .i64 a4) ∧ u3.cell? ⟨w.heap.size, 5, none⟩ = some (.int .i64 a5) ∧ u3.cell? ⟨w.heap.size, 6, none⟩ = some (.slice A6 l6.length c6) ∧ u3.cell? ⟨w.heap.size, 7, none⟩ = some (.slice A7 l7.length c7) from ⟨pw_cell_below D3 K2.out.1, pw_cell_below D3 K2.out.2.1, pw_cell_below D3 K2.out.2.2.1, pw_cell_below D3 K2.out.2.2.2.1, pw_cell_below D3 K2.out.2.2.2.2.1, pw_cell_below D3 K2.out.2.2.2.2.2⟩); have B3 := below_step B2 D3; obtain ⟨E3, d3, rfl, m3, Q3⟩ := Kd.R_reads V3)
      | (go_at_call 32; (with_reducible refine (octet_Put.calls k _ 6 p4 _ P4.out).mono ?_); rintro e u4 ⟨v4, rfl, V4, D4⟩; have K4 := Lib.hid (show u4.cell? ⟨w.heap.size + 1, 0, none⟩ = some (.int .u64 (flagsV a1 a2)) ∧ u4.cell? ⟨w.heap.size, 3, none⟩ = some (.int .i64 a3) ∧ u4.cell? ⟨w.heap.size, 4, none⟩ = some (.int .i64 a4) ∧ u4.cell? ⟨w.heap.size, 5, none⟩ = some (.int .i64 a5) ∧ u4.cell? ⟨w.heap.size, 6, none⟩ = some (.slice A6 l6.length c6) ∧ u4.cell? ⟨w.heap.size, 7, none⟩ = some (.slice A7 l7.length c7) from ⟨pw_cell_below D4 K3.out.1, pw_cell_below D4 K3.out.2.1, pw_cell_below D4 K3.out.2.2.1, pw_cell_below D4 K3.out.2.2.2.1, pw_cell_below D4 K3.out.2.2.2.2.1, pw_cell_below D4 K3.out.2.2.2.2.2⟩); have B4 := below_step B3 D4; obtain ⟨E4, d4, rfl, m4, Q4⟩ := Kd.R_reads V4)
      | (go_at_call 33; (with_reducible refine (short_calls k A6 c6 l6 p5 _ (Kd.C_below g6 B4) hc6 P5.out).mono ?_); rintro e u5 ⟨v5, rfl, V5, D5⟩; have K5 := Lib.hid (show u5.cell? ⟨w.heap.size + 1, 0, none⟩ = some (.int .u64 (flagsV a1 a2)) ∧ u5.cell? ⟨w.heap.size, 3, none⟩ = some (.int .i64 a3) ∧ u5.cell? ⟨w.heap.size, 4, none⟩ = some (.int .i64 a4) ∧ u5.cell? ⟨w.heap.size, 5, none⟩ = some (.int .i64 a5) ∧ u5.cell? ⟨w.heap.size, 6, none⟩ = some (.slice A6 l6.length c6) ∧ u5.cell? ⟨w.heap.size, 7, none⟩ = some (.slice A7 l7.length c7) from ⟨pw_cell_below D5 K4.out.1, pw_cell_below D5 K4.out.2.1, pw_cell_below D5 K4.out.2.2.1, pw_cell_below D5 K4.out.2.2.2.1, pw_cell_below D5 K4.out.2.2.2.2.1, pw_cell_below D5 K4.out.2.2.2.2.2⟩); have B5 := below_step B4 D5; obtain ⟨E5, d5, rfl, m5, Q5⟩ := Kd.R_reads V5)
      | (go_at_call 33; (with_reducible refine (short_calls k A7 c7 l7 p6 _ (Kd.C_below g7 B5) hC7 P6.out).mono ?_); rintro e u6 ⟨v6, rfl, V6, D6⟩; have K6 := Lib.hid (show u6.cell? ⟨w.heap.size + 1, 0, none⟩ = some (.int .u64 (flagsV a1 a2)) ∧ u6.cell? ⟨w.heap.size, 3, none⟩ = some (.int .i64 a3) ∧ u6.cell? ⟨w.heap.size, 4, none⟩ = some (.int .i64 a4) ∧ u6.cell? ⟨w.heap.size, 5, none⟩ = some (.int .i64 a5) ∧ u6.cell? ⟨w.heap.size, 6, none⟩ = some (.slice A6 l6.length c6) ∧ u6.cell? ⟨w.heap.size, 7, none⟩ = some (.slice A7 l7.length c7) from ⟨pw_cell_below D6 K5.out.1, pw_cell_below D6 K5.out.2.1, pw_cell_below D6 K5.out.2.2.1, pw_cell_below D6 K5.out.2.2.2.1, pw_cell_below D6 K5.out.2.2.2.2.1, pw_cell_below D6 K5.out.2.2.2.2.2⟩); have B6 := below_step B5 D6; obtain ⟨E6, d6, rfl, m6, Q6⟩ := Kd.R_reads V6)
      | (go_at_call 31; have J : Kd.C (Kd.slice 5 (Kd.int .u8)) (u6.alloc (.cells #[.slice E1 p1.length d1, .slice E2 p2.length d2, .slice E3 p3.length d3, .slice E4 p4.length d4, .slice E5 p5.length d5, .slice E6 p6.length d6] 22)) (some ⟨u6.heap.size, 0, none⟩) [p1, p2, p3, p4, p5, p6].length [p1, p2, p3, p4, p5, p6] := (C_list [(E1, d1, p1), (E2, d2, p2), (E3, d3, p3), (E4, d4, p4), (E5, d5, p5), (E6, d6, p6)] (blk_new u6 _) (by simp) (by simp only [List.mem_cons, List.not_mem_nil, or_false, forall_eq_or_imp, forall_eq]; exact ⟨⟨m1, Kd.C_alloc (Kd.C_below (Kd.C_below (Kd.C_below (Kd.C_below (Kd.C_below Q1 D2) D3) D4) D5) D6) _⟩, ⟨m2, Kd.C_alloc (Kd.C_below (Kd.C_below (Kd.C_below (Kd.C_below Q2 D3) D4) D5) D6) _⟩, ⟨m3, Kd.C_alloc (Kd.C_below (Kd.C_below (Kd.C_below Q3 D4) D5) D6) _⟩, ⟨m4, Kd.C_alloc (Kd.C_below (Kd.C_below Q4 D5) D6) _⟩, ⟨m5, Kd.C_alloc (Kd.C_below Q5 D6) _⟩, ⟨m6, Kd.C_alloc Q6 _⟩⟩)); have JJ := octet_Join.calls k _ 6 [p1, p2, p3, p4, p5, p6] b _ J (Nat.le_refl _) HB.out; rw [show [p1, p2, p3, p4, p5, p6].length = 6 from rfl] at JJ; (with_reducible refine JJ.mono ?_); rintro e u7 ⟨v7, rfl, V7, D7⟩; have K7 := Lib.hid (show u7.cell? ⟨w.heap.size + 1, 0, none⟩ = some (.int .u64 (flagsV a1 a2)) ∧ u7.cell? ⟨w.heap.size, 3, none⟩ = some (.int .i64 a3) ∧ u7.cell? ⟨w.heap.size, 4, none⟩ = some (.int .i64 a4) ∧ u7.cell? ⟨w.heap.size, 5, none⟩ = some (.int .i64 a5) ∧ u7.cell? ⟨w.heap.size, 6, none⟩ = some (.slice A6 l6.length c6) ∧ u7.cell? ⟨w.heap.size, 7, none⟩ = some (.slice A7 l7.length c7) from ⟨pw_cell_below D7 (pw_cell_below (below_alloc (Below.refl _ _) _) K6.out.1), pw_cell_below D7 (pw_cell_below (below_alloc (Below.refl _ _) _) K6.out.2.1), pw_cell_below D7 (pw_cell_below (below_alloc (Below.refl _ _) _) K6.out.2.2.1), pw_cell_below D7 (pw_cell_below (below_alloc (Below.refl _ _) _) K6.out.2.2.2.1), pw_cell_below D7 (pw_cell_below (below_alloc (Below.refl _ _) _) K6.out.2.2.2.2.1), pw_cell_below D7 (pw_cell_below (below_alloc (Below.refl _ _) _) K6.out.2.2.2.2.2)⟩))))
  have hc7 := blk_below (blk_alloc (blk_below (blk_below (blk_below (blk_below (blk_below (blk_below (blk_drew hc5) D1) D2) D3) D4) D5) D6) _) D7
  have B7 := below_step (below_alloc B6 _) D7
  have hz := B6.size
  have V8 := Kd.R_lower (base' := w.heap.size) V7 (by simp; omega)
  clear hu26
  clear K1 K2 K3 K4 K5 K6 K7 D1 D2 D3 D4 D5 D6 D7 B1 B2 B3 B4 B5 B6 Q1 Q2 Q3 Q4 Q5 Q6 m1 m2 m3 m4 m5 m6 V1 V2 V3 V4 V5 V6 V7 hc5 hf5 x1 x3 x4 x5 x6 x7 P1 P2 P3 P4 P5 P6 HB g6 hc6 g7 hz hlt hlf t1 t2 t3 t4 hmf
  have hlt := blk_lt hc7
  have x2 : u7.cell? ⟨w.heap.size, 2, none⟩ = some (.bool a2) := (blk_cell hc7 2).trans rfl
  obtain ⟨E7, d7, rfl, m7, Q7⟩ := Kd.R_reads V8
  have HLo := HL.out
  unfold verL at HLo
  cases a2 with
  | true =>
    simp only [if_true, Option.some.injEq] at HLo
    subst HLo
    have F := Lib.hid (show AgainP w (b, 0) (.returned (.tuple #[.slice E7 b.length d7, .int .i64 0])) u7 from ⟨_, rfl, V8, B7⟩)
    clear V8 B7 Q7 hc7
    go_wp2_with fail
    go_ret2
    exact F.out
  | false =>
    simp only [Bool.false_eq_true, if_false] at HLo
    obtain ⟨q, hq, HLo⟩ := Option.bind_eq_some_iff.1 HLo
    obtain ⟨kk, ok⟩ := q
    simp only at HLo
    have LK := Lib.hid (lock_calls k a8 A9 c9 l9 A10 c10 l10 kk ok u7 (Kd.C_below g9 B7) hc9 (Kd.C_below g10 B7) hc10 hq)
    have x8 : u7.cell? ⟨w.heap.size, 8, none⟩ = some (.int .i64 a8) := (blk_cell hc7 8).trans rfl
    have x9 : u7.cell? ⟨w.heap.size, 9, none⟩ = some (.slice A9 l9.length c9) := (blk_cell hc7 9).trans rfl
    have x10 : u7.cell? ⟨w.heap.size, 10, none⟩ = some (.slice A10 l10.length c10) := (blk_cell hc7 10).trans rfl
    have hu24 := Tryd.underlying24
    clear g9 g10 hq HL hc7 V8
    cases ok with
    | false =>
      simp only [Bool.false_eq_true, if_false, Option.some.injEq] at HLo
      subst HLo
      go_wp2_with fail
      refine LK.out.mono ?_
      rintro e u8 ⟨v8, rfl, V9, D8⟩
      have F := Lib.hid (show AgainP w ([], 12) (.returned (.tuple #[.slice none 0 0, .int .i64 12])) u8 from ⟨_, rfl, Kd.R_nil _ _ _ _ _, below_step B7 D8⟩)
      clear LK V9 D8 B7 Q7
      go_wp2_with fail
      go_ret2
      exact F.out
    | true =>
      simp only [if_true] at HLo
      obtain ⟨o, ho, HLo⟩ := Option.bind_eq_some_iff.1 HLo
      obtain rfl := Option.some.inj HLo
      have ho := Lib.hid ho
      go_wp2_with fail
      refine LK.out.mono ?_
      rintro e u8 ⟨v8, rfl, V9, D8⟩
      obtain ⟨E8, d8, rfl, m8, Q8⟩ := Kd.R_reads V9
      have B8 := below_step B7 D8
      have J : Kd.C (Kd.slice 5 (Kd.int .u8)) (u8.alloc (.cells #[.slice E7 b.length d7, .slice E8 kk.length d8] 22)) (some ⟨u8.heap.size, 0, none⟩) [b, kk].length [b, kk] := C_list [(E7, d7, b), (E8, d8, kk)] (blk_new u8 _) (by simp) (by simp only [List.mem_cons, List.not_mem_nil, or_false, forall_eq_or_imp, forall_eq]; exact ⟨⟨m7, Kd.C_alloc (Kd.C_below Q7 D8) _⟩, ⟨m8, Kd.C_alloc Q8 _⟩⟩)
      have JJ := octet_Join.calls k _ 2 [b, kk] o _ J (Nat.le_refl _) ho.out
      rw [show [b, kk].length = 2 from rfl] at JJ
      have JJ := Lib.hid JJ
      have hz8 := B8.size
      clear LK V9 D8 B7 Q7 Q8 J ho
      go_wp2_with fail
      refine JJ.out.mono ?_
      rintro e u9 ⟨v9, rfl, V10, D9⟩
      have F := Lib.hid (show AgainP w (o, 0) (.returned (.tuple #[v9, .int .i64 0])) u9 from ⟨_, rfl, Kd.R_lower V10 (by simp; omega), below_step (below_alloc B8 _) D9⟩)
      clear JJ V10 D9 B8 hz8
      go_wp2_with fail
      go_ret2
      exact F.out
end
theorem row_Version.calls (k : Nat) (a0_0 : Int) (a0_1 : Bool) (a0_2 : Bool) (a0_3 : Int) (a0_4 : Int) (a0_5 : Int) (A0_6 : Option Addr) (c0_6 : Nat) (l0_6 : List Int) (A0_7 : Option Addr) (c0_7 : Nat) (l0_7 : List Int) (a0_8 : Int) (A0_9 : Option Addr) (c0_9 : Nat) (l0_9 : List Int) (A0_10 : Option Addr) (c0_10 : Nat) (l0_10 : List Int) (r1 : List Int) (r2 : Int) (w : World) (hr0_6 : Kd.C (Kd.int .u8) w A0_6 l0_6.length l0_6) (hc0_6 : l0_6.length ≤ c0_6) (hr0_7 : Kd.C (Kd.int .u8) w A0_7 l0_7.length l0_7) (hc0_7 : l0_7.length ≤ c0_7) (hr0_9 : Kd.C (Kd.int .u8) w A0_9 l0_9.length l0_9) (hc0_9 : l0_9.length ≤ c0_9) (hr0_10 : Kd.C (Kd.int .u8) w A0_10 l0_10.length l0_10) (hc0_10 : l0_10.length ≤ c0_10) (h : row_Version.f k a0_0 a0_1 a0_2 a0_3 a0_4 a0_5 l0_6 l0_7 a0_8 l0_9 l0_10 = some (r1, r2)) :
    Calls Tryd.prog 9 #[.agg #[.int .i64 a0_0, .bool a0_1, .bool a0_2, .int .i64 a0_3, .int .i64 a0_4, .int .i64 a0_5, .slice A0_6 l0_6.length c0_6, .slice A0_7 l0_7.length c0_7, .int .i64 a0_8, .slice A0_9 l0_9.length c0_9, .slice A0_10 l0_10.length c0_10]] w fun e w' => ∃ v0_ : Value, e = .returned (.tuple #[v0_, .int .i64 r2]) ∧ Kd.R (Kd.int .u8) 5 w' w.heap.size (fun _ => True) v0_ r1 ∧ Below w.heap.size w w' := by
  unfold row_Version.f at h
  show Calls Tryd.prog 9 #[.agg (verC a0_0 a0_1 a0_2 a0_3 a0_4 a0_5 A0_6 c0_6 l0_6 A0_7 c0_7 l0_7 a0_8 A0_9 c0_9 l0_9 A0_10 c0_10 l0_10)] w (AgainP w (r1, r2))
  cases h1 : inB a0_3 0 4095 with
  | false =>
    rw [if_neg (by simp [h1])] at h
    obtain ⟨rfl, rfl⟩ := (by simpa using h : _ ∧ _)
    exact ver_range1 _ _ _ _ _ _ _ _ _ _ _ _ _ _ _ _ _ _ _ w h1
  | true =>
    cases h2 : inB a0_4 0 1048576 with
    | false =>
      rw [if_neg (by simp [h2])] at h
      obtain ⟨rfl, rfl⟩ := (by simpa using h : _ ∧ _)
      exact ver_range2 _ _ _ _ _ _ _ _ _ _ _ _ _ _ _ _ _ _ _ w h1 h2
    | true =>
      cases h3 : inB a0_5 0 1099511627776 with
      | false =>
        rw [if_neg (by simp [h3])] at h
        obtain ⟨rfl, rfl⟩ := (by simpa using h : _ ∧ _)
        exact ver_range3 _ _ _ _ _ _ _ _ _ _ _ _ _ _ _ _ _ _ _ w h1 h2 h3
      | true =>
        rw [if_pos ⟨h1, h2, h3⟩] at h
        by_cases h4 : 24 < l0_6.length
        · rw [if_pos (.inl h4)] at h
          obtain ⟨rfl, rfl⟩ := (by simpa using h : _ ∧ _)
          exact ver_size1 _ _ _ _ _ _ _ _ _ _ _ _ _ _ _ _ _ _ _ w h1 h2 h3 h4
        · by_cases h5 : 24 < l0_7.length
          · rw [if_pos (.inr h5)] at h
            obtain ⟨rfl, rfl⟩ := (by simpa using h : _ ∧ _)
            exact ver_size2 _ _ _ _ _ _ _ _ _ _ _ _ _ _ _ _ _ _ _ w h1 h2 h3 h4 h5
          · rw [if_neg (by omega)] at h
            exact ver_good _ _ _ _ _ _ _ _ _ _ _ _ _ _ _ _ _ _ _ k (r1, r2) w h1 h2 h3 h4 h5 hr0_6 hc0_6 hr0_7 hc0_7 hr0_9 hc0_9 hr0_10 hc0_10 h
end Go.Proofs.YtmciigdfhikdnaaDoor
