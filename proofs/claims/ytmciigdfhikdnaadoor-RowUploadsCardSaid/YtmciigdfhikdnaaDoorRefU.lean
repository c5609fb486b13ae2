/- The reference's Upload, walked by hand: it comes to what its plain Lean function beside it tells; no condition beside those in each theorem. -/
import Derived.Test.YtmciigdfhikdnaaDoorRef2
import Derived.Test.YtmciigdfhikdnaaDoorRfx2
import Derived.Test.YtmciigdfhikdnaaDoorRdU
namespace Go.Proofs.YtmciigdfhikdnaaDoor
open Go.RowKit Go.Proofs.YtmciigdfhikdnaaDoorW.PrintWords Go.Proofs.YtmciigdfhikdnaaDoorW.PrintLast Go.Proofs.YtmciigdfhikdnaaDoorW.PrintMore Go.Proofs.YtmciigdfhikdnaaDoor.Rw Go.Proofs.YtmciigdfhikdnaaDoor.Rf
set_option linter.unusedVariables false
set_option linter.unusedSimpArgs false
def refUpB (nm : ByteArray) (mt kk : List Int) : Option (List Int) :=
  (deedboxref24_short.f (bytesOf nm)).bind fun p5 => (deedboxref24_short.f mt).bind fun p6 => if p5.length + p6.length + kk.length ≤ 10000000 then some ((p5 ++ p6) ++ kk) else none
/-- An upload's bytes by the reference. -/
def deedboxref24_Upload.f (k : Nat) (a0_0 : Int) (a0_1 : ByteArray) (l0_2 : List Int) (a0_3 : Int) (l0_4 l0_5 : List Int) : Option (List Int × Int) :=
  if a0_1.size ≤ 1000000 then (deedboxref21_Object.f k a0_1).bind fun c => if c = 0 then (if 24 < l0_2.length then some ([], 17) else (deedboxref24_Lock.f k a0_3 l0_4 l0_5).bind fun q => if q.2 = true then (refUpB a0_1 l0_2 q.1).bind fun r => some (r, 0) else some ([], 12)) else some ([], 11) else none
theorem deedboxref24_Upload.mono : ∀ a0 a1 a2 a3 a4 a5 k, LeO (deedboxref24_Upload.f k a0 a1 a2 a3 a4 a5) (deedboxref24_Upload.f (k + 1) a0 a1 a2 a3 a4 a5) := by
  intro a0 a1 a2 a3 a4 a5 k
  unfold deedboxref24_Upload.f
  repeat' first
    | (with_reducible exact deedboxref21_Object.mono _ _)
    | (with_reducible exact deedboxref24_Lock.mono _ _ _ _)
    | (with_reducible exact LeO.refl _)
    | (with_reducible exact LeO.none _)
    | (with_reducible refine LeO.ite ?_ ?_)
    | (with_reducible refine LeO.bind ?_ (fun _ => ?_))
set_option maxRecDepth 100000 in
set_option maxHeartbeats 4000000 in
theorem deedboxref24_Upload.calls (k : Nat) (a0_0 : Int) (a0_1 : ByteArray) (A2 : Option Addr) (c2 : Nat) (l2 : List Int) (a0_3 : Int) (A4 : Option Addr) (c4 : Nat) (l4 : List Int) (A5 : Option Addr) (c5 : Nat) (l5 : List Int) (r1 : List Int) (r2 : Int) (w : World)
    (g2 : Kd.C (Kd.int .u8) w A2 l2.length l2) (hc2 : l2.length ≤ c2) (g4 : Kd.C (Kd.int .u8) w A4 l4.length l4) (hc4 : l4.length ≤ c4) (g5 : Kd.C (Kd.int .u8) w A5 l5.length l5) (hc5 : l5.length ≤ c5) (h : deedboxref24_Upload.f k a0_0 a0_1 l2 a0_3 l4 l5 = some (r1, r2)) :
    Calls Tryd.prog 20 #[.agg #[.int .i64 a0_0, .string a0_1, .slice A2 l2.length c2, .int .i64 a0_3, .slice A4 l4.length c4, .slice A5 l5.length c5]] w (AgainP w (r1, r2)) := by
  have hu44 := Tryd.underlying44
  have hu24 := Tryd.underlying24
  unfold deedboxref24_Upload.f at h
  by_cases hn : a0_1.size ≤ 1000000
  · rw [if_pos hn] at h
    obtain ⟨c, hO, h⟩ := Option.bind_eq_some_iff.1 h
    have H := Lib.hid h
    have O := Lib.hid (deedboxref21_Object.calls k a0_1 c (w.alloc (.cells #[.int .i64 a0_0, .string a0_1, .slice A2 l2.length c2, .int .i64 a0_3, .slice A4 l4.length c4, .slice A5 l5.length c5] 44)) hO)
    have K0 := blk_new w (.cells #[.int .i64 a0_0, .string a0_1, .slice A2 l2.length c2, .int .i64 a0_3, .slice A4 l4.length c4, .slice A5 l5.length c5] 44)
    have B0 := below_alloc (Below.refl w.heap.size w) (.cells #[.int .i64 a0_0, .string a0_1, .slice A2 l2.length c2, .int .i64 a0_3, .slice A4 l4.length c4, .slice A5 l5.length c5] 44)
    clear h hO
    go_enter Tryd.func20, Tryd.ntmps20
    go_wp2_with fail
    refine O.out.mono ?_
    rintro e u1 ⟨rfl, ⟨n1, hn1⟩⟩
    replace K0 := hn1 ▸ blk_drewN K0 n1
    replace B0 := hn1 ▸ pw_below_drewN B0 n1
    have hlt1 := blk_lt K0
    have x1 : u1.cell? ⟨w.heap.size, 1, none⟩ = some (.string a0_1) := (blk_cell K0 1).trans rfl
    have x2 : u1.cell? ⟨w.heap.size, 2, none⟩ = some (.slice A2 l2.length c2) := (blk_cell K0 2).trans rfl
    have x3 : u1.cell? ⟨w.heap.size, 3, none⟩ = some (.agg #[.int .i64 a0_3, .slice A4 l4.length c4, .slice A5 l5.length c5]) ∨ True := Or.inr trivial
    clear O hn1 x3
    have Ho := H.out
    clear H
    by_cases h0 : c = 0
    · subst h0
      rw [if_pos rfl] at Ho
      by_cases h24 : 24 < l2.length
      · rw [if_pos h24] at Ho
        obtain ⟨rfl, rfl⟩ := (by simpa using Ho : _ ∧ _)
        have t1 : decide (24 < l2.length) = true := decide_eq_true h24
        have t2 : decide ((24 : Int) < (l2.length : Int)) = true := decide_eq_true (by omega)
        have F := Lib.hid (show AgainP w ([], 17) (.returned (.tuple #[.slice none 0 0, .int .i64 17])) u1 from ⟨_, rfl, Kd.R_nil _ _ _ _ _, B0⟩)
        clear B0 K0 Ho
        go_wp2_with fail
        go_ret2
        exact F.out
      · rw [if_neg h24] at Ho
        have t1 : decide (24 < l2.length) = false := decide_eq_false h24
        have t2 : decide ((24 : Int) < (l2.length : Int)) = false := decide_eq_false (by omega)
        obtain ⟨q, hq, Ho⟩ := Option.bind_eq_some_iff.1 Ho
        obtain ⟨kk, ok⟩ := q
        have LK := Lib.hid (deedboxref24_Lock.calls k a0_3 A4 c4 l4 A5 c5 l5 kk ok u1 (Kd.C_below g4 B0) hc4 (Kd.C_below g5 B0) hc5 hq)
        have x3 : u1.cell? ⟨w.heap.size, 3, none⟩ = some (.int .i64 a0_3) := (blk_cell K0 3).trans rfl
        have x4 : u1.cell? ⟨w.heap.size, 4, none⟩ = some (.slice A4 l4.length c4) := (blk_cell K0 4).trans rfl
        have x5 : u1.cell? ⟨w.heap.size, 5, none⟩ = some (.slice A5 l5.length c5) := (blk_cell K0 5).trans rfl
        have Ho := Lib.hid Ho
        clear hq h24
        go_wp2_with fail
        refine LK.out.mono ?_
        rintro e u2 ⟨v1, rfl, V1, D1⟩
        replace K0 := blk_below K0 D1
        replace B0 := below_step B0 D1
        clear hlt1 x1 x2 x3 x4 x5 LK D1
        obtain ⟨E1, d1, rfl, m1, Q1⟩ := Kd.R_reads V1
        have hlt1 := blk_lt K0
        have x1 : u2.cell? ⟨w.heap.size, 1, none⟩ = some (.string a0_1) := (blk_cell K0 1).trans rfl
        clear V1
        have Ho := Ho.out
        cases ok with
        | false =>
          obtain ⟨rfl, rfl⟩ := (by simpa using Ho : _ ∧ _)
          have F := Lib.hid (show AgainP w ([], 12) (.returned (.tuple #[.slice none 0 0, .int .i64 12])) u2 from ⟨_, rfl, Kd.R_nil _ _ _ _ _, B0⟩)
          clear Q1 B0 K0 Ho
          go_wp2_with fail
          go_ret2
          exact F.out
        | true =>
          rw [if_pos rfl] at Ho
          obtain ⟨r, HR, Ho⟩ := Option.bind_eq_some_iff.1 Ho
          obtain ⟨rfl, rfl⟩ := (by simpa using Ho : _ ∧ _)
          unfold refUpB at HR
          obtain ⟨p5, P5, HR⟩ := Option.bind_eq_some_iff.1 HR
          obtain ⟨p6, P6, HR⟩ := Option.bind_eq_some_iff.1 HR
          by_cases hlen : p5.length + p6.length + kk.length ≤ 10000000
          · rw [if_pos hlen] at HR
            have HR := Option.some.inj HR
            have P5 := Lib.hid P5
            have P6 := Lib.hid P6
            have HR := Lib.hid HR
            have hlen := Lib.hid hlen
            have kb := fun W => print_bytes (P := Tryd.prog) 9 22 5 Tryd.underlying9 Tryd.underlying22 Tryd.underlying5 a0_1 W
            clear Ho
            go_wp2_with fail
            have bw : Below w.heap.size w (Lib.bytesWorld u2 5 a0_1) := bytes_below B0 B0.size 5 a0_1
            have bw2 : Below u2.heap.size u2 (Lib.bytesWorld u2 5 a0_1) := bytes_below (Below.refl _ _) (Nat.le_refl _) 5 a0_1
            have SC := deedboxref24_short.calls (some ⟨u2.heap.size, 0, none⟩) (grownCap u2 a0_1.size 0 5) (bytesOf a0_1) p5 (Lib.bytesWorld u2 5 a0_1) (by rw [bytesOf_length]; exact bytes_C u2 a0_1 hn) (by rw [bytesOf_length]; exact grownCap_ge _ _ _ _) P5.out
            rw [bytesOf_length] at SC
            refine SC.mono ?_
            rintro e u3 ⟨v5, rfl, V5, D5⟩
            replace K0 := blk_below (blk_below K0 bw2) D5
            replace B0 := below_step bw D5
            clear hlt1 x1 SC kb t1 t2
            have hlt1 := blk_lt K0
            have x2 : u3.cell? ⟨w.heap.size, 2, none⟩ = some (.slice A2 l2.length c2) := (blk_cell K0 2).trans rfl
            replace Q1 := Kd.C_below Q1 bw2
            generalize hWB : Lib.bytesWorld u2 5 a0_1 = WB at *
            clear hWB bw2
            go_wp2_with fail
            refine (deedboxref24_short.calls A2 c2 l2 p6 _ (Kd.C_below g2 B0) hc2 P6.out).mono ?_
            rintro e u4 ⟨v6, rfl, V6, D6⟩
            replace V5 := Kd.R_below V5 D6
            replace D5 := below_step D5 D6
            obtain ⟨E6, d6, rfl, m6, Q6⟩ := Kd.R_reads V6
            clear hlt1 x2 V6 D6 K0 B0
            go_wp2_with (first
              | ((with_reducible refine gate_builtin (b := .append) (xs := #[.tmp 27, .tmp 30]) rfl ?_); at_builtin; refine Kd.R_append_rows (Kd.int .u8) (w0 := WB) WB.heap.size rfl (.tmp 27) (.tmp 30) 22 5 (.int .u8 0) 1 rfl Tryd.underlying22 Rw.info5 rfl (by decide) (by omega) _ _ p6 _ _ _ (fun _ => True) (fun _ => False) rfl rfl V5 Q6 (fun _ _ h => h) (fun _ h => h.elim) (fun _ _ => trivial) D5 D5.size (by have := hlen.out; (try simp only [List.length_append]); omega) ?_; intro v7 W7 V7 B7 g7_ hat_; clear hat_ g7_; have B7' := below_step bw B7; have Q1' := Kd.C_below Q1 B7; have V7' := Kd.R_lower V7 bw.size; clear V5 Q6 D5 Q1 B7 V7)
              | ((with_reducible refine gate_builtin (b := .append) (xs := #[.tmp 32, .tmp 33]) rfl ?_); at_builtin; refine Kd.R_append_rows (Kd.int .u8) (w0 := w) w.heap.size rfl (.tmp 32) (.tmp 33) 22 5 (.int .u8 0) 1 rfl Tryd.underlying22 Rw.info5 rfl (by decide) (by omega) _ _ kk _ _ _ (fun _ => True) (fun _ => False) rfl rfl V7' Q1' (fun _ _ h => h) (fun _ h => h.elim) (fun _ _ => trivial) B7' B7'.size (by have := hlen.out; (try simp only [List.length_append]); omega) ?_; intro v8 W8 V8 B8 g8_ hat_; clear hat_ g8_; clear V7' B7' Q1'))
            have F := Lib.hid (show AgainP w (r, 0) (.returned (.tuple #[v8, .int .i64 0])) W8 from ⟨v8, rfl, by rw [← HR.out]; exact V8, B8⟩)
            clear V8 B8 bw
            go_ret2
            exact F.out
          · rw [if_neg hlen] at HR
            cases HR
    · rw [if_neg h0] at Ho
      obtain ⟨rfl, rfl⟩ := (by simpa using Ho : _ ∧ _)
      have t1 : (c != 0) = true := by simpa using h0
      have F := Lib.hid (show AgainP w ([], 11) (.returned (.tuple #[.slice none 0 0, .int .i64 11])) u1 from ⟨_, rfl, Kd.R_nil _ _ _ _ _, B0⟩)
      clear B0 K0 Ho
      go_wp2_with fail
      go_ret2
      exact F.out
  · rw [if_neg hn] at h
    cases h
end Go.Proofs.YtmciigdfhikdnaaDoor
