/- An upload as bytes, walked by hand: each function comes to what its plain Lean function beside it tells; no condition beside those in each theorem. -/
import Derived.Test.YtmciigdfhikdnaaDoorRdV
import Derived.Deep.RegionHeldLaw
namespace Go.Proofs.YtmciigdfhikdnaaDoor
open Go.RowKit Go.Proofs.YtmciigdfhikdnaaDoorW.PrintWords Go.Proofs.YtmciigdfhikdnaaDoorW.PrintLast Go.Proofs.YtmciigdfhikdnaaDoorW.PrintMore Go.Proofs.YtmciigdfhikdnaaDoor.Rw
set_option linter.unusedVariables false
set_option linter.unusedSimpArgs false
def upR (k : Nat) (nm : ByteArray) (mt kk : List Int) : Option (List Int) :=
  (row_short.f k (bytesOf nm)).bind fun p5 => (row_short.f k mt).bind fun p6 => octet_Join.f k [p5, p6, kk]
/-- An upload's bytes, without its number. -/
def row_Upload.f (k : Nat) (a0_0 : Int) (a0_1 : ByteArray) (l0_2 : List Int) (a0_3 : Int) (l0_4 l0_5 : List Int) : Option (List Int × Int) :=
  if a0_1.size ≤ 1000000 then (row_lock.f k a0_3 l0_4 l0_5).bind fun q => (name_Object.f k a0_1).bind fun c => if c = 0 then (if 24 < l0_2.length then some ([], 17) else (if q.2 = true then (upR k a0_1 l0_2 q.1).bind fun r => some (r, 0) else some ([], 12))) else some ([], 11) else none
theorem row_Upload.mono : ∀ a0 a1 a2 a3 a4 a5 k, LeO (row_Upload.f k a0 a1 a2 a3 a4 a5) (row_Upload.f (k + 1) a0 a1 a2 a3 a4 a5) := by
  intro a0 a1 a2 a3 a4 a5 k
  unfold row_Upload.f upR
  repeat' first
    | (with_reducible exact octet_Join.mono _ _)
    | (with_reducible exact name_Object.mono _ _)
    | (with_reducible exact row_short.mono _ _)
    | (with_reducible exact row_lock.mono _ _ _ _)
    | (with_reducible exact LeO.refl _)
    | (with_reducible exact LeO.none _)
    | (with_reducible refine LeO.ite ?_ ?_)
    | (with_reducible refine LeO.bind ?_ (fun _ => ?_))
theorem bytes_C (W : World) (s : ByteArray) (hs : s.size ≤ 1000000) : Kd.C (Kd.int .u8) (Lib.bytesWorld W 5 s) (some ⟨W.heap.size, 0, none⟩) s.size (bytesOf s) :=
  Kd.C_of_reads (d := 0) (bytes_reads W 5 s (by omega))
set_option maxRecDepth 100000 in
set_option maxHeartbeats 4000000 in
theorem Upload_calls (k : Nat) (a0_0 : Int) (a0_1 : ByteArray) (A2 : Option Addr) (c2 : Nat) (l2 : List Int) (a0_3 : Int) (A4 : Option Addr) (c4 : Nat) (l4 : List Int) (A5 : Option Addr) (c5 : Nat) (l5 : List Int) (r1 : List Int) (r2 : Int) (w : World)
    (g2 : Kd.C (Kd.int .u8) w A2 l2.length l2) (hc2 : l2.length ≤ c2) (g4 : Kd.C (Kd.int .u8) w A4 l4.length l4) (hc4 : l4.length ≤ c4) (g5 : Kd.C (Kd.int .u8) w A5 l5.length l5) (hc5 : l5.length ≤ c5) (h : row_Upload.f k a0_0 a0_1 l2 a0_3 l4 l5 = some (r1, r2)) :
    Calls Tryd.prog 19 #[.agg #[.int .i64 a0_0, .string a0_1, .slice A2 l2.length c2, .int .i64 a0_3, .slice A4 l4.length c4, .slice A5 l5.length c5]] w (AgainP w (r1, r2)) := by
  have hu44 := Tryd.underlying44
  have hu24 := Tryd.underlying24
  unfold row_Upload.f at h
  by_cases hn : a0_1.size ≤ 1000000
  · rw [if_pos hn] at h
    obtain ⟨q, hq, h⟩ := Option.bind_eq_some_iff.1 h
    obtain ⟨c, hO, h⟩ := Option.bind_eq_some_iff.1 h
    obtain ⟨kk, ok⟩ := q
    have LK := Lib.hid (lock_calls k a0_3 A4 c4 l4 A5 c5 l5 kk ok (w.alloc (.cells #[.int .i64 a0_0, .string a0_1, .slice A2 l2.length c2, .int .i64 a0_3, .slice A4 l4.length c4, .slice A5 l5.length c5] 44)) (Kd.C_alloc g4 _) hc4 (Kd.C_alloc g5 _) hc5 hq)
    have HO := Lib.hid hO
    have H := Lib.hid h
    clear h hO hq g4 g5
    go_enter Tryd.func19, Tryd.ntmps19
    go_wp2_with fail
    refine LK.out.mono ?_
    rintro e u1 ⟨v1, rfl, V1, D1⟩
    have hc1 := blk_below (blk_new w (.cells #[.int .i64 a0_0, .string a0_1, .slice A2 l2.length c2, .int .i64 a0_3, .slice A4 l4.length c4, .slice A5 l5.length c5] 44)) D1
    have B1 := below_step (below_alloc (Below.refl _ _) _) D1
    have hlt1 := blk_lt hc1
    have x1 : u1.cell? ⟨w.heap.size, 1, none⟩ = some (.string a0_1) := (blk_cell hc1 1).trans rfl
    clear D1 LK
    go_wp2_with fail
    have O := Lib.hid (name_Object.calls k a0_1 c u1 HO.out)
    obtain ⟨E1, d1, rfl, m1, Q1⟩ := Kd.R_reads V1
    clear HO V1 x1 hlt1
    refine O.out.mono ?_
    rintro e u2 ⟨rfl, D2⟩
    have hc2' := blk_below hc1 D2
    have B2 := below_step B1 D2
    have Q2 := Kd.C_below Q1 D2
    have hlt2 := blk_lt hc2'
    have x1 : u2.cell? ⟨w.heap.size, 1, none⟩ = some (.string a0_1) := (blk_cell hc2' 1).trans rfl
    have x2 : u2.cell? ⟨w.heap.size, 2, none⟩ = some (.slice A2 l2.length c2) := (blk_cell hc2' 2).trans rfl
    clear D2 B1 Q1 O hc1 hc2'
    have Ho := H.out
    clear H
    by_cases h0 : c = 0
    · subst h0
      rw [if_pos rfl] at Ho
      by_cases h24 : 24 < l2.length
      · rw [if_pos h24] at Ho
        obtain ⟨rfl, rfl⟩ := (by simpa using Ho : _ ∧ _)
        have t1 : decide (24 < l2.length) = true := decide_eq_true h24
        have t2 : decide ((24 : Int) < (l2.length : Int)) = true := decide_eq_true (by omega)
        have F := Lib.hid (show AgainP w ([], 17) (.returned (.tuple #[.slice none 0 0, .int .i64 17])) u2 from ⟨_, rfl, Kd.R_nil _ _ _ _ _, B2⟩)
        clear Q2 B2 Ho
        go_wp2_with fail
        go_ret2
        exact F.out
      · rw [if_neg h24] at Ho
        have t1 : decide (24 < l2.length) = false := decide_eq_false h24
        have t2 : decide ((24 : Int) < (l2.length : Int)) = false := decide_eq_false (by omega)
        cases ok with
        | false =>
          obtain ⟨rfl, rfl⟩ := (by simpa using Ho : _ ∧ _)
          have F := Lib.hid (show AgainP w ([], 12) (.returned (.tuple #[.slice none 0 0, .int .i64 12])) u2 from ⟨_, rfl, Kd.R_nil _ _ _ _ _, B2⟩)
          clear Q2 B2 Ho
          go_wp2_with fail
          go_ret2
          exact F.out
        | true =>
          rw [if_pos rfl] at Ho
          obtain ⟨r, HR, Ho⟩ := Option.bind_eq_some_iff.1 Ho
          obtain ⟨rfl, rfl⟩ := (by simpa using Ho : _ ∧ _)
          unfold upR at HR
          obtain ⟨p5, P5, HR⟩ := Option.bind_eq_some_iff.1 HR
          obtain ⟨p6, P6, HR⟩ := Option.bind_eq_some_iff.1 HR
          have P5 := Lib.hid P5
          have P6 := Lib.hid P6
          have HR := Lib.hid HR
          have kb := fun W => print_bytes (P := Tryd.prog) 9 22 5 Tryd.underlying9 Tryd.underlying22 Tryd.underlying5 a0_1 W
          clear Ho h24
          go_wp2_with fail
          clear t1 t2
          have bw : Below w.heap.size w (Lib.bytesWorld u2.drew 5 a0_1) := bytes_below (below_drew1 B2) B2.size 5 a0_1
          have bw2 : Below u2.heap.size u2 (Lib.bytesWorld u2.drew 5 a0_1) := bytes_below (below_drew1 (Below.refl _ _)) (Nat.le_refl _) 5 a0_1
          have KB := Lib.hid (show (Lib.bytesWorld u2.drew 5 a0_1).cell? ⟨w.heap.size, 1, none⟩ = some (.string a0_1) ∧ (Lib.bytesWorld u2.drew 5 a0_1).cell? ⟨w.heap.size, 2, none⟩ = some (.slice A2 l2.length c2) from ⟨pw_cell_below bw2 x1, pw_cell_below bw2 x2⟩)
          have SC := short_calls k (some ⟨u2.heap.size, 0, none⟩) (grownCap u2.drew a0_1.size 0 5) (bytesOf a0_1) p5 (Lib.bytesWorld u2.drew 5 a0_1) (by rw [bytesOf_length]; exact bytes_C u2.drew a0_1 hn) (by rw [bytesOf_length]; exact grownCap_ge _ _ _ _) P5.out
          rw [bytesOf_length] at SC
          have SC := Lib.hid SC
          have hs2 : u2.drew.heap.size = u2.heap.size := rfl
          have Q3 := Kd.C_below Q2 bw2
          go_region_held_law (fun w' => w'.cell? ⟨w.heap.size, 1, none⟩ = some (.string a0_1) ∧ w'.cell? ⟨w.heap.size, 2, none⟩ = some (.slice A2 l2.length c2))
            (first | (exact ⟨x1, x2⟩) | (exact KB.out) | (exact K5.out) | (exact K6.out) | (exact ⟨pw_cell_below (below_alloc (Below.refl _ _) _) K6.out.1, pw_cell_below (below_alloc (Below.refl _ _) _) K6.out.2⟩) | (exact K7.out))
            ((first
              | (go_at_call 33; (with_reducible refine SC.out.mono ?_); rintro e u5 ⟨v5, rfl, V5, D5⟩; have K5 := Lib.hid (show u5.cell? ⟨w.heap.size, 1, none⟩ = some (.string a0_1) ∧ u5.cell? ⟨w.heap.size, 2, none⟩ = some (.slice A2 l2.length c2) from ⟨pw_cell_below D5 KB.out.1, pw_cell_below D5 KB.out.2⟩); have B5 := below_step bw D5; obtain ⟨E5, d5, rfl, m5, Q5⟩ := Kd.R_reads V5)
              | (go_at_call 33; (with_reducible refine (short_calls k A2 c2 l2 p6 _ (Kd.C_below g2 B5) hc2 P6.out).mono ?_); rintro e u6 ⟨v6, rfl, V6, D6⟩; have K6 := Lib.hid (show u6.cell? ⟨w.heap.size, 1, none⟩ = some (.string a0_1) ∧ u6.cell? ⟨w.heap.size, 2, none⟩ = some (.slice A2 l2.length c2) from ⟨pw_cell_below D6 K5.out.1, pw_cell_below D6 K5.out.2⟩); have B6 := below_step B5 D6; obtain ⟨E6, d6, rfl, m6, Q6⟩ := Kd.R_reads V6)
              | (go_at_call 31; have J : Kd.C (Kd.slice 5 (Kd.int .u8)) (u6.alloc (.cells #[.slice E5 p5.length d5, .slice E6 p6.length d6, .slice E1 kk.length d1] 22)) (some ⟨u6.heap.size, 0, none⟩) [p5, p6, kk].length [p5, p6, kk] := C_list [(E5, d5, p5), (E6, d6, p6), (E1, d1, kk)] (blk_new u6 _) (by simp) (by simp only [List.mem_cons, List.not_mem_nil, or_false, forall_eq_or_imp, forall_eq]; exact ⟨⟨m5, Kd.C_alloc (Kd.C_below Q5 D6) _⟩, ⟨m6, Kd.C_alloc Q6 _⟩, ⟨m1, Kd.C_alloc (Kd.C_below (Kd.C_below Q3 D5) D6) _⟩⟩); have JJ := octet_Join.calls k _ 3 [p5, p6, kk] r _ J (Nat.le_refl _) HR.out; rw [show [p5, p6, kk].length = 3 from rfl] at JJ; (with_reducible refine JJ.mono ?_); rintro e u7 ⟨v7, rfl, V7, D7⟩; have K7 := Lib.hid (show u7.cell? ⟨w.heap.size, 1, none⟩ = some (.string a0_1) ∧ u7.cell? ⟨w.heap.size, 2, none⟩ = some (.slice A2 l2.length c2) from ⟨pw_cell_below D7 (pw_cell_below (below_alloc (Below.refl _ _) _) K6.out.1), pw_cell_below D7 (pw_cell_below (below_alloc (Below.refl _ _) _) K6.out.2)⟩))))
          have hz := B6.size
          have F := Lib.hid (show AgainP w (r, 0) (.returned (.tuple #[v7, .int .i64 0])) u7 from ⟨_, rfl, Kd.R_lower V7 (by simp; omega), below_step (below_alloc B6 _) D7⟩)
          clear K5 K6 K7 KB SC Q3 Q5 Q6 V5 V6 V7 D5 D6 D7 B5 B6 bw bw2 hz hs2 x1 x2 B2 Q2
          go_wp2_with fail
          go_ret2
          exact F.out
    · rw [if_neg h0] at Ho
      obtain ⟨rfl, rfl⟩ := (by simpa using Ho : _ ∧ _)
      have t1 : (c != 0) = true := by simpa using h0
      have F := Lib.hid (show AgainP w ([], 11) (.returned (.tuple #[.slice none 0 0, .int .i64 11])) u2 from ⟨_, rfl, Kd.R_nil _ _ _ _ _, B2⟩)
      clear Q2 B2 Ho
      go_wp2_with fail
      go_ret2
      exact F.out
  · rw [if_neg hn] at h
    cases h
end Go.Proofs.YtmciigdfhikdnaaDoor
