/- short, walked by hand, and that the same is the same; no condition beside those in each theorem. -/
import Derived.Test.YtmciigdfhikdnaaDoorWorks
import Derived.Test.YtmciigdfhikdnaaDoorEqs
namespace Go.Proofs.YtmciigdfhikdnaaDoor
open Go.RowKit Go.Proofs.YtmciigdfhikdnaaDoorW.PrintWords Go.Proofs.YtmciigdfhikdnaaDoorW.PrintLast Go.Proofs.YtmciigdfhikdnaaDoorW.PrintMore Go.Proofs.YtmciigdfhikdnaaDoor.Rw Go.Proofs.YtmciigdfhikdnaaDoor.Rf Go.Proofs.YtmciigdfhikdnaaDoor.Kit
set_option linter.unusedVariables false
set_option linter.unusedSimpArgs false
/-- It tells true. -/
def TrueP (w : World) (e : Ending) (w' : World) : Prop := e = .returned (.bool true) ∧ Below w.heap.size w w'
theorem same_true (p : List Int) (hl : p.length < 1000000) : ∃ k, deedboxref01_Same.f k p p = some true := by
  have h := (ref_same p p hl).rounds
  rwa [decide_eq_true rfl] at h
def shortB (n1 n2 n3 n4 : Nat) : Bool := decide (n1 < 100) && decide (n2 < 100) && decide (n3 < 300) && decide (n4 < 300)
set_option maxHeartbeats 1000000 in
theorem short_law (g : Int) (A1 : Option Addr) (n1 c1 : Nat) (A2 : Option Addr) (n2 c2 : Nat) (A3 : Option Addr) (n3 c3 : Nat) (A4 : Option Addr) (n4 c4 : Nat) (r : Bool) (w : World) (h : shortB n1 n2 n3 n4 = r) :
    Calls Tryd.prog 7 #[.agg #[.int .i64 g, .slice A1 n1 c1, .slice A2 n2 c2], .slice A3 n3 c3, .slice A4 n4 c4] w fun e w' => e = .returned (.bool r) ∧ Below w.heap.size w w' := by
  have hu24 := Tryd.underlying24
  have e1 : decide ((n1 : Int) < 100) = decide (n1 < 100) := decide_eq_decide.2 (by omega)
  have e2 : decide ((n2 : Int) < 100) = decide (n2 < 100) := decide_eq_decide.2 (by omega)
  have e3 : decide ((n3 : Int) < 300) = decide (n3 < 300) := decide_eq_decide.2 (by omega)
  have e4 : decide ((n4 : Int) < 300) = decide (n4 < 300) := decide_eq_decide.2 (by omega)
  have B0 := Lib.hid (below_alloc (Below.refl w.heap.size w) (.cells #[.int .i64 g, .slice A1 n1 c1, .slice A2 n2 c2] 24))
  unfold shortB at h
  cases h1 : decide (n1 < 100) <;> cases h2 : decide (n2 < 100) <;> cases h3 : decide (n3 < 300) <;> cases h4 : decide (n4 < 300)
  all_goals
    rw [h1, h2, h3, h4] at h
    rw [h1] at e1
    rw [h2] at e2
    rw [h3] at e3
    rw [h4] at e4
    obtain rfl : _ = r := h
    go_enter Tryd.func7, Tryd.ntmps7
    go_wp2_with fail
    go_ret
    exact ⟨rfl, B0.out⟩
theorem sameLock_true (g : Int) (no wp : List Int) (h1 : no.length < 1000000) (h2 : wp.length < 1000000) : Ev (fun k => deedboxref24_SameLock.f k g no wp g no wp) true := by
  have a1 := ref_same no no h1
  have a2 := ref_same wp wp h2
  rw [decide_eq_true rfl] at a1 a2
  unfold deedboxref24_SameLock.f
  refine Ev.congr (fun k => if_pos rfl) ?_
  refine Ev.bind a1 ?_
  refine Ev.congr (fun k => if_pos rfl) ?_
  exact Ev.bind a2 (Ev.now _)
theorem sameUpload_true (a : Int) (s : ByteArray) (m : List Int) (g : Int) (no wp : List Int) (h0 : m.length < 1000000) (h1 : no.length < 1000000) (h2 : wp.length < 1000000) : ∃ k, deedboxref24_SameUpload.f k a s m g no wp a s m g no wp = some true := by
  have a1 := ref_same m m h0
  rw [decide_eq_true rfl] at a1
  refine Ev.rounds (g := fun k => deedboxref24_SameUpload.f k a s m g no wp a s m g no wp) ?_
  unfold deedboxref24_SameUpload.f
  refine Ev.congr (fun k => if_pos rfl) ?_
  refine Ev.congr (fun k => if_pos rfl) ?_
  refine Ev.bind a1 ?_
  refine Ev.congr (fun k => if_pos rfl) ?_
  exact Ev.bind (sameLock_true g no wp h1 h2) (Ev.now _)
theorem sameVersion_true (a0 : Int) (a1 a2 : Bool) (a3 a4 a5 : Int) (m tags : List Int) (g : Int) (no wp : List Int) (h0 : m.length < 1000000) (h3 : tags.length < 1000000) (h1 : no.length < 1000000) (h2 : wp.length < 1000000) : ∃ k, deedboxref24_SameVersion.f k a0 a1 a2 a3 a4 a5 m tags g no wp a0 a1 a2 a3 a4 a5 m tags g no wp = some true := by
  have b1 := ref_same m m h0
  have b2 := ref_same tags tags h3
  rw [decide_eq_true rfl] at b1 b2
  refine Ev.rounds (g := fun k => deedboxref24_SameVersion.f k a0 a1 a2 a3 a4 a5 m tags g no wp a0 a1 a2 a3 a4 a5 m tags g no wp) ?_
  unfold deedboxref24_SameVersion.f
  refine Ev.congr (fun k => if_pos rfl) ?_
  refine Ev.congr (fun k => if_pos (by simp)) ?_
  refine Ev.congr (fun k => if_pos (by simp)) ?_
  refine Ev.congr (fun k => if_pos rfl) ?_
  refine Ev.congr (fun k => if_pos rfl) ?_
  refine Ev.congr (fun k => if_pos rfl) ?_
  refine Ev.bind b1 ?_
  refine Ev.congr (fun k => if_pos rfl) ?_
  refine Ev.bind b2 ?_
  refine Ev.congr (fun k => if_pos rfl) ?_
  exact Ev.bind (sameLock_true g no wp h1 h2) (Ev.now _)
end Go.Proofs.YtmciigdfhikdnaaDoor
