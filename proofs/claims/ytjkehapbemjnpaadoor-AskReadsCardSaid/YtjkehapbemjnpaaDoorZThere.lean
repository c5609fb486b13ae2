/- What is put of a request's form is read as it was; no program in sight. -/
import Derived.Test.YtjkehapbemjnpaaDoorZCanon
namespace Go.Proofs.YtjkehapbemjnpaaDoor
open Go.RowKit Go.Proofs.YtjkehapbemjnpaaDoor.Kit Go.Proofs.YtjkehapbemjnpaaDoor.Cut Go.Proofs.YtjkehapbemjnpaaDoor.Pl Go.Proofs.YtjkehapbemjnpaaDoor.Num
set_option linter.unusedVariables false
inductive Run : AskP → List (List Int × List Int) → AskP → Prop
  | nil (a : AskP) : Run a [] a
  | cons {a a1 a2 : AskP} {w v : List Int} {ps : List (List Int × List Int)} (hw : 58 ∉ w) (hv : v ≠ [] → setS a w v = (a1, 0)) (h0 : v = [] → a = a1) (h : Run a1 ps a2) : Run a ((w, v) :: ps) a2
theorem NT.app {a b : List Int} (h : NT a) (h2 : NT b) : NT (a ++ b) := fun hm => (List.mem_append.1 hm).elim h h2
theorem NT.cons {x : Int} {b : List Int} (h : x ≠ 10) (h2 : NT b) : NT (x :: b) := fun hm => (List.mem_cons.1 hm).elim (fun e => h e.symm) h2
end Go.Proofs.YtjkehapbemjnpaaDoor
