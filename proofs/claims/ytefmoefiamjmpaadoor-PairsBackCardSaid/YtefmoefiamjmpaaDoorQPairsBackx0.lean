/- Walks of the program's functions that a statement of this seat reaches: each comes to what its plain Lean function beside it tells; no condition beside those in each theorem. -/
import Derived.Test.YtefmoefiamjmpaaDoorProg
import Derived.Below
import Derived.Deep.Draws
import Derived.Deep.AppendLies
import Derived.Maps.AppendAt
import Derived.OwnWalk
import Derived.Laws.BytesArg
import Derived.Laws.MakeOwn
import Derived.Laws.OwnMore
import Derived.Deep.OwnRows
import Derived.Tactics
import Derived.Lib.ConvBytes
import Derived.Laws.Slices
import Derived.WalkKit
import Derived.KernelRfl
import Derived.RowKit3
import Derived.Deep.LoopGhost
import Derived.Deep.QuietTactic
import Derived.BigQuiet
import Derived.WideLaws
import Derived.Deep.DeepCutAuto
import Derived.Deep.CutBlock
import Derived.Deep.RegionHeld3
import Derived.Laws.Rows
import Derived.Lib.AppendStr
import Derived.ArgAppend
import Derived.Laws.IdiomCopy
import Derived.OrdersHeld
import Derived.Laws.BitsLemmas
import Derived.RowKit
import Derived.Laws.Runes
import Derived.Lib.SlBytesConst
import Derived.Test.YtefmoefiamjmpaaDoorPairs
import Derived.Test.YtefmoefiamjmpaaDoorWWords
import Derived.Test.YtefmoefiamjmpaaDoorWLast
import Derived.Test.YtefmoefiamjmpaaDoorWTab
import Derived.Test.YtefmoefiamjmpaaDoorWFour
import Derived.Test.YtefmoefiamjmpaaDoorWQPut
import Derived.Test.YtefmoefiamjmpaaDoorWApart
import Derived.Test.YtefmoefiamjmpaaDoorWArr
import Derived.Test.YtefmoefiamjmpaaDoorWZeros
import Derived.Test.YtefmoefiamjmpaaDoorWFoot
import Derived.Test.YtefmoefiamjmpaaDoorWKept
import Derived.Test.YtefmoefiamjmpaaDoorWShare
import Derived.Test.YtefmoefiamjmpaaDoorWN
import Derived.Test.YtefmoefiamjmpaaDoorWFootNe
import Derived.Test.YtefmoefiamjmpaaDoorWAt
import Derived.Test.YtefmoefiamjmpaaDoorWEqStruct
import Derived.Test.YtefmoefiamjmpaaDoorWRepsOne
import Derived.Test.YtefmoefiamjmpaaDoorWInv
import Derived.Test.YtefmoefiamjmpaaDoorWInvWords
import Derived.Test.YtefmoefiamjmpaaDoorWGuard
import Derived.Test.YtefmoefiamjmpaaDoorWNEv
import Derived.Test.YtefmoefiamjmpaaDoorWMore
namespace Go.Proofs.YtefmoefiamjmpaaDoor.QPairsBack
open Go.RowKit Go.Proofs.YtefmoefiamjmpaaDoorW.PrintWords Go.Proofs.YtefmoefiamjmpaaDoorW.PrintLast Go.Proofs.YtefmoefiamjmpaaDoorW.PrintMore
open Go.Proofs.YtefmoefiamjmpaaDoor.Pa
attribute [local go_sem] str_leq str_gtr str_geq max2_int min2_int max_two min_two max_three min_three max_four min_four   -- for this text's walks alone
set_option linter.unusedVariables false
set_option linter.unusedSimpArgs false



def errW : Option Int → Value
  | none => .nilIface
  | some c => .iface 0 (.int .i64 c)
theorem errW_none : errW none = .nilIface := rfl
theorem errW_some (c : Int) : errW (some c) = .iface 0 (.int .i64 c) := rfl

theorem info9 : (Tryd.prog.info? 9).map (fun i => (i.zero, i.size, i.bytes)) = some (some (.string ⟨#[]⟩), 1, 16) := by kernel_rfl
theorem info45 : (Tryd.prog.info? 45).map (fun i => (i.zero, i.size, i.bytes)) = some (some (.agg #[(.string ⟨#[]⟩), (.string ⟨#[]⟩)]), 2, 32) := by kernel_rfl
-- the values' own types
end Go.Proofs.YtefmoefiamjmpaaDoor.QPairsBack
