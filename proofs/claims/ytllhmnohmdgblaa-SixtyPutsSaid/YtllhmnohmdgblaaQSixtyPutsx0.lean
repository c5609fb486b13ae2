/- Walks of the program's functions that a statement of this seat reaches: each comes to what its plain Lean function beside it tells; no condition beside those in each theorem. -/
import Derived.Test.YtllhmnohmdgblaaProg
import Derived.Below
import Derived.Deep.Draws
import Derived.Deep.AppendLies
import Derived.Maps.AppendAt
import Derived.OwnWalk
import Derived.Laws.BytesArg
import Derived.Laws.MakeOwn
import Derived.Laws.OwnMore
import Derived.Deep.OwnRows
import Derived.Tactics
import Derived.Lib.ConvBytes
import Derived.Laws.Slices
import Derived.WalkKit
import Derived.KernelRfl
import Derived.RowKit3
import Derived.Deep.LoopGhost
import Derived.Deep.QuietTactic
import Derived.BigQuiet
import Derived.WideLaws
import Derived.Deep.DeepCutAuto
import Derived.Deep.CutBlock
import Derived.Deep.RegionHeld3
import Derived.Laws.Rows
import Derived.Lib.AppendStr
import Derived.ArgAppend
import Derived.Laws.IdiomCopy
import Derived.OrdersHeld
import Derived.Laws.BitsLemmas
import Derived.RowKit
import Derived.Laws.Runes
import Derived.Lib.SlBytesConst
import Derived.Test.YtllhmnohmdgblaaWWords
import Derived.Test.YtllhmnohmdgblaaWLast
import Derived.Test.YtllhmnohmdgblaaWTab
import Derived.Test.YtllhmnohmdgblaaWFour
import Derived.Test.YtllhmnohmdgblaaWQPut
import Derived.Test.YtllhmnohmdgblaaWApart
import Derived.Test.YtllhmnohmdgblaaWArr
import Derived.Test.YtllhmnohmdgblaaWZeros
import Derived.Test.YtllhmnohmdgblaaWFoot
import Derived.Test.YtllhmnohmdgblaaWKept
import Derived.Test.YtllhmnohmdgblaaWShare
import Derived.Test.YtllhmnohmdgblaaWN
import Derived.Test.YtllhmnohmdgblaaWFootNe
import Derived.Test.YtllhmnohmdgblaaWAt
import Derived.Test.YtllhmnohmdgblaaWEqStruct
import Derived.Test.YtllhmnohmdgblaaWRepsOne
import Derived.Test.YtllhmnohmdgblaaWInv
import Derived.Test.YtllhmnohmdgblaaWInvWords
import Derived.Test.YtllhmnohmdgblaaWGuard
import Derived.Test.YtllhmnohmdgblaaWNEv
import Derived.Test.YtllhmnohmdgblaaWMore
namespace Go.Proofs.Ytllhmnohmdgblaa.QSixtyPuts
open Go.RowKit Go.Proofs.YtllhmnohmdgblaaW.PrintWords Go.Proofs.YtllhmnohmdgblaaW.PrintLast Go.Proofs.YtllhmnohmdgblaaW.PrintMore
attribute [local go_sem] max2_int min2_int max_two min_two max_three min_three max_four min_four   -- for this text's walks alone
set_option linter.unusedVariables false
set_option linter.unusedSimpArgs false



def errW : Option Int → Value
  | none => .nilIface
  | some c => .iface 0 (.int .i64 c)
theorem errW_none : errW none = .nilIface := rfl
theorem errW_some (c : Int) : errW (some c) = .iface 0 (.int .i64 c) := rfl

theorem info4 : (Try.prog.info? 4).map (fun i => (i.zero, i.size, i.bytes)) = some (some (.bool false), 1, 1) := by kernel_rfl
theorem info5 : (Try.prog.info? 5).map (fun i => (i.zero, i.size, i.bytes)) = some (some (.int .u8 0), 1, 1) := by kernel_rfl
-- the values' own types

end Go.Proofs.Ytllhmnohmdgblaa.QSixtyPuts
