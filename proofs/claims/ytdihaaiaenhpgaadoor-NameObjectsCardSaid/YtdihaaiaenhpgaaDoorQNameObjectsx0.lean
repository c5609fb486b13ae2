/- Walks of the program's functions that a statement of this seat reaches: each comes to what its plain Lean function beside it tells; no condition beside those in each theorem. -/
import Derived.Test.YtdihaaiaenhpgaaDoorProg
import Derived.Below
import Derived.Deep.Draws
import Derived.Deep.AppendLies
import Derived.Maps.AppendAt
import Derived.OwnWalk
import Derived.Laws.BytesArg
import Derived.Laws.MakeOwn
import Derived.Laws.OwnMore
import Derived.Deep.OwnRows
import Derived.Tactics
import Derived.Lib.ConvBytes
import Derived.Laws.Slices
import Derived.WalkKit
import Derived.KernelRfl
import Derived.RowKit3
import Derived.Deep.LoopGhost
import Derived.Deep.QuietTactic
import Derived.BigQuiet
import Derived.WideLaws
import Derived.Deep.DeepCutAuto
import Derived.Deep.CutBlock
import Derived.Deep.RegionHeld3
import Derived.Laws.Rows
import Derived.Lib.AppendStr
import Derived.ArgAppend
import Derived.Laws.IdiomCopy
import Derived.OrdersHeld
import Derived.Laws.BitsLemmas
import Derived.RowKit
import Derived.Laws.Runes
import Derived.Lib.SlBytesConst
import Derived.Test.YtdihaaiaenhpgaaDoorShelf
import Derived.Test.YtdihaaiaenhpgaaDoorWWords
import Derived.Test.YtdihaaiaenhpgaaDoorWLast
import Derived.Test.YtdihaaiaenhpgaaDoorWTab
import Derived.Test.YtdihaaiaenhpgaaDoorWFour
import Derived.Test.YtdihaaiaenhpgaaDoorWQPut
import Derived.Test.YtdihaaiaenhpgaaDoorWApart
import Derived.Test.YtdihaaiaenhpgaaDoorWArr
import Derived.Test.YtdihaaiaenhpgaaDoorWZeros
import Derived.Test.YtdihaaiaenhpgaaDoorWFoot
import Derived.Test.YtdihaaiaenhpgaaDoorWKept
import Derived.Test.YtdihaaiaenhpgaaDoorWShare
import Derived.Test.YtdihaaiaenhpgaaDoorWN
import Derived.Test.YtdihaaiaenhpgaaDoorWFootNe
import Derived.Test.YtdihaaiaenhpgaaDoorWAt
import Derived.Test.YtdihaaiaenhpgaaDoorWEqStruct
import Derived.Test.YtdihaaiaenhpgaaDoorWRepsOne
import Derived.Test.YtdihaaiaenhpgaaDoorWInv
import Derived.Test.YtdihaaiaenhpgaaDoorWInvWords
import Derived.Test.YtdihaaiaenhpgaaDoorWGuard
import Derived.Test.YtdihaaiaenhpgaaDoorWNEv
import Derived.Test.YtdihaaiaenhpgaaDoorWMore
namespace Go.Proofs.YtdihaaiaenhpgaaDoor.QNameObjects
open Go.RowKit Go.Proofs.YtdihaaiaenhpgaaDoorW.PrintWords Go.Proofs.YtdihaaiaenhpgaaDoorW.PrintLast Go.Proofs.YtdihaaiaenhpgaaDoorW.PrintMore
attribute [local go_sem] max2_int min2_int max_two min_two max_three min_three max_four min_four   -- for this text's walks alone
set_option linter.unusedVariables false
set_option linter.unusedSimpArgs false



def errW : Option Int → Value
  | none => .nilIface
  | some c => .iface 0 (.int .i64 c)
theorem errW_none : errW none = .nilIface := rfl
theorem errW_some (c : Int) : errW (some c) = .iface 0 (.int .i64 c) := rfl

theorem info9 : (Tryd.prog.info? 9).map (fun i => (i.zero, i.size, i.bytes)) = some (some (.string ⟨#[]⟩), 1, 16) := by kernel_rfl
-- the values' own types

end Go.Proofs.YtdihaaiaenhpgaaDoor.QNameObjects
