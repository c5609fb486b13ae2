/- Walks of the program's functions that a statement of this seat reaches: each comes to what its plain Lean function beside it tells; no condition beside those in each theorem. -/
import Derived.Test.YtkjmffhkchlkeaaDoorProg
import Derived.Below
import Derived.Deep.Draws
import Derived.Deep.AppendLies
import Derived.Maps.AppendAt
import Derived.OwnWalk
import Derived.Laws.BytesArg
import Derived.Laws.MakeOwn
import Derived.Laws.OwnMore
import Derived.Deep.OwnRows
import Derived.Tactics
import Derived.Lib.ConvBytes
import Derived.Laws.Slices
import Derived.WalkKit
import Derived.KernelRfl
import Derived.RowKit3
import Derived.Deep.LoopGhost
import Derived.Deep.QuietTactic
import Derived.BigQuiet
import Derived.WideLaws
import Derived.Deep.DeepCutAuto
import Derived.Deep.CutBlock
import Derived.Deep.RegionHeld3
import Derived.Laws.Rows
import Derived.Lib.AppendStr
import Derived.ArgAppend
import Derived.Laws.IdiomCopy
import Derived.OrdersHeld
import Derived.Laws.BitsLemmas
import Derived.RowKit
import Derived.Laws.Runes
import Derived.Lib.SlBytesConst
import Derived.Test.YtkjmffhkchlkeaaDoorParse
import Derived.Test.YtkjmffhkchlkeaaDoorWWords
import Derived.Test.YtkjmffhkchlkeaaDoorWLast
import Derived.Test.YtkjmffhkchlkeaaDoorWTab
import Derived.Test.YtkjmffhkchlkeaaDoorWFour
import Derived.Test.YtkjmffhkchlkeaaDoorWQPut
import Derived.Test.YtkjmffhkchlkeaaDoorWApart
import Derived.Test.YtkjmffhkchlkeaaDoorWArr
import Derived.Test.YtkjmffhkchlkeaaDoorWZeros
import Derived.Test.YtkjmffhkchlkeaaDoorWFoot
import Derived.Test.YtkjmffhkchlkeaaDoorWKept
import Derived.Test.YtkjmffhkchlkeaaDoorWShare
import Derived.Test.YtkjmffhkchlkeaaDoorWN
import Derived.Test.YtkjmffhkchlkeaaDoorWFootNe
import Derived.Test.YtkjmffhkchlkeaaDoorWAt
import Derived.Test.YtkjmffhkchlkeaaDoorWEqStruct
import Derived.Test.YtkjmffhkchlkeaaDoorWRepsOne
import Derived.Test.YtkjmffhkchlkeaaDoorWInv
import Derived.Test.YtkjmffhkchlkeaaDoorWInvWords
import Derived.Test.YtkjmffhkchlkeaaDoorWGuard
import Derived.Test.YtkjmffhkchlkeaaDoorWNEv
import Derived.Test.YtkjmffhkchlkeaaDoorWMore
namespace Go.Proofs.YtkjmffhkchlkeaaDoor.QCondReads
open Go.RowKit Go.Proofs.YtkjmffhkchlkeaaDoorW.PrintWords Go.Proofs.YtkjmffhkchlkeaaDoorW.PrintLast Go.Proofs.YtkjmffhkchlkeaaDoorW.PrintMore
attribute [local go_sem] max2_int min2_int max_two min_two max_three min_three max_four min_four   -- for this text's walks alone
set_option linter.unusedVariables false
set_option linter.unusedSimpArgs false



def errW : Option Int → Value
  | none => .nilIface
  | some c => .iface 0 (.int .i64 c)
theorem errW_none : errW none = .nilIface := rfl
theorem errW_some (c : Int) : errW (some c) = .iface 0 (.int .i64 c) := rfl

theorem info3 : (Tryd.prog.info? 3).map (fun i => (i.zero, i.size, i.bytes)) = some (some (.int .i64 0), 1, 8) := by kernel_rfl
theorem info9 : (Tryd.prog.info? 9).map (fun i => (i.zero, i.size, i.bytes)) = some (some (.string ⟨#[]⟩), 1, 16) := by kernel_rfl
-- the values' own types

end Go.Proofs.YtkjmffhkchlkeaaDoor.QCondReads
