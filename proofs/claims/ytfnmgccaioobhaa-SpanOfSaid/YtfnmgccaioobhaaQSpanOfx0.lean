/- Walks of the program's functions that a statement of this seat reaches: each comes to what its plain Lean function beside it tells; no condition beside those in each theorem. -/
import Derived.Test.YtfnmgccaioobhaaProg
import Derived.Below
import Derived.Deep.Draws
import Derived.Deep.AppendLies
import Derived.Maps.AppendAt
import Derived.OwnWalk
import Derived.Laws.BytesArg
import Derived.Laws.MakeOwn
import Derived.Laws.OwnMore
import Derived.Deep.OwnRows
import Derived.Tactics
import Derived.Lib.ConvBytes
import Derived.Laws.Slices
import Derived.WalkKit
import Derived.KernelRfl
import Derived.RowKit3
import Derived.Deep.LoopGhost
import Derived.Deep.QuietTactic
import Derived.BigQuiet
import Derived.WideLaws
import Derived.Deep.DeepCutAuto
import Derived.Deep.CutBlock
import Derived.Deep.RegionHeld3
import Derived.Laws.Rows
import Derived.Lib.AppendStr
import Derived.ArgAppend
import Derived.Laws.IdiomCopy
import Derived.OrdersHeld
import Derived.Laws.BitsLemmas
import Derived.RowKit
import Derived.Laws.Runes
import Derived.Lib.SlBytesConst
import Derived.Test.YtfnmgccaioobhaaShelf
import Derived.Test.YtfnmgccaioobhaaWWords
import Derived.Test.YtfnmgccaioobhaaWLast
import Derived.Test.YtfnmgccaioobhaaWTab
import Derived.Test.YtfnmgccaioobhaaWFour
import Derived.Test.YtfnmgccaioobhaaWQPut
import Derived.Test.YtfnmgccaioobhaaWApart
import Derived.Test.YtfnmgccaioobhaaWArr
import Derived.Test.YtfnmgccaioobhaaWZeros
import Derived.Test.YtfnmgccaioobhaaWFoot
import Derived.Test.YtfnmgccaioobhaaWKept
import Derived.Test.YtfnmgccaioobhaaWShare
import Derived.Test.YtfnmgccaioobhaaWN
import Derived.Test.YtfnmgccaioobhaaWFootNe
import Derived.Test.YtfnmgccaioobhaaWAt
import Derived.Test.YtfnmgccaioobhaaWEqStruct
import Derived.Test.YtfnmgccaioobhaaWRepsOne
import Derived.Test.YtfnmgccaioobhaaWInv
import Derived.Test.YtfnmgccaioobhaaWInvWords
import Derived.Test.YtfnmgccaioobhaaWGuard
import Derived.Test.YtfnmgccaioobhaaWNEv
import Derived.Test.YtfnmgccaioobhaaWMore
namespace Go.Proofs.Ytfnmgccaioobhaa.QSpanOf
open Go.RowKit Go.Proofs.YtfnmgccaioobhaaW.PrintWords Go.Proofs.YtfnmgccaioobhaaW.PrintLast Go.Proofs.YtfnmgccaioobhaaW.PrintMore
attribute [local go_sem] max2_int min2_int max_two min_two max_three min_three max_four min_four   -- for this text's walks alone
set_option linter.unusedVariables false
set_option linter.unusedSimpArgs false



def errW : Option Int → Value
  | none => .nilIface
  | some c => .iface 0 (.int .i64 c)
theorem errW_none : errW none = .nilIface := rfl
theorem errW_some (c : Int) : errW (some c) = .iface 0 (.int .i64 c) := rfl

-- the values' own types

end Go.Proofs.Ytfnmgccaioobhaa.QSpanOf
