/- The law AskBack, walked by hand: it tells true; each condition stands in its theorem. -/
import Derived.Test.YtjkehapbemjnpaaDoorVWorks
import Derived.Test.YtjkehapbemjnpaaDoorVLight
import Derived.Test.YtjkehapbemjnpaaDoorVCanon
import Derived.Deep.Cut
namespace Go.Proofs.YtjkehapbemjnpaaDoor
open Go.RowKit Go.Proofs.YtjkehapbemjnpaaDoorW.PrintWords Go.Proofs.YtjkehapbemjnpaaDoorW.PrintLast Go.Proofs.YtjkehapbemjnpaaDoorW.PrintMore Lf Kit Cut Pl Num
set_option linter.unusedVariables false
set_option linter.unusedSimpArgs false
end Go.Proofs.YtjkehapbemjnpaaDoor
