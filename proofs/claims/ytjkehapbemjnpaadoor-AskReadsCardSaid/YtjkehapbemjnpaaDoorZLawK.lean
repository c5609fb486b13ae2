/- The law AskBack, walked by hand: it tells true; each condition stands in its theorem. -/
import Derived.Test.YtjkehapbemjnpaaDoorZWorks
import Derived.Test.YtjkehapbemjnpaaDoorZLight
import Derived.Test.YtjkehapbemjnpaaDoorZThere
import Derived.Deep.Cut
namespace Go.Proofs.YtjkehapbemjnpaaDoor
open Go.RowKit Go.Proofs.YtjkehapbemjnpaaDoorW.PrintWords Go.Proofs.YtjkehapbemjnpaaDoorW.PrintLast Go.Proofs.YtjkehapbemjnpaaDoorW.PrintMore Go.Proofs.YtjkehapbemjnpaaDoor.Lf Go.Proofs.YtjkehapbemjnpaaDoor.Kit Go.Proofs.YtjkehapbemjnpaaDoor.Cut Go.Proofs.YtjkehapbemjnpaaDoor.Pl Go.Proofs.YtjkehapbemjnpaaDoor.Num
set_option linter.unusedVariables false
set_option linter.unusedSimpArgs false
end Go.Proofs.YtjkehapbemjnpaaDoor
