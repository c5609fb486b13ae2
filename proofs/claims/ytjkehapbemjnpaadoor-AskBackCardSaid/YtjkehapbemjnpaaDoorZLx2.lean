/- Walks of the program's functions that a statement of this seat reaches: each comes to what its plain Lean function beside it tells; no condition beside those in each theorem. -/
import Derived.Test.YtjkehapbemjnpaaDoorZLx0
namespace Go.Proofs.YtjkehapbemjnpaaDoor.Lf
open Go.RowKit Go.Proofs.YtjkehapbemjnpaaDoorW.PrintWords Go.Proofs.YtjkehapbemjnpaaDoorW.PrintLast Go.Proofs.YtjkehapbemjnpaaDoorW.PrintMore
attribute [local go_sem] max2_int min2_int max_two min_two max_three min_three max_four min_four   -- for this text's walks alone
set_option linter.unusedVariables false
set_option linter.unusedSimpArgs false

/-! ### deedboxref07_Bits: function 76 -/

/-! ### deedboxref07_value: function 77 -/

/-! ### deedboxref07_Put: function 54 -/


/-! ### deedboxref07_number: function 86 -/

/-! ### deedboxref07_Get: function 68 -/



/-! ### deedboxref21_Number: function 70 -/



/-! ### deedboxref21_Digits: function 56 -/

/-! ### deedboxref33_told: function 55 -/




end Go.Proofs.YtjkehapbemjnpaaDoor.Lf
