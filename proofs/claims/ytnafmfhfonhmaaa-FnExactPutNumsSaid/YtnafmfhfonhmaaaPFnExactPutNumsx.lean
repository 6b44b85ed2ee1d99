-- Made by wip/printx.py: the kit's print of law FnExactPutNums, with functions proved by hand put in. Not trusted: Lean checks it.
import Derived.Test.YtnafmfhfonhmaaaPFnExactPutNumsx0
import Derived.Test.YtnafmfhfonhmaaaPFnExactPutNumsx1
import Derived.Test.YtnafmfhfonhmaaaPFnExactPutNumsx2
import Derived.Test.YtnafmfhfonhmaaaPFnExactPutNumsx3
namespace Go.Proofs.Ytnafmfhfonhmaaa.PFnExactPutNums
open Go.RowKit Go.Proofs.YtnafmfhfonhmaaaW.PrintWords Go.Proofs.YtnafmfhfonhmaaaW.PrintLast Go.Proofs.YtnafmfhfonhmaaaW.PrintMore
attribute [local go_sem] max2_int min2_int max_two min_two max_three min_three max_four min_four   -- for this text's walks alone
set_option linter.unusedVariables false
set_option linter.unusedSimpArgs false

end Go.Proofs.Ytnafmfhfonhmaaa.PFnExactPutNums
