-- Made by wip/printx.py: the kit's print of law FnExactSeal, with functions proved by hand put in. Not trusted: Lean checks it.
import Derived.Test.YtnafmfhfonhmaaaPFnExactSealx0
import Derived.Test.YtnafmfhfonhmaaaPFnExactSealx1
import Derived.Test.YtnafmfhfonhmaaaPFnExactSealx2
import Derived.Test.YtnafmfhfonhmaaaPFnExactSealx3
import Derived.Test.YtnafmfhfonhmaaaPFnExactSealx4
import Derived.Test.YtnafmfhfonhmaaaEFnExactSealgrowbytebyte
namespace Go.Proofs.Ytnafmfhfonhmaaa.PFnExactSeal
open Go.RowKit Go.Proofs.YtnafmfhfonhmaaaW.PrintWords Go.Proofs.YtnafmfhfonhmaaaW.PrintLast Go.Proofs.YtnafmfhfonhmaaaW.PrintMore
attribute [local go_sem] max2_int min2_int max_two min_two max_three min_three max_four min_four   -- for this text's walks alone
set_option linter.unusedVariables false
set_option linter.unusedSimpArgs false

end Go.Proofs.Ytnafmfhfonhmaaa.PFnExactSeal
