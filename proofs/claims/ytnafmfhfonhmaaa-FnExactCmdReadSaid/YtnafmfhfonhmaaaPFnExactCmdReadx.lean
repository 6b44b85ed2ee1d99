-- Made by wip/printx.py: the kit's print of law FnExactCmdRead, with functions proved by hand put in. Not trusted: Lean checks it.
import Derived.Test.YtnafmfhfonhmaaaPFnExactCmdReadx0
import Derived.Test.YtnafmfhfonhmaaaPFnExactCmdReadx1
import Derived.Test.YtnafmfhfonhmaaaPFnExactCmdReadx2
import Derived.Test.YtnafmfhfonhmaaaPFnExactCmdReadx3
import Derived.Test.YtnafmfhfonhmaaaPFnExactCmdReadx4
import Derived.Test.YtnafmfhfonhmaaaPFnExactCmdReadx5
import Derived.Test.YtnafmfhfonhmaaaPFnExactCmdReadx6
import Derived.Test.YtnafmfhfonhmaaaPFnExactCmdReadx7
namespace Go.Proofs.Ytnafmfhfonhmaaa.PFnExactCmdRead
open Go.RowKit Go.Proofs.YtnafmfhfonhmaaaW.PrintWords Go.Proofs.YtnafmfhfonhmaaaW.PrintLast Go.Proofs.YtnafmfhfonhmaaaW.PrintMore
attribute [local go_sem] max2_int min2_int max_two min_two max_three min_three max_four min_four   -- for this text's walks alone
set_option linter.unusedVariables false
set_option linter.unusedSimpArgs false

end Go.Proofs.Ytnafmfhfonhmaaa.PFnExactCmdRead
