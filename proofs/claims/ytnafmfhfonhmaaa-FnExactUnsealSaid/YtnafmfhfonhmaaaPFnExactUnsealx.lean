-- Made by wip/printx.py: the kit's print of law FnExactUnseal, with functions proved by hand put in. Not trusted: Lean checks it.
import Derived.Test.YtnafmfhfonhmaaaPFnExactUnsealx0
import Derived.Test.YtnafmfhfonhmaaaPFnExactUnsealx1
import Derived.Test.YtnafmfhfonhmaaaPFnExactUnsealx2
import Derived.Test.YtnafmfhfonhmaaaPFnExactUnsealx3
import Derived.Test.YtnafmfhfonhmaaaPFnExactUnsealx4
import Derived.Test.YtnafmfhfonhmaaaPFnExactUnsealx5
import Derived.Test.YtnafmfhfonhmaaaEFnExactUnsealclonebytebyte
namespace Go.Proofs.Ytnafmfhfonhmaaa.PFnExactUnseal
open Go.RowKit Go.Proofs.YtnafmfhfonhmaaaW.PrintWords Go.Proofs.YtnafmfhfonhmaaaW.PrintLast Go.Proofs.YtnafmfhfonhmaaaW.PrintMore
attribute [local go_sem] max2_int min2_int max_two min_two max_three min_three max_four min_four   -- for this text's walks alone
set_option linter.unusedVariables false
set_option linter.unusedSimpArgs false

end Go.Proofs.Ytnafmfhfonhmaaa.PFnExactUnseal
