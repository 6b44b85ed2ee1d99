-- Made by wip/printx.py: the kit's print of law FnSeal, with functions proved by hand put in. Not trusted: Lean checks it.
import Derived.Test.YtnafmfhfonhmaaaPFnSealx0
import Derived.Test.YtnafmfhfonhmaaaPFnSealx1
import Derived.Test.YtnafmfhfonhmaaaPFnSealx2
import Derived.Test.YtnafmfhfonhmaaaPFnSealx3
import Derived.Test.YtnafmfhfonhmaaaPFnSealx4
import Derived.Test.YtnafmfhfonhmaaaPFnSealx5
import Derived.Test.YtnafmfhfonhmaaaEFnSealclonebytebyte
import Derived.Test.YtnafmfhfonhmaaaEFnSealgrowbytebyte
import Derived.Test.YtnafmfhfonhmaaaEFnSeall1new
namespace Go.Proofs.Ytnafmfhfonhmaaa.PFnSeal
open Go.RowKit Go.Proofs.YtnafmfhfonhmaaaW.PrintWords Go.Proofs.YtnafmfhfonhmaaaW.PrintLast Go.Proofs.YtnafmfhfonhmaaaW.PrintMore
attribute [local go_sem] max2_int min2_int max_two min_two max_three min_three max_four min_four   -- for this text's walks alone
set_option linter.unusedVariables false
set_option linter.unusedSimpArgs false

end Go.Proofs.Ytnafmfhfonhmaaa.PFnSeal
