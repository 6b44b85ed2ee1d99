-- Made by wip/printx.py: the kit's print of law FnExactReplyPack, with functions proved by hand put in. Not trusted: Lean checks it.
import Derived.Test.YtnafmfhfonhmaaaPFnExactReplyPackx0
import Derived.Test.YtnafmfhfonhmaaaPFnExactReplyPackx1
import Derived.Test.YtnafmfhfonhmaaaPFnExactReplyPackx2
import Derived.Test.YtnafmfhfonhmaaaPFnExactReplyPackx3
import Derived.Test.YtnafmfhfonhmaaaPFnExactReplyPackx4
namespace Go.Proofs.Ytnafmfhfonhmaaa.PFnExactReplyPack
open Go.RowKit Go.Proofs.YtnafmfhfonhmaaaW.PrintWords Go.Proofs.YtnafmfhfonhmaaaW.PrintLast Go.Proofs.YtnafmfhfonhmaaaW.PrintMore
attribute [local go_sem] max2_int min2_int max_two min_two max_three min_three max_four min_four   -- for this text's walks alone
set_option linter.unusedVariables false
set_option linter.unusedSimpArgs false

end Go.Proofs.Ytnafmfhfonhmaaa.PFnExactReplyPack
