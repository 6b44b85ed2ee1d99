-- Made by wip/printx.py: the kit's print of law FnNums, with functions proved by hand put in. Not trusted: Lean checks it.
import Derived.Test.YtnafmfhfonhmaaaPFnNumsx0
import Derived.Test.YtnafmfhfonhmaaaPFnNumsx1
import Derived.Test.YtnafmfhfonhmaaaPFnNumsx2
import Derived.Test.YtnafmfhfonhmaaaPFnNumsx3
import Derived.Test.YtnafmfhfonhmaaaPFnNumsx4
import Derived.Test.YtnafmfhfonhmaaaPFnNumsx5
import Derived.Test.YtnafmfhfonhmaaaEFnNumsl1new
namespace Go.Proofs.Ytnafmfhfonhmaaa.PFnNums
open Go.RowKit Go.Proofs.YtnafmfhfonhmaaaW.PrintWords Go.Proofs.YtnafmfhfonhmaaaW.PrintLast Go.Proofs.YtnafmfhfonhmaaaW.PrintMore
attribute [local go_sem] max2_int min2_int max_two min_two max_three min_three max_four min_four   -- for this text's walks alone
set_option linter.unusedVariables false
set_option linter.unusedSimpArgs false

end Go.Proofs.Ytnafmfhfonhmaaa.PFnNums
