-- Made by wip/printx.py: the kit's print of law FnReplyBytes, with functions proved by hand put in. Not trusted: Lean checks it.
import Derived.Test.YtnafmfhfonhmaaaPFnReplyBytesx0
import Derived.Test.YtnafmfhfonhmaaaPFnReplyBytesx1
import Derived.Test.YtnafmfhfonhmaaaPFnReplyBytesx2
import Derived.Test.YtnafmfhfonhmaaaPFnReplyBytesx3
import Derived.Test.YtnafmfhfonhmaaaPFnReplyBytesx4
import Derived.Test.YtnafmfhfonhmaaaPFnReplyBytesx5
import Derived.Test.YtnafmfhfonhmaaaPFnReplyBytesx6
import Derived.Test.YtnafmfhfonhmaaaPFnReplyBytesx7
import Derived.Test.YtnafmfhfonhmaaaPFnReplyBytesx8
import Derived.Test.YtnafmfhfonhmaaaPFnReplyBytesx9
import Derived.Test.YtnafmfhfonhmaaaEFnReplyBytesl1new
namespace Go.Proofs.Ytnafmfhfonhmaaa.PFnReplyBytes
open Go.RowKit Go.Proofs.YtnafmfhfonhmaaaW.PrintWords Go.Proofs.YtnafmfhfonhmaaaW.PrintLast Go.Proofs.YtnafmfhfonhmaaaW.PrintMore
attribute [local go_sem] max2_int min2_int max_two min_two max_three min_three max_four min_four   -- for this text's walks alone
set_option linter.unusedVariables false
set_option linter.unusedSimpArgs false

end Go.Proofs.Ytnafmfhfonhmaaa.PFnReplyBytes
