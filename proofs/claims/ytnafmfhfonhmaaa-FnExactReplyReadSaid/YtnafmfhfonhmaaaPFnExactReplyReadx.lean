-- PRINTED BY print.sh 35421559b90ae4d0a3588c463048766b98c2df88dd9212a6774a882060cdf62d: not written by this session
import Derived.Test.YtnafmfhfonhmaaaPFnExactReplyReadx0
import Derived.Test.YtnafmfhfonhmaaaPFnExactReplyReadx1
import Derived.Test.YtnafmfhfonhmaaaPFnExactReplyReadx2
import Derived.Test.YtnafmfhfonhmaaaPFnExactReplyReadx3
import Derived.Test.YtnafmfhfonhmaaaPFnExactReplyReadx4
import Derived.Test.YtnafmfhfonhmaaaPFnExactReplyReadx5
namespace Go.Proofs.Ytnafmfhfonhmaaa.PFnExactReplyRead
open Go.RowKit Go.Proofs.YtnafmfhfonhmaaaW.PrintWords Go.Proofs.YtnafmfhfonhmaaaW.PrintLast Go.Proofs.YtnafmfhfonhmaaaW.PrintMore
attribute [local go_sem] max2_int min2_int max_two min_two max_three min_three max_four min_four   -- for this text's walks alone
set_option linter.unusedVariables false
set_option linter.unusedSimpArgs false

end Go.Proofs.Ytnafmfhfonhmaaa.PFnExactReplyRead
