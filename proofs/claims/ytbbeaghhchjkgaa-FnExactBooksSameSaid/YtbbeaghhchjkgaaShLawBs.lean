/- The law FnExactBooksSame, walked. No condition. -/
import Derived.Test.YtbbeaghhchjkgaaShBs
namespace Go.Proofs.Ytbbeaghhchjkgaa.Sh
open Go.RowKit
set_option linter.unusedVariables false
set_option maxHeartbeats 4000000 in
theorem laws_FnExactBooksSame {ca : List Account} {ci : List Instr} {cb : List Bal} {cl : List Lot} {ct : List Trade} {cn : Int} {ba : List Account} {bi : List Instr} {bb : List Bal} {bl : List Lot} {bt : List Trade} {bn : Int} : FC Try.prog 12 [bkV 0 ⟨ba, bi, bb, bl, bt, bn⟩, bkV 5 ⟨ca, ci, cb, cl, ct, cn⟩] (bkL ⟨ba, bi, bb, bl, bt, bn⟩ ++ bkL ⟨ca, ci, cb, cl, ct, cn⟩) (B true) (bkL ⟨ba, bi, bb, bl, bt, bn⟩ ++ bkL ⟨ca, ci, cb, cl, ct, cn⟩) := by
  refine fent tk 45 [.tmp 4] Try.func12 (by kernel_rfl) rfl rfl rfl rfl rfl rfl rfl ?_
  repeat' (first
    | (with_reducible apply zd); rfl; exact tk; rfl
    | (with_reducible first | intro _ | apply wseq | apply zreg | apply thenQ_n | apply thenQ_r | apply thenQ_e | apply znil | apply wret | apply bodyQ_r | apply wblk | apply blkQ_n | apply blkQ_r | apply wskip | apply wexit)
    | apply wct rfl
    | apply wcf rfl
    | (with_reducible apply zcmp); rfl; exact tk; rfl; rfl; rfl
    | (with_reducible apply zbl); rfl; exact tk; rfl; rfl; rfl; rfl; rfl; rfl; rfl
    | (with_reducible apply zne); rfl; exact tk; rfl; rfl; rfl; rfl
    | refine zdraw (id := 8) (by kernel_rfl) [(.t, 0), (.t, 2), (.o, 1), (.o, 3), (.o, 4), (.p, 5)] [] (by kernel_rfl) rfl ?_
    | refine zdraw (id := 14) (by kernel_rfl) [(.t, 0), (.t, 1), (.o, 2), (.o, 3), (.p, 4)] [] (by kernel_rfl) rfl ?_
    | refine zdraw (id := 16) (by kernel_rfl) [(.t, 0), (.t, 1), (.o, 2), (.o, 3), (.p, 4)] [] (by kernel_rfl) rfl ?_
    | (with_reducible apply zc); rfl; rfl; rfl; rfl; rfl; rfl; rfl; rfl; rfl; rfl; exact laws_szBooks (by first | omega | exact szBr (by omega) (by assumption)); exact fun _ => rfl; rfl; rfl; rfl
    | (with_reducible apply zcf); rfl; rfl; rfl; rfl; rfl; rfl; rfl; rfl; rfl; rfl; exact laws_toBooks (by assumption); rfl; rfl; rfl; rfl; rfl
    | (with_reducible apply zcp); rfl; rfl; rfl; rfl; rfl; rfl; rfl; rfl; rfl; rfl; (first | exact spec_BooksSame | exact impl_BooksSame | exact laws_eqBooks); rfl; rfl)
  all_goals first | exact endV [0, 1, 2, 3, 4, 5, 6, 7, 8, 9] rfl rfl rfl rfl rfl rfl | (exfalso; contradiction) | skip
  rename_i n1 n2
  have s1 := szBs (by omega) n1
  have s2 := szBs (szBr (by omega) n1) n2
  repeat' (first
    | (with_reducible apply zd); rfl; exact tk; rfl
    | (with_reducible first | intro _ | apply wseq | apply zreg | apply thenQ_n | apply thenQ_r | apply thenQ_e | apply znil | apply wret | apply bodyQ_r | apply wblk | apply blkQ_n | apply blkQ_r | apply wskip | apply wexit)
    | apply wct rfl
    | apply wcf rfl
    | (with_reducible apply zcmp); rfl; exact tk; rfl; rfl; rfl
    | (with_reducible apply zbl); rfl; exact tk; rfl; rfl; rfl; rfl; rfl; rfl; rfl
    | (with_reducible apply zne); rfl; exact tk; rfl; rfl; rfl; rfl
    | refine zdraw (id := 8) (by kernel_rfl) [(.t, 0), (.t, 2), (.o, 1), (.o, 3), (.o, 4), (.p, 5)] [] (by kernel_rfl) rfl ?_
    | refine zdraw (id := 14) (by kernel_rfl) [(.t, 0), (.t, 1), (.o, 2), (.o, 3), (.p, 4)] [] (by kernel_rfl) rfl ?_
    | refine zdraw (id := 16) (by kernel_rfl) [(.t, 0), (.t, 1), (.o, 2), (.o, 3), (.p, 4)] [] (by kernel_rfl) rfl ?_
    | (with_reducible apply zc); rfl; rfl; rfl; rfl; rfl; rfl; rfl; rfl; rfl; rfl; exact laws_szBooks (by first | omega | exact szBr (by omega) (by assumption)); exact fun _ => rfl; rfl; rfl; rfl
    | (with_reducible apply zcf); rfl; rfl; rfl; rfl; rfl; rfl; rfl; rfl; rfl; rfl; exact laws_toBooks (by assumption); rfl; rfl; rfl; rfl; rfl
    | (with_reducible apply zcp); rfl; rfl; rfl; rfl; rfl; rfl; rfl; rfl; rfl; rfl; (first | exact spec_BooksSame | exact impl_BooksSame | exact laws_eqBooks); rfl; rfl)
  all_goals first | exact endV [0, 1, 2, 3, 4, 5, 6, 7, 8, 9] rfl rfl rfl rfl rfl rfl | (exfalso; contradiction) | skip
end Go.Proofs.Ytbbeaghhchjkgaa.Sh
