/- The law FnExactHeld, walked. No condition. -/
import Derived.Test.YtnlajjoheegbiaaShHe
import Derived.Test.YtnlajjoheegbiaaShY2
namespace Go.Proofs.Ytnlajjoheegbiaa.Sh
open Go.RowKit
set_option linter.unusedVariables false
set_option linter.unusedSimpArgs false
set_option maxHeartbeats 4000000 in
theorem laws_FnExactHeld {ba : List Account} {bi : List Instr} {bb : List Bal} {bl : List Lot} {bt : List Trade} {bn : Int} {p : Int} : FC Try.prog 4 [bkV 0 ⟨ba, bi, bb, bl, bt, bn⟩, I p] (bkL ⟨ba, bi, bb, bl, bt, bn⟩) (B true) (bkL ⟨ba, bi, bb, bl, bt, bn⟩) := by
  refine fent tk 159 [.tmp 4] Try.func4 (by kernel_rfl) rfl rfl rfl rfl rfl rfl rfl ?_
  repeat' (first
    | (with_reducible apply zds); exact tk; rfl; rfl; rfl; rfl; rfl
    | (with_reducible apply zd); rfl; exact tk; rfl
    | (with_reducible first | intro _ | apply wseq | apply zreg | apply thenQ_n | apply thenQ_r | apply thenQ_e | apply znil | apply wret | apply bodyQ_r | apply wblk | apply blkQ_n | apply blkQ_r | apply wskip | apply wexit)
    | apply wct rfl
    | apply wcf rfl
    | (with_reducible apply zcmp); rfl; exact tk; rfl; rfl; rfl
    | (with_reducible apply zbl); rfl; exact tk; rfl; rfl; rfl; rfl; rfl; rfl; rfl
    | (with_reducible apply zne); rfl; exact tk; rfl; rfl; rfl; rfl
    | refine zdq (id := 10) rfl (by kernel_rfl) [(.t, 0), (.t, 1), (.o, 2), (.o, 3), (.p, 4)] [] (by kernel_rfl) rfl ?_
    | (with_reducible apply zc); rfl; rfl; rfl; rfl; rfl; rfl; rfl; rfl; rfl; rfl; exact laws_szBooks (by first | omega | exact szBr (by omega) (by assumption)); exact fun _ => rfl; rfl; rfl; rfl
    | (with_reducible apply zcf); rfl; rfl; rfl; rfl; rfl; rfl; rfl; rfl; rfl; rfl; exact laws_toBooks (by assumption); rfl; rfl; rfl; rfl; rfl
    | (with_reducible apply zcsf); rfl; rfl; rfl; rfl; rfl; rfl; rfl; rfl; rfl; rfl; (first | exact spec_Held | exact impl_Held); rfl; rfl; rfl; rfl; rfl; rfl; rfl; rfl
    | (with_reducible apply zcp); rfl; rfl; rfl; rfl; rfl; rfl; rfl; rfl; rfl; rfl; (first | exact laws_eqIntS | exact laws_eqBooks); rfl; rfl
    | (with_reducible apply zcw  [true,true,true,true,true]); rfl; rfl; rfl; rfl; rfl; rfl; rfl; rfl; rfl; rfl; exact laws_markBooks (by omega) (by assumption); rfl; rfl; rfl; rfl
    | (with_reducible apply zcw  [true]); rfl; rfl; rfl; rfl; rfl; rfl; rfl; rfl; rfl; rfl; exact laws_markIntS (by omega) (by omega); rfl; rfl; rfl; rfl
    | (with_reducible apply zcq); rfl; rfl; rfl; rfl; rfl; rfl; rfl; rfl; rfl; rfl; exact laws_heldIntS (by omega) (by simp only [mkInt_len]; omega) (by simp only [mkInt_len]); rfl; rfl
    | fail)
  all_goals first | exact endV [0, 1, 2, 3, 4] rfl rfl rfl rfl rfl rfl | (exfalso; contradiction) | skip
  rename_i n1
  have s1 := szBs (by omega) n1
  have s2 := s1.mid
  have hmk := mkN_nn (k := 1) (na := ba.length) (ni := bi.length) (nb := bb.length) (nl := bl.length) (nt := bt.length) (by decide)
  dsimp only at s2
  have hz : ([] : List Int).length = 0 := rfl
  have hba := s1.a1
  dsimp only at hba
  have hw := who_len ba bb p
  have hm := much_len ba bb p
  by_cases hok : HeldOk ⟨ba, bi, bb, bl, bt, bn⟩ p
  ·
    repeat' (first
      | (with_reducible apply zds); exact tk; rfl; rfl; rfl; rfl; rfl
      | (with_reducible apply zd); rfl; exact tk; rfl
      | (with_reducible first | intro _ | apply wseq | apply zreg | apply thenQ_n | apply thenQ_r | apply thenQ_e | apply znil | apply wret | apply bodyQ_r | apply wblk | apply blkQ_n | apply blkQ_r | apply wskip | apply wexit)
      | apply wct rfl
      | apply wcf rfl
      | (with_reducible apply zcmp); rfl; exact tk; rfl; rfl; rfl
      | (with_reducible apply zbl); rfl; exact tk; rfl; rfl; rfl; rfl; rfl; rfl; rfl
      | (with_reducible apply zne); rfl; exact tk; rfl; rfl; rfl; rfl
      | refine zdq (id := 10) rfl (by kernel_rfl) [(.t, 0), (.t, 1), (.o, 2), (.o, 3), (.p, 4)] [] (by kernel_rfl) rfl ?_
      | (with_reducible apply zc); rfl; rfl; rfl; rfl; rfl; rfl; rfl; rfl; rfl; rfl; exact laws_szBooks (by first | omega | exact szBr (by omega) (by assumption)); exact fun _ => rfl; rfl; rfl; rfl
      | (with_reducible apply zcf); rfl; rfl; rfl; rfl; rfl; rfl; rfl; rfl; rfl; rfl; exact laws_toBooks (by assumption); rfl; rfl; rfl; rfl; rfl
      | (with_reducible apply zcsf); rfl; rfl; rfl; rfl; rfl; rfl; rfl; rfl; rfl; rfl; (first | exact spec_Held | exact impl_Held); rfl; rfl; rfl; rfl; rfl; rfl; rfl; rfl
      | (with_reducible apply zcp); rfl; rfl; rfl; rfl; rfl; rfl; rfl; rfl; rfl; rfl; (first | exact laws_eqIntS | exact laws_eqBooks); rfl; rfl
      | (with_reducible apply zcw  [true,true,true,true,true]); rfl; rfl; rfl; rfl; rfl; rfl; rfl; rfl; rfl; rfl; exact laws_markBooks (by omega) (by assumption); rfl; rfl; rfl; rfl
      | (with_reducible apply zcw  [true]); rfl; rfl; rfl; rfl; rfl; rfl; rfl; rfl; rfl; rfl; exact laws_markIntS (by omega) (by omega); rfl; rfl; rfl; rfl
      | (with_reducible apply zcq); rfl; rfl; rfl; rfl; rfl; rfl; rfl; rfl; rfl; rfl; exact laws_heldIntS (by omega) (by simp only [mkInt_len]; omega) (by simp only [mkInt_len]); rfl; rfl
      | fail)
    all_goals first | exact endV [0, 1, 2, 3, 4] rfl rfl rfl rfl rfl rfl | (exfalso; first | contradiction | omega) | skip
  ·
    repeat' (first
      | (with_reducible apply zds); exact tk; rfl; rfl; rfl; rfl; rfl
      | (with_reducible apply zd); rfl; exact tk; rfl
      | (with_reducible first | intro _ | apply wseq | apply zreg | apply thenQ_n | apply thenQ_r | apply thenQ_e | apply znil | apply wret | apply bodyQ_r | apply wblk | apply blkQ_n | apply blkQ_r | apply wskip | apply wexit)
      | apply wct rfl
      | apply wcf rfl
      | (with_reducible apply zcmp); rfl; exact tk; rfl; rfl; rfl
      | (with_reducible apply zbl); rfl; exact tk; rfl; rfl; rfl; rfl; rfl; rfl; rfl
      | (with_reducible apply zne); rfl; exact tk; rfl; rfl; rfl; rfl
      | refine zdq (id := 10) rfl (by kernel_rfl) [(.t, 0), (.t, 1), (.o, 2), (.o, 3), (.p, 4)] [] (by kernel_rfl) rfl ?_
      | (with_reducible apply zc); rfl; rfl; rfl; rfl; rfl; rfl; rfl; rfl; rfl; rfl; exact laws_szBooks (by first | omega | exact szBr (by omega) (by assumption)); exact fun _ => rfl; rfl; rfl; rfl
      | (with_reducible apply zcf); rfl; rfl; rfl; rfl; rfl; rfl; rfl; rfl; rfl; rfl; exact laws_toBooks (by assumption); rfl; rfl; rfl; rfl; rfl
      | (with_reducible apply zcsf); rfl; rfl; rfl; rfl; rfl; rfl; rfl; rfl; rfl; rfl; (first | exact spec_Held | exact impl_Held); rfl; rfl; rfl; rfl; rfl; rfl; rfl; rfl
      | (with_reducible apply zcp); rfl; rfl; rfl; rfl; rfl; rfl; rfl; rfl; rfl; rfl; (first | exact laws_eqIntS | exact laws_eqBooks); rfl; rfl
      | (with_reducible apply zcw  [true,true,true,true,true]); rfl; rfl; rfl; rfl; rfl; rfl; rfl; rfl; rfl; rfl; exact laws_markBooks (by omega) (by assumption); rfl; rfl; rfl; rfl
      | (with_reducible apply zcw  [true]); rfl; rfl; rfl; rfl; rfl; rfl; rfl; rfl; rfl; rfl; exact laws_markIntS (by omega) (by omega); rfl; rfl; rfl; rfl
      | (with_reducible apply zcq); rfl; rfl; rfl; rfl; rfl; rfl; rfl; rfl; rfl; rfl; exact laws_heldIntS (by omega) (by simp only [mkInt_len]; omega) (by simp only [mkInt_len]); rfl; rfl
      | fail)
    all_goals first | exact endV [0, 1, 2, 3, 4] rfl rfl rfl rfl rfl rfl | (exfalso; first | contradiction | omega) | skip
end Go.Proofs.Ytnlajjoheegbiaa.Sh
