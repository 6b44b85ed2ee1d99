/- The law FnExactBookPay, walked. No condition. -/
import Derived.Test.YtnlajjoheegbiaaGreatKPyShPv
import Derived.Test.YtnlajjoheegbiaaGreatKPyShMi
import Derived.Test.YtnlajjoheegbiaaGreatKPyShY
import Derived.Test.YtnlajjoheegbiaaGreatKPyShU
namespace Go.Proofs.YtnlajjoheegbiaaGreat.Sh
open Go.RowKit
set_option linter.unusedVariables false
set_option linter.unusedSimpArgs false
theorem fc_r2 {P : Program} {f : FuncId} {args : List AV} {hs hs0 : AH} {R : Books × Int × Int} {ra : List Account} {ri : List Instr} {rb : List Bal} {rl : List Lot} {rt : List Trade} {rn c0 c1 : Int} (h : FC P f args hs (.tup [bkE 5 R.1, I R.2.1, I R.2.2]) (hs0 ++ bkW R.1)) (e : R = (⟨ra, ri, rb, rl, rt, rn⟩, c0, c1)) : FC P f args hs (.tup [bkV 5 ⟨ra, ri, rb, rl, rt, rn⟩, I c0, I c1]) (hs0 ++ bkO ⟨ra, ri, rb, rl, rt, rn⟩) := by
  subst e
  exact h
theorem impl_BookPay_r {ba : List Account} {bi : List Instr} {bb : List Bal} {bl : List Lot} {bt : List Trade} {bn : Int} {pa ca py t : Int} {ra : List Account} {ri : List Instr} {rb : List Bal} {rl : List Lot} {rt : List Trade} {rn c0 c1 : Int} (e : bookPay ⟨ba, bi, bb, bl, bt, bn⟩ pa ca py t = (⟨ra, ri, rb, rl, rt, rn⟩, c0, c1)) : FC Tryz.prog 35 [bkV 0 ⟨ba, bi, bb, bl, bt, bn⟩, I pa, I ca, I py, I t] (bkR ⟨ba, bi, bb, bl, bt, bn⟩) (.tup [bkV 5 ⟨ra, ri, rb, rl, rt, rn⟩, I c0, I c1]) (bkR ⟨ba, bi, bb, bl, bt, bn⟩ ++ bkO ⟨ra, ri, rb, rl, rt, rn⟩) := fc_r2 impl_BookPay e
theorem spec_BookPay_r {ba : List Account} {bi : List Instr} {bb : List Bal} {bl : List Lot} {bt : List Trade} {bn : Int} {pa ca py t : Int} {ra : List Account} {ri : List Instr} {rb : List Bal} {rl : List Lot} {rt : List Trade} {rn c0 c1 : Int} (e : bookPay ⟨ba, bi, bb, bl, bt, bn⟩ pa ca py t = (⟨ra, ri, rb, rl, rt, rn⟩, c0, c1)) : FC Tryz.prog 34 [bkV 0 ⟨ba, bi, bb, bl, bt, bn⟩, I pa, I ca, I py, I t] (bkR ⟨ba, bi, bb, bl, bt, bn⟩) (.tup [bkV 5 ⟨ra, ri, rb, rl, rt, rn⟩, I c0, I c1]) (bkR ⟨ba, bi, bb, bl, bt, bn⟩ ++ bkO ⟨ra, ri, rb, rl, rt, rn⟩) := fc_r2 spec_BookPay e
theorem bookPay_mid {b : Books} {pa ca py t : Int} (s : Small b) : MidR (bookPay b pa ca py t).1 := by
  unfold bookPay
  exact sel_ind (P := fun R : Books × Int × Int => MidR R.1) (fun _ => mid0) fun c0 => sel_ind (P := fun R : Books × Int × Int => MidR R.1) (fun _ => s.mid) fun c1 => sel_ind (P := fun R : Books × Int × Int => MidR R.1) (fun _ => s.mid) fun c2 => sel_ind (P := fun R : Books × Int × Int => MidR R.1) (fun _ => s.mid) fun c3 => sel_ind (P := fun R : Books × Int × Int => MidR R.1) (fun _ => s.mid) fun c4 => sel_ind (P := fun R : Books × Int × Int => MidR R.1) (fun _ => s.mid) fun c5 => s.post (Classical.not_not.1 c5)
set_option maxHeartbeats 4000000 in
theorem laws_FnExactBookPay {ba : List Account} {bi : List Instr} {bb : List Bal} {bl : List Lot} {bt : List Trade} {bn : Int} {pa ca py t : Int} : FC Tryz.prog 7 [bkV 0 ⟨ba, bi, bb, bl, bt, bn⟩, I pa, I ca, I py, I t] (bkL ⟨ba, bi, bb, bl, bt, bn⟩) (B true) (bkL ⟨ba, bi, bb, bl, bt, bn⟩) := by
  refine fent tk 137 [.tmp 10] Tryz.func7 (by kernel_rfl) rfl rfl rfl rfl rfl rfl rfl ?_
  repeat' (first
 | (with_reducible apply zds); exact tk; rfl; rfl; rfl; rfl; rfl
 | (with_reducible apply zd); rfl; exact tk; rfl
 | (with_reducible first | intro _ | apply wseq | apply zreg | apply thenQ_n | apply thenQ_r | apply thenQ_e | apply znil | apply wret | apply bodyQ_r | apply wblk | apply blkQ_n | apply blkQ_r | apply wskip | apply wexit)
 | apply wct rfl
 | apply wcf rfl
 | (with_reducible apply zcmp); rfl; exact tk; rfl; rfl; rfl
 | (with_reducible apply zc); (iterate 10 rfl); exact laws_szBooks (by first | omega | exact szBr (by omega) (by assumption)); exact fun _ => rfl; rfl; rfl; rfl
 | fail)
  all_goals first | exact endV [0, 1, 2, 3, 4] rfl rfl rfl rfl rfl rfl | (exfalso; contradiction) | skip
  rename_i n1
  have s1 := szBs (by omega) n1
  have s2 := s1.mid
  obtain ⟨⟨ra, ri, rb, rl, rt, rn⟩, c0, c1, hr⟩ : ∃ r c0 c1, bookPay ⟨ba, bi, bb, bl, bt, bn⟩ pa ca py t = (r, c0, c1) := ⟨_, _, _, rfl⟩
  have s3 := bookPay_mid (pa := pa) (ca := ca) (py := py) (t := t) s1
  rw [hr] at s3
  have hmk := mkN_nn (k := 1) (na := ba.length) (ni := bi.length) (nb := bb.length) (nl := bl.length) (nt := bt.length) (by decide)
  have hmk2 := mkN_nn (k := 1) (na := ra.length) (ni := ri.length) (nb := rb.length) (nl := rl.length) (nt := rt.length) (by decide)
  unfold MidR at s3
  dsimp only at s2 s3
  repeat' (first
 | (intro h9; exfalso; first | contradiction | omega)
 | (with_reducible apply zds); exact tk; rfl; rfl; rfl; rfl; rfl
 | (with_reducible apply zd); rfl; exact tk; rfl
 | (with_reducible first | intro _ | apply wseq | apply zreg | apply thenQ_n | apply thenQ_r | apply thenQ_e | apply znil | apply wret | apply bodyQ_r | apply wblk | apply blkQ_n | apply blkQ_r | apply wskip | apply wexit)
 | apply wcf rfl
 | (with_reducible apply zcmp); rfl; exact tk; rfl; rfl; rfl
 | (with_reducible apply zne); rfl; exact tk; rfl; rfl; rfl; rfl
 | refine zdq (id := 10) rfl (by kernel_rfl) [(.t, 0), (.t, 1), (.o, 2), (.o, 3), (.p, 4)] [] (by kernel_rfl) rfl ?_
 | (with_reducible apply zcf); (iterate 10 rfl); (first | exact laws_toBooks (by assumption) | exact spec_BookPay_r (by assumption) | exact spec_BookPay | exact impl_BookPay_r (by assumption) | exact impl_BookPay); rfl; rfl; rfl; rfl; rfl
 | (with_reducible apply zcp); (iterate 10 rfl); exact laws_eqBooks; rfl; rfl
 | (with_reducible apply zcw  [true,true,true,true,true]); (iterate 10 rfl); exact laws_markBooks (by omega) (by assumption); rfl; rfl; rfl; rfl
 | (with_reducible apply zcq); (iterate 10 rfl); exact laws_heldBooks (by omega) (by assumption) (by first | assumption | exact Lens.mk'); rfl; rfl
 | fail)
  all_goals first | exact endV [0, 1, 2, 3, 4] rfl rfl rfl rfl rfl rfl | (exfalso; first | contradiction | omega) | skip
end Go.Proofs.YtnlajjoheegbiaaGreat.Sh
