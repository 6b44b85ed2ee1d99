/- The law FnExactBookSettle, walked. No condition. -/
import Derived.Test.YtnlajjoheegbiaaGreatKSfShSe
import Derived.Test.YtnlajjoheegbiaaGreatKSfShMi
import Derived.Test.YtnlajjoheegbiaaGreatKSfShY
import Derived.Test.YtnlajjoheegbiaaGreatKSfShU
namespace Go.Proofs.YtnlajjoheegbiaaGreat.Sh
open Go.RowKit
set_option linter.unusedVariables false
set_option linter.unusedSimpArgs false
theorem fc_r2 {P : Program} {f : FuncId} {args : List AV} {hs hs0 : AH} {R : Books × Int × Int} {ra : List Account} {ri : List Instr} {rb : List Bal} {rl : List Lot} {rt : List Trade} {rn c0 c1 : Int} (h : FC P f args hs (.tup [bkE 5 R.1, I R.2.1, I R.2.2]) (hs0 ++ bkW R.1)) (e : R = (⟨ra, ri, rb, rl, rt, rn⟩, c0, c1)) : FC P f args hs (.tup [bkV 5 ⟨ra, ri, rb, rl, rt, rn⟩, I c0, I c1]) (hs0 ++ bkO ⟨ra, ri, rb, rl, rt, rn⟩) := by
  subst e
  exact h
theorem impl_BookSettle_r {ba : List Account} {bi : List Instr} {bb : List Bal} {bl : List Lot} {bt : List Trade} {bn : Int} {no way : Int} {ra : List Account} {ri : List Instr} {rb : List Bal} {rl : List Lot} {rt : List Trade} {rn c0 c1 : Int} (e : bookSettle ⟨ba, bi, bb, bl, bt, bn⟩ no way = (⟨ra, ri, rb, rl, rt, rn⟩, c0, c1)) : FC Tryz.prog 37 [bkV 0 ⟨ba, bi, bb, bl, bt, bn⟩, I no, I way] (bkR ⟨ba, bi, bb, bl, bt, bn⟩) (.tup [bkV 5 ⟨ra, ri, rb, rl, rt, rn⟩, I c0, I c1]) (bkR ⟨ba, bi, bb, bl, bt, bn⟩ ++ bkO ⟨ra, ri, rb, rl, rt, rn⟩) := fc_r2 impl_BookSettle e
theorem spec_BookSettle_r {ba : List Account} {bi : List Instr} {bb : List Bal} {bl : List Lot} {bt : List Trade} {bn : Int} {no way : Int} {ra : List Account} {ri : List Instr} {rb : List Bal} {rl : List Lot} {rt : List Trade} {rn c0 c1 : Int} (e : bookSettle ⟨ba, bi, bb, bl, bt, bn⟩ no way = (⟨ra, ri, rb, rl, rt, rn⟩, c0, c1)) : FC Tryz.prog 36 [bkV 0 ⟨ba, bi, bb, bl, bt, bn⟩, I no, I way] (bkR ⟨ba, bi, bb, bl, bt, bn⟩) (.tup [bkV 5 ⟨ra, ri, rb, rl, rt, rn⟩, I c0, I c1]) (bkR ⟨ba, bi, bb, bl, bt, bn⟩ ++ bkO ⟨ra, ri, rb, rl, rt, rn⟩) := fc_r2 spec_BookSettle e
theorem open_len {l : List Lot} {n a c q k : Int} (h : opOk l n a c q k) : (opL l n a c q k).length ≤ 120 := by
  have h2 := h.2
  show (lotOpen l ⟨a, c, n + 1, q, k⟩).1.length ≤ 120
  by_cases c1 : LotsOk l ∧ lotF a c (n + 1) q k
  rotate_left
  · rw [lo_1 c1] at h2; exact absurd (show (1 : Int) = 0 from h2) (by decide)
  by_cases c2 : LotsOk (mrg l [⟨a, c, n + 1, q, k⟩])
  rotate_left
  · rw [lo_3 c1 c2] at h2; exact absurd (show (3 : Int) = 0 from h2) (by decide)
  rw [lo_0 c1 c2]
  exact c2.1.2
theorem Small.settle {b : Books} (s : Small b) {g : List Leg} (h : (poR b g).2 = 0) {l : List Lot} {n a c q k i m : Int} {x : Trade} (h2 : opOk l n a c q k) : MidR ⟨b.Accounts, b.Instrs, (poR b g).1, opL l n a c q k, upd b.Trades i x, m⟩ := by
  have m := s.mid
  have := post_len h
  have := open_len h2
  exact ⟨m.a1, m.a2, by show (balsPost b.Bals g (shA b.Accounts)).1.length ≤ 4294967296; omega, by show (opL l n a c q k).length ≤ 4294967296; omega, by show (upd b.Trades i x).length ≤ 4294967296; rw [upd_len]; exact m.a5⟩
theorem bookSettle_mid {b : Books} {no way : Int} (s : Small b) : MidR (bookSettle b no way).1 := by
  unfold bookSettle
  exact sel_ind (P := fun R : Books × Int × Int => MidR R.1) (fun _ => mid0) fun c0 => sel_ind (P := fun R : Books × Int × Int => MidR R.1) (fun _ => s.mid) fun c1 => sel_ind (P := fun R : Books × Int × Int => MidR R.1) (fun _ => s.mid) fun c2 => sel_ind (P := fun R : Books × Int × Int => MidR R.1) (fun _ => s.mid) fun c3 => sel_ind (P := fun R : Books × Int × Int => MidR R.1) (fun _ => s.mid) fun c4 => s.settle (Classical.not_not.1 c2) (Classical.not_not.1 c4)
set_option maxHeartbeats 4000000 in
theorem laws_FnExactBookSettle {ba : List Account} {bi : List Instr} {bb : List Bal} {bl : List Lot} {bt : List Trade} {bn : Int} {no way : Int} : FC Tryz.prog 8 [bkV 0 ⟨ba, bi, bb, bl, bt, bn⟩, I no, I way] (bkL ⟨ba, bi, bb, bl, bt, bn⟩) (B true) (bkL ⟨ba, bi, bb, bl, bt, bn⟩) := by
  refine fent tk 127 [.tmp 6] Tryz.func8 (by kernel_rfl) rfl rfl rfl rfl rfl rfl rfl ?_
  repeat' (first
 | (with_reducible apply zds); exact tk; rfl; rfl; rfl; rfl; rfl
 | (with_reducible apply zd); rfl; exact tk; rfl
 | (with_reducible first | intro _ | apply wseq | apply zreg | apply thenQ_n | apply thenQ_r | apply thenQ_e | apply znil | apply wret | apply bodyQ_r | apply wblk | apply blkQ_n | apply blkQ_r | apply wskip | apply wexit)
 | apply wct rfl
 | apply wcf rfl
 | (with_reducible apply zcmp); rfl; exact tk; rfl; rfl; rfl
 | (with_reducible apply zc); (iterate 10 rfl); exact laws_szBooks (by first | omega | exact szBr (by omega) (by assumption)); exact fun _ => rfl; rfl; rfl; rfl
 | fail)
  all_goals first | exact endV [0, 1, 2, 3, 4] rfl rfl rfl rfl rfl rfl | (exfalso; contradiction) | skip
  rename_i n1
  have s1 := szBs (by omega) n1
  have s2 := s1.mid
  obtain ⟨⟨ra, ri, rb, rl, rt, rn⟩, c0, c1, hr⟩ : ∃ r c0 c1, bookSettle ⟨ba, bi, bb, bl, bt, bn⟩ no way = (r, c0, c1) := ⟨_, _, _, rfl⟩
  have s3 := bookSettle_mid (no := no) (way := way) s1
  rw [hr] at s3
  have hmk := mkN_nn (k := 1) (na := ba.length) (ni := bi.length) (nb := bb.length) (nl := bl.length) (nt := bt.length) (by decide)
  have hmk2 := mkN_nn (k := 1) (na := ra.length) (ni := ri.length) (nb := rb.length) (nl := rl.length) (nt := rt.length) (by decide)
  unfold MidR at s3
  dsimp only at s2 s3
  repeat' (first
 | (intro h9; exfalso; first | contradiction | omega)
 | (with_reducible apply zds); exact tk; rfl; rfl; rfl; rfl; rfl
 | (with_reducible apply zd); rfl; exact tk; rfl
 | (with_reducible first | intro _ | apply wseq | apply zreg | apply thenQ_n | apply thenQ_r | apply thenQ_e | apply znil | apply wret | apply bodyQ_r | apply wblk | apply blkQ_n | apply blkQ_r | apply wskip | apply wexit)
 | apply wcf rfl
 | (with_reducible apply zcmp); rfl; exact tk; rfl; rfl; rfl
 | (with_reducible apply zne); rfl; exact tk; rfl; rfl; rfl; rfl
 | refine zdq (id := 10) rfl (by kernel_rfl) [(.t, 0), (.t, 1), (.o, 2), (.o, 3), (.p, 4)] [] (by kernel_rfl) rfl ?_
 | (with_reducible apply zcf); (iterate 10 rfl); (first | exact laws_toBooks (by assumption) | exact spec_BookSettle_r (by assumption) | exact spec_BookSettle | exact impl_BookSettle_r (by assumption) | exact impl_BookSettle); rfl; rfl; rfl; rfl; rfl
 | (with_reducible apply zcp); (iterate 10 rfl); exact laws_eqBooks; rfl; rfl
 | (with_reducible apply zcw  [true,true,true,true,true]); (iterate 10 rfl); exact laws_markBooks (by omega) (by assumption); rfl; rfl; rfl; rfl
 | (with_reducible apply zcq); (iterate 10 rfl); exact laws_heldBooks (by omega) (by assumption) (by first | assumption | exact Lens.mk'); rfl; rfl
 | fail)
  all_goals first | exact endV [0, 1, 2, 3, 4] rfl rfl rfl rfl rfl rfl | (exfalso; first | contradiction | omega) | skip
end Go.Proofs.YtnlajjoheegbiaaGreat.Sh
