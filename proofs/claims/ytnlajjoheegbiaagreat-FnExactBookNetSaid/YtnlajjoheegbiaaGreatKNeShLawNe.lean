/- The law FnExactBookNet, walked. No condition. -/
import Derived.Test.YtnlajjoheegbiaaGreatKNeShNe
import Derived.Test.YtnlajjoheegbiaaGreatKNeShLawSe
import Derived.Test.YtnlajjoheegbiaaGreatKNeShLawNl
namespace Go.Proofs.YtnlajjoheegbiaaGreat.Sh
open Go.RowKit
set_option linter.unusedVariables false
set_option linter.unusedSimpArgs false
theorem fc_rn {P : Program} {f : FuncId} {args : List AV} {hs hs0 : AH} {R : Books × List Leg × Int × Int} {ra : List Account} {ri : List Instr} {rb : List Bal} {rl : List Lot} {rt : List Trade} {rn c0 c1 : Int} {lg : List Leg} (h : FC P f args hs (.tup [bkE 5 R.1, .c (.row 10 0 R.2.1.length), I R.2.2.1, I R.2.2.2]) (hs0 ++ bkW R.1 ++ [ow 117 R.2.1])) (e : R = (⟨ra, ri, rb, rl, rt, rn⟩, lg, c0, c1)) : FC P f args hs (.tup [bkV 5 ⟨ra, ri, rb, rl, rt, rn⟩, .c (.row 10 0 lg.length), I c0, I c1]) (hs0 ++ bkO ⟨ra, ri, rb, rl, rt, rn⟩ ++ [ow 117 lg]) := by
  subst e
  exact h
theorem impl_BookNet_r {ba : List Account} {bi : List Instr} {bb : List Bal} {bl : List Lot} {bt : List Trade} {bn : Int} {fr to way : Int} {ra : List Account} {ri : List Instr} {rb : List Bal} {rl : List Lot} {rt : List Trade} {rn c0 c1 : Int} {lg : List Leg} (e : bookNet ⟨ba, bi, bb, bl, bt, bn⟩ fr to way = (⟨ra, ri, rb, rl, rt, rn⟩, lg, c0, c1)) : FC Tryz.prog 39 [bkV 0 ⟨ba, bi, bb, bl, bt, bn⟩, I fr, I to, I way] (bkR ⟨ba, bi, bb, bl, bt, bn⟩) (.tup [bkV 5 ⟨ra, ri, rb, rl, rt, rn⟩, .c (.row 10 0 lg.length), I c0, I c1]) (bkR ⟨ba, bi, bb, bl, bt, bn⟩ ++ bkO ⟨ra, ri, rb, rl, rt, rn⟩ ++ [ow 117 lg]) := fc_rn impl_BookNet e
theorem spec_BookNet_r {ba : List Account} {bi : List Instr} {bb : List Bal} {bl : List Lot} {bt : List Trade} {bn : Int} {fr to way : Int} {ra : List Account} {ri : List Instr} {rb : List Bal} {rl : List Lot} {rt : List Trade} {rn c0 c1 : Int} {lg : List Leg} (e : bookNet ⟨ba, bi, bb, bl, bt, bn⟩ fr to way = (⟨ra, ri, rb, rl, rt, rn⟩, lg, c0, c1)) : FC Tryz.prog 38 [bkV 0 ⟨ba, bi, bb, bl, bt, bn⟩, I fr, I to, I way] (bkR ⟨ba, bi, bb, bl, bt, bn⟩) (.tup [bkV 5 ⟨ra, ri, rb, rl, rt, rn⟩, .c (.row 10 0 lg.length), I c0, I c1]) (bkR ⟨ba, bi, bb, bl, bt, bn⟩ ++ bkO ⟨ra, ri, rb, rl, rt, rn⟩ ++ [ow 117 lg]) := fc_rn spec_BookNet e
theorem settle_midR {b : Books} (m : MidR b) {no way : Int} : MidR (bookSettle b no way).1 := by
  unfold bookSettle
  refine sel_ind (P := fun R : Books × Int × Int => MidR R.1) (fun _ => mid0) fun c0 => sel_ind (P := fun R : Books × Int × Int => MidR R.1) (fun _ => m) fun _ => sel_ind (P := fun R : Books × Int × Int => MidR R.1) (fun _ => m) fun c2 => sel_ind (P := fun R : Books × Int × Int => MidR R.1) (fun _ => m) fun _ => sel_ind (P := fun R : Books × Int × Int => MidR R.1) (fun _ => m) fun c4 => ?_
  have h1 := post_len (Classical.not_not.1 c2)
  have h2 := open_len (Classical.not_not.1 c4)
  exact ⟨m.a1, m.a2, by refine Nat.le_trans (m := 160) h1 (by decide), by refine Nat.le_trans (m := 120) h2 (by decide), by show (upd b.Trades _ _).length ≤ 4294967296; rw [upd_len]; exact m.a5⟩
theorem nsF_mid {way : Int} : ∀ (L : List Int) {s : Books × Int × Int}, MidR s.1 → MidR (L.foldl (stN way) s).1
  | [], _, h => h
  | x :: L, s, h => by
    rw [List.foldl_cons]
    refine nsF_mid L ?_
    unfold stN
    exact sel_ind (P := fun R : Books × Int × Int => MidR R.1) (fun _ => sel_ind (P := fun R : Books × Int × Int => MidR R.1) (fun _ => settle_midR h) fun _ => h) fun _ => h
theorem bookNet_mid {b : Books} {fr to way : Int} (s : Small b) : MidR (bookNet b fr to way).1 ∧ (bookNet b fr to way).2.1.length ≤ 120 := by
  have hz : ([] : List Leg).length ≤ 120 := by decide
  unfold bookNet
  exact sel_ind (P := fun R : Books × List Leg × Int × Int => MidR R.1 ∧ R.2.1.length ≤ 120) (fun _ => ⟨mid0, hz⟩) fun c0 => sel_ind (P := fun R : Books × List Leg × Int × Int => MidR R.1 ∧ R.2.1.length ≤ 120) (fun _ => ⟨s.mid, hz⟩) fun _ => sel_ind (P := fun R : Books × List Leg × Int × Int => MidR R.1 ∧ R.2.1.length ≤ 120) (fun _ => ⟨s.mid, hz⟩) fun _ => sel_ind (P := fun R : Books × List Leg × Int × Int => MidR R.1 ∧ R.2.1.length ≤ 120) (fun _ => ⟨s.mid, hz⟩) fun c => ⟨nsF_mid _ s.mid, netR_len (Classical.not_not.1 c).1⟩
theorem mkN_bd {na ni nb nl nt : Nat} (m : MidL na ni nb nl nt) : 0 ≤ mkNL 1 na ni nb nl nt ∧ mkNL 1 na ni nb nl nt ≤ 1099511627776 - 10000000 := by
  obtain ⟨q1, q2, q3, q4, q5⟩ := m
  unfold mkNL
  omega
set_option maxHeartbeats 4000000 in
theorem laws_FnExactBookNet {ba : List Account} {bi : List Instr} {bb : List Bal} {bl : List Lot} {bt : List Trade} {bn : Int} {fr to way : Int} : FC Tryz.prog 9 [bkV 0 ⟨ba, bi, bb, bl, bt, bn⟩, I fr, I to, I way] (bkL ⟨ba, bi, bb, bl, bt, bn⟩) (B true) (bkL ⟨ba, bi, bb, bl, bt, bn⟩) := by
  refine fent tk 169 [.tmp 8] Tryz.func9 (by kernel_rfl) rfl rfl rfl rfl rfl rfl rfl ?_
  repeat' (first
 | (with_reducible apply zds); exact tk; rfl; rfl; rfl; rfl; rfl
 | (with_reducible apply zd); rfl; exact tk; rfl
 | (with_reducible first | intro _ | apply wseq | apply zreg | apply thenQ_n | apply thenQ_r | apply thenQ_e | apply znil | apply wret | apply bodyQ_r | apply wblk | apply blkQ_n | apply blkQ_r | apply wskip | apply wexit)
 | apply wct rfl
 | apply wcf rfl
 | (with_reducible apply zcmp); rfl; exact tk; rfl; rfl; rfl
 | (with_reducible apply zc); (iterate 10 rfl); exact laws_szBooks (by first | omega | exact szBr (by omega) (by assumption)); exact fun _ => rfl; rfl; rfl; rfl
 | fail)
  all_goals first | exact endV [0, 1, 2, 3, 4] rfl rfl rfl rfl rfl rfl | (exfalso; contradiction) | skip
  rename_i n1
  have s1 := szBs (by omega) n1
  have s2 := s1.mid
  obtain ⟨⟨ra, ri, rb, rl, rt, rn⟩, lg, c0, c1, hr⟩ : ∃ r lg c0 c1, bookNet ⟨ba, bi, bb, bl, bt, bn⟩ fr to way = (r, lg, c0, c1) := ⟨_, _, _, _, rfl⟩
  obtain ⟨s3, hlg⟩ := bookNet_mid (fr := fr) (to := to) (way := way) s1
  rw [hr] at s3 hlg
  have hmk := mkN_nn (k := 1) (na := ba.length) (ni := bi.length) (nb := bb.length) (nl := bl.length) (nt := bt.length) (by decide)
  have hmk2 := mkN_nn (k := 1) (na := ra.length) (ni := ri.length) (nb := rb.length) (nl := rl.length) (nt := rt.length) (by decide)
  unfold MidR at s3
  dsimp only at s2 s3 hlg
  have hb2 := mkN_bd s3
  repeat' (first
 | (intro h9; exfalso; first | contradiction | omega)
 | (with_reducible apply zds); exact tk; rfl; rfl; rfl; rfl; rfl
 | (with_reducible apply zd); rfl; exact tk; rfl
 | (with_reducible first | intro _ | apply wseq | apply zreg | apply thenQ_n | apply thenQ_r | apply thenQ_e | apply znil | apply wret | apply bodyQ_r | apply wblk | apply blkQ_n | apply blkQ_r | apply wskip | apply wexit)
 | apply wcf rfl
 | (with_reducible apply zcmp); rfl; exact tk; rfl; rfl; rfl
 | (with_reducible apply zne); rfl; exact tk; rfl; rfl; rfl; rfl
 | refine zdq (id := 10) rfl (by kernel_rfl) [(.t, 0), (.t, 1), (.o, 2), (.o, 3), (.p, 4)] [] (by kernel_rfl) rfl ?_
 | (with_reducible apply zcf); (iterate 10 rfl); (first | exact laws_toBooks (by assumption) | exact spec_BookNet_r (by assumption) | exact spec_BookNet | exact impl_BookNet_r (by assumption) | exact impl_BookNet); rfl; rfl; rfl; rfl; rfl
 | (with_reducible apply zcp); (iterate 10 rfl); (first | exact laws_eqBooks | exact laws_eqLegS); rfl; rfl
 | (with_reducible apply zcw  [true,true,true,true,true]); (iterate 10 rfl); exact laws_markBooks (by omega) (by assumption); rfl; rfl; rfl; rfl
 | (with_reducible apply zcw  [true]); (iterate 10 rfl); exact laws_markLegS (by omega) (by omega); rfl; rfl; rfl; rfl
 | (with_reducible apply zcq); (iterate 10 rfl); (first | exact laws_heldBooks (by omega) (by assumption) (by first | assumption | exact Lens.mk') | exact laws_heldLegS (by omega) (by first | omega | (simp only [mkLeg_len]; omega)) (by first | assumption | simp only [mkLeg_len])); rfl; rfl
 | fail)
  all_goals first | exact endV [0, 1, 2, 3, 4] rfl rfl rfl rfl rfl rfl | (exfalso; first | contradiction | omega) | skip
  all_goals trace_state
end Go.Proofs.YtnlajjoheegbiaaGreat.Sh
