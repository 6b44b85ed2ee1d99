/- The law FnExactNetLegs, walked. No condition. -/
import Derived.Test.YtnlajjoheegbiaaGreatShNn
import Derived.Test.YtnlajjoheegbiaaGreatShY2
namespace Go.Proofs.YtnlajjoheegbiaaGreat.Sh
open Go.RowKit
set_option linter.unusedVariables false
set_option linter.unusedSimpArgs false
theorem fold_len (G L : List Leg) : (G.foldl nt L).length ≤ L.length + G.length := by
  induction G generalizing L with
  | nil => simp
  | cons x G ih =>
    have h1 := ih (nt L x)
    have h2 := nt_len L x
    rw [List.foldl_cons, List.length_cons]
    omega
theorem lgs_len (bt : List Trade) (nos : List Int) : (lgs bt nos).length = 4 * nos.length := by
  induction nos with
  | nil => rfl
  | cons x nos ih =>
    have e : lgs bt (x :: nos) = legT bt x ++ lgs bt nos := rfl
    have e2 : (legT bt x).length = 4 := rfl
    rw [e, List.length_append, ih, e2, List.length_cons]
    omega
theorem netR_len {b : Books} {nos : List Int} (h : NetOk b nos) : (netR b nos).length ≤ 120 := by
  have h1 := flt_le (fun x : Leg => ¬ (x.Amount = 0)) (ntA (lgs b.Trades nos))
  have h2 := fold_len (lgs b.Trades nos) []
  have h3 := lgs_len b.Trades nos
  have h4 := h.2.1
  have h5 : ([] : List Leg).length = 0 := rfl
  unfold netR
  unfold ntA at *
  omega
set_option maxHeartbeats 4000000 in
theorem laws_FnExactNetLegs {ba : List Account} {bi : List Instr} {bb : List Bal} {bl : List Lot} {bt : List Trade} {bn : Int} {nos : List Int} : FC Tryz.prog 4 [bkV 0 ⟨ba, bi, bb, bl, bt, bn⟩, .c (.row 5 0 nos.length)] (bkL ⟨ba, bi, bb, bl, bt, bn⟩ ++ [ro 3 nos]) (B true) (bkL ⟨ba, bi, bb, bl, bt, bn⟩ ++ [ro 3 nos]) := by
  refine fent tk 117 [.tmp 4] Tryz.func4 (by kernel_rfl) rfl rfl rfl rfl rfl rfl rfl ?_
  repeat' (first
    | (with_reducible apply zds); exact tk; rfl; rfl; rfl; rfl; rfl
    | (with_reducible apply zd); rfl; exact tk; rfl
    | (with_reducible first | intro _ | apply wseq | apply zreg | apply thenQ_n | apply thenQ_r | apply thenQ_e | apply znil | apply wret | apply bodyQ_r | apply wblk | apply blkQ_n | apply blkQ_r | apply wskip | apply wexit)
    | apply wct rfl
    | apply wcf rfl
    | (with_reducible apply zcmp); rfl; exact tk; rfl; rfl; rfl
    | (with_reducible apply zbl); rfl; exact tk; rfl; rfl; rfl; rfl; rfl; rfl; rfl
    | (with_reducible apply zne); rfl; exact tk; rfl; rfl; rfl; rfl
    | refine zdq (id := 13) rfl (by kernel_rfl) [(.t, 0), (.t, 1), (.o, 2), (.o, 3), (.p, 4)] [] (by kernel_rfl) rfl ?_
    | (with_reducible apply zc); rfl; rfl; rfl; rfl; rfl; rfl; rfl; rfl; rfl; rfl; exact laws_szBooks (by first | omega | exact szBr (by omega) (by assumption)); exact fun _ => rfl; rfl; rfl; rfl
    | (with_reducible apply zcf); rfl; rfl; rfl; rfl; rfl; rfl; rfl; rfl; rfl; rfl; (first | exact laws_toBooks (by assumption) | exact laws_toIntS (by omega)); rfl; rfl; rfl; rfl; rfl
    | (with_reducible apply zcsf); rfl; rfl; rfl; rfl; rfl; rfl; rfl; rfl; rfl; rfl; (first | exact spec_NetLegs | exact impl_NetLegs); rfl; rfl; rfl; rfl; rfl; rfl; rfl; rfl
    | (with_reducible apply zcp); rfl; rfl; rfl; rfl; rfl; rfl; rfl; rfl; rfl; rfl; (first | exact laws_eqLegS | exact laws_eqBooks | exact laws_eqIntS); rfl; rfl
    | (with_reducible apply zcw  [true,true,true,true,true]); rfl; rfl; rfl; rfl; rfl; rfl; rfl; rfl; rfl; rfl; exact laws_markBooks (by omega) (by assumption); rfl; rfl; rfl; rfl
    | (with_reducible apply zcw  [true]); rfl; rfl; rfl; rfl; rfl; rfl; rfl; rfl; rfl; rfl; (first | exact laws_markIntS (by omega) (by omega) | exact laws_markLegS (by omega) (by omega)); rfl; rfl; rfl; rfl
    | (with_reducible apply zcq); rfl; rfl; rfl; rfl; rfl; rfl; rfl; rfl; rfl; rfl; exact laws_heldLegS (by omega) (by first | omega | (simp only [mkLeg_len]; omega)) (by first | assumption | simp only [mkLeg_len]); rfl; rfl
    | fail)
  all_goals first | exact endV [0, 1, 2, 3, 4, 5] rfl rfl rfl rfl rfl rfl | (exfalso; contradiction) | skip
  rename_i n0 n1
  have s1 := szBs (by omega) n1
  have s2 := s1.mid
  obtain ⟨q1, q2, q3, q4, q5⟩ := id s1
  have hk1 : 0 ≤ mkNL 1 ba.length bi.length bb.length bl.length bt.length ∧ mkNL 1 ba.length bi.length bb.length bl.length bt.length ≤ 1099511627776 - 10000000 := by
    dsimp only at q1 q2 q3 q4 q5
    unfold mkNL
    omega
  dsimp only at s2
  clear q1 q2 q3 q4 q5
  have hz : ([] : List Leg).length = 0 := rfl
  by_cases hok : NetOk ⟨ba, bi, bb, bl, bt, bn⟩ nos
  · have hl := netR_len hok
    repeat' (first
      | (intro h9; exfalso; first | contradiction | omega)
      | (with_reducible apply zds); exact tk; rfl; rfl; rfl; rfl; rfl
      | (with_reducible apply zd); rfl; exact tk; rfl
      | (with_reducible first | intro _ | apply wseq | apply zreg | apply thenQ_n | apply thenQ_r | apply thenQ_e | apply znil | apply wret | apply bodyQ_r | apply wblk | apply blkQ_n | apply blkQ_r | apply wskip | apply wexit)
      | apply wct rfl
      | apply wcf rfl
      | (with_reducible apply zcmp); rfl; exact tk; rfl; rfl; rfl
      | (with_reducible apply zbl); rfl; exact tk; rfl; rfl; rfl; rfl; rfl; rfl; rfl
      | (with_reducible apply zne); rfl; exact tk; rfl; rfl; rfl; rfl
      | refine zdq (id := 13) rfl (by kernel_rfl) [(.t, 0), (.t, 1), (.o, 2), (.o, 3), (.p, 4)] [] (by kernel_rfl) rfl ?_
      | (with_reducible apply zc); rfl; rfl; rfl; rfl; rfl; rfl; rfl; rfl; rfl; rfl; exact laws_szBooks (by first | omega | exact szBr (by omega) (by assumption)); exact fun _ => rfl; rfl; rfl; rfl
      | (with_reducible apply zcf); rfl; rfl; rfl; rfl; rfl; rfl; rfl; rfl; rfl; rfl; (first | exact laws_toBooks (by assumption) | exact laws_toIntS (by omega)); rfl; rfl; rfl; rfl; rfl
      | (with_reducible apply zcsf); rfl; rfl; rfl; rfl; rfl; rfl; rfl; rfl; rfl; rfl; (first | exact spec_NetLegs | exact impl_NetLegs); rfl; rfl; rfl; rfl; rfl; rfl; rfl; rfl
      | (with_reducible apply zcp); rfl; rfl; rfl; rfl; rfl; rfl; rfl; rfl; rfl; rfl; (first | exact laws_eqLegS | exact laws_eqBooks | exact laws_eqIntS); rfl; rfl
      | (with_reducible apply zcw  [true,true,true,true,true]); rfl; rfl; rfl; rfl; rfl; rfl; rfl; rfl; rfl; rfl; exact laws_markBooks (by omega) (by assumption); rfl; rfl; rfl; rfl
      | (with_reducible apply zcw  [true]); rfl; rfl; rfl; rfl; rfl; rfl; rfl; rfl; rfl; rfl; (first | exact laws_markIntS (by omega) (by omega) | exact laws_markLegS (by omega) (by omega)); rfl; rfl; rfl; rfl
      | (with_reducible apply zcq); rfl; rfl; rfl; rfl; rfl; rfl; rfl; rfl; rfl; rfl; exact laws_heldLegS (by omega) (by first | omega | (simp only [mkLeg_len]; omega)) (by first | assumption | simp only [mkLeg_len]); rfl; rfl
      | fail)
    all_goals first | exact endV [0, 1, 2, 3, 4, 5] rfl rfl rfl rfl rfl rfl | (exfalso; first | contradiction | omega) | skip
    all_goals trace_state
  ·
    repeat' (first
      | (intro h9; exfalso; first | contradiction | omega)
      | (with_reducible apply zds); exact tk; rfl; rfl; rfl; rfl; rfl
      | (with_reducible apply zd); rfl; exact tk; rfl
      | (with_reducible first | intro _ | apply wseq | apply zreg | apply thenQ_n | apply thenQ_r | apply thenQ_e | apply znil | apply wret | apply bodyQ_r | apply wblk | apply blkQ_n | apply blkQ_r | apply wskip | apply wexit)
      | apply wct rfl
      | apply wcf rfl
      | (with_reducible apply zcmp); rfl; exact tk; rfl; rfl; rfl
      | (with_reducible apply zbl); rfl; exact tk; rfl; rfl; rfl; rfl; rfl; rfl; rfl
      | (with_reducible apply zne); rfl; exact tk; rfl; rfl; rfl; rfl
      | refine zdq (id := 13) rfl (by kernel_rfl) [(.t, 0), (.t, 1), (.o, 2), (.o, 3), (.p, 4)] [] (by kernel_rfl) rfl ?_
      | (with_reducible apply zc); rfl; rfl; rfl; rfl; rfl; rfl; rfl; rfl; rfl; rfl; exact laws_szBooks (by first | omega | exact szBr (by omega) (by assumption)); exact fun _ => rfl; rfl; rfl; rfl
      | (with_reducible apply zcf); rfl; rfl; rfl; rfl; rfl; rfl; rfl; rfl; rfl; rfl; (first | exact laws_toBooks (by assumption) | exact laws_toIntS (by omega)); rfl; rfl; rfl; rfl; rfl
      | (with_reducible apply zcsf); rfl; rfl; rfl; rfl; rfl; rfl; rfl; rfl; rfl; rfl; (first | exact spec_NetLegs | exact impl_NetLegs); rfl; rfl; rfl; rfl; rfl; rfl; rfl; rfl
      | (with_reducible apply zcp); rfl; rfl; rfl; rfl; rfl; rfl; rfl; rfl; rfl; rfl; (first | exact laws_eqLegS | exact laws_eqBooks | exact laws_eqIntS); rfl; rfl
      | (with_reducible apply zcw  [true,true,true,true,true]); rfl; rfl; rfl; rfl; rfl; rfl; rfl; rfl; rfl; rfl; exact laws_markBooks (by omega) (by assumption); rfl; rfl; rfl; rfl
      | (with_reducible apply zcw  [true]); rfl; rfl; rfl; rfl; rfl; rfl; rfl; rfl; rfl; rfl; (first | exact laws_markIntS (by omega) (by omega) | exact laws_markLegS (by omega) (by omega)); rfl; rfl; rfl; rfl
      | (with_reducible apply zcq); rfl; rfl; rfl; rfl; rfl; rfl; rfl; rfl; rfl; rfl; exact laws_heldLegS (by omega) (by first | omega | (simp only [mkLeg_len]; omega)) (by first | assumption | simp only [mkLeg_len]); rfl; rfl
      | fail)
    all_goals first | exact endV [0, 1, 2, 3, 4, 5] rfl rfl rfl rfl rfl rfl | (exfalso; first | contradiction | omega) | skip
    all_goals trace_state
end Go.Proofs.YtnlajjoheegbiaaGreat.Sh
