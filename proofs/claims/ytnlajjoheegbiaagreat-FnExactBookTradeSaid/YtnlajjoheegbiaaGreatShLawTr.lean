/- The law FnExactBookTrade, walked. No condition. -/
import Derived.Test.YtnlajjoheegbiaaGreatShTr2
import Derived.Test.YtnlajjoheegbiaaGreatShY2
namespace Go.Proofs.YtnlajjoheegbiaaGreat.Sh
open Go.RowKit
set_option linter.unusedVariables false
set_option linter.unusedSimpArgs false
theorem fc_r {P : Program} {f : FuncId} {args : List AV} {hs hs0 : AH} {R : Books × Int} {ra : List Account} {ri : List Instr} {rb : List Bal} {rl : List Lot} {rt : List Trade} {rn c : Int} (h : FC P f args hs (.tup [bkE 5 R.1, I R.2]) (hs0 ++ bkW R.1)) (e : R = (⟨ra, ri, rb, rl, rt, rn⟩, c)) : FC P f args hs (.tup [bkV 5 ⟨ra, ri, rb, rl, rt, rn⟩, I c]) (hs0 ++ bkO ⟨ra, ri, rb, rl, rt, rn⟩) := by
  subst e
  exact h
theorem impl_BookTrade_r {ba : List Account} {bi : List Instr} {bb : List Bal} {bl : List Lot} {bt : List Trade} {bn : Int} {no bu se pa qt ca pr : Int} {ra : List Account} {ri : List Instr} {rb : List Bal} {rl : List Lot} {rt : List Trade} {rn c : Int} (e : bookTrade ⟨ba, bi, bb, bl, bt, bn⟩ no bu se pa qt ca pr = (⟨ra, ri, rb, rl, rt, rn⟩, c)) : FC Tryz.prog 30 [bkV 0 ⟨ba, bi, bb, bl, bt, bn⟩, I no, I bu, I se, I pa, I qt, I ca, I pr] (bkR ⟨ba, bi, bb, bl, bt, bn⟩) (.tup [bkV 5 ⟨ra, ri, rb, rl, rt, rn⟩, I c]) (bkR ⟨ba, bi, bb, bl, bt, bn⟩ ++ bkO ⟨ra, ri, rb, rl, rt, rn⟩) := fc_r impl_BookTrade e
theorem spec_BookTrade_r {ba : List Account} {bi : List Instr} {bb : List Bal} {bl : List Lot} {bt : List Trade} {bn : Int} {no bu se pa qt ca pr : Int} {ra : List Account} {ri : List Instr} {rb : List Bal} {rl : List Lot} {rt : List Trade} {rn c : Int} (e : bookTrade ⟨ba, bi, bb, bl, bt, bn⟩ no bu se pa qt ca pr = (⟨ra, ri, rb, rl, rt, rn⟩, c)) : FC Tryz.prog 29 [bkV 0 ⟨ba, bi, bb, bl, bt, bn⟩, I no, I bu, I se, I pa, I qt, I ca, I pr] (bkR ⟨ba, bi, bb, bl, bt, bn⟩) (.tup [bkV 5 ⟨ra, ri, rb, rl, rt, rn⟩, I c]) (bkR ⟨ba, bi, bb, bl, bt, bn⟩ ++ bkO ⟨ra, ri, rb, rl, rt, rn⟩) := fc_r spec_BookTrade e
theorem bt_mid {b r : Books} {no bu se pa qt ca pr c : Int} (s : Small b) (h : bookTrade b no bu se pa qt ca pr = (r, c)) : MidL r.Accounts.length r.Instrs.length r.Bals.length r.Lots.length r.Trades.length := by
  by_cases h1 : ¬ (BooksOk b ∧ trArgs no bu se pa qt ca pr)
  · rw [bt_bad h1] at h
    cases h
    exact ⟨by simp, by simp, by simp, by simp, by simp⟩
  replace h1 := Classical.not_not.1 h1
  by_cases h2 : ∃ t ∈ b.Trades, t.No = no
  · rw [bt_2 h1 h2] at h
    cases h
    exact s.mid
  by_cases h3 : accKind b.Accounts bu = 0 ∨ accKind b.Accounts se = 0 ∨ insKind b.Instrs pa = 0 ∨ insKind b.Instrs ca = 0
  · rw [bt_3 h1 h2 h3] at h
    cases h
    exact s.mid
  by_cases h4 : accKind b.Accounts bu ≠ 1 ∨ accKind b.Accounts se ≠ 1 ∨ bu = se ∨ insKind b.Instrs pa ≠ 2 ∨ insKind b.Instrs ca ≠ 1
  · rw [bt_4 h1 h2 h3 h4] at h
    cases h
    exact s.mid
  by_cases h5 : 30 ≤ b.Trades.length
  · rw [bt_7 h1 h2 h4 h5] at h
    cases h
    exact s.mid
  · rw [bt_0 h1 h2 h4 h5 rfl] at h
    cases h
    have m := s.mid
    exact ⟨m.a1, m.a2, m.a3, m.a4, by dsimp only; rw [trPut, ins_len (trIx_nn _ _)]; omega⟩
set_option maxHeartbeats 4000000 in
theorem laws_FnExactBookTrade {ba : List Account} {bi : List Instr} {bb : List Bal} {bl : List Lot} {bt : List Trade} {bn : Int} {no bu se pa qt ca pr : Int} : FC Tryz.prog 5 [bkV 0 ⟨ba, bi, bb, bl, bt, bn⟩, I no, I bu, I se, I pa, I qt, I ca, I pr] (bkL ⟨ba, bi, bb, bl, bt, bn⟩) (B true) (bkL ⟨ba, bi, bb, bl, bt, bn⟩) := by
  refine fent tk 131 [.tmp 16] Tryz.func5 (by kernel_rfl) rfl rfl rfl rfl rfl rfl rfl ?_
  repeat' (first
    | (with_reducible apply zds); exact tk; rfl; rfl; rfl; rfl; rfl
    | (with_reducible apply zd); rfl; exact tk; rfl
    | (with_reducible first | intro _ | apply wseq | apply zreg | apply thenQ_n | apply thenQ_r | apply thenQ_e | apply znil | apply wret | apply bodyQ_r | apply wblk | apply blkQ_n | apply blkQ_r | apply wskip | apply wexit)
    | apply wct rfl
    | apply wcf rfl
    | (with_reducible apply zcmp); rfl; exact tk; rfl; rfl; rfl
    | (with_reducible apply zne); rfl; exact tk; rfl; rfl; rfl; rfl
    | refine zdq (id := 10) rfl (by kernel_rfl) [(.t, 0), (.t, 1), (.o, 2), (.o, 3), (.p, 4)] [] (by kernel_rfl) rfl ?_
    | (with_reducible apply zc); rfl; rfl; rfl; rfl; rfl; rfl; rfl; rfl; rfl; rfl; exact laws_szBooks (by first | omega | exact szBr (by omega) (by assumption)); exact fun _ => rfl; rfl; rfl; rfl
    | (with_reducible apply zcf); rfl; rfl; rfl; rfl; rfl; rfl; rfl; rfl; rfl; rfl; (first | exact laws_toBooks (by assumption) | exact spec_BookTrade_r (by assumption) | exact spec_BookTrade | exact impl_BookTrade_r (by assumption) | exact impl_BookTrade); rfl; rfl; rfl; rfl; rfl
    | (with_reducible apply zcp); rfl; rfl; rfl; rfl; rfl; rfl; rfl; rfl; rfl; rfl; exact laws_eqBooks; rfl; rfl
    | (with_reducible apply zcw  [true,true,true,true,true]); rfl; rfl; rfl; rfl; rfl; rfl; rfl; rfl; rfl; rfl; exact laws_markBooks (by omega) (by assumption); rfl; rfl; rfl; rfl
    | (with_reducible apply zcq); rfl; rfl; rfl; rfl; rfl; rfl; rfl; rfl; rfl; rfl; exact laws_heldBooks (by omega) (by assumption) (by first | assumption | exact Lens.mk'); rfl; rfl
    | fail)
  all_goals first | exact endV [0, 1, 2, 3, 4] rfl rfl rfl rfl rfl rfl | (exfalso; contradiction) | skip
  rename_i n1
  have s1 := szBs (by omega) n1
  have s2 := s1.mid
  obtain ⟨⟨ra, ri, rb, rl, rt, rn⟩, c, hr⟩ : ∃ r c, bookTrade ⟨ba, bi, bb, bl, bt, bn⟩ no bu se pa qt ca pr = (r, c) := ⟨_, _, rfl⟩
  have s3 := bt_mid s1 hr
  have hmk := mkN_nn (k := 1) (na := ba.length) (ni := bi.length) (nb := bb.length) (nl := bl.length) (nt := bt.length) (by decide)
  have hmk2 := mkN_nn (k := 1) (na := ra.length) (ni := ri.length) (nb := rb.length) (nl := rl.length) (nt := rt.length) (by decide)
  dsimp only at s2 s3
  repeat' (first
    | (intro h9; exfalso; first | contradiction | omega)
    | (with_reducible apply zds); exact tk; rfl; rfl; rfl; rfl; rfl
    | (with_reducible apply zd); rfl; exact tk; rfl
    | (with_reducible first | intro _ | apply wseq | apply zreg | apply thenQ_n | apply thenQ_r | apply thenQ_e | apply znil | apply wret | apply bodyQ_r | apply wblk | apply blkQ_n | apply blkQ_r | apply wskip | apply wexit)
    | apply wct rfl
    | apply wcf rfl
    | (with_reducible apply zcmp); rfl; exact tk; rfl; rfl; rfl
    | (with_reducible apply zne); rfl; exact tk; rfl; rfl; rfl; rfl
    | refine zdq (id := 10) rfl (by kernel_rfl) [(.t, 0), (.t, 1), (.o, 2), (.o, 3), (.p, 4)] [] (by kernel_rfl) rfl ?_
    | (with_reducible apply zc); rfl; rfl; rfl; rfl; rfl; rfl; rfl; rfl; rfl; rfl; exact laws_szBooks (by first | omega | exact szBr (by omega) (by assumption)); exact fun _ => rfl; rfl; rfl; rfl
    | (with_reducible apply zcf); rfl; rfl; rfl; rfl; rfl; rfl; rfl; rfl; rfl; rfl; (first | exact laws_toBooks (by assumption) | exact spec_BookTrade_r (by assumption) | exact spec_BookTrade | exact impl_BookTrade_r (by assumption) | exact impl_BookTrade); rfl; rfl; rfl; rfl; rfl
    | (with_reducible apply zcp); rfl; rfl; rfl; rfl; rfl; rfl; rfl; rfl; rfl; rfl; exact laws_eqBooks; rfl; rfl
    | (with_reducible apply zcw  [true,true,true,true,true]); rfl; rfl; rfl; rfl; rfl; rfl; rfl; rfl; rfl; rfl; exact laws_markBooks (by omega) (by assumption); rfl; rfl; rfl; rfl
    | (with_reducible apply zcq); rfl; rfl; rfl; rfl; rfl; rfl; rfl; rfl; rfl; rfl; exact laws_heldBooks (by omega) (by assumption) (by first | assumption | exact Lens.mk'); rfl; rfl
    | fail)
  all_goals first | exact endV [0, 1, 2, 3, 4] rfl rfl rfl rfl rfl rfl | (exfalso; first | contradiction | omega) | skip
end Go.Proofs.YtnlajjoheegbiaaGreat.Sh
