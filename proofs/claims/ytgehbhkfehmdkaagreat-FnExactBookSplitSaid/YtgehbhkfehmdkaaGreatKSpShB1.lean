/- The laws' own functions over books. No condition. -/
import Derived.Test.YtgehbhkfehmdkaaGreatKSpShY
namespace Go.Proofs.YtgehbhkfehmdkaaGreat.Sh
open Go.RowKit
set_option linter.unusedVariables false
set_option linter.unusedSimpArgs false
structure Books where
  Accounts : List Account
  Instrs : List Instr
  Bals : List Bal
  Lots : List Lot
  Trades : List Trade
  Lot : Int
def bkV (n : Nat) : Books → AV
  | ⟨a, i, b, l, t, x⟩ => .agg [.row n 0 a.length, .row (n + 1) 0 i.length, .row (n + 2) 0 b.length, .row (n + 3) 0 l.length, .row (n + 4) 0 t.length, .sc (.int .i64 x)]
def bkR : Books → AH
  | ⟨a, i, b, l, t, _⟩ => [ro 42 a, ro 74 i, ro 135 b, ro 137 l, ro 103 t]
def bkO : Books → AH
  | ⟨a, i, b, l, t, _⟩ => [ow 42 a, ow 74 i, ow 135 b, ow 137 l, ow 103 t]
def bkL : Books → AH
  | ⟨a, i, b, l, t, _⟩ => [ro 245 a, ro 247 i, ro 249 b, ro 251 l, ro 253 t]
structure Small (b : Books) : Prop where
  a1 : b.Accounts.length ≤ 1048576
  a2 : b.Instrs.length ≤ 1048576
  a3 : b.Bals.length ≤ 1048576
  a4 : b.Lots.length ≤ 1048576
  a5 : b.Trades.length ≤ 1048576
set_option maxHeartbeats 4000000 in
theorem laws_toBooks {ba : List Account} {bi : List Instr} {bb : List Bal} {bl : List Lot} {bt : List Trade} {bn : Int} (hs : Small ⟨ba, bi, bb, bl, bt, bn⟩) : FC Tryz.prog 63 [bkV 0 ⟨ba, bi, bb, bl, bt, bn⟩] (bkL ⟨ba, bi, bb, bl, bt, bn⟩) (bkV 5 ⟨ba, bi, bb, bl, bt, bn⟩) (bkL ⟨ba, bi, bb, bl, bt, bn⟩ ++ bkO ⟨ba, bi, bb, bl, bt, bn⟩) := by
  refine fent tk 28 [.cell 2 _] Tryz.func63 (by kernel_rfl) rfl rfl rfl rfl rfl rfl rfl ?_
  obtain ⟨h1, h2, h3, h4, h5⟩ := hs
  dsimp only at h1 h2 h3 h4 h5
  repeat' (first
 | (with_reducible apply zds); exact tk; rfl; rfl; rfl; rfl; rfl
 | (with_reducible apply zd); rfl; exact tk; rfl
 | (with_reducible first | intro _ | apply wseq | apply zreg | apply thenQ_n | apply thenQ_r | apply thenQ_e | apply znil | apply wret | apply bodyQ_r | apply wblk | apply blkQ_n | apply blkQ_r | apply wskip | apply wexit)
 | (with_reducible apply zcf); (iterate 10 rfl); (first | exact laws_toAccountS (by omega) | exact laws_toInstrS (by omega) | exact laws_toBalS (by omega) | exact laws_toLotS (by omega) | exact laws_toTradeS (by omega)); rfl; rfl; rfl; rfl; rfl
 | fail)
  all_goals exact endV [0, 1, 2, 3, 4, 8, 9, 10, 11, 12] rfl rfl rfl rfl rfl rfl
def szBk (left : Int) : Books → Int
  | ⟨a, i, b, l, t, _⟩ =>
    if szN left a.length < 0 then -1
    else if szN (szN left a.length) i.length < 0 then -1
    else if szN (szN (szN left a.length) i.length) b.length < 0 then -1
    else if szN (szN (szN (szN left a.length) i.length) b.length) l.length < 0 then -1
    else if szN (szN (szN (szN (szN left a.length) i.length) b.length) l.length) t.length < 0 then -1
    else szN (szN (szN (szN (szN left a.length) i.length) b.length) l.length) t.length
theorem szN_le {x : Int} {n : Nat} (h : 0 ≤ x) : szN x n ≤ x ∧ (¬ szN x n < 0 → szN x n = x - n) := by
  unfold szN
  split <;> omega
theorem szBk_all {left : Int} {a : List Account} {i : List Instr} {b : List Bal} {l : List Lot} {t : List Trade} {x : Int} (h : 0 ≤ left ∧ left ≤ 1048576) (hn : ¬ szBk left ⟨a, i, b, l, t, x⟩ < 0) : (0 ≤ szBk left ⟨a, i, b, l, t, x⟩ ∧ szBk left ⟨a, i, b, l, t, x⟩ ≤ 1048576) ∧ Small ⟨a, i, b, l, t, x⟩ := by
  simp only [szBk] at *
  split at hn
  · omega
  rename_i n1
  split at hn
  · omega
  rename_i n2
  split at hn
  · omega
  rename_i n3
  split at hn
  · omega
  rename_i n4
  split at hn
  · omega
  rename_i n5
  rw [if_neg n1, if_neg n2, if_neg n3, if_neg n4, if_neg n5]
  have q1 := szN_le (x := left) (n := a.length) (by omega)
  generalize szN left a.length = y1 at *
  have q2 := szN_le (x := y1) (n := i.length) (by omega)
  generalize szN y1 i.length = y2 at *
  have q3 := szN_le (x := y2) (n := b.length) (by omega)
  generalize szN y2 b.length = y3 at *
  have q4 := szN_le (x := y3) (n := l.length) (by omega)
  generalize szN y3 l.length = y4 at *
  have q5 := szN_le (x := y4) (n := t.length) (by omega)
  generalize szN y4 t.length = y5 at *
  have r1 := q1.2 n1
  have r2 := q2.2 n2
  have r3 := q3.2 n3
  have r4 := q4.2 n4
  have r5 := q5.2 n5
  exact ⟨⟨by omega, by omega⟩, by dsimp only; omega, by dsimp only; omega, by dsimp only; omega, by dsimp only; omega, by dsimp only; omega⟩
theorem szBr {left : Int} {a : List Account} {i : List Instr} {b : List Bal} {l : List Lot} {t : List Trade} {x : Int} (h : 0 ≤ left ∧ left ≤ 1048576) (hn : ¬ szBk left ⟨a, i, b, l, t, x⟩ < 0) : 0 ≤ szBk left ⟨a, i, b, l, t, x⟩ ∧ szBk left ⟨a, i, b, l, t, x⟩ ≤ 1048576 := (szBk_all h hn).1
theorem szBs {left : Int} {a : List Account} {i : List Instr} {b : List Bal} {l : List Lot} {t : List Trade} {x : Int} (h : 0 ≤ left ∧ left ≤ 1048576) (hn : ¬ szBk left ⟨a, i, b, l, t, x⟩ < 0) : Small ⟨a, i, b, l, t, x⟩ := (szBk_all h hn).2
set_option maxHeartbeats 4000000 in
theorem laws_szBooks {ba : List Account} {bi : List Instr} {bb : List Bal} {bl : List Lot} {bt : List Trade} {bn : Int} {left : Int} (hl : 0 ≤ left ∧ left ≤ 1048576) : FC Tryz.prog 62 [bkV 0 ⟨ba, bi, bb, bl, bt, bn⟩, I left] (bkL ⟨ba, bi, bb, bl, bt, bn⟩) (I (szBk left ⟨ba, bi, bb, bl, bt, bn⟩)) (bkL ⟨ba, bi, bb, bl, bt, bn⟩) := by
  refine fent tk 36 [.tmp 4] Tryz.func62 (by kernel_rfl) rfl rfl rfl rfl rfl rfl rfl ?_
  repeat' (first
 | (with_reducible apply zds); exact tk; rfl; rfl; rfl; rfl; rfl
 | (with_reducible apply zd); rfl; exact tk; rfl
 | (with_reducible first | intro _ | apply wseq | apply zreg | apply thenQ_n | apply thenQ_r | apply thenQ_e | apply znil | apply wret | apply bodyQ_r | apply wblk | apply blkQ_n | apply blkQ_r | apply wskip | apply wexit)
 | apply wct rfl
 | apply wcf rfl
 | (with_reducible apply zcmp); rfl; exact tk; rfl; rfl; rfl
 | (with_reducible apply zc); (iterate 10 rfl); (first | exact laws_szAccountS (by repeat' (first | omega | apply szr)) | exact laws_szInstrS (by repeat' (first | omega | apply szr)) | exact laws_szBalS (by repeat' (first | omega | apply szr)) | exact laws_szLotS (by repeat' (first | omega | apply szr)) | exact laws_szTradeS (by repeat' (first | omega | apply szr))); exact fun _ => rfl; rfl; rfl; rfl
 | fail)
  all_goals exact endI [0, 1, 2, 3, 4] rfl rfl rfl rfl rfl rfl (by simp only [szBk]; (repeat' split) <;> omega)
set_option maxHeartbeats 4000000 in
theorem laws_eqBooks {ca : List Account} {ci : List Instr} {cb : List Bal} {cl : List Lot} {ct : List Trade} {cn : Int} {ba : List Account} {bi : List Instr} {bb : List Bal} {bl : List Lot} {bt : List Trade} {bn : Int} : FC Tryz.prog 64 [bkV 0 ⟨ba, bi, bb, bl, bt, bn⟩, bkV 5 ⟨ca, ci, cb, cl, ct, cn⟩] (bkR ⟨ba, bi, bb, bl, bt, bn⟩ ++ bkR ⟨ca, ci, cb, cl, ct, cn⟩) (B (dB ((⟨ba, bi, bb, bl, bt, bn⟩ : Books) = ⟨ca, ci, cb, cl, ct, cn⟩))) (bkR ⟨ba, bi, bb, bl, bt, bn⟩ ++ bkR ⟨ca, ci, cb, cl, ct, cn⟩) := by
  refine fent tk 40 [.tmp 4] Tryz.func64 (by kernel_rfl) rfl rfl rfl rfl rfl rfl rfl ?_
  repeat' (first
 | (with_reducible apply zds); exact tk; rfl; rfl; rfl; rfl; rfl
 | (with_reducible apply zd); rfl; exact tk; rfl
 | (with_reducible first | intro _ | apply wseq | apply zreg | apply thenQ_n | apply thenQ_r | apply thenQ_e | apply znil | apply wret | apply bodyQ_r | apply wblk | apply blkQ_n | apply blkQ_r | apply wskip | apply wexit)
 | apply wct rfl
 | apply wcf rfl
 | (with_reducible apply zne); rfl; exact tk; rfl; rfl; rfl; rfl
 | (with_reducible apply zcp); (iterate 10 rfl); (first | exact laws_eqAccountS | exact laws_eqInstrS | exact laws_eqBalS | exact laws_eqLotS | exact laws_eqTradeS); rfl; rfl
 | fail)
  all_goals first | exact endY [0, 1, 2, 3, 4, 5, 6, 7, 8, 9] rfl rfl rfl rfl rfl rfl (by simp_all) | exact endN [0, 1, 2, 3, 4, 5, 6, 7, 8, 9] rfl rfl rfl rfl rfl rfl (by simp_all)
def mkBL (k : Int) (na ni nb nl nt : Nat) (x : Int) : Books := ⟨mkAccount na k, mkInstr ni (k + 2 * na), mkBal nb (k + 2 * na + 2 * ni), mkLot nl (k + 2 * na + 2 * ni + 3 * nb), mkTrade nt (k + 2 * na + 2 * ni + 3 * nb + 5 * nl), x⟩
def mkNL (k : Int) (na ni nb nl nt : Nat) : Int := k + 2 * na + 2 * ni + 3 * nb + 5 * nl + 8 * nt
theorem mkN_nn {k : Int} {na ni nb nl nt : Nat} (h : 0 ≤ k) : ¬ mkNL k na ni nb nl nt < 0 := by
  simp only [mkNL]
  omega
structure Lens (na ni nb nl nt : Nat) (b : Books) : Prop where
  l1 : na = b.Accounts.length
  l2 : ni = b.Instrs.length
  l3 : nb = b.Bals.length
  l4 : nl = b.Lots.length
  l5 : nt = b.Trades.length
theorem Lens.mk' {k : Int} {na ni nb nl nt : Nat} {x : Int} : Lens na ni nb nl nt (mkBL k na ni nb nl nt x) := ⟨(mkAccount_len _ _).symm, (mkInstr_len _ _).symm, (mkBal_len _ _).symm, (mkLot_len _ _).symm, (mkTrade_len _ _).symm⟩
structure MidL (na ni nb nl nt : Nat) : Prop where
  a1 : na ≤ 4294967296
  a2 : ni ≤ 4294967296
  a3 : nb ≤ 4294967296
  a4 : nl ≤ 4294967296
  a5 : nt ≤ 4294967296
theorem Small.mid {b : Books} (h : Small b) : MidL b.Accounts.length b.Instrs.length b.Bals.length b.Lots.length b.Trades.length := ⟨by have := h.a1; omega, by have := h.a2; omega, by have := h.a3; omega, by have := h.a4; omega, by have := h.a5; omega⟩
set_option maxHeartbeats 4000000 in
theorem laws_markBooks {ba : List Account} {bi : List Instr} {bb : List Bal} {bl : List Lot} {bt : List Trade} {bn : Int} {k : Int} (hk : 0 ≤ k ∧ k ≤ 1048576) (hs : MidL ba.length bi.length bb.length bl.length bt.length) : FC Tryz.prog 65 [bkV 0 ⟨ba, bi, bb, bl, bt, bn⟩, I k] (bkO ⟨ba, bi, bb, bl, bt, bn⟩) (I (mkNL k ba.length bi.length bb.length bl.length bt.length)) (bkO (mkBL k ba.length bi.length bb.length bl.length bt.length bn)) := by
  refine fent tk 26 [.tmp 4] Tryz.func65 (by kernel_rfl) rfl rfl rfl rfl rfl rfl rfl ?_
  obtain ⟨h1, h2, h3, h4, h5⟩ := hs
  repeat' (first
 | (with_reducible apply zds); exact tk; rfl; rfl; rfl; rfl; rfl
 | (with_reducible apply zd); rfl; exact tk; rfl
 | (with_reducible first | intro _ | apply wseq | apply zreg | apply thenQ_n | apply thenQ_r | apply thenQ_e | apply znil | apply wret | apply bodyQ_r | apply wblk | apply blkQ_n | apply blkQ_r | apply wskip | apply wexit)
 | (with_reducible apply zcw  [true]); (iterate 10 rfl); (first | exact laws_markAccountS (by omega) (by omega) | exact laws_markInstrS (by omega) (by omega) | exact laws_markBalS (by omega) (by omega) | exact laws_markLotS (by omega) (by omega) | exact laws_markTradeS (by omega) (by omega)); rfl; rfl; rfl; rfl
 | fail)
  all_goals exact endI [0, 1, 2, 3, 4] rfl rfl rfl rfl rfl rfl rfl
set_option maxHeartbeats 4000000 in
theorem laws_heldBooks {ba : List Account} {bi : List Instr} {bb : List Bal} {bl : List Lot} {bt : List Trade} {bn : Int} {k : Int} {na ni nb nl nt : Nat} (hk : 0 ≤ k ∧ k ≤ 1048576) (hs : MidL na ni nb nl nt) (hn : Lens na ni nb nl nt ⟨ba, bi, bb, bl, bt, bn⟩) : FC Tryz.prog 66 [.agg [.row 0 0 na, .row 1 0 ni, .row 2 0 nb, .row 3 0 nl, .row 4 0 nt, .sc (.int .i64 bn)], I k] (bkR ⟨ba, bi, bb, bl, bt, bn⟩) (I (pick (⟨ba, bi, bb, bl, bt, bn⟩ = mkBL k na ni nb nl nt bn) (mkNL k na ni nb nl nt) (-1))) (bkR ⟨ba, bi, bb, bl, bt, bn⟩) := by
  refine fent tk 36 [.tmp 4] Tryz.func66 (by kernel_rfl) rfl rfl rfl rfl rfl rfl rfl ?_
  obtain ⟨h1, h2, h3, h4, h5⟩ := hs
  obtain ⟨n1, n2, n3, n4, n5⟩ := hn
  dsimp only at n1 n2 n3 n4 n5
  subst n1; subst n2; subst n3; subst n4; subst n5
  repeat' (first
 | (with_reducible apply zds); exact tk; rfl; rfl; rfl; rfl; rfl
 | (with_reducible apply zd); rfl; exact tk; rfl
 | (with_reducible first | intro _ | apply wseq | apply zreg | apply thenQ_n | apply thenQ_r | apply thenQ_e | apply znil | apply wret | apply bodyQ_r | apply wblk | apply blkQ_n | apply blkQ_r | apply wskip | apply wexit)
 | apply wct rfl
 | apply wcf rfl
 | (with_reducible apply zcmp); rfl; exact tk; rfl; rfl; rfl
 | (with_reducible apply zcq); (iterate 10 rfl); (first | exact laws_heldAccountS (by omega) (by first | omega | (simp only [mkAccount_len]; omega)) (by first | assumption | simp only [mkAccount_len]) | exact laws_heldInstrS (by omega) (by first | omega | (simp only [mkInstr_len]; omega)) (by first | assumption | simp only [mkInstr_len]) | exact laws_heldBalS (by omega) (by first | omega | (simp only [mkBal_len]; omega)) (by first | assumption | simp only [mkBal_len]) | exact laws_heldLotS (by omega) (by first | omega | (simp only [mkLot_len]; omega)) (by first | assumption | simp only [mkLot_len]) | exact laws_heldTradeS (by omega) (by first | omega | (simp only [mkTrade_len]; omega)) (by first | assumption | simp only [mkTrade_len])); rfl; rfl
 | fail)
  all_goals first
    | (exfalso; omega)
    | exact endI [0, 1, 2, 3, 4] rfl rfl rfl rfl rfl rfl (by rw [pick_t (by simp only [mkBL, Books.mk.injEq, and_true]; exact ⟨by assumption, by assumption, by assumption, by assumption, by assumption⟩)]; simp only [mkNL])
    | exact endI [0, 1, 2, 3, 4] rfl rfl rfl rfl rfl rfl (pick_f (fun e => by simp only [mkBL, Books.mk.injEq, and_true] at e; obtain ⟨e1, e2, e3, e4, e5⟩ := e; contradiction))
end Go.Proofs.YtgehbhkfehmdkaaGreat.Sh
