/- The laws' own functions over books. No condition. -/
import Derived.Test.YtbbeaghhchjkgaaShY
namespace Go.Proofs.Ytbbeaghhchjkgaa.Sh
open Go.RowKit
set_option linter.unusedVariables false
structure Books where
  Accounts : List Account
  Instrs : List Instr
  Bals : List Bal
  Lots : List Lot
  Trades : List Trade
  Lot : Int
/-- Books as a value, their rows being objects from n on. -/
def bkV (n : Nat) : Books → AV
  | ⟨a, i, b, l, t, x⟩ => .agg [.row n 0 a.length, .row (n + 1) 0 i.length, .row (n + 2) 0 b.length, .row (n + 3) 0 l.length, .row (n + 4) 0 t.length, .sc (.int .i64 x)]
def bkR : Books → AH
  | ⟨a, i, b, l, t, _⟩ => [ro 91 a, ro 92 i, ro 94 b, ro 96 l, ro 98 t]
def bkO : Books → AH
  | ⟨a, i, b, l, t, _⟩ => [ow 91 a, ow 92 i, ow 94 b, ow 96 l, ow 98 t]
def bkL : Books → AH
  | ⟨a, i, b, l, t, _⟩ => [ro 126 a, ro 128 i, ro 130 b, ro 132 l, ro 134 t]
/-- Books that are no greater than the laws ask. -/
structure Small (b : Books) : Prop where
  a1 : b.Accounts.length ≤ 1048576
  a2 : b.Instrs.length ≤ 1048576
  a3 : b.Bals.length ≤ 1048576
  a4 : b.Lots.length ≤ 1048576
  a5 : b.Trades.length ≤ 1048576
set_option maxHeartbeats 4000000 in
theorem laws_toBooks {ba : List Account} {bi : List Instr} {bb : List Bal} {bl : List Lot} {bt : List Trade} {bn : Int} (hs : Small ⟨ba, bi, bb, bl, bt, bn⟩) : FC Try.prog 38 [bkV 0 ⟨ba, bi, bb, bl, bt, bn⟩] (bkL ⟨ba, bi, bb, bl, bt, bn⟩) (bkV 5 ⟨ba, bi, bb, bl, bt, bn⟩) (bkL ⟨ba, bi, bb, bl, bt, bn⟩ ++ bkO ⟨ba, bi, bb, bl, bt, bn⟩) := by
  refine fent tk 28 [.cell 2 _] Try.func38 (by kernel_rfl) rfl rfl rfl rfl rfl rfl rfl ?_
  obtain ⟨h1, h2, h3, h4, h5⟩ := hs
  dsimp only at h1 h2 h3 h4 h5
  repeat' (first
    | (with_reducible apply zd); rfl; exact tk; rfl
    | (with_reducible first | intro _ | apply wseq | apply zreg | apply thenQ_n | apply thenQ_r | apply thenQ_e | apply znil | apply wret | apply bodyQ_r | apply wblk | apply blkQ_n | apply blkQ_r | apply wskip | apply wexit)
    | (with_reducible apply zcf); rfl; rfl; rfl; rfl; rfl; rfl; rfl; rfl; rfl; rfl; (first | exact laws_toAccountS (by omega) | exact laws_toInstrS (by omega) | exact laws_toBalS (by omega) | exact laws_toLotS (by omega) | exact laws_toTradeS (by omega)); rfl; rfl; rfl; rfl; rfl)
  all_goals exact endV [0, 1, 2, 3, 4, 8, 9, 10, 11, 12] rfl rfl rfl rfl rfl rfl
def szBk (left : Int) : Books → Int
  | ⟨a, i, b, l, t, _⟩ =>
    if szN left a.length < 0 then -1
    else if szN (szN left a.length) i.length < 0 then -1
    else if szN (szN (szN left a.length) i.length) b.length < 0 then -1
    else if szN (szN (szN (szN left a.length) i.length) b.length) l.length < 0 then -1
    else if szN (szN (szN (szN (szN left a.length) i.length) b.length) l.length) t.length < 0 then -1
    else szN (szN (szN (szN (szN left a.length) i.length) b.length) l.length) t.length
theorem szN_le {x : Int} {n : Nat} (h : 0 ≤ x) : szN x n ≤ x ∧ (¬ szN x n < 0 → szN x n = x - n) := by
  unfold szN
  split <;> omega
theorem szBk_all {left : Int} {a : List Account} {i : List Instr} {b : List Bal} {l : List Lot} {t : List Trade} {x : Int} (h : 0 ≤ left ∧ left ≤ 1048576) (hn : ¬ szBk left ⟨a, i, b, l, t, x⟩ < 0) : (0 ≤ szBk left ⟨a, i, b, l, t, x⟩ ∧ szBk left ⟨a, i, b, l, t, x⟩ ≤ 1048576) ∧ Small ⟨a, i, b, l, t, x⟩ := by
  simp only [szBk] at *
  split at hn
  · omega
  rename_i n1
  split at hn
  · omega
  rename_i n2
  split at hn
  · omega
  rename_i n3
  split at hn
  · omega
  rename_i n4
  split at hn
  · omega
  rename_i n5
  rw [if_neg n1, if_neg n2, if_neg n3, if_neg n4, if_neg n5]
  have q1 := szN_le (x := left) (n := a.length) (by omega)
  generalize szN left a.length = y1 at *
  have q2 := szN_le (x := y1) (n := i.length) (by omega)
  generalize szN y1 i.length = y2 at *
  have q3 := szN_le (x := y2) (n := b.length) (by omega)
  generalize szN y2 b.length = y3 at *
  have q4 := szN_le (x := y3) (n := l.length) (by omega)
  generalize szN y3 l.length = y4 at *
  have q5 := szN_le (x := y4) (n := t.length) (by omega)
  generalize szN y4 t.length = y5 at *
  have r1 := q1.2 n1
  have r2 := q2.2 n2
  have r3 := q3.2 n3
  have r4 := q4.2 n4
  have r5 := q5.2 n5
  exact ⟨⟨by omega, by omega⟩, by dsimp only; omega, by dsimp only; omega, by dsimp only; omega, by dsimp only; omega, by dsimp only; omega⟩
theorem szBr {left : Int} {a : List Account} {i : List Instr} {b : List Bal} {l : List Lot} {t : List Trade} {x : Int} (h : 0 ≤ left ∧ left ≤ 1048576) (hn : ¬ szBk left ⟨a, i, b, l, t, x⟩ < 0) : 0 ≤ szBk left ⟨a, i, b, l, t, x⟩ ∧ szBk left ⟨a, i, b, l, t, x⟩ ≤ 1048576 := (szBk_all h hn).1
theorem szBs {left : Int} {a : List Account} {i : List Instr} {b : List Bal} {l : List Lot} {t : List Trade} {x : Int} (h : 0 ≤ left ∧ left ≤ 1048576) (hn : ¬ szBk left ⟨a, i, b, l, t, x⟩ < 0) : Small ⟨a, i, b, l, t, x⟩ := (szBk_all h hn).2
set_option maxHeartbeats 4000000 in
theorem laws_szBooks {ba : List Account} {bi : List Instr} {bb : List Bal} {bl : List Lot} {bt : List Trade} {bn : Int} {left : Int} (hl : 0 ≤ left ∧ left ≤ 1048576) : FC Try.prog 36 [bkV 0 ⟨ba, bi, bb, bl, bt, bn⟩, I left] (bkL ⟨ba, bi, bb, bl, bt, bn⟩) (I (szBk left ⟨ba, bi, bb, bl, bt, bn⟩)) (bkL ⟨ba, bi, bb, bl, bt, bn⟩) := by
  refine fent tk 36 [.tmp 4] Try.func36 (by kernel_rfl) rfl rfl rfl rfl rfl rfl rfl ?_
  repeat' (first
    | (with_reducible apply zd); rfl; exact tk; rfl
    | (with_reducible first | intro _ | apply wseq | apply zreg | apply thenQ_n | apply thenQ_r | apply thenQ_e | apply znil | apply wret | apply bodyQ_r | apply wblk | apply blkQ_n | apply blkQ_r | apply wskip | apply wexit)
    | apply wct rfl
    | apply wcf rfl
    | (with_reducible apply zcmp); rfl; exact tk; rfl; rfl; rfl
    | (with_reducible apply zc); rfl; rfl; rfl; rfl; rfl; rfl; rfl; rfl; rfl; rfl; (first | exact laws_szAccountS (by repeat' (first | omega | apply szr)) | exact laws_szInstrS (by repeat' (first | omega | apply szr)) | exact laws_szBalS (by repeat' (first | omega | apply szr)) | exact laws_szLotS (by repeat' (first | omega | apply szr)) | exact laws_szTradeS (by repeat' (first | omega | apply szr))); exact fun _ => rfl; rfl; rfl; rfl)
  all_goals exact endI [0, 1, 2, 3, 4] rfl rfl rfl rfl rfl rfl (by simp only [szBk]; (repeat' split) <;> omega)
set_option maxHeartbeats 4000000 in
theorem laws_eqBooks {ca : List Account} {ci : List Instr} {cb : List Bal} {cl : List Lot} {ct : List Trade} {cn : Int} {ba : List Account} {bi : List Instr} {bb : List Bal} {bl : List Lot} {bt : List Trade} {bn : Int} : FC Try.prog 40 [bkV 0 ⟨ba, bi, bb, bl, bt, bn⟩, bkV 5 ⟨ca, ci, cb, cl, ct, cn⟩] (bkR ⟨ba, bi, bb, bl, bt, bn⟩ ++ bkR ⟨ca, ci, cb, cl, ct, cn⟩) (B (dB ((⟨ba, bi, bb, bl, bt, bn⟩ : Books) = ⟨ca, ci, cb, cl, ct, cn⟩))) (bkR ⟨ba, bi, bb, bl, bt, bn⟩ ++ bkR ⟨ca, ci, cb, cl, ct, cn⟩) := by
  refine fent tk 40 [.tmp 4] Try.func40 (by kernel_rfl) rfl rfl rfl rfl rfl rfl rfl ?_
  repeat' (first
    | (with_reducible apply zd); rfl; exact tk; rfl
    | (with_reducible first | intro _ | apply wseq | apply zreg | apply thenQ_n | apply thenQ_r | apply thenQ_e | apply znil | apply wret | apply bodyQ_r | apply wblk | apply blkQ_n | apply blkQ_r | apply wskip | apply wexit)
    | apply wct rfl
    | apply wcf rfl
    | (with_reducible apply zne); rfl; exact tk; rfl; rfl; rfl; rfl
    | (with_reducible apply zcp); rfl; rfl; rfl; rfl; rfl; rfl; rfl; rfl; rfl; rfl; (first | exact laws_eqAccountS | exact laws_eqInstrS | exact laws_eqBalS | exact laws_eqLotS | exact laws_eqTradeS); rfl; rfl)
  all_goals first | exact endY [0, 1, 2, 3, 4, 5, 6, 7, 8, 9] rfl rfl rfl rfl rfl rfl (by simp_all) | exact endN [0, 1, 2, 3, 4, 5, 6, 7, 8, 9] rfl rfl rfl rfl rfl rfl (by simp_all)
/-- Books that may be written upon. -/
structure Mid (b : Books) : Prop where
  a1 : b.Accounts.length ≤ 4294967296
  a2 : b.Instrs.length ≤ 4294967296
  a3 : b.Bals.length ≤ 4294967296
  a4 : b.Lots.length ≤ 4294967296
  a5 : b.Trades.length ≤ 4294967296
def mkBk (k : Int) : Books → Books
  | ⟨a, i, b, l, t, x⟩ => ⟨mkAccount a.length k, mkInstr i.length (k + 2 * a.length), mkBal b.length (k + 2 * a.length + 2 * i.length), mkLot l.length (k + 2 * a.length + 2 * i.length + 3 * b.length), mkTrade t.length (k + 2 * a.length + 2 * i.length + 3 * b.length + 5 * l.length), x⟩
def mkN (k : Int) : Books → Int
  | ⟨a, i, b, l, t, _⟩ => k + 2 * a.length + 2 * i.length + 3 * b.length + 5 * l.length + 8 * t.length
end Go.Proofs.Ytbbeaghhchjkgaa.Sh
