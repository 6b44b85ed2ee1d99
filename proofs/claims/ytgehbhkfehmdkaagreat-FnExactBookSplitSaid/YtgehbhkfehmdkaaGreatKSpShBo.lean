/- Books that are right. No condition. -/
import Derived.Test.YtgehbhkfehmdkaaGreatKSpShPc
import Derived.Test.YtgehbhkfehmdkaaGreatKSpShB1
namespace Go.Proofs.YtgehbhkfehmdkaaGreat.Sh
open Go.RowKit
set_option linter.unusedVariables false
set_option linter.unusedSimpArgs false
def balRt (ba : List Account) (bi : List Instr) (bb : List Bal) (x : Bal) : Prop := accKind ba x.Account ≠ 0 ∧ insKind bi x.Instr ≠ 0 ∧ ¬ (accKind ba x.Account = 1 ∧ x.Amount < 0) ∧ balsSum bb x.Instr = 0
def lotRt (ba : List Account) (bi : List Instr) (bn : Int) (x : Lot) : Prop := accKind ba x.Account = 1 ∧ insKind bi x.Instr = 2 ∧ x.No ≤ bn
def pairRt (bb : List Bal) (bl : List Lot) (a : Account) (x : Instr) : Prop := a.Kind = 1 → x.Kind = 2 → sQ (lotsOf bl a.No x.No) = balOf bb a.No x.No
def trF (ba : List Account) (bi : List Instr) (bu se pa ca : Int) : Prop := accKind ba bu = 1 ∧ accKind ba se = 1 ∧ insKind bi pa = 2 ∧ insKind bi ca = 1
def balsRt (ba : List Account) (bi : List Instr) (bb : List Bal) : Prop := ∀ x ∈ bb, balRt ba bi bb x
def lotsRt (ba : List Account) (bi : List Instr) (bb : List Bal) (bl : List Lot) (bn : Int) : Prop := (∀ x ∈ bl, lotRt ba bi bn x) ∧ ∀ a ∈ ba, ∀ x ∈ bi, pairRt bb bl a x
def tradesRt (ba : List Account) (bi : List Instr) (bt : List Trade) : Prop := ∀ t ∈ bt, trF ba bi t.Buyer t.Seller t.Paper t.Cash
structure BooksOk (b : Books) : Prop where
  acc : AccountsOk b.Accounts
  ins : InstrsOk b.Instrs
  bals : BalsOk b.Bals
  lots : LotsOk b.Lots
  trades : TradesOk b.Trades
  lot : inP b.Lot 0 1000000000
  bR : balsRt b.Accounts b.Instrs b.Bals
  lR : lotsRt b.Accounts b.Instrs b.Bals b.Lots b.Lot
  tR : tradesRt b.Accounts b.Instrs b.Trades
def bkY (n : Nat) : Books → Option AO
  | ⟨a, i, b, l, t, x⟩ => some ⟨false, 30, 6, .mx [.row n 0 a.length, .row (n + 1) 0 i.length, .row (n + 2) 0 b.length, .row (n + 3) 0 l.length, .row (n + 4) 0 t.length, .sc (.int .i64 x)]⟩
set_option maxHeartbeats 4000000 in
theorem spec_BalsSum {l : List Bal} {c : Int} : FC Tryz.prog 288 [.c (.row 0 0 l.length), I c] ([ro 135 l]) (sel (BalsOk l ∧ amountOk (balsSum l c)) (.tup [I (balsSum l c), B true]) (.tup [I 0, B false])) (sel (BalsOk l ∧ amountOk (balsSum l c)) [ro 135 l] [ro 135 l]) := by
  refine fent tk 38 [.tmp 4, .tmp 5] Tryz.func288 (by kernel_rfl) rfl rfl rfl rfl rfl rfl rfl ?_
  refine wlen l 0 rfl (fun hl => ?_)
  repeat' (first
 | (with_reducible apply zds); exact tk; rfl; rfl; rfl; rfl; rfl
 | (with_reducible apply zd); rfl; exact tk; rfl
 | (with_reducible first | intro _ | apply wseq | apply zreg | apply thenQ_n | apply thenQ_r | apply thenQ_e | apply znil | apply wret | apply bodyQ_r | apply wblk | apply blkQ_n | apply blkQ_r | apply wskip | apply wexit)
 | fail)
  refine wlp (X := Int × Int) [0, 1] [0] (fun x => [(7, I x.1), (6, I x.2)]) (fun _ => []) (fun x => 0 ≤ x.1 ∧ x.1 ≤ l.length ∧ (0 < x.1 → BalsOk l) ∧ x.2 = balsSum (pf l x.1) c) (fun x => (l.length - x.1).toNat) (0, 0) ⟨by dsimp only; omega, by dsimp only; omega, fun h => absurd h (by dsimp only; omega), rfl⟩ rfl rfl (fun _ => rfl) (fun _ => rfl) ⟨rfl, rfl, rfl, rfl, rfl, rfl, rfl, rfl⟩ (fun x hx => ?_)
  obtain ⟨i, n⟩ := x
  obtain ⟨h0, hi, hok, hn⟩ := hx
  dsimp only at h0 hi hok hn ⊢
  have hb := fun (hk : BalsOk l) => sumF_bnd (balF_bnd hk c) ⟨h0, hi⟩
  rw [show sumF (balF c) (pf l i) = n from hn.symm] at hb
  have hb3 := fun (hk : BalsOk l) (h : i < l.length) (e : (rd l i).Instr = c) => (balF_y e ▸ balF_bnd hk c _ (rd_mem ⟨h0, h⟩) : -1000000000000000 ≤ (rd l i).Amount ∧ (rd l i).Amount ≤ 1000000000000000)
  repeat' (first
 | (with_reducible apply zds); exact tk; rfl; rfl; rfl; rfl; rfl
 | (with_reducible apply zd); rfl; exact tk; rfl
 | (with_reducible apply zar); rfl; rfl; rfl; rfl; (have h1 := hb3 (by assumption) (by assumption) (by assumption); have h2 := hb (by assumption); have h3 := (by assumption : BalsOk l).2; omega); rfl; rfl
 | (with_reducible first | intro _ | apply wseq | apply zreg | apply thenQ_n | apply thenQ_r | apply thenQ_e | apply znil | apply wret | apply bodyQ_r | apply wblk | apply blkQ_n | apply blkQ_r | apply wskip | apply wexit)
 | apply wct rfl
 | apply wcf rfl
 | (with_reducible apply blkQ_x rfl)
 | (with_reducible apply zcmp); rfl; exact tk; rfl; rfl; rfl
 | (with_reducible apply zar); rfl; rfl; rfl; rfl; (first | omega | ((try simp only [List.length_append, List.length_cons, List.length_nil, List.length_map]); (try dsimp only); omega)); rfl; rfl
 | (with_reducible apply zix); rfl; exact tk; (iterate 7 rfl); (first | omega | ((try simp only [List.length_append, List.length_cons, List.length_nil, List.length_map]); (try dsimp only); omega)); rfl; rfl
 | (with_reducible apply zle); rfl; exact tk; rfl; rfl; rfl; rfl; (first | omega | ((try simp only [List.length_append, List.length_cons, List.length_nil, List.length_map]); (try dsimp only); omega)); rfl; rfl; rfl; rfl
 | (with_reducible apply zcp); (iterate 10 rfl); exact spec_BalsOk; rfl; rfl
 | (with_reducible apply zc); (iterate 10 rfl); (first | exact spec_l1Told | exact spec_l1Told_n); exact fun _ => rfl; rfl; rfl; rfl
 | (with_reducible apply zcs); (iterate 10 rfl); exact spec_l1Told_y; exact fun _ => rfl; exact fun _ => rfl; rfl; rfl; rfl; rfl
 | fail)
  all_goals first
    | (exfalso; contradiction)
    | (rename_i hk h e
       exact endR (i + 1, _) [0] ⟨rfl, rfl, rfl, rfl, rfl, rfl, rfl, rfl⟩ ⟨by dsimp only; omega, by dsimp only; omega, fun _ => by assumption, by dsimp only; rw [balsSum_step ⟨h0, by assumption⟩, balF_y (by assumption), hn]⟩ (by first | omega | (dsimp only; omega)))
    | exact endR (i + 1, _) [0] ⟨rfl, rfl, rfl, rfl, rfl, rfl, rfl, rfl⟩ ⟨by dsimp only; omega, by dsimp only; omega, fun _ => by assumption, by dsimp only; rw [balsSum_step ⟨h0, by assumption⟩, balF_n (by assumption), hn, Int.add_zero]⟩ (by first | omega | (dsimp only; omega))
    | exact endF (fun h => by first | exact absurd h.1 (by assumption) | (have e := hn.trans (congrArg (fun x => balsSum x c) (pf_all (by assumption))); have := h.2; rw [← e] at this; contradiction)) [0] rfl rfl rfl rfl rfl rfl
    | (have e := hn.trans (congrArg (fun x => balsSum x c) (pf_all (by assumption)))
       rw [← show n = balsSum l c from e]
       exact endT ⟨by assumption, by assumption⟩ [0] rfl rfl rfl rfl rfl rfl)
set_option maxHeartbeats 4000000 in
theorem impl_balsRight {ba : List Account} {bi : List Instr} {bb : List Bal} {bl : List Lot} {bt : List Trade} {bn : Int} (hok : BalsOk bb) : FC Tryz.prog 149 [bkV 0 ⟨ba, bi, bb, bl, bt, bn⟩] (bkR ⟨ba, bi, bb, bl, bt, bn⟩) (B (dB (balsRt ba bi bb))) (bkR ⟨ba, bi, bb, bl, bt, bn⟩) := by
  refine fent tk 46 [.tmp 2] Tryz.func149 (by kernel_rfl) rfl rfl rfl rfl rfl rfl rfl ?_
  have hl := hok.2
  repeat' (first
 | (with_reducible apply zds); exact tk; rfl; rfl; rfl; rfl; rfl
 | (with_reducible first | intro _ | apply wseq | apply zreg | apply thenQ_n | apply thenQ_r | apply thenQ_e | apply znil | apply wret | apply bodyQ_r | apply wblk | apply blkQ_n | apply blkQ_r | apply wskip | apply wexit)
 | fail)
  refine wlp (X := Int) [1, 7, 8] [0, 1, 2, 3, 4, 5] (fun i => [(9, I i)]) (fun _ => []) (fun i => 0 ≤ i ∧ i ≤ bb.length ∧ ∀ j : Int, 0 ≤ j → j < i → balRt ba bi bb (rd bb j)) (fun i => (bb.length - i).toNat) 0 ⟨by omega, by omega, fun j h0 h1 => by omega⟩ rfl rfl (fun _ => rfl) (fun _ => rfl) ⟨rfl, rfl, rfl, rfl, rfl, rfl, rfl, rfl⟩ (fun i hi => ?_)
  obtain ⟨h0, hi, hall⟩ := hi
  repeat' (first
 | (with_reducible apply zds); exact tk; rfl; rfl; rfl; rfl; rfl
 | (with_reducible apply zd); rfl; exact tk; rfl
 | (with_reducible first | intro _ | apply wseq | apply zreg | apply thenQ_n | apply thenQ_r | apply thenQ_e | apply znil | apply wret | apply bodyQ_r | apply wblk | apply blkQ_n | apply blkQ_r | apply wskip | apply wexit)
 | apply wct rfl
 | apply wcf rfl
 | (with_reducible apply blkQ_x rfl)
 | (with_reducible apply zcmp); rfl; exact tk; rfl; rfl; rfl
 | (with_reducible apply zne); rfl; exact tk; rfl; rfl; rfl; rfl
 | (with_reducible apply zar); rfl; rfl; rfl; rfl; (first | omega | ((try simp only [List.length_append, List.length_cons, List.length_nil, List.length_map]); (try dsimp only); omega)); rfl; rfl
 | (with_reducible apply zix); rfl; exact tk; (iterate 7 rfl); (first | omega | ((try simp only [List.length_append, List.length_cons, List.length_nil, List.length_map]); (try dsimp only); omega)); rfl; rfl
 | (with_reducible apply zle); rfl; exact tk; rfl; rfl; rfl; rfl; (first | omega | ((try simp only [List.length_append, List.length_cons, List.length_nil, List.length_map]); (try dsimp only); omega)); rfl; rfl; rfl; rfl
 | (with_reducible apply zc); (iterate 10 rfl); (first | exact impl_accountKind | exact impl_instrKind | exact impl_balsSum (by assumption)); exact fun _ => rfl; rfl; rfl; rfl
 | fail)
  all_goals first
    | (exfalso; contradiction)
    | exact endN [0, 1, 2, 3, 4] rfl rfl rfl rfl rfl rfl (fun h => by
        obtain ⟨e1, e2, e3, e4⟩ := h _ (rd_mem ⟨h0, by assumption⟩)
        first | contradiction | exact e3 ⟨by assumption, by assumption⟩ | (rename_i k _; exact k ⟨hok, by rw [e4]; unfold amountOk inP; omega⟩) | (rename_i k; exact k ⟨hok, by rw [e4]; unfold amountOk inP; omega⟩))
    | exact endY [0, 1, 2, 3, 4] rfl rfl rfl rfl rfl rfl (all_rd.1 (fun j h0 h1 => hall j h0 (by omega)))
    | exact endR (i + 1) [0, 1, 2, 3, 4, 5] ⟨rfl, rfl, rfl, rfl, rfl, rfl, rfl, rfl⟩ ⟨by omega, by omega, all_step hall ⟨by assumption, by assumption, fun e => by first | exact absurd e.1 (by assumption) | exact absurd e.2 (by assumption), by assumption⟩⟩ (by first | omega | (dsimp only; omega))
set_option maxHeartbeats 4000000 in
theorem spec_l6Bals {ba : List Account} {bi : List Instr} {bb : List Bal} {bl : List Lot} {bt : List Trade} {bn : Int} (hAc : AccountsOk ba) (hIn : InstrsOk bi) (hok : BalsOk bb) : FC Tryz.prog 222 [bkV 0 ⟨ba, bi, bb, bl, bt, bn⟩] (bkR ⟨ba, bi, bb, bl, bt, bn⟩) (B (dB (balsRt ba bi bb))) (bkR ⟨ba, bi, bb, bl, bt, bn⟩) := by
  refine fent tk 58 [.tmp 2] Tryz.func222 (by kernel_rfl) rfl rfl rfl rfl rfl rfl rfl ?_
  have hl := hok.2
  repeat' (first
 | (with_reducible apply zds); exact tk; rfl; rfl; rfl; rfl; rfl
 | (with_reducible apply zd); rfl; exact tk; rfl
 | (with_reducible first | intro _ | apply wseq | apply zreg | apply thenQ_n | apply thenQ_r | apply thenQ_e | apply znil | apply wret | apply bodyQ_r | apply wblk | apply blkQ_n | apply blkQ_r | apply wskip | apply wexit)
 | fail)
  refine wlp (X := Int) [1] [0, 1, 2, 3, 4, 5] (fun i => [(3, I i)]) (fun _ => []) (fun i => 0 ≤ i ∧ i ≤ bb.length ∧ ∀ j : Int, 0 ≤ j → j < i → balRt ba bi bb (rd bb j)) (fun i => (bb.length - i).toNat) 0 ⟨by omega, by omega, fun j h0 h1 => by omega⟩ rfl rfl (fun _ => rfl) (fun _ => rfl) ⟨rfl, rfl, rfl, rfl, rfl, rfl, rfl, rfl⟩ (fun i hi => ?_)
  obtain ⟨h0, hi, hall⟩ := hi
  repeat' (first
 | (with_reducible apply zds); exact tk; rfl; rfl; rfl; rfl; rfl
 | (with_reducible apply zd); rfl; exact tk; rfl
 | (with_reducible first | intro _ | apply wseq | apply zreg | apply thenQ_n | apply thenQ_r | apply thenQ_e | apply znil | apply wret | apply bodyQ_r | apply wblk | apply blkQ_n | apply blkQ_r | apply wskip | apply wexit)
 | apply wct rfl
 | apply wcf rfl
 | (with_reducible apply blkQ_x rfl)
 | (with_reducible apply zcmp); rfl; exact tk; rfl; rfl; rfl
 | (with_reducible apply zne); rfl; exact tk; rfl; rfl; rfl; rfl
 | (with_reducible apply zar); rfl; rfl; rfl; rfl; (first | omega | ((try simp only [List.length_append, List.length_cons, List.length_nil, List.length_map]); (try dsimp only); omega)); rfl; rfl
 | (with_reducible apply zix); rfl; exact tk; (iterate 7 rfl); (first | omega | ((try simp only [List.length_append, List.length_cons, List.length_nil, List.length_map]); (try dsimp only); omega)); rfl; rfl
 | (with_reducible apply zle); rfl; exact tk; rfl; rfl; rfl; rfl; (first | omega | ((try simp only [List.length_append, List.length_cons, List.length_nil, List.length_map]); (try dsimp only); omega)); rfl; rfl; rfl; rfl
 | (with_reducible apply zcq); (iterate 10 rfl); (first | exact spec_AccountKind | exact spec_InstrKind); rfl; rfl
 | (with_reducible apply zcs); (iterate 10 rfl); exact spec_BalsSum; exact fun _ => rfl; exact fun _ => rfl; rfl; rfl; rfl; rfl
 | fail)
  all_goals first
    | (exfalso; contradiction)
    | exact endN [0, 1, 2, 3, 4] rfl rfl rfl rfl rfl rfl (fun h => by
        obtain ⟨e1, e2, e3, e4⟩ := h _ (rd_mem ⟨h0, by assumption⟩)
        first | contradiction | exact e3 ⟨by assumption, by assumption⟩ | (rename_i k _; exact k ⟨hok, by rw [e4]; unfold amountOk inP; omega⟩) | (rename_i k; exact k ⟨hok, by rw [e4]; unfold amountOk inP; omega⟩))
    | exact endY [0, 1, 2, 3, 4] rfl rfl rfl rfl rfl rfl (all_rd.1 (fun j h0 h1 => hall j h0 (by omega)))
    | exact endR (i + 1) [0, 1, 2, 3, 4, 5] ⟨rfl, rfl, rfl, rfl, rfl, rfl, rfl, rfl⟩ ⟨by omega, by omega, all_step hall ⟨by assumption, by assumption, fun e => by first | exact absurd e.1 (by assumption) | exact absurd e.2 (by assumption), by assumption⟩⟩ (by first | omega | (dsimp only; omega))
set_option maxHeartbeats 4000000 in
theorem impl_lotsRight {ba : List Account} {bi : List Instr} {bb : List Bal} {bl : List Lot} {bt : List Trade} {bn : Int} (hok : BalsOk bb) (hlo : LotsOk bl) : FC Tryz.prog 150 [bkV 0 ⟨ba, bi, bb, bl, bt, bn⟩] (bkR ⟨ba, bi, bb, bl, bt, bn⟩) (B (dB (lotsRt ba bi bb bl bn))) (bkR ⟨ba, bi, bb, bl, bt, bn⟩) := by
  refine fent tk 84 [.tmp 2] Tryz.func150 (by kernel_rfl) rfl rfl rfl rfl rfl rfl rfl ?_
  have hsd := hok.sd
  have hq := hlo.q
  have hlq := hq.len
  refine wlen ba 0 rfl (fun hla => ?_)
  refine wlen bi 1 rfl (fun hli => ?_)
  repeat' (first
 | (with_reducible apply zds); exact tk; rfl; rfl; rfl; rfl; rfl
 | (with_reducible first | intro _ | apply wseq | apply zreg | apply thenQ_n | apply thenQ_r | apply thenQ_e | apply znil | apply wret | apply bodyQ_r | apply wblk | apply blkQ_n | apply blkQ_r | apply wskip | apply wexit)
 | fail)
  refine wlp (X := Int) [1, 12, 13] [0, 1, 2, 3, 4, 5] (fun i => [(14, I i)]) (fun _ => []) (fun i => 0 ≤ i ∧ i ≤ bl.length ∧ ∀ j : Int, 0 ≤ j → j < i → lotRt ba bi bn (rd bl j)) (fun i => (bl.length - i).toNat) 0 ⟨by omega, by omega, fun j h0 h1 => by omega⟩ rfl rfl (fun _ => rfl) (fun _ => rfl) ⟨rfl, rfl, rfl, rfl, rfl, rfl, rfl, rfl⟩ (fun i hi => ?_)
  obtain ⟨h0, hi, hall⟩ := hi
  repeat' (first
 | (with_reducible apply zds); exact tk; rfl; rfl; rfl; rfl; rfl
 | (with_reducible apply zd); rfl; exact tk; rfl
 | (with_reducible first | intro _ | apply wseq | apply zreg | apply thenQ_n | apply thenQ_r | apply thenQ_e | apply znil | apply wret | apply bodyQ_r | apply wblk | apply blkQ_n | apply blkQ_r | apply wskip | apply wexit)
 | apply wct rfl
 | apply wcf rfl
 | (with_reducible apply blkQ_x rfl)
 | (with_reducible apply zcmp); rfl; exact tk; rfl; rfl; rfl
 | (with_reducible apply zne); rfl; exact tk; rfl; rfl; rfl; rfl
 | (with_reducible apply zar); rfl; rfl; rfl; rfl; (first | omega | ((try simp only [List.length_append, List.length_cons, List.length_nil, List.length_map]); (try dsimp only); omega)); rfl; rfl
 | (with_reducible apply zix); rfl; exact tk; (iterate 7 rfl); (first | omega | ((try simp only [List.length_append, List.length_cons, List.length_nil, List.length_map]); (try dsimp only); omega)); rfl; rfl
 | (with_reducible apply zle); rfl; exact tk; rfl; rfl; rfl; rfl; (first | omega | ((try simp only [List.length_append, List.length_cons, List.length_nil, List.length_map]); (try dsimp only); omega)); rfl; rfl; rfl; rfl
 | (with_reducible apply zc); (iterate 10 rfl); (first | exact impl_accountKind | exact impl_instrKind | exact impl_sumLots (by first | assumption | exact LQ.of (by assumption)) | exact impl_balOf (by assumption)); exact fun _ => rfl; rfl; rfl; rfl
 | fail)
  all_goals first
    | (exfalso; contradiction)
    | exact endN [0, 1, 2, 3, 4] rfl rfl rfl rfl rfl rfl (fun h => by
        obtain ⟨e1, e2, e3⟩ := h.1 _ (rd_mem ⟨h0, by assumption⟩)
        first | contradiction | omega)
    | exact endR (i + 1) [0, 1, 2, 3, 4, 5] ⟨rfl, rfl, rfl, rfl, rfl, rfl, rfl, rfl⟩ ⟨by omega, by omega, all_step hall ⟨by assumption, by assumption, by omega⟩⟩ (by first | omega | (dsimp only; omega))
    | skip
  have h1 := all_rd.1 (fun j h0 h1 => hall j h0 (by omega))
  clear hall h0 hi
  refine wlp (X := Int) [1, 41, 42] [0, 1, 2, 3, 4, 5] (fun i => [(43, I i)]) (fun _ => []) (fun i => 0 ≤ i ∧ i ≤ ba.length ∧ ∀ j : Int, 0 ≤ j → j < i → ∀ x ∈ bi, pairRt bb bl (rd ba j) x) (fun i => (ba.length - i).toNat) 0 ⟨by omega, by omega, fun j h0 h1 => by omega⟩ rfl rfl (fun _ => rfl) (fun _ => rfl) ⟨rfl, rfl, rfl, rfl, rfl, rfl, rfl, rfl⟩ (fun i hi => ?_)
  obtain ⟨h0, hi, hall⟩ := hi
  repeat' (first
 | (with_reducible apply zds); exact tk; rfl; rfl; rfl; rfl; rfl
 | (with_reducible apply zd); rfl; exact tk; rfl
 | (with_reducible first | intro _ | apply wseq | apply zreg | apply thenQ_n | apply thenQ_r | apply thenQ_e | apply znil | apply wret | apply bodyQ_r | apply wblk | apply blkQ_n | apply blkQ_r | apply wskip | apply wexit)
 | apply wct rfl
 | apply wcf rfl
 | (with_reducible apply blkQ_x rfl)
 | (with_reducible apply zcmp); rfl; exact tk; rfl; rfl; rfl
 | (with_reducible apply zix); rfl; exact tk; (iterate 7 rfl); (first | omega | ((try simp only [List.length_append, List.length_cons, List.length_nil, List.length_map]); (try dsimp only); omega)); rfl; rfl
 | (with_reducible apply zle); rfl; exact tk; rfl; rfl; rfl; rfl; (first | omega | ((try simp only [List.length_append, List.length_cons, List.length_nil, List.length_map]); (try dsimp only); omega)); rfl; rfl; rfl; rfl
 | fail)
  · rename_i hlt
    refine wlp (X := Int) [1, 6, 41, 42, 43, 48, 49] [0, 1, 2, 3, 4, 5, 6] (fun k => [(50, I k)]) (fun _ => []) (fun k => 0 ≤ k ∧ k ≤ bi.length ∧ ∀ j : Int, 0 ≤ j → j < k → pairRt bb bl (rd ba i) (rd bi j)) (fun k => (bi.length - k).toNat) 0 ⟨by omega, by omega, fun j h0 h1 => by omega⟩ rfl rfl (fun _ => rfl) (fun _ => rfl) ⟨rfl, rfl, rfl, rfl, rfl, rfl, rfl, rfl⟩ (fun k hk => ?_)
    obtain ⟨k0, kk, kall⟩ := hk
    repeat' (first
 | (with_reducible apply zds); exact tk; rfl; rfl; rfl; rfl; rfl
 | (with_reducible apply zd); rfl; exact tk; rfl
 | (with_reducible first | intro _ | apply wseq | apply zreg | apply thenQ_n | apply thenQ_r | apply thenQ_e | apply znil | apply wret | apply bodyQ_r | apply wblk | apply blkQ_n | apply blkQ_r | apply wskip | apply wexit)
 | apply wct rfl
 | apply wcf rfl
 | (with_reducible apply blkQ_x rfl)
 | (with_reducible apply zcmp); rfl; exact tk; rfl; rfl; rfl
 | (with_reducible apply zne); rfl; exact tk; rfl; rfl; rfl; rfl
 | (with_reducible apply zar); rfl; rfl; rfl; rfl; (first | omega | ((try simp only [List.length_append, List.length_cons, List.length_nil, List.length_map]); (try dsimp only); omega)); rfl; rfl
 | (with_reducible apply zix); rfl; exact tk; (iterate 7 rfl); (first | omega | ((try simp only [List.length_append, List.length_cons, List.length_nil, List.length_map]); (try dsimp only); omega)); rfl; rfl
 | (with_reducible apply zle); rfl; exact tk; rfl; rfl; rfl; rfl; (first | omega | ((try simp only [List.length_append, List.length_cons, List.length_nil, List.length_map]); (try dsimp only); omega)); rfl; rfl; rfl; rfl
 | (with_reducible apply zc); (iterate 10 rfl); (first | exact impl_accountKind | exact impl_instrKind | exact impl_sumLots (by first | assumption | exact LQ.of (by assumption)) | exact impl_balOf (by assumption)); exact fun _ => rfl; rfl; rfl; rfl
 | (with_reducible apply zcf); (iterate 10 rfl); exact impl_lotsOf (by first | omega | (have := LQ.len (by assumption); omega)); rfl; rfl; rfl; rfl; rfl
 | fail)
    all_goals first
      | exact endR (k + 1) [0, 1, 2, 3, 4, 5, 6] ⟨rfl, rfl, rfl, rfl, rfl, rfl, rfl, rfl⟩ ⟨by omega, by omega, all_step kall (fun e1 e2 => by first | assumption | exact absurd e1 (by assumption) | exact absurd e2 (by assumption))⟩ (by first | omega | (dsimp only; omega))
      | exact endN [0, 1, 2, 3, 4] rfl rfl rfl rfl rfl rfl (fun h => absurd (h.2 _ (rd_mem ⟨h0, hlt⟩) _ (rd_mem ⟨k0, by assumption⟩) (by assumption) (by assumption)) (by assumption))
      | exact endR (i + 1) [0, 1, 2, 3, 4, 5] ⟨rfl, rfl, rfl, rfl, rfl, rfl, rfl, rfl⟩ ⟨by omega, by omega, all_step hall (all_rd.1 (fun j h0 h1 => kall j h0 (by omega)))⟩ (by first | omega | (dsimp only; omega))
  · exact endY [0, 1, 2, 3, 4] rfl rfl rfl rfl rfl rfl ⟨h1, all_rd.1 (fun j h0 h1 => hall j h0 (by omega))⟩
set_option maxHeartbeats 4000000 in
theorem spec_l6Lots {ba : List Account} {bi : List Instr} {bb : List Bal} {bl : List Lot} {bt : List Trade} {bn : Int} (hAc : AccountsOk ba) (hIn : InstrsOk bi) (hok : BalsOk bb) (hlo : LotsOk bl) : FC Tryz.prog 223 [bkV 0 ⟨ba, bi, bb, bl, bt, bn⟩] (bkR ⟨ba, bi, bb, bl, bt, bn⟩) (B (dB (lotsRt ba bi bb bl bn))) (bkR ⟨ba, bi, bb, bl, bt, bn⟩) := by
  refine fent tk 108 [.tmp 2] Tryz.func223 (by kernel_rfl) rfl rfl rfl rfl rfl rfl rfl ?_
  have hsd := hok.sd
  have hq := hlo.q
  have hlq := hq.len
  refine wlen ba 0 rfl (fun hla => ?_)
  refine wlen bi 1 rfl (fun hli => ?_)
  repeat' (first
 | (with_reducible apply zds); exact tk; rfl; rfl; rfl; rfl; rfl
 | (with_reducible apply zd); rfl; exact tk; rfl
 | (with_reducible first | intro _ | apply wseq | apply zreg | apply thenQ_n | apply thenQ_r | apply thenQ_e | apply znil | apply wret | apply bodyQ_r | apply wblk | apply blkQ_n | apply blkQ_r | apply wskip | apply wexit)
 | fail)
  refine wlp (X := Int) [1] [0, 1, 2, 3, 4, 5] (fun i => [(3, I i)]) (fun _ => []) (fun i => 0 ≤ i ∧ i ≤ bl.length ∧ ∀ j : Int, 0 ≤ j → j < i → lotRt ba bi bn (rd bl j)) (fun i => (bl.length - i).toNat) 0 ⟨by omega, by omega, fun j h0 h1 => by omega⟩ rfl rfl (fun _ => rfl) (fun _ => rfl) ⟨rfl, rfl, rfl, rfl, rfl, rfl, rfl, rfl⟩ (fun i hi => ?_)
  obtain ⟨h0, hi, hall⟩ := hi
  repeat' (first
 | (with_reducible apply zds); exact tk; rfl; rfl; rfl; rfl; rfl
 | (with_reducible apply zd); rfl; exact tk; rfl
 | (with_reducible first | intro _ | apply wseq | apply zreg | apply thenQ_n | apply thenQ_r | apply thenQ_e | apply znil | apply wret | apply bodyQ_r | apply wblk | apply blkQ_n | apply blkQ_r | apply wskip | apply wexit)
 | apply wct rfl
 | apply wcf rfl
 | (with_reducible apply blkQ_x rfl)
 | (with_reducible apply zcmp); rfl; exact tk; rfl; rfl; rfl
 | (with_reducible apply zne); rfl; exact tk; rfl; rfl; rfl; rfl
 | (with_reducible apply zar); rfl; rfl; rfl; rfl; (first | omega | ((try simp only [List.length_append, List.length_cons, List.length_nil, List.length_map]); (try dsimp only); omega)); rfl; rfl
 | (with_reducible apply zix); rfl; exact tk; (iterate 7 rfl); (first | omega | ((try simp only [List.length_append, List.length_cons, List.length_nil, List.length_map]); (try dsimp only); omega)); rfl; rfl
 | (with_reducible apply zle); rfl; exact tk; rfl; rfl; rfl; rfl; (first | omega | ((try simp only [List.length_append, List.length_cons, List.length_nil, List.length_map]); (try dsimp only); omega)); rfl; rfl; rfl; rfl
 | (with_reducible apply zcq); (iterate 10 rfl); (first | exact spec_AccountKind | exact spec_InstrKind); rfl; rfl
 | fail)
  all_goals first
    | (exfalso; contradiction)
    | exact endN [0, 1, 2, 3, 4] rfl rfl rfl rfl rfl rfl (fun h => by
        obtain ⟨e1, e2, e3⟩ := h.1 _ (rd_mem ⟨h0, by assumption⟩)
        first | contradiction | omega)
    | exact endR (i + 1) [0, 1, 2, 3, 4, 5] ⟨rfl, rfl, rfl, rfl, rfl, rfl, rfl, rfl⟩ ⟨by omega, by omega, all_step hall ⟨by assumption, by assumption, by omega⟩⟩ (by first | omega | (dsimp only; omega))
    | skip
  have h1 := all_rd.1 (fun j h0 h1 => hall j h0 (by omega))
  clear hall h0 hi
  refine wlp (X := Int) [1] [0, 1, 2, 3, 4, 5] (fun i => [(5, I i)]) (fun _ => []) (fun i => 0 ≤ i ∧ i ≤ ba.length ∧ ∀ j : Int, 0 ≤ j → j < i → ∀ x ∈ bi, pairRt bb bl (rd ba j) x) (fun i => (ba.length - i).toNat) 0 ⟨by omega, by omega, fun j h0 h1 => by omega⟩ rfl rfl (fun _ => rfl) (fun _ => rfl) ⟨rfl, rfl, rfl, rfl, rfl, rfl, rfl, rfl⟩ (fun i hi => ?_)
  obtain ⟨h0, hi, hall⟩ := hi
  repeat' (first
 | (with_reducible apply zds); exact tk; rfl; rfl; rfl; rfl; rfl
 | (with_reducible apply zd); rfl; exact tk; rfl
 | (with_reducible first | intro _ | apply wseq | apply zreg | apply thenQ_n | apply thenQ_r | apply thenQ_e | apply znil | apply wret | apply bodyQ_r | apply wblk | apply blkQ_n | apply blkQ_r | apply wskip | apply wexit)
 | apply wct rfl
 | apply wcf rfl
 | (with_reducible apply blkQ_x rfl)
 | (with_reducible apply zcmp); rfl; exact tk; rfl; rfl; rfl
 | fail)
  · rename_i hlt
    refine wlp (X := Int) [1, 5] [0, 1, 2, 3, 4, 5] (fun k => [(6, I k)]) (fun _ => []) (fun k => 0 ≤ k ∧ k ≤ bi.length ∧ ∀ j : Int, 0 ≤ j → j < k → pairRt bb bl (rd ba i) (rd bi j)) (fun k => (bi.length - k).toNat) 0 ⟨by omega, by omega, fun j h0 h1 => by omega⟩ rfl rfl (fun _ => rfl) (fun _ => rfl) ⟨rfl, rfl, rfl, rfl, rfl, rfl, rfl, rfl⟩ (fun k hk => ?_)
    obtain ⟨k0, kk, kall⟩ := hk
    repeat' (first
 | (with_reducible apply zds); exact tk; rfl; rfl; rfl; rfl; rfl
 | (with_reducible apply zd); rfl; exact tk; rfl
 | (with_reducible first | intro _ | apply wseq | apply zreg | apply thenQ_n | apply thenQ_r | apply thenQ_e | apply znil | apply wret | apply bodyQ_r | apply wblk | apply blkQ_n | apply blkQ_r | apply wskip | apply wexit)
 | apply wct rfl
 | apply wcf rfl
 | (with_reducible apply blkQ_x rfl)
 | (with_reducible apply zcmp); rfl; exact tk; rfl; rfl; rfl
 | (with_reducible apply zne); rfl; exact tk; rfl; rfl; rfl; rfl
 | (with_reducible apply zar); rfl; rfl; rfl; rfl; (first | omega | ((try simp only [List.length_append, List.length_cons, List.length_nil, List.length_map]); (try dsimp only); omega)); rfl; rfl
 | (with_reducible apply zix); rfl; exact tk; (iterate 7 rfl); (first | omega | ((try simp only [List.length_append, List.length_cons, List.length_nil, List.length_map]); (try dsimp only); omega)); rfl; rfl
 | (with_reducible apply zle); rfl; exact tk; rfl; rfl; rfl; rfl; (first | omega | ((try simp only [List.length_append, List.length_cons, List.length_nil, List.length_map]); (try dsimp only); omega)); rfl; rfl; rfl; rfl
 | refine zdq (id := 14) rfl (by kernel_rfl) [(.p, 0), (.p, 2), (.p, 4), (.p, 8), (.p, 10), (.t, 1), (.t, 3), (.p, 5), (.p, 6), (.t, 7), (.t, 9), (.p, 11), (.p, 12), (.t, 13), (.o, 14), (.p, 15), (.p, 16), (.p, 17), (.p, 18), (.p, 19)] [] (by kernel_rfl) rfl ?_
 | refine zdq (id := 15) rfl (by kernel_rfl) [(.p, 0), (.p, 2), (.p, 4), (.p, 6), (.p, 10), (.p, 12), (.t, 3), (.t, 5), (.p, 7), (.p, 8), (.t, 9), (.t, 11), (.p, 13), (.p, 14), (.t, 15), (.o, 1), (.o, 16), (.p, 17)] [] (by kernel_rfl) rfl ?_
 | (with_reducible apply zc); (iterate 10 rfl); (first | exact spec_AccountKind_ok (by assumption) | exact spec_InstrKind_ok (by assumption) | exact spec_l5Qty (by first | assumption | exact LQ.of (by assumption)) | exact spec_l4Of); exact fun _ => rfl; rfl; rfl; rfl
 | (with_reducible apply zcf); (iterate 10 rfl); exact spec_l5Split (by first | omega | (have := LQ.len (by assumption); omega)); rfl; rfl; rfl; rfl; rfl
 | fail)
    all_goals first
      | exact endR (k + 1) [0, 1, 2, 3, 4, 5] ⟨rfl, rfl, rfl, rfl, rfl, rfl, rfl, rfl⟩ ⟨by omega, by omega, all_step kall (fun e1 e2 => by first | assumption | exact absurd e1 (by assumption) | exact absurd e2 (by assumption))⟩ (by first | omega | (dsimp only; omega))
      | exact endN [0, 1, 2, 3, 4] rfl rfl rfl rfl rfl rfl (fun h => absurd (h.2 _ (rd_mem ⟨h0, hlt⟩) _ (rd_mem ⟨k0, by assumption⟩) (by assumption) (by assumption)) (by assumption))
      | exact endR (i + 1) [0, 1, 2, 3, 4, 5] ⟨rfl, rfl, rfl, rfl, rfl, rfl, rfl, rfl⟩ ⟨by omega, by omega, all_step hall (all_rd.1 (fun j h0 h1 => kall j h0 (by omega)))⟩ (by first | omega | (dsimp only; omega))
  · exact endY [0, 1, 2, 3, 4] rfl rfl rfl rfl rfl rfl ⟨h1, all_rd.1 (fun j h0 h1 => hall j h0 (by omega))⟩
set_option maxHeartbeats 4000000 in
theorem impl_tradesRight_1 {ba : List Account} {bi : List Instr} {bb : List Bal} {bl : List Lot} {bt : List Trade} {bn : Int} {no bu se pa qt ca pr st : Int} : FC Tryz.prog 255 [.agg [.sc (.int .i64 no), .sc (.int .i64 bu), .sc (.int .i64 se), .sc (.int .i64 pa), .sc (.int .i64 qt), .sc (.int .i64 ca), .sc (.int .i64 pr), .sc (.int .i64 st)], .c (.ptr 0 0 0)] ([bkY 1 ⟨ba, bi, bb, bl, bt, bn⟩] ++ bkR ⟨ba, bi, bb, bl, bt, bn⟩) (B (dB (¬ trF ba bi bu se pa ca))) ([bkY 1 ⟨ba, bi, bb, bl, bt, bn⟩] ++ bkR ⟨ba, bi, bb, bl, bt, bn⟩) := by
  refine fent tk 34 [.tmp 3] Tryz.func255 (by kernel_rfl) rfl rfl rfl rfl rfl rfl rfl ?_
  repeat' (first
 | (with_reducible apply zds); exact tk; rfl; rfl; rfl; rfl; rfl
 | (with_reducible first | intro _ | apply wseq | apply zreg | apply thenQ_n | apply thenQ_r | apply thenQ_e | apply znil | apply wret | apply bodyQ_r | apply wblk | apply blkQ_n | apply blkQ_r | apply wskip | apply wexit)
 | (with_reducible apply zne); rfl; exact tk; rfl; rfl; rfl; rfl
 | (with_reducible apply zc); (iterate 10 rfl); (first | exact impl_accountKind | exact impl_instrKind); exact fun _ => rfl; rfl; rfl; rfl
 | fail)
  all_goals first
    | exact endY [0, 1, 2, 3, 4, 5] rfl rfl rfl rfl rfl rfl (fun e => by obtain ⟨e1, e2, e3, e4⟩ := e; contradiction)
    | exact endN [0, 1, 2, 3, 4, 5] rfl rfl rfl rfl rfl rfl (fun h => h ⟨by assumption, by assumption, by assumption, by assumption⟩)
set_option maxHeartbeats 4000000 in
theorem slices_IndexFunc_Trade_rt {l : List Trade} {ba : List Account} {bi : List Instr} {bb : List Bal} {bl : List Lot} {bn : Int} : FC Tryz.prog 276 [.c (.row 0 0 l.length), .c (.fn 255 [(1, 0, 0)])] ([ro 103 l, some ⟨false, 30, 6, .mx [.row 2 0 ba.length, .row 3 0 bi.length, .row 4 0 bb.length, .row 5 0 bl.length, .row 0 0 l.length, .sc (.int .i64 bn)]⟩, ro 42 ba, ro 74 bi, ro 135 bb, ro 137 bl]) (sel (∃ x ∈ l, ¬ trF ba bi x.Buyer x.Seller x.Paper x.Cash) (I (fIx l (fun x => ¬ trF ba bi x.Buyer x.Seller x.Paper x.Cash))) (I (-1))) (sel (∃ x ∈ l, ¬ trF ba bi x.Buyer x.Seller x.Paper x.Cash) [ro 103 l, some ⟨false, 30, 6, .mx [.row 2 0 ba.length, .row 3 0 bi.length, .row 4 0 bb.length, .row 5 0 bl.length, .row 0 0 l.length, .sc (.int .i64 bn)]⟩, ro 42 ba, ro 74 bi, ro 135 bb, ro 137 bl] [ro 103 l, some ⟨false, 30, 6, .mx [.row 2 0 ba.length, .row 3 0 bi.length, .row 4 0 bb.length, .row 5 0 bl.length, .row 0 0 l.length, .sc (.int .i64 bn)]⟩, ro 42 ba, ro 74 bi, ro 135 bb, ro 137 bl]) := by
  refine fent tk 19 [.tmp 4] Tryz.func276 (by kernel_rfl) rfl rfl rfl rfl rfl rfl rfl ?_
  refine wlen l 0 rfl (fun hl => ?_)
  repeat' (first
 | (with_reducible apply zds); exact tk; rfl; rfl; rfl; rfl; rfl
 | (with_reducible apply zd); rfl; exact tk; rfl
 | (with_reducible first | intro _ | apply wseq | apply zreg | apply thenQ_n | apply thenQ_r | apply thenQ_e | apply znil | apply wret | apply bodyQ_r | apply wblk | apply blkQ_n | apply blkQ_r | apply wskip | apply wexit)
 | fail)
  refine wlp (X := Int) [0, 1, 7] [0, 1, 2, 3, 4, 5] (fun i => [(8, I i)]) (fun _ => []) (fun i => 0 ≤ i ∧ i ≤ l.length ∧ ∀ j : Int, 0 ≤ j → j < i → ¬ (fun x => ¬ trF ba bi x.Buyer x.Seller x.Paper x.Cash) (rd l j)) (fun i => (l.length - i).toNat) 0 ⟨by omega, by omega, fun j h0 h1 => by omega⟩ rfl rfl (fun _ => rfl) (fun _ => rfl) ⟨rfl, rfl, rfl, rfl, rfl, rfl, rfl, rfl⟩ (fun i hi => ?_)
  obtain ⟨h0, hi, hall⟩ := hi
  skip
  repeat' (first
 | (with_reducible apply zds); exact tk; rfl; rfl; rfl; rfl; rfl
 | (with_reducible apply zd); rfl; exact tk; rfl
 | (with_reducible apply zcp); (iterate 10 rfl); exact impl_tradesRight_1; rfl; rfl
 | (with_reducible first | intro _ | apply wseq | apply zreg | apply thenQ_n | apply thenQ_r | apply thenQ_e | apply znil | apply wret | apply bodyQ_r | apply wblk | apply blkQ_n | apply blkQ_r | apply wskip | apply wexit)
 | apply wct rfl
 | apply wcf rfl
 | (with_reducible apply blkQ_x rfl)
 | (with_reducible apply zcmp); rfl; exact tk; rfl; rfl; rfl
 | (with_reducible apply zar); rfl; rfl; rfl; rfl; (first | omega | ((try simp only [List.length_append, List.length_cons, List.length_nil, List.length_map]); (try dsimp only); omega)); rfl; rfl
 | (with_reducible apply zix); rfl; exact tk; (iterate 7 rfl); (first | omega | ((try simp only [List.length_append, List.length_cons, List.length_nil, List.length_map]); (try dsimp only); omega)); rfl; rfl
 | (with_reducible apply zle); rfl; exact tk; rfl; rfl; rfl; rfl; (first | omega | ((try simp only [List.length_append, List.length_cons, List.length_nil, List.length_map]); (try dsimp only); omega)); rfl; rfl; rfl; rfl
 | fail)
  all_goals first
    | (refine endG (X' := I i) (hs' := [ro 103 l, some ⟨false, 30, 6, .mx [.row 2 0 ba.length, .row 3 0 bi.length, .row 4 0 bb.length, .row 5 0 bl.length, .row 0 0 l.length, .sc (.int .i64 bn)]⟩, ro 42 ba, ro 74 bi, ro 135 bb, ro 137 bl]) [0, 1, 2, 3, 4, 5] rfl rfl rfl rfl rfl rfl ?_ ?_
       · rw [sel_t ⟨rd l i, rd_mem ⟨by omega, by omega⟩, by assumption⟩, fIx_eq ⟨by omega, by omega⟩ hall (by assumption)]
       · rw [sel_t ⟨rd l i, rd_mem ⟨by omega, by omega⟩, by assumption⟩])
    | exact endF (no_rd (by assumption) hall) [0, 1, 2, 3, 4, 5] rfl rfl rfl rfl rfl rfl
    | exact endR (i + 1) [0, 1, 2, 3, 4, 5] ⟨rfl, rfl, rfl, rfl, rfl, rfl, rfl, rfl⟩ ⟨by omega, by omega, all_step hall (by assumption)⟩ (by first | omega | (dsimp only; omega))
set_option maxHeartbeats 4000000 in
theorem slices_ContainsFunc_Trade_rt {l : List Trade} {ba : List Account} {bi : List Instr} {bb : List Bal} {bl : List Lot} {bn : Int} : FC Tryz.prog 254 [.c (.row 0 0 l.length), .c (.fn 255 [(1, 0, 0)])] ([ro 103 l, some ⟨false, 30, 6, .mx [.row 2 0 ba.length, .row 3 0 bi.length, .row 4 0 bb.length, .row 5 0 bl.length, .row 0 0 l.length, .sc (.int .i64 bn)]⟩, ro 42 ba, ro 74 bi, ro 135 bb, ro 137 bl]) (B (dB (∃ x ∈ l, ¬ trF ba bi x.Buyer x.Seller x.Paper x.Cash))) ([ro 103 l, some ⟨false, 30, 6, .mx [.row 2 0 ba.length, .row 3 0 bi.length, .row 4 0 bb.length, .row 5 0 bl.length, .row 0 0 l.length, .sc (.int .i64 bn)]⟩, ro 42 ba, ro 74 bi, ro 135 bb, ro 137 bl]) := by
  refine fent tk 9 [.tmp 4] Tryz.func254 (by kernel_rfl) rfl rfl rfl rfl rfl rfl rfl ?_
  have hn := fIx_nn l (fun x => ¬ trF ba bi x.Buyer x.Seller x.Paper x.Cash)
  repeat' (first
 | (with_reducible apply zds); exact tk; rfl; rfl; rfl; rfl; rfl
 | (with_reducible apply zd); rfl; exact tk; rfl
 | (with_reducible first | intro _ | apply wseq | apply zreg | apply thenQ_n | apply thenQ_r | apply thenQ_e | apply znil | apply wret | apply bodyQ_r | apply wblk | apply blkQ_n | apply blkQ_r | apply wskip | apply wexit)
 | (with_reducible apply zcmp); rfl; exact tk; rfl; rfl; rfl
 | (with_reducible apply zcs); (iterate 10 rfl); (first | exact slices_IndexFunc_Trade_at | exact slices_IndexFunc_Trade_rt); exact fun _ => rfl; exact fun _ => rfl; rfl; rfl; rfl; rfl
 | fail)
  all_goals first
    | exact endY [0, 1, 2, 3, 4, 5] rfl rfl rfl rfl rfl rfl (by assumption)
    | exact endN [0, 1, 2, 3, 4, 5] rfl rfl rfl rfl rfl rfl (by assumption)
    | (exfalso; omega)
set_option maxHeartbeats 4000000 in
theorem impl_tradesRight {ba : List Account} {bi : List Instr} {bb : List Bal} {bl : List Lot} {bt : List Trade} {bn : Int} : FC Tryz.prog 151 [bkV 0 ⟨ba, bi, bb, bl, bt, bn⟩] (bkR ⟨ba, bi, bb, bl, bt, bn⟩) (B (dB (tradesRt ba bi bt))) (bkR ⟨ba, bi, bb, bl, bt, bn⟩) := by
  refine fent tk 8 [.tmp 2] Tryz.func151 (by kernel_rfl) rfl rfl rfl rfl rfl rfl rfl ?_
  repeat' (first
 | (with_reducible apply zds); exact tk; rfl; rfl; rfl; rfl; rfl
 | (with_reducible first | intro _ | apply wseq | apply zreg | apply thenQ_n | apply thenQ_r | apply thenQ_e | apply znil | apply wret | apply bodyQ_r | apply wblk | apply blkQ_n | apply blkQ_r | apply wskip | apply wexit)
 | (with_reducible apply zcp); (iterate 10 rfl); exact slices_ContainsFunc_Trade_rt; rfl; rfl
 | fail)
  all_goals first
    | exact endN [0, 1, 2, 3, 4] rfl rfl rfl rfl rfl rfl (fun h => by rename_i k; obtain ⟨x, hx, hn⟩ := k; exact hn (h x hx))
    | exact endY [0, 1, 2, 3, 4] rfl rfl rfl rfl rfl rfl (fun x hx => Classical.byContradiction fun hn => by rename_i k; exact k ⟨x, hx, hn⟩)
set_option maxHeartbeats 4000000 in
theorem impl_BooksOk {ba : List Account} {bi : List Instr} {bb : List Bal} {bl : List Lot} {bt : List Trade} {bn : Int} : FC Tryz.prog 38 [bkV 0 ⟨ba, bi, bb, bl, bt, bn⟩] (bkR ⟨ba, bi, bb, bl, bt, bn⟩) (B (dB (BooksOk ⟨ba, bi, bb, bl, bt, bn⟩))) (bkR ⟨ba, bi, bb, bl, bt, bn⟩) := by
  refine fent tk 47 [.tmp 2] Tryz.func38 (by kernel_rfl) rfl rfl rfl rfl rfl rfl rfl ?_
  repeat' (first
 | (with_reducible apply zds); exact tk; rfl; rfl; rfl; rfl; rfl
 | (with_reducible apply zd); rfl; exact tk; rfl
 | (with_reducible first | intro _ | apply wseq | apply zreg | apply thenQ_n | apply thenQ_r | apply thenQ_e | apply znil | apply wret | apply bodyQ_r | apply wblk | apply blkQ_n | apply blkQ_r | apply wskip | apply wexit)
 | apply wct rfl
 | apply wcf rfl
 | (with_reducible apply zcp); (iterate 10 rfl); (first | exact impl_AccountsOk | exact impl_InstrsOk | exact impl_BalsOk | exact impl_LotsOk | exact impl_TradesOk | exact impl_in | exact impl_balsRight (by assumption) | exact impl_lotsRight (by assumption) (by assumption) | exact impl_tradesRight); rfl; rfl
 | fail)
  all_goals first
    | exact endY [0, 1, 2, 3, 4] rfl rfl rfl rfl rfl rfl ⟨by assumption, by assumption, by assumption, by assumption, by assumption, by assumption, by assumption, by assumption, by assumption⟩
    | exact endN [0, 1, 2, 3, 4] rfl rfl rfl rfl rfl rfl (fun h => by obtain ⟨e1, e2, e3, e4, e5, e6, e7, e8, e9⟩ := h; contradiction)
set_option maxHeartbeats 4000000 in
theorem spec_BooksOk {ba : List Account} {bi : List Instr} {bb : List Bal} {bl : List Lot} {bt : List Trade} {bn : Int} : FC Tryz.prog 98 [bkV 0 ⟨ba, bi, bb, bl, bt, bn⟩] (bkR ⟨ba, bi, bb, bl, bt, bn⟩) (B (dB (BooksOk ⟨ba, bi, bb, bl, bt, bn⟩))) (bkR ⟨ba, bi, bb, bl, bt, bn⟩) := by
  refine fent tk 91 [.tmp 2] Tryz.func98 (by kernel_rfl) rfl rfl rfl rfl rfl rfl rfl ?_
  refine wlen bt 4 rfl (fun hlt => ?_)
  repeat' (first
 | (with_reducible apply zds); exact tk; rfl; rfl; rfl; rfl; rfl
 | (with_reducible apply zd); rfl; exact tk; rfl
 | (with_reducible first | intro _ | apply wseq | apply zreg | apply thenQ_n | apply thenQ_r | apply thenQ_e | apply znil | apply wret | apply bodyQ_r | apply wblk | apply blkQ_n | apply blkQ_r | apply wskip | apply wexit)
 | apply wct rfl
 | apply wcf rfl
 | (with_reducible apply zcp); (iterate 10 rfl); (first | exact spec_AccountsOk | exact spec_InstrsOk | exact spec_BalsOk | exact spec_LotsOk | exact spec_TradesOk | exact spec_l1In | exact spec_l6Bals (by assumption) (by assumption) (by assumption) | exact spec_l6Lots (by assumption) (by assumption) (by assumption) (by assumption)); rfl; rfl
 | fail)
  all_goals first
    | exact endN [0, 1, 2, 3, 4] rfl rfl rfl rfl rfl rfl (fun h => by obtain ⟨e1, e2, e3, e4, e5, e6, e7, e8, e9⟩ := h; contradiction)
    | skip
  refine wlp (X := Int) [1] [0, 1, 2, 3, 4, 5] (fun i => [(3, I i)]) (fun _ => []) (fun i => 0 ≤ i ∧ i ≤ bt.length ∧ ∀ j : Int, 0 ≤ j → j < i → trF ba bi (rd bt j).Buyer (rd bt j).Seller (rd bt j).Paper (rd bt j).Cash) (fun i => (bt.length - i).toNat) 0 ⟨by omega, by omega, fun j h0 h1 => by omega⟩ rfl rfl (fun _ => rfl) (fun _ => rfl) ⟨rfl, rfl, rfl, rfl, rfl, rfl, rfl, rfl⟩ (fun i hi => ?_)
  obtain ⟨h0, hi, hall⟩ := hi
  repeat' (first
 | (with_reducible apply zds); exact tk; rfl; rfl; rfl; rfl; rfl
 | (with_reducible apply zd); rfl; exact tk; rfl
 | (with_reducible first | intro _ | apply wseq | apply zreg | apply thenQ_n | apply thenQ_r | apply thenQ_e | apply znil | apply wret | apply bodyQ_r | apply wblk | apply blkQ_n | apply blkQ_r | apply wskip | apply wexit)
 | apply wct rfl
 | apply wcf rfl
 | (with_reducible apply blkQ_x rfl)
 | (with_reducible apply zcmp); rfl; exact tk; rfl; rfl; rfl
 | (with_reducible apply zne); rfl; exact tk; rfl; rfl; rfl; rfl
 | (with_reducible apply zar); rfl; rfl; rfl; rfl; (first | omega | ((try simp only [List.length_append, List.length_cons, List.length_nil, List.length_map]); (try dsimp only); omega)); rfl; rfl
 | (with_reducible apply zix); rfl; exact tk; (iterate 7 rfl); (first | omega | ((try simp only [List.length_append, List.length_cons, List.length_nil, List.length_map]); (try dsimp only); omega)); rfl; rfl
 | (with_reducible apply zle); rfl; exact tk; rfl; rfl; rfl; rfl; (first | omega | ((try simp only [List.length_append, List.length_cons, List.length_nil, List.length_map]); (try dsimp only); omega)); rfl; rfl; rfl; rfl
 | (with_reducible apply zcq); (iterate 10 rfl); (first | exact spec_AccountKind | exact spec_InstrKind); rfl; rfl
 | fail)
  all_goals first
    | (exfalso; contradiction)
    | exact endN [0, 1, 2, 3, 4] rfl rfl rfl rfl rfl rfl (fun h => by
        have h' : tradesRt ba bi bt := h.tR
        obtain ⟨e1, e2, e3, e4⟩ := h' _ (rd_mem ⟨h0, by assumption⟩)
        contradiction)
    | exact endY [0, 1, 2, 3, 4] rfl rfl rfl rfl rfl rfl ⟨by assumption, by assumption, by assumption, by assumption, by assumption, by assumption, by assumption, by assumption, (all_rd (l := bt) (p := fun x : Trade => trF ba bi x.Buyer x.Seller x.Paper x.Cash)).1 (fun j h0 h1 => hall j h0 (by omega))⟩
    | exact endR (i + 1) [0, 1, 2, 3, 4, 5] ⟨rfl, rfl, rfl, rfl, rfl, rfl, rfl, rfl⟩ ⟨by omega, by omega, all_step hall ⟨by assumption, by assumption, by assumption, by assumption⟩⟩ (by first | omega | (dsimp only; omega))
end Go.Proofs.YtgehbhkfehmdkaaGreat.Sh
