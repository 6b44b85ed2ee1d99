/- Copies of books, trades. No condition. -/
import Derived.Test.YtgehbhkfehmdkaaGreatKSpShBo
namespace Go.Proofs.YtgehbhkfehmdkaaGreat.Sh
open Go.RowKit
set_option linter.unusedVariables false
set_option linter.unusedSimpArgs false
structure MidB (b : Books) : Prop where
  a1 : b.Accounts.length ≤ 4194304
  a2 : b.Instrs.length ≤ 4194304
  a3 : b.Bals.length ≤ 4194304
  a4 : b.Lots.length ≤ 4194304
  a5 : b.Trades.length ≤ 4194304
theorem Small.midB {b : Books} (h : Small b) : MidB b := ⟨by have := h.a1; omega, by have := h.a2; omega, by have := h.a3; omega, by have := h.a4; omega, by have := h.a5; omega⟩
theorem BooksOk.midB {b : Books} (h : BooksOk b) : MidB b := ⟨by have := h.acc.2; omega, by have := h.ins.2; omega, by have := h.bals.2; omega, by have := h.lots.1.2; omega, by have := h.trades.2; omega⟩
def bkE (n : Nat) (b : Books) : AV := .agg [.row n 0 b.Accounts.length, .row (n + 1) 0 b.Instrs.length, .row (n + 2) 0 b.Bals.length, .row (n + 3) 0 b.Lots.length, .row (n + 4) 0 b.Trades.length, .sc (.int .i64 b.Lot)]
def bkW (b : Books) : AH := [ow 42 b.Accounts, ow 74 b.Instrs, ow 135 b.Bals, ow 137 b.Lots, ow 103 b.Trades]
set_option maxHeartbeats 4000000 in
theorem impl_cloneBooks {ba : List Account} {bi : List Instr} {bb : List Bal} {bl : List Lot} {bt : List Trade} {bn : Int} (hs : MidB ⟨ba, bi, bb, bl, bt, bn⟩) : FC Tryz.prog 96 [bkV 0 ⟨ba, bi, bb, bl, bt, bn⟩] (bkR ⟨ba, bi, bb, bl, bt, bn⟩) (bkV 5 ⟨ba, bi, bb, bl, bt, bn⟩) (bkR ⟨ba, bi, bb, bl, bt, bn⟩ ++ bkO ⟨ba, bi, bb, bl, bt, bn⟩) := by
  refine fent tk 21 [.cell 2 _] Tryz.func96 (by kernel_rfl) rfl rfl rfl rfl rfl rfl rfl ?_
  obtain ⟨h1, h2, h3, h4, h5⟩ := hs
  dsimp only at h1 h2 h3 h4 h5
  repeat' (first
 | (with_reducible apply zds); exact tk; rfl; rfl; rfl; rfl; rfl
 | (with_reducible first | intro _ | apply wseq | apply zreg | apply thenQ_n | apply thenQ_r | apply thenQ_e | apply znil | apply wret | apply bodyQ_r | apply wblk | apply blkQ_n | apply blkQ_r | apply wskip | apply wexit)
 | refine zdq (id := 1) rfl (by kernel_rfl) [(.p, 0), (.p, 3), (.p, 6), (.p, 9), (.p, 12), (.p, 15), (.t, 1), (.t, 4), (.t, 7), (.t, 10), (.t, 13), (.t, 16), (.o, 2), (.o, 5), (.o, 8), (.o, 11), (.o, 14), (.p, 17), (.l, 18)] [18] (by kernel_rfl) rfl ?_
 | (with_reducible apply zcf); (iterate 10 rfl); (first | exact slices_Clone_Account (by omega) | exact slices_Clone_Instr (by omega) | exact slices_Clone_Bal (by omega) | exact slices_Clone_Lot (by omega) | exact slices_Clone_Trade (by omega)); rfl; rfl; rfl; rfl; rfl
 | fail)
  all_goals exact endV [0, 1, 2, 3, 4, 7, 8, 9, 10, 11] rfl rfl rfl rfl rfl rfl
set_option maxHeartbeats 4000000 in
theorem spec_l6Copy {ba : List Account} {bi : List Instr} {bb : List Bal} {bl : List Lot} {bt : List Trade} {bn : Int} (hs : MidB ⟨ba, bi, bb, bl, bt, bn⟩) : FC Tryz.prog 102 [bkV 0 ⟨ba, bi, bb, bl, bt, bn⟩] (bkR ⟨ba, bi, bb, bl, bt, bn⟩) (bkV 5 ⟨ba, bi, bb, bl, bt, bn⟩) (bkR ⟨ba, bi, bb, bl, bt, bn⟩ ++ bkO ⟨ba, bi, bb, bl, bt, bn⟩) := by
  refine fent tk 33 [.cell 2 _] Tryz.func102 (by kernel_rfl) rfl rfl rfl rfl rfl rfl rfl ?_
  obtain ⟨h1, h2, h3, h4, h5⟩ := hs
  dsimp only at h1 h2 h3 h4 h5
  repeat' (first
 | (with_reducible apply zds); exact tk; rfl; rfl; rfl; rfl; rfl
 | (with_reducible first | intro _ | apply wseq | apply zreg | apply thenQ_n | apply thenQ_r | apply thenQ_e | apply znil | apply wret | apply bodyQ_r | apply wblk | apply blkQ_n | apply blkQ_r | apply wskip | apply wexit)
 | (with_reducible apply zlit (α := Account) (e := 42)); rfl; exact tk; (iterate 13 rfl)
 | (with_reducible apply zlit (α := Instr) (e := 74)); rfl; exact tk; (iterate 13 rfl)
 | (with_reducible apply zlit (α := Bal) (e := 135)); rfl; exact tk; (iterate 13 rfl)
 | (with_reducible apply zlit (α := Lot) (e := 137)); rfl; exact tk; (iterate 13 rfl)
 | (with_reducible apply zlit (α := Trade) (e := 103)); rfl; exact tk; (iterate 13 rfl)
 | (with_reducible apply zap); rfl; exact tk; (iterate 10 rfl); (first | omega | ((try simp only [List.length_append, List.length_cons, List.length_nil, List.length_map]); (try dsimp only); omega)); rfl; rfl; rfl; rfl; rfl
 | fail)
  all_goals exact endV [0, 1, 2, 3, 4, 9, 11, 13, 15, 17] rfl rfl rfl rfl rfl rfl
set_option maxHeartbeats 4000000 in
theorem impl_Books_kind {ba : List Account} {bi : List Instr} {bb : List Bal} {bl : List Lot} {bt : List Trade} {bn : Int} {no : Int} : FC Tryz.prog 127 [.c (.ptr 0 0 0), I no] ([bkY 1 ⟨ba, bi, bb, bl, bt, bn⟩] ++ bkR ⟨ba, bi, bb, bl, bt, bn⟩) (I (accKind ba no)) ([bkY 1 ⟨ba, bi, bb, bl, bt, bn⟩] ++ bkR ⟨ba, bi, bb, bl, bt, bn⟩) := by
  refine fent tk 11 [.tmp 4] Tryz.func127 (by kernel_rfl) rfl rfl rfl rfl rfl rfl rfl ?_
  repeat' (first
 | (with_reducible apply zds); exact tk; rfl; rfl; rfl; rfl; rfl
 | (with_reducible apply zd); rfl; exact tk; rfl
 | (with_reducible first | intro _ | apply wseq | apply zreg | apply thenQ_n | apply thenQ_r | apply thenQ_e | apply znil | apply wret | apply bodyQ_r | apply wblk | apply blkQ_n | apply blkQ_r | apply wskip | apply wexit)
 | (with_reducible apply zc); (iterate 10 rfl); exact impl_accountKind; exact fun _ => rfl; rfl; rfl; rfl
 | fail)
  all_goals exact endV [0, 1, 2, 3, 4, 5] rfl rfl rfl rfl rfl rfl
set_option maxHeartbeats 4000000 in
theorem impl_Books_instr {ba : List Account} {bi : List Instr} {bb : List Bal} {bl : List Lot} {bt : List Trade} {bn : Int} {no : Int} : FC Tryz.prog 128 [.c (.ptr 0 0 0), I no] ([bkY 1 ⟨ba, bi, bb, bl, bt, bn⟩] ++ bkR ⟨ba, bi, bb, bl, bt, bn⟩) (I (insKind bi no)) ([bkY 1 ⟨ba, bi, bb, bl, bt, bn⟩] ++ bkR ⟨ba, bi, bb, bl, bt, bn⟩) := by
  refine fent tk 11 [.tmp 4] Tryz.func128 (by kernel_rfl) rfl rfl rfl rfl rfl rfl rfl ?_
  repeat' (first
 | (with_reducible apply zds); exact tk; rfl; rfl; rfl; rfl; rfl
 | (with_reducible apply zd); rfl; exact tk; rfl
 | (with_reducible first | intro _ | apply wseq | apply zreg | apply thenQ_n | apply thenQ_r | apply thenQ_e | apply znil | apply wret | apply bodyQ_r | apply wblk | apply blkQ_n | apply blkQ_r | apply wskip | apply wexit)
 | (with_reducible apply zc); (iterate 10 rfl); exact impl_instrKind; exact fun _ => rfl; rfl; rfl; rfl
 | fail)
  all_goals exact endV [0, 1, 2, 3, 4, 5] rfl rfl rfl rfl rfl rfl
set_option maxHeartbeats 4000000 in
theorem impl_Books_isInstr {ba : List Account} {bi : List Instr} {bb : List Bal} {bl : List Lot} {bt : List Trade} {bn : Int} {no : Int} : FC Tryz.prog 126 [.c (.ptr 0 0 0), I no] ([bkY 1 ⟨ba, bi, bb, bl, bt, bn⟩] ++ bkR ⟨ba, bi, bb, bl, bt, bn⟩) (B (dB (insKind bi no ≠ 0))) ([bkY 1 ⟨ba, bi, bb, bl, bt, bn⟩] ++ bkR ⟨ba, bi, bb, bl, bt, bn⟩) := by
  refine fent tk 12 [.tmp 4] Tryz.func126 (by kernel_rfl) rfl rfl rfl rfl rfl rfl rfl ?_
  repeat' (first
 | (with_reducible apply zds); exact tk; rfl; rfl; rfl; rfl; rfl
 | (with_reducible apply zd); rfl; exact tk; rfl
 | (with_reducible first | intro _ | apply wseq | apply zreg | apply thenQ_n | apply thenQ_r | apply thenQ_e | apply znil | apply wret | apply bodyQ_r | apply wblk | apply blkQ_n | apply blkQ_r | apply wskip | apply wexit)
 | (with_reducible apply zne); rfl; exact tk; rfl; rfl; rfl; rfl
 | (with_reducible apply zc); (iterate 10 rfl); exact impl_instrKind; exact fun _ => rfl; rfl; rfl; rfl
 | fail)
  all_goals first | exact endY [0, 1, 2, 3, 4, 5] rfl rfl rfl rfl rfl rfl (by assumption) | exact endN [0, 1, 2, 3, 4, 5] rfl rfl rfl rfl rfl rfl (fun k => k (by assumption))
set_option maxHeartbeats 4000000 in
theorem impl_nosOk_1 {n : Int} : FC Tryz.prog 214 [I n] ([]) (B (dB (¬ isNo n))) ([]) := by
  refine fent tk 6 [.tmp 2] Tryz.func214 (by kernel_rfl) rfl rfl rfl rfl rfl rfl rfl ?_
  repeat' (first
 | (with_reducible apply zds); exact tk; rfl; rfl; rfl; rfl; rfl
 | (with_reducible apply zd); rfl; exact tk; rfl
 | (with_reducible first | intro _ | apply wseq | apply zreg | apply thenQ_n | apply thenQ_r | apply thenQ_e | apply znil | apply wret | apply bodyQ_r | apply wblk | apply blkQ_n | apply blkQ_r | apply wskip | apply wexit)
 | (with_reducible apply zcp); (iterate 10 rfl); exact impl_isNo; rfl; rfl
 | fail)
  all_goals first | exact endY [] rfl rfl rfl rfl rfl rfl (by assumption) | exact endN [] rfl rfl rfl rfl rfl rfl (fun k => k (by assumption))
set_option maxHeartbeats 4000000 in
theorem slices_IndexFunc_int_nos {l : List Int} : FC Tryz.prog 261 [.c (.row 0 0 l.length), .c (.fn 214 [])] ([ro 3 l]) (sel (∃ x ∈ l, ¬ isNo x) (I (fIx l (fun x => ¬ isNo x))) (I (-1))) (sel (∃ x ∈ l, ¬ isNo x) [ro 3 l] [ro 3 l]) := by
  refine fent tk 19 [.tmp 4] Tryz.func261 (by kernel_rfl) rfl rfl rfl rfl rfl rfl rfl ?_
  refine wlen l 0 rfl (fun hl => ?_)
  repeat' (first
 | (with_reducible apply zds); exact tk; rfl; rfl; rfl; rfl; rfl
 | (with_reducible apply zd); rfl; exact tk; rfl
 | (with_reducible first | intro _ | apply wseq | apply zreg | apply thenQ_n | apply thenQ_r | apply thenQ_e | apply znil | apply wret | apply bodyQ_r | apply wblk | apply blkQ_n | apply blkQ_r | apply wskip | apply wexit)
 | fail)
  refine wlp (X := Int) [0, 1, 7] [0] (fun i => [(8, I i)]) (fun _ => []) (fun i => 0 ≤ i ∧ i ≤ l.length ∧ ∀ j : Int, 0 ≤ j → j < i → ¬ (fun x => ¬ isNo x) (rd l j)) (fun i => (l.length - i).toNat) 0 ⟨by omega, by omega, fun j h0 h1 => by omega⟩ rfl rfl (fun _ => rfl) (fun _ => rfl) ⟨rfl, rfl, rfl, rfl, rfl, rfl, rfl, rfl⟩ (fun i hi => ?_)
  obtain ⟨h0, hi, hall⟩ := hi
  skip
  repeat' (first
 | (with_reducible apply zds); exact tk; rfl; rfl; rfl; rfl; rfl
 | (with_reducible apply zd); rfl; exact tk; rfl
 | (with_reducible apply zcp); (iterate 10 rfl); exact impl_nosOk_1; rfl; rfl
 | (with_reducible first | intro _ | apply wseq | apply zreg | apply thenQ_n | apply thenQ_r | apply thenQ_e | apply znil | apply wret | apply bodyQ_r | apply wblk | apply blkQ_n | apply blkQ_r | apply wskip | apply wexit)
 | apply wct rfl
 | apply wcf rfl
 | (with_reducible apply blkQ_x rfl)
 | (with_reducible apply zcmp); rfl; exact tk; rfl; rfl; rfl
 | (with_reducible apply zar); rfl; rfl; rfl; rfl; (first | omega | ((try simp only [List.length_append, List.length_cons, List.length_nil, List.length_map]); (try dsimp only); omega)); rfl; rfl
 | (with_reducible apply zix); rfl; exact tk; (iterate 7 rfl); (first | omega | ((try simp only [List.length_append, List.length_cons, List.length_nil, List.length_map]); (try dsimp only); omega)); rfl; rfl
 | (with_reducible apply zle); rfl; exact tk; rfl; rfl; rfl; rfl; (first | omega | ((try simp only [List.length_append, List.length_cons, List.length_nil, List.length_map]); (try dsimp only); omega)); rfl; rfl; rfl; rfl
 | fail)
  all_goals first
    | (refine endG (X' := I i) (hs' := [ro 3 l]) [0] rfl rfl rfl rfl rfl rfl ?_ ?_
       · rw [sel_t ⟨rd l i, rd_mem ⟨by omega, by omega⟩, by assumption⟩, fIx_eq ⟨by omega, by omega⟩ hall (by assumption)]
       · rw [sel_t ⟨rd l i, rd_mem ⟨by omega, by omega⟩, by assumption⟩])
    | exact endF (no_rd (by assumption) hall) [0] rfl rfl rfl rfl rfl rfl
    | exact endR (i + 1) [0] ⟨rfl, rfl, rfl, rfl, rfl, rfl, rfl, rfl⟩ ⟨by omega, by omega, all_step hall (by assumption)⟩ (by first | omega | (dsimp only; omega))
set_option maxHeartbeats 4000000 in
theorem slices_ContainsFunc_int_nos {l : List Int} : FC Tryz.prog 161 [.c (.row 0 0 l.length), .c (.fn 214 [])] ([ro 3 l]) (B (dB (∃ x ∈ l, ¬ isNo x))) ([ro 3 l]) := by
  refine fent tk 9 [.tmp 4] Tryz.func161 (by kernel_rfl) rfl rfl rfl rfl rfl rfl rfl ?_
  have hn := fIx_nn l (fun x => ¬ isNo x)
  repeat' (first
 | (with_reducible apply zds); exact tk; rfl; rfl; rfl; rfl; rfl
 | (with_reducible apply zd); rfl; exact tk; rfl
 | (with_reducible first | intro _ | apply wseq | apply zreg | apply thenQ_n | apply thenQ_r | apply thenQ_e | apply znil | apply wret | apply bodyQ_r | apply wblk | apply blkQ_n | apply blkQ_r | apply wskip | apply wexit)
 | (with_reducible apply zcmp); rfl; exact tk; rfl; rfl; rfl
 | (with_reducible apply zcs); (iterate 10 rfl); (first | exact slices_IndexFunc_int_neg | exact slices_IndexFunc_int_wo | exact slices_IndexFunc_int_nos); exact fun _ => rfl; exact fun _ => rfl; rfl; rfl; rfl; rfl
 | fail)
  all_goals first
    | exact endY [0] rfl rfl rfl rfl rfl rfl (by assumption)
    | exact endN [0] rfl rfl rfl rfl rfl rfl (by assumption)
    | (exfalso; omega)
set_option maxHeartbeats 4000000 in
theorem impl_nosOk {l : List Int} : FC Tryz.prog 94 [.c (.row 0 0 l.length)] ([ro 3 l]) (B (dB (∀ x ∈ l, isNo x))) ([ro 3 l]) := by
  refine fent tk 6 [.tmp 2] Tryz.func94 (by kernel_rfl) rfl rfl rfl rfl rfl rfl rfl ?_
  repeat' (first
 | (with_reducible apply zds); exact tk; rfl; rfl; rfl; rfl; rfl
 | (with_reducible apply zd); rfl; exact tk; rfl
 | (with_reducible first | intro _ | apply wseq | apply zreg | apply thenQ_n | apply thenQ_r | apply thenQ_e | apply znil | apply wret | apply bodyQ_r | apply wblk | apply blkQ_n | apply blkQ_r | apply wskip | apply wexit)
 | (with_reducible apply zcp); (iterate 10 rfl); (first | exact slices_ContainsFunc_int_neg | exact slices_ContainsFunc_int_wo | exact slices_ContainsFunc_int_nos); rfl; rfl
 | fail)
  all_goals first | exact endY [0] rfl rfl rfl rfl rfl rfl (fun x hx => Classical.byContradiction fun k => absurd (⟨x, hx, k⟩ : ∃ x ∈ l, ¬ isNo x) (by assumption)) | exact endN [0] rfl rfl rfl rfl rfl rfl (fun h => by obtain ⟨x, hx, k⟩ : ∃ x ∈ l, ¬ isNo x := (by assumption); exact k (h x hx))
set_option maxHeartbeats 4000000 in
theorem impl_tradeAt_1 {no bu se pa qt ca pr st u : Int} : FC Tryz.prog 277 [.agg [.sc (.int .i64 no), .sc (.int .i64 bu), .sc (.int .i64 se), .sc (.int .i64 pa), .sc (.int .i64 qt), .sc (.int .i64 ca), .sc (.int .i64 pr), .sc (.int .i64 st)], .c (.ptr 0 0 0)] ([vI u]) (B (dB (no = u))) ([vI u]) := by
  refine fent tk 8 [.tmp 3] Tryz.func277 (by kernel_rfl) rfl rfl rfl rfl rfl rfl rfl ?_
  repeat' (first
 | (with_reducible apply zds); exact tk; rfl; rfl; rfl; rfl; rfl
 | (with_reducible apply zd); rfl; exact tk; rfl
 | (with_reducible first | intro _ | apply wseq | apply zreg | apply thenQ_n | apply thenQ_r | apply thenQ_e | apply znil | apply wret | apply bodyQ_r | apply wblk | apply blkQ_n | apply blkQ_r | apply wskip | apply wexit)
 | (with_reducible apply zeq); rfl; exact tk; rfl; rfl; rfl; rfl
 | fail)
  all_goals first | exact endY [0] rfl rfl rfl rfl rfl rfl (by assumption) | exact endN [0] rfl rfl rfl rfl rfl rfl (by assumption)
set_option maxHeartbeats 4000000 in
theorem slices_IndexFunc_Trade_at {l : List Trade} {no : Int} : FC Tryz.prog 276 [.c (.row 0 0 l.length), .c (.fn 277 [(1, 0, 0)])] ([ro 103 l, vI no]) (sel (∃ x ∈ l, x.No = no) (I (fIx l (fun x => x.No = no))) (I (-1))) (sel (∃ x ∈ l, x.No = no) [ro 103 l, vI no] [ro 103 l, vI no]) := by
  refine fent tk 19 [.tmp 4] Tryz.func276 (by kernel_rfl) rfl rfl rfl rfl rfl rfl rfl ?_
  refine wlen l 0 rfl (fun hl => ?_)
  repeat' (first
 | (with_reducible apply zds); exact tk; rfl; rfl; rfl; rfl; rfl
 | (with_reducible apply zd); rfl; exact tk; rfl
 | (with_reducible first | intro _ | apply wseq | apply zreg | apply thenQ_n | apply thenQ_r | apply thenQ_e | apply znil | apply wret | apply bodyQ_r | apply wblk | apply blkQ_n | apply blkQ_r | apply wskip | apply wexit)
 | fail)
  refine wlp (X := Int) [0, 1, 7] [0, 1] (fun i => [(8, I i)]) (fun _ => []) (fun i => 0 ≤ i ∧ i ≤ l.length ∧ ∀ j : Int, 0 ≤ j → j < i → ¬ (fun x => x.No = no) (rd l j)) (fun i => (l.length - i).toNat) 0 ⟨by omega, by omega, fun j h0 h1 => by omega⟩ rfl rfl (fun _ => rfl) (fun _ => rfl) ⟨rfl, rfl, rfl, rfl, rfl, rfl, rfl, rfl⟩ (fun i hi => ?_)
  obtain ⟨h0, hi, hall⟩ := hi
  skip
  repeat' (first
 | (with_reducible apply zds); exact tk; rfl; rfl; rfl; rfl; rfl
 | (with_reducible apply zd); rfl; exact tk; rfl
 | (with_reducible apply zcp); (iterate 10 rfl); exact impl_tradeAt_1; rfl; rfl
 | (with_reducible first | intro _ | apply wseq | apply zreg | apply thenQ_n | apply thenQ_r | apply thenQ_e | apply znil | apply wret | apply bodyQ_r | apply wblk | apply blkQ_n | apply blkQ_r | apply wskip | apply wexit)
 | apply wct rfl
 | apply wcf rfl
 | (with_reducible apply blkQ_x rfl)
 | (with_reducible apply zcmp); rfl; exact tk; rfl; rfl; rfl
 | (with_reducible apply zar); rfl; rfl; rfl; rfl; (first | omega | ((try simp only [List.length_append, List.length_cons, List.length_nil, List.length_map]); (try dsimp only); omega)); rfl; rfl
 | (with_reducible apply zix); rfl; exact tk; (iterate 7 rfl); (first | omega | ((try simp only [List.length_append, List.length_cons, List.length_nil, List.length_map]); (try dsimp only); omega)); rfl; rfl
 | (with_reducible apply zle); rfl; exact tk; rfl; rfl; rfl; rfl; (first | omega | ((try simp only [List.length_append, List.length_cons, List.length_nil, List.length_map]); (try dsimp only); omega)); rfl; rfl; rfl; rfl
 | fail)
  all_goals first
    | (refine endG (X' := I i) (hs' := [ro 103 l, vI no]) [0, 1] rfl rfl rfl rfl rfl rfl ?_ ?_
       · rw [sel_t ⟨rd l i, rd_mem ⟨by omega, by omega⟩, by assumption⟩, fIx_eq ⟨by omega, by omega⟩ hall (by assumption)]
       · rw [sel_t ⟨rd l i, rd_mem ⟨by omega, by omega⟩, by assumption⟩])
    | exact endF (no_rd (by assumption) hall) [0, 1] rfl rfl rfl rfl rfl rfl
    | exact endR (i + 1) [0, 1] ⟨rfl, rfl, rfl, rfl, rfl, rfl, rfl, rfl⟩ ⟨by omega, by omega, all_step hall (by assumption)⟩ (by first | omega | (dsimp only; omega))
set_option maxHeartbeats 4000000 in
theorem spec_AccountKind_ok {l : List Account} {no : Int} (hok : AccountsOk l) : FC Tryz.prog 133 [.c (.row 0 0 l.length), I no] ([ro 42 l]) (I (accKind l no)) ([ro 42 l]) := by
  refine fent tk 28 [.tmp 4] Tryz.func133 (by kernel_rfl) rfl rfl rfl rfl rfl rfl rfl ?_
  refine wlen l 0 rfl (fun hl => ?_)
  repeat' (first
 | (with_reducible apply zd); rfl; exact tk; rfl
 | (with_reducible first | intro _ | apply wseq | apply zreg | apply thenQ_n | apply thenQ_r | apply thenQ_e | apply znil | apply wret | apply bodyQ_r | apply wblk | apply blkQ_n | apply blkQ_r | apply wskip | apply wexit)
 | fail)
  refine wlp (X := Int) [0, 1] [0] (fun i => [(5, I i)]) (fun _ => []) (fun i => 0 ≤ i ∧ i ≤ l.length ∧ ∀ j : Int, 0 ≤ j → j < i → (rd l j).No ≠ no) (fun i => (l.length - i).toNat) 0 ⟨by omega, by omega, fun j h0 h1 => by omega⟩ rfl rfl (fun _ => rfl) (fun _ => rfl) ⟨rfl, rfl, rfl, rfl, rfl, rfl, rfl, rfl⟩ (fun i hi => ?_)
  obtain ⟨h0, hi, hall⟩ := hi
  repeat' (first
 | (with_reducible apply zds); exact tk; rfl; rfl; rfl; rfl; rfl
 | (with_reducible apply zd); rfl; exact tk; rfl
 | (with_reducible first | intro _ | apply wseq | apply zreg | apply thenQ_n | apply thenQ_r | apply thenQ_e | apply znil | apply wret | apply bodyQ_r | apply wblk | apply blkQ_n | apply blkQ_r | apply wskip | apply wexit)
 | apply wct rfl
 | apply wcf rfl
 | (with_reducible apply blkQ_x rfl)
 | (with_reducible apply zcmp); rfl; exact tk; rfl; rfl; rfl
 | (with_reducible apply zar); rfl; rfl; rfl; rfl; (first | omega | ((try simp only [List.length_append, List.length_cons, List.length_nil, List.length_map]); (try dsimp only); omega)); rfl; rfl
 | (with_reducible apply zix); rfl; exact tk; (iterate 7 rfl); (first | omega | ((try simp only [List.length_append, List.length_cons, List.length_nil, List.length_map]); (try dsimp only); omega)); rfl; rfl
 | (with_reducible apply zle); rfl; exact tk; rfl; rfl; rfl; rfl; (first | omega | ((try simp only [List.length_append, List.length_cons, List.length_nil, List.length_map]); (try dsimp only); omega)); rfl; rfl; rfl; rfl
 | (with_reducible apply zcp); (iterate 10 rfl); exact spec_AccountsOk; rfl; rfl
 | fail)
  all_goals first
    | exact endI [0] rfl rfl rfl rfl rfl rfl (accKind_at ⟨by omega, by omega⟩ hall (by assumption))
    | exact endI [0] rfl rfl rfl rfl rfl rfl (accKind_no (by assumption) hall)
    | exact endR (i + 1) [0] ⟨rfl, rfl, rfl, rfl, rfl, rfl, rfl, rfl⟩ ⟨by omega, by omega, all_step hall (by assumption)⟩ (by first | omega | (dsimp only; omega))
    | (exfalso; contradiction)
set_option maxHeartbeats 4000000 in
theorem spec_InstrKind_ok {l : List Instr} {no : Int} (hok : InstrsOk l) : FC Tryz.prog 52 [.c (.row 0 0 l.length), I no] ([ro 74 l]) (I (insKind l no)) ([ro 74 l]) := by
  refine fent tk 28 [.tmp 4] Tryz.func52 (by kernel_rfl) rfl rfl rfl rfl rfl rfl rfl ?_
  refine wlen l 0 rfl (fun hl => ?_)
  repeat' (first
 | (with_reducible apply zd); rfl; exact tk; rfl
 | (with_reducible first | intro _ | apply wseq | apply zreg | apply thenQ_n | apply thenQ_r | apply thenQ_e | apply znil | apply wret | apply bodyQ_r | apply wblk | apply blkQ_n | apply blkQ_r | apply wskip | apply wexit)
 | fail)
  refine wlp (X := Int) [0, 1] [0] (fun i => [(5, I i)]) (fun _ => []) (fun i => 0 ≤ i ∧ i ≤ l.length ∧ ∀ j : Int, 0 ≤ j → j < i → (rd l j).No ≠ no) (fun i => (l.length - i).toNat) 0 ⟨by omega, by omega, fun j h0 h1 => by omega⟩ rfl rfl (fun _ => rfl) (fun _ => rfl) ⟨rfl, rfl, rfl, rfl, rfl, rfl, rfl, rfl⟩ (fun i hi => ?_)
  obtain ⟨h0, hi, hall⟩ := hi
  repeat' (first
 | (with_reducible apply zds); exact tk; rfl; rfl; rfl; rfl; rfl
 | (with_reducible apply zd); rfl; exact tk; rfl
 | (with_reducible first | intro _ | apply wseq | apply zreg | apply thenQ_n | apply thenQ_r | apply thenQ_e | apply znil | apply wret | apply bodyQ_r | apply wblk | apply blkQ_n | apply blkQ_r | apply wskip | apply wexit)
 | apply wct rfl
 | apply wcf rfl
 | (with_reducible apply blkQ_x rfl)
 | (with_reducible apply zcmp); rfl; exact tk; rfl; rfl; rfl
 | (with_reducible apply zar); rfl; rfl; rfl; rfl; (first | omega | ((try simp only [List.length_append, List.length_cons, List.length_nil, List.length_map]); (try dsimp only); omega)); rfl; rfl
 | (with_reducible apply zix); rfl; exact tk; (iterate 7 rfl); (first | omega | ((try simp only [List.length_append, List.length_cons, List.length_nil, List.length_map]); (try dsimp only); omega)); rfl; rfl
 | (with_reducible apply zle); rfl; exact tk; rfl; rfl; rfl; rfl; (first | omega | ((try simp only [List.length_append, List.length_cons, List.length_nil, List.length_map]); (try dsimp only); omega)); rfl; rfl; rfl; rfl
 | (with_reducible apply zcp); (iterate 10 rfl); exact spec_InstrsOk; rfl; rfl
 | fail)
  all_goals first
    | exact endI [0] rfl rfl rfl rfl rfl rfl (insKind_at ⟨by omega, by omega⟩ hall (by assumption))
    | exact endI [0] rfl rfl rfl rfl rfl rfl (insKind_no (by assumption) hall)
    | exact endR (i + 1) [0] ⟨rfl, rfl, rfl, rfl, rfl, rfl, rfl, rfl⟩ ⟨by omega, by omega, all_step hall (by assumption)⟩ (by first | omega | (dsimp only; omega))
    | (exfalso; contradiction)
section
variable {P : Program} {T : TB} {ops : Array Oper} {Q : Exit → St → Prop} {h1 : AH} {ks : List Sk} {l : List Oper}
theorem znilC {N k d n : Nat} {e : List (Nat × AV)} {h h' : AH} {cs cs' : List AC} (q : Nat) (t sz : Nat) (hz : Nat.blt 0 sz = true) (hx : lk d e = some (.agg cs)) (hq : cs[q]? = some (.sc (.slice none 0 0))) (hh : addH h (some ⟨true, t, sz, .fl []⟩) = some (n, h')) (hc : fACs (cs.set q (.row n 0 0)) = some cs') (hn : ZZ P ops Q h1 ks l ⟨N, k, (d, .agg cs') :: e, h'⟩) : ZZ P ops Q h1 ks l ⟨N, k, e, h⟩ := by
  obtain ⟨h2, h3⟩ := addH_eq hh
  rw [← fACs_eq hc] at hn
  subst h2; subst h3
  exact zgho (ghost_nilC (st := ⟨N, k, e, h⟩) t (Nat.blt_eq.mp hz) hx hq) hn
end
end Go.Proofs.YtgehbhkfehmdkaaGreat.Sh
