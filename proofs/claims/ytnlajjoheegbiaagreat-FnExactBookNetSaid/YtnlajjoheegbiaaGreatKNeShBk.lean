/- Lots of books are opened and taken: both sides. No condition. -/
import Derived.Test.YtnlajjoheegbiaaGreatKNeShTo
import Derived.Test.YtnlajjoheegbiaaGreatKNeShTr
namespace Go.Proofs.YtnlajjoheegbiaaGreat.Sh
open Go.RowKit
set_option linter.unusedVariables false
set_option linter.unusedSimpArgs false
def opOk (l : List Lot) (n : Int) (a c q k : Int) : Prop := ¬ n ≥ 1000000000 ∧ (lotOpen l ⟨a, c, n + 1, q, k⟩).2 = 0
noncomputable abbrev opL (l : List Lot) (n a c q k : Int) : List Lot := (lotOpen l ⟨a, c, n + 1, q, k⟩).1
set_option maxHeartbeats 4000000 in
theorem impl_Books_open {ba : List Account} {bi : List Instr} {bb : List Bal} {bl : List Lot} {bt : List Trade} {bn : Int} {a c q k : Int} (hn : 0 ≤ bn) : FC Tryz.prog 124 [.c (.ptr 0 0 0), I a, I c, I q, I k] ([bkX 1 ⟨ba, bi, bb, bl, bt, bn⟩] ++ bkO ⟨ba, bi, bb, bl, bt, bn⟩) (sel (opOk bl bn a c q k) (I 0) (I 7)) (sel (opOk bl bn a c q k) ([some ⟨true, 39, 6, .mx [.row 1 0 ba.length, .row 2 0 bi.length, .row 3 0 bb.length, .row 6 0 (opL bl bn a c q k).length, .row 5 0 bt.length, .sc (.int .i64 (bn + 1))]⟩] ++ bkO ⟨ba, bi, bb, bl, bt, bn⟩ ++ [ow 99 (opL bl bn a c q k)]) ([bkX 1 ⟨ba, bi, bb, bl, bt, bn⟩] ++ bkO ⟨ba, bi, bb, bl, bt, bn⟩)) := by
  refine fent tk 49 [.tmp 10] Tryz.func124 (by kernel_rfl) rfl rfl rfl rfl rfl rfl rfl ?_
  repeat' (first
 | (with_reducible apply zds); exact tk; rfl; rfl; rfl; rfl; rfl
 | (with_reducible apply zd); rfl; exact tk; rfl
 | (with_reducible first | intro _ | apply wseq | apply zreg | apply thenQ_n | apply thenQ_r | apply thenQ_e | apply znil | apply wret | apply bodyQ_r | apply wblk | apply blkQ_n | apply blkQ_r | apply wskip | apply wexit)
 | apply wct rfl
 | apply wcf rfl
 | (with_reducible apply zcmp); rfl; exact tk; rfl; rfl; rfl
 | (with_reducible apply zne); rfl; exact tk; rfl; rfl; rfl; rfl
 | (with_reducible apply zar); rfl; rfl; rfl; rfl; (first | omega | ((try simp only [List.length_append, List.length_cons, List.length_nil, List.length_map]); (try dsimp only); omega)); rfl; rfl
 | refine zdq (id := 3) rfl (by kernel_rfl) [(.p, 0), (.p, 1), (.p, 2), (.p, 4), (.p, 5), (.p, 6), (.p, 7), (.p, 8), (.p, 11), (.p, 12), (.t, 3), (.t, 9), (.p, 10), (.p, 13), (.o, 14), (.p, 15), (.p, 16), (.p, 17), (.p, 18), (.p, 19)] [] (by kernel_rfl) rfl ?_
 | (with_reducible apply zcf); (iterate 10 rfl); exact impl_LotOpen; rfl; rfl; rfl; rfl; rfl
 | fail)
  all_goals first
    | (exact endF (fun h => h.1 (by assumption)) [0, 1, 2, 3, 4, 5] rfl rfl rfl rfl rfl rfl)
    | (exact endF (fun h => absurd h.2 (by assumption)) [0, 1, 2, 3, 4, 5] rfl rfl rfl rfl rfl rfl)
    | (exact endT ⟨by assumption, by assumption⟩ [0, 1, 2, 3, 4, 5, 6] rfl rfl rfl rfl rfl rfl)
    | trace_state
noncomputable abbrev tN (l : List Lot) (a c q w : Int) : Int := (lotTake l a c q w).2.2
noncomputable abbrev tL (l : List Lot) (a c q w : Int) : List Lot := (lotTake l a c q w).1
noncomputable abbrev tC (l : List Lot) (a c q w : Int) : Int := (lotTake l a c q w).2.1
set_option maxHeartbeats 4000000 in
theorem impl_Books_take {ba : List Account} {bi : List Instr} {bb : List Bal} {bl : List Lot} {bt : List Trade} {bn : Int} {a c q w : Int} : FC Tryz.prog 123 [.c (.ptr 0 0 0), I a, I c, I q, I w] ([bkX 1 ⟨ba, bi, bb, bl, bt, bn⟩] ++ bkO ⟨ba, bi, bb, bl, bt, bn⟩) (sel (tN bl a c q w = 0) (.tup [I (tC bl a c q w), I 0]) (.tup [I 0, I 5])) (sel (tN bl a c q w = 0) ([some ⟨true, 39, 6, .mx [.row 1 0 ba.length, .row 2 0 bi.length, .row 3 0 bb.length, .row 6 0 (tL bl a c q w).length, .row 5 0 bt.length, .sc (.int .i64 bn)]⟩] ++ bkO ⟨ba, bi, bb, bl, bt, bn⟩ ++ [ow 99 (tL bl a c q w)]) ([bkX 1 ⟨ba, bi, bb, bl, bt, bn⟩] ++ bkO ⟨ba, bi, bb, bl, bt, bn⟩)) := by
  refine fent tk 35 [.tmp 10, .tmp 11] Tryz.func123 (by kernel_rfl) rfl rfl rfl rfl rfl rfl rfl ?_
  repeat' (first
 | (with_reducible apply zds); exact tk; rfl; rfl; rfl; rfl; rfl
 | (with_reducible apply zd); rfl; exact tk; rfl
 | (with_reducible first | intro _ | apply wseq | apply zreg | apply thenQ_n | apply thenQ_r | apply thenQ_e | apply znil | apply wret | apply bodyQ_r | apply wblk | apply blkQ_n | apply blkQ_r | apply wskip | apply wexit)
 | apply wct rfl
 | apply wcf rfl
 | (with_reducible apply zne); rfl; exact tk; rfl; rfl; rfl; rfl
 | (with_reducible apply zcf); (iterate 10 rfl); exact impl_LotTake; rfl; rfl; rfl; rfl; rfl
 | fail)
  all_goals first
    | exact endT (by assumption) [0, 1, 2, 3, 4, 5, 6] rfl rfl rfl rfl rfl rfl
    | exact endF (by assumption) [0, 1, 2, 3, 4, 5] rfl rfl rfl rfl rfl rfl
    | trace_state
set_option maxHeartbeats 4000000 in
theorem spec_l6Open {ba : List Account} {bi : List Instr} {bb : List Bal} {bl : List Lot} {bt : List Trade} {bn : Int} {a c q k : Int} (hn : 0 ≤ bn ∧ bn ≤ 1000000000) : FC Tryz.prog 196 [bkV 0 ⟨ba, bi, bb, bl, bt, bn⟩, I a, I c, I q, I k] (bkO ⟨ba, bi, bb, bl, bt, bn⟩) (sel (opOk bl bn a c q k) (.tup [.agg [.row 0 0 ba.length, .row 1 0 bi.length, .row 2 0 bb.length, .row 5 0 (opL bl bn a c q k).length, .row 4 0 bt.length, .sc (.int .i64 (bn + 1))], I 0]) (.tup [bkV 0 ⟨ba, bi, bb, bl, bt, bn⟩, I 7])) (sel (opOk bl bn a c q k) (bkO ⟨ba, bi, bb, bl, bt, bn⟩ ++ [ow 99 (opL bl bn a c q k)]) (bkO ⟨ba, bi, bb, bl, bt, bn⟩)) := by
  refine fent tk 42 [.cell 10 _, .tmp 11] Tryz.func196 (by kernel_rfl) rfl rfl rfl rfl rfl rfl rfl ?_
  repeat' (first
 | (with_reducible apply zds); exact tk; rfl; rfl; rfl; rfl; rfl
 | (with_reducible apply zd); rfl; exact tk; rfl
 | (with_reducible first | intro _ | apply wseq | apply zreg | apply thenQ_n | apply thenQ_r | apply thenQ_e | apply znil | apply wret | apply bodyQ_r | apply wblk | apply blkQ_n | apply blkQ_r | apply wskip | apply wexit)
 | apply wct rfl
 | apply wcf rfl
 | (with_reducible apply zeq); rfl; exact tk; rfl; rfl; rfl; rfl
 | (with_reducible apply zne); rfl; exact tk; rfl; rfl; rfl; rfl
 | (with_reducible apply zar); rfl; rfl; rfl; rfl; (first | omega | ((try simp only [List.length_append, List.length_cons, List.length_nil, List.length_map]); (try dsimp only); omega)); rfl; rfl
 | (with_reducible apply zcf); (iterate 10 rfl); exact spec_LotOpen; rfl; rfl; rfl; rfl; rfl
 | fail)
  all_goals first
    | (exact endF (fun h => by have := h.1; omega) [0, 1, 2, 3, 4] rfl rfl rfl rfl rfl rfl)
    | (exact endF (fun h => absurd h.2 (by assumption)) [0, 1, 2, 3, 4] rfl rfl rfl rfl rfl rfl)
    | (exact endT ⟨by omega, by assumption⟩ [0, 1, 2, 3, 4, 7] rfl rfl rfl rfl rfl rfl)
    | trace_state
set_option maxHeartbeats 4000000 in
theorem spec_l6Carry_s {ba : List Account} {bi : List Instr} {bb : List Bal} {bl : List Lot} {bt : List Trade} {bn : Int} {fr to c q w pr : Int} (hn : 0 ≤ bn ∧ bn ≤ 1000000000) (h1 : ¬ tN bl fr c q w = 0) : FC Tryz.prog 121 [bkV 0 ⟨ba, bi, bb, bl, bt, bn⟩, I fr, I to, I c, I q, I w, I pr] (bkO ⟨ba, bi, bb, bl, bt, bn⟩) (.tup [bkV 0 ⟨ba, bi, bb, bl, bt, bn⟩, I 0, I 5]) (bkO ⟨ba, bi, bb, bl, bt, bn⟩) := by
  refine fent tk 53 [.cell 14 _, .tmp 15, .tmp 16] Tryz.func121 (by kernel_rfl) rfl rfl rfl rfl rfl rfl rfl ?_
  repeat' (first
 | (intro h9; exfalso; first | contradiction | omega)
 | (with_reducible apply zds); exact tk; rfl; rfl; rfl; rfl; rfl
 | (with_reducible apply zd); rfl; exact tk; rfl
 | (with_reducible first | intro _ | apply wseq | apply zreg | apply thenQ_n | apply thenQ_r | apply thenQ_e | apply znil | apply wret | apply bodyQ_r | apply wblk | apply blkQ_n | apply blkQ_r | apply wskip | apply wexit)
 | apply wct rfl
 | (with_reducible apply zne); rfl; exact tk; rfl; rfl; rfl; rfl
 | (with_reducible apply zcf); (iterate 10 rfl); exact spec_LotTake; rfl; rfl; rfl; rfl; rfl
 | fail)
  all_goals first | exact endV [0, 1, 2, 3, 4] rfl rfl rfl rfl rfl rfl | trace_state
set_option maxHeartbeats 4000000 in
theorem spec_l6Carry_f {ba : List Account} {bi : List Instr} {bb : List Bal} {bl : List Lot} {bt : List Trade} {bn : Int} {fr to c q w pr : Int} (hn : 0 ≤ bn ∧ bn ≤ 1000000000) (h1 : tN bl fr c q w = 0) (h2 : ¬ opOk (tL bl fr c q w) bn to c q (pick (pr < 0) (tC bl fr c q w) pr)) : FC Tryz.prog 121 [bkV 0 ⟨ba, bi, bb, bl, bt, bn⟩, I fr, I to, I c, I q, I w, I pr] (bkO ⟨ba, bi, bb, bl, bt, bn⟩) (.tup [.agg [.row 0 0 ba.length, .row 1 0 bi.length, .row 2 0 bb.length, .row 5 0 (tL bl fr c q w).length, .row 4 0 bt.length, .sc (.int .i64 bn)], I (tC bl fr c q w), I 7]) (bkO ⟨ba, bi, bb, bl, bt, bn⟩ ++ [ow 99 (tL bl fr c q w)]) := by
  refine fent tk 53 [.cell 14 _, .tmp 15, .tmp 16] Tryz.func121 (by kernel_rfl) rfl rfl rfl rfl rfl rfl rfl ?_
  by_cases hp : pr < 0
  · have hp' : pick (pr < 0) (tC bl fr c q w) pr = tC bl fr c q w := pick_t hp
    rw [hp'] at h2
    repeat' (first
 | (intro h9; exfalso; first | contradiction | omega)
 | (with_reducible apply zds); exact tk; rfl; rfl; rfl; rfl; rfl
 | (with_reducible apply zd); rfl; exact tk; rfl
 | (with_reducible first | intro _ | apply wseq | apply zreg | apply thenQ_n | apply thenQ_r | apply thenQ_e | apply znil | apply wret | apply bodyQ_r | apply wblk | apply blkQ_n | apply blkQ_r | apply wskip | apply wexit)
 | apply wct rfl
 | apply wcf rfl
 | (with_reducible apply zcmp); rfl; exact tk; rfl; rfl; rfl
 | (with_reducible apply zne); rfl; exact tk; rfl; rfl; rfl; rfl
 | (with_reducible apply zcf); (iterate 10 rfl); exact spec_LotTake; rfl; rfl; rfl; rfl; rfl
 | (with_reducible apply zcwp  [true,true,true,true,true]); (iterate 10 rfl); exact spec_l6Open (by omega); (iterate 6 rfl)
 | fail)
    all_goals first | exact endV [0, 1, 2, 3, 4, 7] rfl rfl rfl rfl rfl rfl | trace_state
  · have hp' : pick (pr < 0) (tC bl fr c q w) pr = pr := pick_f hp
    rw [hp'] at h2
    repeat' (first
 | (intro h9; exfalso; first | contradiction | omega)
 | (with_reducible apply zds); exact tk; rfl; rfl; rfl; rfl; rfl
 | (with_reducible apply zd); rfl; exact tk; rfl
 | (with_reducible first | intro _ | apply wseq | apply zreg | apply thenQ_n | apply thenQ_r | apply thenQ_e | apply znil | apply wret | apply bodyQ_r | apply wblk | apply blkQ_n | apply blkQ_r | apply wskip | apply wexit)
 | apply wcf rfl
 | (with_reducible apply zcmp); rfl; exact tk; rfl; rfl; rfl
 | (with_reducible apply zne); rfl; exact tk; rfl; rfl; rfl; rfl
 | (with_reducible apply zcf); (iterate 10 rfl); exact spec_LotTake; rfl; rfl; rfl; rfl; rfl
 | (with_reducible apply zcwp  [true,true,true,true,true]); (iterate 10 rfl); exact spec_l6Open (by omega); (iterate 6 rfl)
 | fail)
    all_goals first | exact endV [0, 1, 2, 3, 4, 7] rfl rfl rfl rfl rfl rfl | trace_state
set_option maxHeartbeats 4000000 in
theorem spec_l6Carry_d {ba : List Account} {bi : List Instr} {bb : List Bal} {bl : List Lot} {bt : List Trade} {bn : Int} {fr to c q w pr : Int} (hn : 0 ≤ bn ∧ bn ≤ 1000000000) (h1 : tN bl fr c q w = 0) (h2 : opOk (tL bl fr c q w) bn to c q (pick (pr < 0) (tC bl fr c q w) pr)) : FC Tryz.prog 121 [bkV 0 ⟨ba, bi, bb, bl, bt, bn⟩, I fr, I to, I c, I q, I w, I pr] (bkO ⟨ba, bi, bb, bl, bt, bn⟩) (.tup [.agg [.row 0 0 ba.length, .row 1 0 bi.length, .row 2 0 bb.length, .row 5 0 (opL (tL bl fr c q w) bn to c q (pick (pr < 0) (tC bl fr c q w) pr)).length, .row 4 0 bt.length, .sc (.int .i64 (bn + 1))], I (tC bl fr c q w), I 0]) (bkO ⟨ba, bi, bb, bl, bt, bn⟩ ++ [ow 99 (opL (tL bl fr c q w) bn to c q (pick (pr < 0) (tC bl fr c q w) pr))]) := by
  refine fent tk 53 [.cell 14 _, .tmp 15, .tmp 16] Tryz.func121 (by kernel_rfl) rfl rfl rfl rfl rfl rfl rfl ?_
  by_cases hp : pr < 0
  · have hp' : pick (pr < 0) (tC bl fr c q w) pr = tC bl fr c q w := pick_t hp
    rw [hp'] at h2 ⊢
    repeat' (first
 | (intro h9; exfalso; first | contradiction | omega)
 | (with_reducible apply zds); exact tk; rfl; rfl; rfl; rfl; rfl
 | (with_reducible apply zd); rfl; exact tk; rfl
 | (with_reducible first | intro _ | apply wseq | apply zreg | apply thenQ_n | apply thenQ_r | apply thenQ_e | apply znil | apply wret | apply bodyQ_r | apply wblk | apply blkQ_n | apply blkQ_r | apply wskip | apply wexit)
 | apply wct rfl
 | apply wcf rfl
 | (with_reducible apply zcmp); rfl; exact tk; rfl; rfl; rfl
 | (with_reducible apply zne); rfl; exact tk; rfl; rfl; rfl; rfl
 | (with_reducible apply zcf); (iterate 10 rfl); exact spec_LotTake; rfl; rfl; rfl; rfl; rfl
 | (with_reducible apply zcwp  [true,true,true,true,true]); (iterate 10 rfl); exact spec_l6Open (by omega); (iterate 6 rfl)
 | fail)
    all_goals first | exact endV [0, 1, 2, 3, 4, 8] rfl rfl rfl rfl rfl rfl | trace_state
  · have hp' : pick (pr < 0) (tC bl fr c q w) pr = pr := pick_f hp
    rw [hp'] at h2 ⊢
    repeat' (first
 | (intro h9; exfalso; first | contradiction | omega)
 | (with_reducible apply zds); exact tk; rfl; rfl; rfl; rfl; rfl
 | (with_reducible apply zd); rfl; exact tk; rfl
 | (with_reducible first | intro _ | apply wseq | apply zreg | apply thenQ_n | apply thenQ_r | apply thenQ_e | apply znil | apply wret | apply bodyQ_r | apply wblk | apply blkQ_n | apply blkQ_r | apply wskip | apply wexit)
 | apply wcf rfl
 | (with_reducible apply zcmp); rfl; exact tk; rfl; rfl; rfl
 | (with_reducible apply zne); rfl; exact tk; rfl; rfl; rfl; rfl
 | (with_reducible apply zcf); (iterate 10 rfl); exact spec_LotTake; rfl; rfl; rfl; rfl; rfl
 | (with_reducible apply zcwp  [true,true,true,true,true]); (iterate 10 rfl); exact spec_l6Open (by omega); (iterate 6 rfl)
 | fail)
    all_goals first | exact endV [0, 1, 2, 3, 4, 8] rfl rfl rfl rfl rfl rfl | trace_state
end Go.Proofs.YtnlajjoheegbiaaGreat.Sh
