/- BooksSame, of the specification and of the program. No condition. -/
import Derived.Test.YtbbeaghhchjkgaaShEq
namespace Go.Proofs.Ytbbeaghhchjkgaa.Sh
open Go.RowKit
set_option linter.unusedVariables false
set_option maxHeartbeats 4000000 in
theorem impl_BooksSame {ca : List Account} {ci : List Instr} {cb : List Bal} {cl : List Lot} {ct : List Trade} {cn : Int} {ba : List Account} {bi : List Instr} {bb : List Bal} {bl : List Lot} {bt : List Trade} {bn : Int} : FC Try.prog 39 [bkV 0 ⟨ba, bi, bb, bl, bt, bn⟩, bkV 5 ⟨ca, ci, cb, cl, ct, cn⟩] (bkR ⟨ba, bi, bb, bl, bt, bn⟩ ++ bkR ⟨ca, ci, cb, cl, ct, cn⟩) (B (dB ((⟨ba, bi, bb, bl, bt, bn⟩ : Books) = ⟨ca, ci, cb, cl, ct, cn⟩))) (bkR ⟨ba, bi, bb, bl, bt, bn⟩ ++ bkR ⟨ca, ci, cb, cl, ct, cn⟩) := by
  refine fent tk 45 [.tmp 4] Try.func39 (by kernel_rfl) rfl rfl rfl rfl rfl rfl rfl ?_
  repeat' (first
    | (with_reducible apply zd); rfl; exact tk; rfl
    | (with_reducible first | intro _ | apply wseq | apply zreg | apply thenQ_n | apply thenQ_r | apply thenQ_e | apply znil | apply wret | apply bodyQ_r | apply wblk | apply blkQ_n | apply blkQ_r | apply wskip | apply wexit)
    | (with_reducible apply zeq); rfl; exact tk; rfl; rfl; rfl; rfl
    | (with_reducible apply zcp); rfl; rfl; rfl; rfl; rfl; rfl; rfl; rfl; rfl; rfl; (first | exact slices_Equal_Account | exact slices_Equal_Instr | exact slices_Equal_Bal | exact slices_Equal_Lot | exact slices_Equal_Trade); rfl; rfl)
  all_goals first | exact endY [0, 1, 2, 3, 4, 5, 6, 7, 8, 9] rfl rfl rfl rfl rfl rfl (by simp_all) | exact endN [0, 1, 2, 3, 4, 5, 6, 7, 8, 9] rfl rfl rfl rfl rfl rfl (by simp_all)
/-- Books in a variable. -/
def bkX (n : Nat) : Books → Option AO
  | ⟨a, i, b, l, t, x⟩ => some ⟨true, 64, 6, .mx [.row n 0 a.length, .row (n + 1) 0 i.length, .row (n + 2) 0 b.length, .row (n + 3) 0 l.length, .row (n + 4) 0 t.length, .sc (.int .i64 x)]⟩
set_option maxHeartbeats 4000000 in
theorem spec_BooksSame {ca : List Account} {ci : List Instr} {cb : List Bal} {cl : List Lot} {ct : List Trade} {cn : Int} {ba : List Account} {bi : List Instr} {bb : List Bal} {bl : List Lot} {bt : List Trade} {bn : Int} : FC Try.prog 37 [bkV 0 ⟨ba, bi, bb, bl, bt, bn⟩, bkV 5 ⟨ca, ci, cb, cl, ct, cn⟩] (bkR ⟨ba, bi, bb, bl, bt, bn⟩ ++ bkR ⟨ca, ci, cb, cl, ct, cn⟩) (B (dB ((⟨ba, bi, bb, bl, bt, bn⟩ : Books) = ⟨ca, ci, cb, cl, ct, cn⟩))) (bkR ⟨ba, bi, bb, bl, bt, bn⟩ ++ bkR ⟨ca, ci, cb, cl, ct, cn⟩) := by
  refine fent tk 150 [.tmp 4] Try.func37 (by kernel_rfl) rfl rfl rfl rfl rfl rfl rfl ?_
  refine wlen ba 0 rfl (fun h0 => ?_)
  refine wlen bi 1 rfl (fun h1 => ?_)
  refine wlen bb 2 rfl (fun h2 => ?_)
  refine wlen bl 3 rfl (fun h3 => ?_)
  refine wlen bt 4 rfl (fun h4 => ?_)
  repeat' (first
    | (with_reducible apply zd); rfl; exact tk; rfl
    | (with_reducible first | intro _ | apply wseq | apply zreg | apply thenQ_n | apply thenQ_r | apply thenQ_e | apply znil | apply wret | apply bodyQ_r | apply wblk | apply blkQ_n | apply blkQ_r | apply wskip | apply wexit)
    | apply wct rfl
    | apply wcf rfl
    | (with_reducible apply blkQ_x rfl)
    | (with_reducible apply blkQ_y rfl)
    | (with_reducible apply zcmp); rfl; exact tk; rfl; rfl; rfl
    | (with_reducible apply zne); rfl; exact tk; rfl; rfl; rfl; rfl
    | (with_reducible apply zar); rfl; rfl; rfl; rfl; omega; rfl; rfl
    | (with_reducible apply zix); rfl; exact tk; rfl; rfl; rfl; rfl; rfl; rfl; rfl; omega; rfl; rfl
    | (with_reducible apply zle); rfl; exact tk; rfl; rfl; rfl; rfl; omega; rfl; rfl; rfl; rfl
    | refine zdraw (id := 6) (by kernel_rfl) [(.p, 0), (.p, 2), (.p, 5), (.p, 7), (.t, 1), (.p, 3), (.t, 4), (.t, 6), (.p, 8), (.t, 9), (.p, 10)] [] (by kernel_rfl) rfl ?_
    | refine zdraw (id := 11) (by kernel_rfl) [(.p, 0), (.p, 2), (.p, 5), (.p, 7), (.t, 1), (.p, 3), (.t, 4), (.t, 6), (.p, 8), (.t, 9), (.p, 10)] [] (by kernel_rfl) rfl ?_
    | refine zdraw (id := 16) (by kernel_rfl) [(.p, 0), (.p, 2), (.p, 5), (.p, 7), (.t, 1), (.p, 3), (.t, 4), (.t, 6), (.p, 8), (.t, 9), (.p, 10)] [] (by kernel_rfl) rfl ?_
    | refine zdraw (id := 21) (by kernel_rfl) [(.p, 0), (.p, 2), (.p, 5), (.p, 7), (.t, 1), (.p, 3), (.t, 4), (.t, 6), (.p, 8), (.t, 9), (.p, 10)] [] (by kernel_rfl) rfl ?_
    | refine zdraw (id := 26) (by kernel_rfl) [(.p, 0), (.p, 2), (.p, 5), (.p, 7), (.t, 1), (.p, 3), (.t, 4), (.t, 6), (.p, 8), (.t, 9), (.p, 10)] [] (by kernel_rfl) rfl ?_)
  all_goals first | exact endN [0, 1, 2, 3, 4, 5, 6, 7, 8, 9] rfl rfl rfl rfl rfl rfl (fun e => by simp only [Books.mk.injEq] at e; obtain ⟨e0, e1, e2, e3, e4, e5⟩ := e; simp_all) | skip
  rename_i l0 l1 l2 l3 l4 l5
  refine wloop (X := Int) (fun i => 0 ≤ i ∧ i ≤ ba.length ∧ ∀ j : Int, 0 ≤ j → j < i → rd ba j = rd ca j) (fun i => ⟨150, 10, [(2, .c (.ptr 10 0 0)), (3, .c (.ptr 11 0 0)), (5, I i)], bkR ⟨ba, bi, bb, bl, bt, bn⟩ ++ bkR ⟨ca, ci, cb, cl, ct, cn⟩ ++ [bkX 0 ⟨ba, bi, bb, bl, bt, bn⟩, bkX 5 ⟨ca, ci, cb, cl, ct, cn⟩]⟩) (fun i => (ba.length - i).toNat) 0 [0, 1, 2, 3, 4, 5, 6, 7, 8, 9, 10, 11] ⟨by omega, by omega, fun j h0 h1 => by omega⟩ ⟨rfl, rfl, rfl, rfl, rfl, rfl, rfl, rfl⟩ (fun i hi => ?_)
  obtain ⟨i0, i1, hall⟩ := hi
  repeat' (first
    | (with_reducible apply zd); rfl; exact tk; rfl
    | (with_reducible first | intro _ | apply wseq | apply zreg | apply thenQ_n | apply thenQ_r | apply thenQ_e | apply znil | apply wret | apply bodyQ_r | apply wblk | apply blkQ_n | apply blkQ_r | apply wskip | apply wexit)
    | (with_reducible apply zsn); exact aeq_Account; rfl; rfl; rfl; rfl; rfl
    | apply wct rfl
    | apply wcf rfl
    | (with_reducible apply blkQ_x rfl)
    | (with_reducible apply blkQ_y rfl)
    | (with_reducible apply zcmp); rfl; exact tk; rfl; rfl; rfl
    | (with_reducible apply zne); rfl; exact tk; rfl; rfl; rfl; rfl
    | (with_reducible apply zar); rfl; rfl; rfl; rfl; omega; rfl; rfl
    | (with_reducible apply zix); rfl; exact tk; rfl; rfl; rfl; rfl; rfl; rfl; rfl; omega; rfl; rfl
    | (with_reducible apply zle); rfl; exact tk; rfl; rfl; rfl; rfl; omega; rfl; rfl; rfl; rfl
    | refine zdraw (id := 6) (by kernel_rfl) [(.p, 0), (.p, 2), (.p, 5), (.p, 7), (.t, 1), (.p, 3), (.t, 4), (.t, 6), (.p, 8), (.t, 9), (.p, 10)] [] (by kernel_rfl) rfl ?_
    | refine zdraw (id := 11) (by kernel_rfl) [(.p, 0), (.p, 2), (.p, 5), (.p, 7), (.t, 1), (.p, 3), (.t, 4), (.t, 6), (.p, 8), (.t, 9), (.p, 10)] [] (by kernel_rfl) rfl ?_
    | refine zdraw (id := 16) (by kernel_rfl) [(.p, 0), (.p, 2), (.p, 5), (.p, 7), (.t, 1), (.p, 3), (.t, 4), (.t, 6), (.p, 8), (.t, 9), (.p, 10)] [] (by kernel_rfl) rfl ?_
    | refine zdraw (id := 21) (by kernel_rfl) [(.p, 0), (.p, 2), (.p, 5), (.p, 7), (.t, 1), (.p, 3), (.t, 4), (.t, 6), (.p, 8), (.t, 9), (.p, 10)] [] (by kernel_rfl) rfl ?_
    | refine zdraw (id := 26) (by kernel_rfl) [(.p, 0), (.p, 2), (.p, 5), (.p, 7), (.t, 1), (.p, 3), (.t, 4), (.t, 6), (.p, 8), (.t, 9), (.p, 10)] [] (by kernel_rfl) rfl ?_)
  all_goals first | exact endN [0, 1, 2, 3, 4, 5, 6, 7, 8, 9] rfl rfl rfl rfl rfl rfl (fun e => by simp only [Books.mk.injEq] at e; obtain ⟨e0, e1, e2, e3, e4, e5⟩ := e; subst e0; contradiction) | skip
  all_goals first | exact ⟨i + 1, [0, 1, 2, 3, 4, 5, 6, 7, 8, 9, 10, 11], ⟨by omega, by omega, all_step hall (by assumption)⟩, by dsimp only; omega, rfl, rfl, rfl, rfl, rfl, rfl, rfl, rfl⟩ | skip
  have e0 : ba = ca := ext_rd (by omega) (fun j h1 h2 => hall j h1 (by omega))
  clear hall i0 i1
  refine wloop (X := Int) (fun i => 0 ≤ i ∧ i ≤ bi.length ∧ ∀ j : Int, 0 ≤ j → j < i → rd bi j = rd ci j) (fun i => ⟨150, 10, [(2, .c (.ptr 10 0 0)), (3, .c (.ptr 11 0 0)), (6, I i)], bkR ⟨ba, bi, bb, bl, bt, bn⟩ ++ bkR ⟨ca, ci, cb, cl, ct, cn⟩ ++ [bkX 0 ⟨ba, bi, bb, bl, bt, bn⟩, bkX 5 ⟨ca, ci, cb, cl, ct, cn⟩]⟩) (fun i => (bi.length - i).toNat) 0 [0, 1, 2, 3, 4, 5, 6, 7, 8, 9, 10, 11] ⟨by omega, by omega, fun j h0 h1 => by omega⟩ ⟨rfl, rfl, rfl, rfl, rfl, rfl, rfl, rfl⟩ (fun i hi => ?_)
  obtain ⟨i0, i1, hall⟩ := hi
  repeat' (first
    | (with_reducible apply zd); rfl; exact tk; rfl
    | (with_reducible first | intro _ | apply wseq | apply zreg | apply thenQ_n | apply thenQ_r | apply thenQ_e | apply znil | apply wret | apply bodyQ_r | apply wblk | apply blkQ_n | apply blkQ_r | apply wskip | apply wexit)
    | (with_reducible apply zsn); exact aeq_Instr; rfl; rfl; rfl; rfl; rfl
    | apply wct rfl
    | apply wcf rfl
    | (with_reducible apply blkQ_x rfl)
    | (with_reducible apply blkQ_y rfl)
    | (with_reducible apply zcmp); rfl; exact tk; rfl; rfl; rfl
    | (with_reducible apply zne); rfl; exact tk; rfl; rfl; rfl; rfl
    | (with_reducible apply zar); rfl; rfl; rfl; rfl; omega; rfl; rfl
    | (with_reducible apply zix); rfl; exact tk; rfl; rfl; rfl; rfl; rfl; rfl; rfl; omega; rfl; rfl
    | (with_reducible apply zle); rfl; exact tk; rfl; rfl; rfl; rfl; omega; rfl; rfl; rfl; rfl
    | refine zdraw (id := 6) (by kernel_rfl) [(.p, 0), (.p, 2), (.p, 5), (.p, 7), (.t, 1), (.p, 3), (.t, 4), (.t, 6), (.p, 8), (.t, 9), (.p, 10)] [] (by kernel_rfl) rfl ?_
    | refine zdraw (id := 11) (by kernel_rfl) [(.p, 0), (.p, 2), (.p, 5), (.p, 7), (.t, 1), (.p, 3), (.t, 4), (.t, 6), (.p, 8), (.t, 9), (.p, 10)] [] (by kernel_rfl) rfl ?_
    | refine zdraw (id := 16) (by kernel_rfl) [(.p, 0), (.p, 2), (.p, 5), (.p, 7), (.t, 1), (.p, 3), (.t, 4), (.t, 6), (.p, 8), (.t, 9), (.p, 10)] [] (by kernel_rfl) rfl ?_
    | refine zdraw (id := 21) (by kernel_rfl) [(.p, 0), (.p, 2), (.p, 5), (.p, 7), (.t, 1), (.p, 3), (.t, 4), (.t, 6), (.p, 8), (.t, 9), (.p, 10)] [] (by kernel_rfl) rfl ?_
    | refine zdraw (id := 26) (by kernel_rfl) [(.p, 0), (.p, 2), (.p, 5), (.p, 7), (.t, 1), (.p, 3), (.t, 4), (.t, 6), (.p, 8), (.t, 9), (.p, 10)] [] (by kernel_rfl) rfl ?_)
  all_goals first | exact endN [0, 1, 2, 3, 4, 5, 6, 7, 8, 9] rfl rfl rfl rfl rfl rfl (fun e => by simp only [Books.mk.injEq] at e; obtain ⟨e0, e1, e2, e3, e4, e5⟩ := e; subst e1; contradiction) | skip
  all_goals first | exact ⟨i + 1, [0, 1, 2, 3, 4, 5, 6, 7, 8, 9, 10, 11], ⟨by omega, by omega, all_step hall (by assumption)⟩, by dsimp only; omega, rfl, rfl, rfl, rfl, rfl, rfl, rfl, rfl⟩ | skip
  have e1 : bi = ci := ext_rd (by omega) (fun j h1 h2 => hall j h1 (by omega))
  clear hall i0 i1
  refine wloop (X := Int) (fun i => 0 ≤ i ∧ i ≤ bb.length ∧ ∀ j : Int, 0 ≤ j → j < i → rd bb j = rd cb j) (fun i => ⟨150, 10, [(2, .c (.ptr 10 0 0)), (3, .c (.ptr 11 0 0)), (7, I i)], bkR ⟨ba, bi, bb, bl, bt, bn⟩ ++ bkR ⟨ca, ci, cb, cl, ct, cn⟩ ++ [bkX 0 ⟨ba, bi, bb, bl, bt, bn⟩, bkX 5 ⟨ca, ci, cb, cl, ct, cn⟩]⟩) (fun i => (bb.length - i).toNat) 0 [0, 1, 2, 3, 4, 5, 6, 7, 8, 9, 10, 11] ⟨by omega, by omega, fun j h0 h1 => by omega⟩ ⟨rfl, rfl, rfl, rfl, rfl, rfl, rfl, rfl⟩ (fun i hi => ?_)
  obtain ⟨i0, i1, hall⟩ := hi
  repeat' (first
    | (with_reducible apply zd); rfl; exact tk; rfl
    | (with_reducible first | intro _ | apply wseq | apply zreg | apply thenQ_n | apply thenQ_r | apply thenQ_e | apply znil | apply wret | apply bodyQ_r | apply wblk | apply blkQ_n | apply blkQ_r | apply wskip | apply wexit)
    | (with_reducible apply zsn); exact aeq_Bal; rfl; rfl; rfl; rfl; rfl
    | apply wct rfl
    | apply wcf rfl
    | (with_reducible apply blkQ_x rfl)
    | (with_reducible apply blkQ_y rfl)
    | (with_reducible apply zcmp); rfl; exact tk; rfl; rfl; rfl
    | (with_reducible apply zne); rfl; exact tk; rfl; rfl; rfl; rfl
    | (with_reducible apply zar); rfl; rfl; rfl; rfl; omega; rfl; rfl
    | (with_reducible apply zix); rfl; exact tk; rfl; rfl; rfl; rfl; rfl; rfl; rfl; omega; rfl; rfl
    | (with_reducible apply zle); rfl; exact tk; rfl; rfl; rfl; rfl; omega; rfl; rfl; rfl; rfl
    | refine zdraw (id := 6) (by kernel_rfl) [(.p, 0), (.p, 2), (.p, 5), (.p, 7), (.t, 1), (.p, 3), (.t, 4), (.t, 6), (.p, 8), (.t, 9), (.p, 10)] [] (by kernel_rfl) rfl ?_
    | refine zdraw (id := 11) (by kernel_rfl) [(.p, 0), (.p, 2), (.p, 5), (.p, 7), (.t, 1), (.p, 3), (.t, 4), (.t, 6), (.p, 8), (.t, 9), (.p, 10)] [] (by kernel_rfl) rfl ?_
    | refine zdraw (id := 16) (by kernel_rfl) [(.p, 0), (.p, 2), (.p, 5), (.p, 7), (.t, 1), (.p, 3), (.t, 4), (.t, 6), (.p, 8), (.t, 9), (.p, 10)] [] (by kernel_rfl) rfl ?_
    | refine zdraw (id := 21) (by kernel_rfl) [(.p, 0), (.p, 2), (.p, 5), (.p, 7), (.t, 1), (.p, 3), (.t, 4), (.t, 6), (.p, 8), (.t, 9), (.p, 10)] [] (by kernel_rfl) rfl ?_
    | refine zdraw (id := 26) (by kernel_rfl) [(.p, 0), (.p, 2), (.p, 5), (.p, 7), (.t, 1), (.p, 3), (.t, 4), (.t, 6), (.p, 8), (.t, 9), (.p, 10)] [] (by kernel_rfl) rfl ?_)
  all_goals first | exact endN [0, 1, 2, 3, 4, 5, 6, 7, 8, 9] rfl rfl rfl rfl rfl rfl (fun e => by simp only [Books.mk.injEq] at e; obtain ⟨e0, e1, e2, e3, e4, e5⟩ := e; subst e2; contradiction) | skip
  all_goals first | exact ⟨i + 1, [0, 1, 2, 3, 4, 5, 6, 7, 8, 9, 10, 11], ⟨by omega, by omega, all_step hall (by assumption)⟩, by dsimp only; omega, rfl, rfl, rfl, rfl, rfl, rfl, rfl, rfl⟩ | skip
  have e2 : bb = cb := ext_rd (by omega) (fun j h1 h2 => hall j h1 (by omega))
  clear hall i0 i1
  refine wloop (X := Int) (fun i => 0 ≤ i ∧ i ≤ bl.length ∧ ∀ j : Int, 0 ≤ j → j < i → rd bl j = rd cl j) (fun i => ⟨150, 10, [(2, .c (.ptr 10 0 0)), (3, .c (.ptr 11 0 0)), (8, I i)], bkR ⟨ba, bi, bb, bl, bt, bn⟩ ++ bkR ⟨ca, ci, cb, cl, ct, cn⟩ ++ [bkX 0 ⟨ba, bi, bb, bl, bt, bn⟩, bkX 5 ⟨ca, ci, cb, cl, ct, cn⟩]⟩) (fun i => (bl.length - i).toNat) 0 [0, 1, 2, 3, 4, 5, 6, 7, 8, 9, 10, 11] ⟨by omega, by omega, fun j h0 h1 => by omega⟩ ⟨rfl, rfl, rfl, rfl, rfl, rfl, rfl, rfl⟩ (fun i hi => ?_)
  obtain ⟨i0, i1, hall⟩ := hi
  repeat' (first
    | (with_reducible apply zd); rfl; exact tk; rfl
    | (with_reducible first | intro _ | apply wseq | apply zreg | apply thenQ_n | apply thenQ_r | apply thenQ_e | apply znil | apply wret | apply bodyQ_r | apply wblk | apply blkQ_n | apply blkQ_r | apply wskip | apply wexit)
    | (with_reducible apply zsn); exact aeq_Lot; rfl; rfl; rfl; rfl; rfl
    | apply wct rfl
    | apply wcf rfl
    | (with_reducible apply blkQ_x rfl)
    | (with_reducible apply blkQ_y rfl)
    | (with_reducible apply zcmp); rfl; exact tk; rfl; rfl; rfl
    | (with_reducible apply zne); rfl; exact tk; rfl; rfl; rfl; rfl
    | (with_reducible apply zar); rfl; rfl; rfl; rfl; omega; rfl; rfl
    | (with_reducible apply zix); rfl; exact tk; rfl; rfl; rfl; rfl; rfl; rfl; rfl; omega; rfl; rfl
    | (with_reducible apply zle); rfl; exact tk; rfl; rfl; rfl; rfl; omega; rfl; rfl; rfl; rfl
    | refine zdraw (id := 6) (by kernel_rfl) [(.p, 0), (.p, 2), (.p, 5), (.p, 7), (.t, 1), (.p, 3), (.t, 4), (.t, 6), (.p, 8), (.t, 9), (.p, 10)] [] (by kernel_rfl) rfl ?_
    | refine zdraw (id := 11) (by kernel_rfl) [(.p, 0), (.p, 2), (.p, 5), (.p, 7), (.t, 1), (.p, 3), (.t, 4), (.t, 6), (.p, 8), (.t, 9), (.p, 10)] [] (by kernel_rfl) rfl ?_
    | refine zdraw (id := 16) (by kernel_rfl) [(.p, 0), (.p, 2), (.p, 5), (.p, 7), (.t, 1), (.p, 3), (.t, 4), (.t, 6), (.p, 8), (.t, 9), (.p, 10)] [] (by kernel_rfl) rfl ?_
    | refine zdraw (id := 21) (by kernel_rfl) [(.p, 0), (.p, 2), (.p, 5), (.p, 7), (.t, 1), (.p, 3), (.t, 4), (.t, 6), (.p, 8), (.t, 9), (.p, 10)] [] (by kernel_rfl) rfl ?_
    | refine zdraw (id := 26) (by kernel_rfl) [(.p, 0), (.p, 2), (.p, 5), (.p, 7), (.t, 1), (.p, 3), (.t, 4), (.t, 6), (.p, 8), (.t, 9), (.p, 10)] [] (by kernel_rfl) rfl ?_)
  all_goals first | exact endN [0, 1, 2, 3, 4, 5, 6, 7, 8, 9] rfl rfl rfl rfl rfl rfl (fun e => by simp only [Books.mk.injEq] at e; obtain ⟨e0, e1, e2, e3, e4, e5⟩ := e; subst e3; contradiction) | skip
  all_goals first | exact ⟨i + 1, [0, 1, 2, 3, 4, 5, 6, 7, 8, 9, 10, 11], ⟨by omega, by omega, all_step hall (by assumption)⟩, by dsimp only; omega, rfl, rfl, rfl, rfl, rfl, rfl, rfl, rfl⟩ | skip
  have e3 : bl = cl := ext_rd (by omega) (fun j h1 h2 => hall j h1 (by omega))
  clear hall i0 i1
  refine wloop (X := Int) (fun i => 0 ≤ i ∧ i ≤ bt.length ∧ ∀ j : Int, 0 ≤ j → j < i → rd bt j = rd ct j) (fun i => ⟨150, 10, [(2, .c (.ptr 10 0 0)), (3, .c (.ptr 11 0 0)), (9, I i)], bkR ⟨ba, bi, bb, bl, bt, bn⟩ ++ bkR ⟨ca, ci, cb, cl, ct, cn⟩ ++ [bkX 0 ⟨ba, bi, bb, bl, bt, bn⟩, bkX 5 ⟨ca, ci, cb, cl, ct, cn⟩]⟩) (fun i => (bt.length - i).toNat) 0 [0, 1, 2, 3, 4, 5, 6, 7, 8, 9, 10, 11] ⟨by omega, by omega, fun j h0 h1 => by omega⟩ ⟨rfl, rfl, rfl, rfl, rfl, rfl, rfl, rfl⟩ (fun i hi => ?_)
  obtain ⟨i0, i1, hall⟩ := hi
  repeat' (first
    | (with_reducible apply zd); rfl; exact tk; rfl
    | (with_reducible first | intro _ | apply wseq | apply zreg | apply thenQ_n | apply thenQ_r | apply thenQ_e | apply znil | apply wret | apply bodyQ_r | apply wblk | apply blkQ_n | apply blkQ_r | apply wskip | apply wexit)
    | (with_reducible apply zsn); exact aeq_Trade; rfl; rfl; rfl; rfl; rfl
    | apply wct rfl
    | apply wcf rfl
    | (with_reducible apply blkQ_x rfl)
    | (with_reducible apply blkQ_y rfl)
    | (with_reducible apply zcmp); rfl; exact tk; rfl; rfl; rfl
    | (with_reducible apply zne); rfl; exact tk; rfl; rfl; rfl; rfl
    | (with_reducible apply zar); rfl; rfl; rfl; rfl; omega; rfl; rfl
    | (with_reducible apply zix); rfl; exact tk; rfl; rfl; rfl; rfl; rfl; rfl; rfl; omega; rfl; rfl
    | (with_reducible apply zle); rfl; exact tk; rfl; rfl; rfl; rfl; omega; rfl; rfl; rfl; rfl
    | refine zdraw (id := 6) (by kernel_rfl) [(.p, 0), (.p, 2), (.p, 5), (.p, 7), (.t, 1), (.p, 3), (.t, 4), (.t, 6), (.p, 8), (.t, 9), (.p, 10)] [] (by kernel_rfl) rfl ?_
    | refine zdraw (id := 11) (by kernel_rfl) [(.p, 0), (.p, 2), (.p, 5), (.p, 7), (.t, 1), (.p, 3), (.t, 4), (.t, 6), (.p, 8), (.t, 9), (.p, 10)] [] (by kernel_rfl) rfl ?_
    | refine zdraw (id := 16) (by kernel_rfl) [(.p, 0), (.p, 2), (.p, 5), (.p, 7), (.t, 1), (.p, 3), (.t, 4), (.t, 6), (.p, 8), (.t, 9), (.p, 10)] [] (by kernel_rfl) rfl ?_
    | refine zdraw (id := 21) (by kernel_rfl) [(.p, 0), (.p, 2), (.p, 5), (.p, 7), (.t, 1), (.p, 3), (.t, 4), (.t, 6), (.p, 8), (.t, 9), (.p, 10)] [] (by kernel_rfl) rfl ?_
    | refine zdraw (id := 26) (by kernel_rfl) [(.p, 0), (.p, 2), (.p, 5), (.p, 7), (.t, 1), (.p, 3), (.t, 4), (.t, 6), (.p, 8), (.t, 9), (.p, 10)] [] (by kernel_rfl) rfl ?_)
  all_goals first | exact endN [0, 1, 2, 3, 4, 5, 6, 7, 8, 9] rfl rfl rfl rfl rfl rfl (fun e => by simp only [Books.mk.injEq] at e; obtain ⟨e0, e1, e2, e3, e4, e5⟩ := e; subst e4; contradiction) | skip
  all_goals first | exact ⟨i + 1, [0, 1, 2, 3, 4, 5, 6, 7, 8, 9, 10, 11], ⟨by omega, by omega, all_step hall (by assumption)⟩, by dsimp only; omega, rfl, rfl, rfl, rfl, rfl, rfl, rfl, rfl⟩ | skip
  have e4 : bt = ct := ext_rd (by omega) (fun j h1 h2 => hall j h1 (by omega))
  clear hall i0 i1
  exact endY [0, 1, 2, 3, 4, 5, 6, 7, 8, 9] rfl rfl rfl rfl rfl rfl (by simp_all)
end Go.Proofs.Ytbbeaghhchjkgaa.Sh
