/- The open trades' numbers. No condition. -/
import Derived.Test.YtnlajjoheegbiaaGreatKNeShSe
namespace Go.Proofs.YtnlajjoheegbiaaGreat.Sh
open Go.RowKit
set_option linter.unusedVariables false
set_option linter.unusedSimpArgs false
noncomputable def tOs (l : List Trade) (fr to : Int) : List Int := (flt (fun t => t.State = 1 ∧ inP t.No fr to) l).map (fun t => t.No)
theorem tOs_y {l : List Trade} {i fr to : Int} (h : 0 ≤ i ∧ i < l.length) (e : (rd l i).State = 1 ∧ inP (rd l i).No fr to) : tOs (pf l i) fr to ++ [(rd l i).No] = tOs (pf l (i + 1)) fr to := by
  unfold tOs
  rw [flt_succ h, flt_y (p := fun t : Trade => t.State = 1 ∧ inP t.No fr to) e, List.map_append]
  rfl
theorem tOs_n {l : List Trade} {i fr to : Int} (h : 0 ≤ i ∧ i < l.length) (e : ¬ ((rd l i).State = 1 ∧ inP (rd l i).No fr to)) : tOs (pf l i) fr to = tOs (pf l (i + 1)) fr to := by
  unfold tOs
  rw [flt_succ h, flt_n (p := fun t : Trade => t.State = 1 ∧ inP t.No fr to) e, List.append_nil]
set_option maxHeartbeats 4000000 in
theorem impl_TradesOpen {ba : List Account} {bi : List Instr} {bb : List Bal} {bl : List Lot} {bt : List Trade} {bn : Int} {fr to : Int} (hok : BooksOk ⟨ba, bi, bb, bl, bt, bn⟩) : FC Tryz.prog 126 [bkV 0 ⟨ba, bi, bb, bl, bt, bn⟩, I fr, I to] (bkR ⟨ba, bi, bb, bl, bt, bn⟩) (.c (.row 5 0 (tOs bt fr to).length)) (bkR ⟨ba, bi, bb, bl, bt, bn⟩ ++ [ow 3 (tOs bt fr to)]) := by
  refine fent tk 38 [.tmp 6] Tryz.func126 (by kernel_rfl) rfl rfl rfl rfl rfl rfl rfl ?_
  have hto := hok.trades
  dsimp only at hto
  have htl := hto.2
  repeat' (first
 | (with_reducible apply zds); exact tk; rfl; rfl; rfl; rfl; rfl
 | (with_reducible apply zd); rfl; exact tk; rfl
 | (with_reducible first | intro _ | apply wseq | apply zreg | apply thenQ_n | apply thenQ_r | apply thenQ_e | apply znil | apply wret | apply bodyQ_r | apply wblk | apply blkQ_n | apply blkQ_r | apply wskip | apply wexit)
 | apply wct rfl
 | apply wcf rfl
 | (with_reducible apply zlit (α := Int) (e := 3)); rfl; exact tk; (iterate 13 rfl)
 | (with_reducible apply zcp); (iterate 10 rfl); (first | exact impl_BooksOk | exact impl_in); rfl; rfl
 | fail)
  all_goals first | (exfalso; contradiction) | skip
  refine wlp (X := Int × List Int) [1, 2, 15, 16] [0, 1, 2, 3, 4, 5, 6] (fun x => [(17, I x.1), (7, .c (.row 6 0 x.2.length))]) (fun x => [(6, ow 3 x.2)]) (fun x => (0 ≤ x.1 ∧ x.1 ≤ bt.length) ∧ x.2 = tOs (pf bt x.1) fr to) (fun x => (bt.length - x.1).toNat) (0, []) ⟨by dsimp only; omega, rfl⟩ rfl rfl (fun _ => rfl) (fun _ => rfl) ⟨rfl, rfl, rfl, rfl, rfl, rfl, rfl, rfl⟩ (fun x hx => ?_)
  obtain ⟨i, u⟩ := x
  obtain ⟨h0, hu⟩ := hx
  dsimp only at h0 hu ⊢
  have hul : u.length ≤ 1000000 := by rw [hu, tOs, List.length_map]; have := flt_le (fun t : Trade => t.State = 1 ∧ inP t.No fr to) (pf bt i); have := pf_len h0; omega
  have hy := fun (h : i < bt.length) (e : (rd bt i).State = 1 ∧ inP (rd bt i).No fr to) => (by rw [hu, tOs_y ⟨h0.1, h⟩ e] : u ++ [(rd bt i).No] = tOs (pf bt (i + 1)) fr to)
  have hn := fun (h : i < bt.length) (e : ¬ ((rd bt i).State = 1 ∧ inP (rd bt i).No fr to)) => (by rw [hu, tOs_n ⟨h0.1, h⟩ e] : u = tOs (pf bt (i + 1)) fr to)
  repeat' (first
 | (with_reducible apply zds); exact tk; rfl; rfl; rfl; rfl; rfl
 | (with_reducible apply zd); rfl; exact tk; rfl
 | (with_reducible first | intro _ | apply wseq | apply zreg | apply thenQ_n | apply thenQ_r | apply thenQ_e | apply znil | apply wret | apply bodyQ_r | apply wblk | apply blkQ_n | apply blkQ_r | apply wskip | apply wexit)
 | apply wct rfl
 | apply wcf rfl
 | (with_reducible apply blkQ_x rfl)
 | (with_reducible apply zcmp); rfl; exact tk; rfl; rfl; rfl
 | (with_reducible apply zar); rfl; rfl; rfl; rfl; (first | omega | ((try simp only [List.length_append, List.length_cons, List.length_nil, List.length_map]); (try dsimp only); omega)); rfl; rfl
 | (with_reducible apply zix); rfl; exact tk; (iterate 7 rfl); (first | omega | ((try simp only [List.length_append, List.length_cons, List.length_nil, List.length_map]); (try dsimp only); omega)); rfl; rfl
 | (with_reducible apply zle); rfl; exact tk; rfl; rfl; rfl; rfl; (first | omega | ((try simp only [List.length_append, List.length_cons, List.length_nil, List.length_map]); (try dsimp only); omega)); rfl; rfl; rfl; rfl
 | (with_reducible apply zlit (α := Int) (e := 3)); rfl; exact tk; (iterate 13 rfl)
 | (with_reducible apply zap); rfl; exact tk; (iterate 10 rfl); (first | omega | ((try simp only [List.length_append, List.length_cons, List.length_nil, List.length_map]); (try dsimp only); omega)); rfl; rfl; rfl; rfl; rfl
 | (with_reducible apply zcp); (iterate 10 rfl); (first | exact impl_BooksOk | exact impl_in); rfl; rfl
 | fail)
  all_goals first
    | exact endR (i + 1, u ++ [(rd bt i).No]) [0, 1, 2, 3, 4, 5, 9] ⟨rfl, rfl, rfl, rfl, rfl, rfl, rfl, rfl⟩ ⟨by dsimp only; omega, hy (by assumption) ⟨by assumption, by assumption⟩⟩ (by first | omega | (dsimp only; omega))
    | exact endR (i + 1, u ++ [(rd bt i).No]) [0, 1, 2, 3, 4, 5, 7] ⟨rfl, rfl, rfl, rfl, rfl, rfl, rfl, rfl⟩ ⟨by dsimp only; omega, hy (by assumption) ⟨by assumption, by assumption⟩⟩ (by first | omega | (dsimp only; omega))
    | exact endR (i + 1, u) [0, 1, 2, 3, 4, 5, 6] ⟨rfl, rfl, rfl, rfl, rfl, rfl, rfl, rfl⟩ ⟨by dsimp only; omega, hn (by assumption) (fun e => by first | exact absurd e.1 (by assumption) | exact absurd e.2 (by assumption))⟩ (by first | omega | (dsimp only; omega))
    | (exfalso; contradiction)
    | (rename_i h
       rw [pf_all (by assumption)] at hu
       subst hu
       exact endV [0, 1, 2, 3, 4, 6] rfl rfl rfl rfl rfl rfl)
    | trace_state
set_option maxHeartbeats 4000000 in
theorem spec_TradesOpen {ba : List Account} {bi : List Instr} {bb : List Bal} {bl : List Lot} {bt : List Trade} {bn : Int} {fr to : Int} (hok : BooksOk ⟨ba, bi, bb, bl, bt, bn⟩) : FC Tryz.prog 125 [bkV 0 ⟨ba, bi, bb, bl, bt, bn⟩, I fr, I to] (bkR ⟨ba, bi, bb, bl, bt, bn⟩) (.c (.row 5 0 (tOs bt fr to).length)) (bkR ⟨ba, bi, bb, bl, bt, bn⟩ ++ [ow 3 (tOs bt fr to)]) := by
  refine fent tk 43 [.tmp 6] Tryz.func125 (by kernel_rfl) rfl rfl rfl rfl rfl rfl rfl ?_
  have hto := hok.trades
  dsimp only at hto
  have htl := hto.2
  repeat' (first
 | (with_reducible apply zds); exact tk; rfl; rfl; rfl; rfl; rfl
 | (with_reducible apply zd); rfl; exact tk; rfl
 | (with_reducible first | intro _ | apply wseq | apply zreg | apply thenQ_n | apply thenQ_r | apply thenQ_e | apply znil | apply wret | apply bodyQ_r | apply wblk | apply blkQ_n | apply blkQ_r | apply wskip | apply wexit)
 | (with_reducible apply zlit (α := Int) (e := 3)); rfl; exact tk; (iterate 13 rfl)
 | fail)
  all_goals first | (exfalso; contradiction) | skip
  refine wlp (X := Int × List Int) [1, 2, 3] [0, 1, 2, 3, 4, 5, 6] (fun x => [(8, I x.1), (7, .c (.row 6 0 x.2.length))]) (fun x => [(6, ow 3 x.2)]) (fun x => (0 ≤ x.1 ∧ x.1 ≤ bt.length) ∧ x.2 = tOs (pf bt x.1) fr to) (fun x => (bt.length - x.1).toNat) (0, []) ⟨by dsimp only; omega, rfl⟩ rfl rfl (fun _ => rfl) (fun _ => rfl) ⟨rfl, rfl, rfl, rfl, rfl, rfl, rfl, rfl⟩ (fun x hx => ?_)
  obtain ⟨i, u⟩ := x
  obtain ⟨h0, hu⟩ := hx
  dsimp only at h0 hu ⊢
  have hul : u.length ≤ 1000000 := by rw [hu, tOs, List.length_map]; have := flt_le (fun t : Trade => t.State = 1 ∧ inP t.No fr to) (pf bt i); have := pf_len h0; omega
  have hy := fun (h : i < bt.length) (e : (rd bt i).State = 1 ∧ inP (rd bt i).No fr to) => (by rw [hu, tOs_y ⟨h0.1, h⟩ e] : u ++ [(rd bt i).No] = tOs (pf bt (i + 1)) fr to)
  have hn := fun (h : i < bt.length) (e : ¬ ((rd bt i).State = 1 ∧ inP (rd bt i).No fr to)) => (by rw [hu, tOs_n ⟨h0.1, h⟩ e] : u = tOs (pf bt (i + 1)) fr to)
  repeat' (first
 | (with_reducible apply zds); exact tk; rfl; rfl; rfl; rfl; rfl
 | (with_reducible apply zd); rfl; exact tk; rfl
 | (with_reducible first | intro _ | apply wseq | apply zreg | apply thenQ_n | apply thenQ_r | apply thenQ_e | apply znil | apply wret | apply bodyQ_r | apply wblk | apply blkQ_n | apply blkQ_r | apply wskip | apply wexit)
 | apply wct rfl
 | apply wcf rfl
 | (with_reducible apply blkQ_x rfl)
 | (with_reducible apply zcmp); rfl; exact tk; rfl; rfl; rfl
 | (with_reducible apply zar); rfl; rfl; rfl; rfl; (first | omega | ((try simp only [List.length_append, List.length_cons, List.length_nil, List.length_map]); (try dsimp only); omega)); rfl; rfl
 | (with_reducible apply zix); rfl; exact tk; (iterate 7 rfl); (first | omega | ((try simp only [List.length_append, List.length_cons, List.length_nil, List.length_map]); (try dsimp only); omega)); rfl; rfl
 | (with_reducible apply zle); rfl; exact tk; rfl; rfl; rfl; rfl; (first | omega | ((try simp only [List.length_append, List.length_cons, List.length_nil, List.length_map]); (try dsimp only); omega)); rfl; rfl; rfl; rfl
 | (with_reducible apply zlit (α := Int) (e := 3)); rfl; exact tk; (iterate 13 rfl)
 | (with_reducible apply zap); rfl; exact tk; (iterate 10 rfl); (first | omega | ((try simp only [List.length_append, List.length_cons, List.length_nil, List.length_map]); (try dsimp only); omega)); rfl; rfl; rfl; rfl; rfl
 | (with_reducible apply zcp); (iterate 10 rfl); (first | exact spec_BooksOk | exact spec_l1In); rfl; rfl
 | fail)
  all_goals first
    | exact endR (i + 1, u ++ [(rd bt i).No]) [0, 1, 2, 3, 4, 5, 9] ⟨rfl, rfl, rfl, rfl, rfl, rfl, rfl, rfl⟩ ⟨by dsimp only; omega, hy (by assumption) ⟨by assumption, by assumption⟩⟩ (by first | omega | (dsimp only; omega))
    | exact endR (i + 1, u ++ [(rd bt i).No]) [0, 1, 2, 3, 4, 5, 7] ⟨rfl, rfl, rfl, rfl, rfl, rfl, rfl, rfl⟩ ⟨by dsimp only; omega, hy (by assumption) ⟨by assumption, by assumption⟩⟩ (by first | omega | (dsimp only; omega))
    | exact endR (i + 1, u) [0, 1, 2, 3, 4, 5, 6] ⟨rfl, rfl, rfl, rfl, rfl, rfl, rfl, rfl⟩ ⟨by dsimp only; omega, hn (by assumption) (fun e => by first | exact absurd e.1 (by assumption) | exact absurd e.2 (by assumption))⟩ (by first | omega | (dsimp only; omega))
    | (exfalso; contradiction)
    | (rename_i h
       rw [pf_all (by assumption)] at hu
       subst hu
       exact endV [0, 1, 2, 3, 4, 6] rfl rfl rfl rfl rfl rfl)
    | trace_state
end Go.Proofs.YtnlajjoheegbiaaGreat.Sh
