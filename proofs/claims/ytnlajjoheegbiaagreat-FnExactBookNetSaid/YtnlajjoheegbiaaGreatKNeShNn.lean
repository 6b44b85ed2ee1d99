/- NetLegs. No condition. -/
import Derived.Test.YtnlajjoheegbiaaGreatKNeShNl
namespace Go.Proofs.YtnlajjoheegbiaaGreat.Sh
open Go.RowKit
set_option linter.unusedVariables false
set_option linter.unusedSimpArgs false
set_option maxHeartbeats 4000000 in
theorem impl_NetLegs_1 {a c n : Int} : FC Tryz.prog 87 [.agg [.sc (.int .i64 a), .sc (.int .i64 c), .sc (.int .i64 n)]] ([]) (B (dB (¬ amountOk n))) ([]) := by
  refine fent tk 7 [.tmp 2] Tryz.func87 (by kernel_rfl) rfl rfl rfl rfl rfl rfl rfl ?_
  repeat' (first
 | (with_reducible apply zds); exact tk; rfl; rfl; rfl; rfl; rfl
 | (with_reducible first | intro _ | apply wseq | apply zreg | apply thenQ_n | apply thenQ_r | apply thenQ_e | apply znil | apply wret | apply bodyQ_r | apply wblk | apply blkQ_n | apply blkQ_r | apply wskip | apply wexit)
 | (with_reducible apply zcp); (iterate 10 rfl); exact impl_AmountOk; rfl; rfl
 | fail)
  all_goals first | exact endY [] rfl rfl rfl rfl rfl rfl (by assumption) | exact endN [] rfl rfl rfl rfl rfl rfl (fun k => k (by assumption))
set_option maxHeartbeats 4000000 in
theorem impl_NetLegs_2 {a c n : Int} : FC Tryz.prog 90 [.agg [.sc (.int .i64 a), .sc (.int .i64 c), .sc (.int .i64 n)]] ([]) (B (dB (n = 0))) ([]) := by
  refine fent tk 6 [.tmp 2] Tryz.func90 (by kernel_rfl) rfl rfl rfl rfl rfl rfl rfl ?_
  repeat' (first
 | (with_reducible apply zds); exact tk; rfl; rfl; rfl; rfl; rfl
 | (with_reducible apply zd); rfl; exact tk; rfl
 | (with_reducible first | intro _ | apply wseq | apply zreg | apply thenQ_n | apply thenQ_r | apply thenQ_e | apply znil | apply wret | apply bodyQ_r | apply wblk | apply blkQ_n | apply blkQ_r | apply wskip | apply wexit)
 | (with_reducible apply zeq); rfl; exact tk; rfl; rfl; rfl; rfl
 | fail)
  all_goals first | exact endY [] rfl rfl rfl rfl rfl rfl (by assumption) | exact endN [] rfl rfl rfl rfl rfl rfl (by assumption)
set_option maxHeartbeats 4000000 in
theorem slices_IndexFunc_Leg_na {l : List Leg} : FC Tryz.prog 169 [.c (.row 0 0 l.length), .c (.fn 87 [])] ([ro 117 l]) (sel (∃ x ∈ l, ¬ amountOk x.Amount) (I (fIx l (fun x => ¬ amountOk x.Amount))) (I (-1))) (sel (∃ x ∈ l, ¬ amountOk x.Amount) [ro 117 l] [ro 117 l]) := by
  refine fent tk 19 [.tmp 4] Tryz.func169 (by kernel_rfl) rfl rfl rfl rfl rfl rfl rfl ?_
  refine wlen l 0 rfl (fun hl => ?_)
  repeat' (first
 | (with_reducible apply zds); exact tk; rfl; rfl; rfl; rfl; rfl
 | (with_reducible apply zd); rfl; exact tk; rfl
 | (with_reducible first | intro _ | apply wseq | apply zreg | apply thenQ_n | apply thenQ_r | apply thenQ_e | apply znil | apply wret | apply bodyQ_r | apply wblk | apply blkQ_n | apply blkQ_r | apply wskip | apply wexit)
 | fail)
  refine wlp (X := Int) [0, 1, 7] [0] (fun i => [(8, I i)]) (fun _ => []) (fun i => 0 ≤ i ∧ i ≤ l.length ∧ ∀ j : Int, 0 ≤ j → j < i → ¬ (fun x => ¬ amountOk x.Amount) (rd l j)) (fun i => (l.length - i).toNat) 0 ⟨by omega, by omega, fun j h0 h1 => by omega⟩ rfl rfl (fun _ => rfl) (fun _ => rfl) ⟨rfl, rfl, rfl, rfl, rfl, rfl, rfl, rfl⟩ (fun i hi => ?_)
  obtain ⟨h0, hi, hall⟩ := hi
  skip
  repeat' (first
 | (with_reducible apply zds); exact tk; rfl; rfl; rfl; rfl; rfl
 | (with_reducible apply zd); rfl; exact tk; rfl
 | (with_reducible apply zcp); (iterate 10 rfl); exact impl_NetLegs_1; rfl; rfl
 | (with_reducible first | intro _ | apply wseq | apply zreg | apply thenQ_n | apply thenQ_r | apply thenQ_e | apply znil | apply wret | apply bodyQ_r | apply wblk | apply blkQ_n | apply blkQ_r | apply wskip | apply wexit)
 | apply wct rfl
 | apply wcf rfl
 | (with_reducible apply blkQ_x rfl)
 | (with_reducible apply zcmp); rfl; exact tk; rfl; rfl; rfl
 | (with_reducible apply zar); rfl; rfl; rfl; rfl; (first | omega | ((try simp only [List.length_append, List.length_cons, List.length_nil, List.length_map]); (try dsimp only); omega)); rfl; rfl
 | (with_reducible apply zix); rfl; exact tk; (iterate 7 rfl); (first | omega | ((try simp only [List.length_append, List.length_cons, List.length_nil, List.length_map]); (try dsimp only); omega)); rfl; rfl
 | (with_reducible apply zle); rfl; exact tk; rfl; rfl; rfl; rfl; (first | omega | ((try simp only [List.length_append, List.length_cons, List.length_nil, List.length_map]); (try dsimp only); omega)); rfl; rfl; rfl; rfl
 | fail)
  all_goals first
    | (refine endG (X' := I i) (hs' := [ro 117 l]) [0] rfl rfl rfl rfl rfl rfl ?_ ?_
       · rw [sel_t ⟨rd l i, rd_mem ⟨by omega, by omega⟩, by assumption⟩, fIx_eq ⟨by omega, by omega⟩ hall (by assumption)]
       · rw [sel_t ⟨rd l i, rd_mem ⟨by omega, by omega⟩, by assumption⟩])
    | exact endF (no_rd (by assumption) hall) [0] rfl rfl rfl rfl rfl rfl
    | exact endR (i + 1) [0] ⟨rfl, rfl, rfl, rfl, rfl, rfl, rfl, rfl⟩ ⟨by omega, by omega, all_step hall (by assumption)⟩ (by first | omega | (dsimp only; omega))
set_option maxHeartbeats 4000000 in
theorem slices_ContainsFunc_Leg_na {l : List Leg} : FC Tryz.prog 86 [.c (.row 0 0 l.length), .c (.fn 87 [])] ([ro 117 l]) (B (dB (∃ x ∈ l, ¬ amountOk x.Amount))) ([ro 117 l]) := by
  refine fent tk 9 [.tmp 4] Tryz.func86 (by kernel_rfl) rfl rfl rfl rfl rfl rfl rfl ?_
  have hn := fIx_nn l (fun x => ¬ amountOk x.Amount)
  repeat' (first
 | (with_reducible apply zds); exact tk; rfl; rfl; rfl; rfl; rfl
 | (with_reducible apply zd); rfl; exact tk; rfl
 | (with_reducible first | intro _ | apply wseq | apply zreg | apply thenQ_n | apply thenQ_r | apply thenQ_e | apply znil | apply wret | apply bodyQ_r | apply wblk | apply blkQ_n | apply blkQ_r | apply wskip | apply wexit)
 | (with_reducible apply zcmp); rfl; exact tk; rfl; rfl; rfl
 | (with_reducible apply zcs); (iterate 10 rfl); (first | exact slices_IndexFunc_Leg_nz | exact slices_IndexFunc_Leg_lf | exact slices_IndexFunc_Leg_na); exact fun _ => rfl; exact fun _ => rfl; rfl; rfl; rfl; rfl
 | fail)
  all_goals first
    | exact endY [0] rfl rfl rfl rfl rfl rfl (by assumption)
    | exact endN [0] rfl rfl rfl rfl rfl rfl (by assumption)
    | (exfalso; omega)
set_option maxHeartbeats 4000000 in
theorem slices_IndexFunc_Leg_nz {l : List Leg} : FC Tryz.prog 169 [.c (.row 0 0 l.length), .c (.fn 90 [])] ([ro 117 l]) (sel (∃ x ∈ l, x.Amount = 0) (I (fIx l (fun x => x.Amount = 0))) (I (-1))) (sel (∃ x ∈ l, x.Amount = 0) [ro 117 l] [ro 117 l]) := by
  refine fent tk 19 [.tmp 4] Tryz.func169 (by kernel_rfl) rfl rfl rfl rfl rfl rfl rfl ?_
  refine wlen l 0 rfl (fun hl => ?_)
  repeat' (first
 | (with_reducible apply zds); exact tk; rfl; rfl; rfl; rfl; rfl
 | (with_reducible apply zd); rfl; exact tk; rfl
 | (with_reducible first | intro _ | apply wseq | apply zreg | apply thenQ_n | apply thenQ_r | apply thenQ_e | apply znil | apply wret | apply bodyQ_r | apply wblk | apply blkQ_n | apply blkQ_r | apply wskip | apply wexit)
 | fail)
  refine wlp (X := Int) [0, 1, 7] [0] (fun i => [(8, I i)]) (fun _ => []) (fun i => 0 ≤ i ∧ i ≤ l.length ∧ ∀ j : Int, 0 ≤ j → j < i → ¬ (fun x => x.Amount = 0) (rd l j)) (fun i => (l.length - i).toNat) 0 ⟨by omega, by omega, fun j h0 h1 => by omega⟩ rfl rfl (fun _ => rfl) (fun _ => rfl) ⟨rfl, rfl, rfl, rfl, rfl, rfl, rfl, rfl⟩ (fun i hi => ?_)
  obtain ⟨h0, hi, hall⟩ := hi
  skip
  repeat' (first
 | (with_reducible apply zds); exact tk; rfl; rfl; rfl; rfl; rfl
 | (with_reducible apply zd); rfl; exact tk; rfl
 | (with_reducible apply zcp); (iterate 10 rfl); exact impl_NetLegs_2; rfl; rfl
 | (with_reducible first | intro _ | apply wseq | apply zreg | apply thenQ_n | apply thenQ_r | apply thenQ_e | apply znil | apply wret | apply bodyQ_r | apply wblk | apply blkQ_n | apply blkQ_r | apply wskip | apply wexit)
 | apply wct rfl
 | apply wcf rfl
 | (with_reducible apply blkQ_x rfl)
 | (with_reducible apply zcmp); rfl; exact tk; rfl; rfl; rfl
 | (with_reducible apply zar); rfl; rfl; rfl; rfl; (first | omega | ((try simp only [List.length_append, List.length_cons, List.length_nil, List.length_map]); (try dsimp only); omega)); rfl; rfl
 | (with_reducible apply zix); rfl; exact tk; (iterate 7 rfl); (first | omega | ((try simp only [List.length_append, List.length_cons, List.length_nil, List.length_map]); (try dsimp only); omega)); rfl; rfl
 | (with_reducible apply zle); rfl; exact tk; rfl; rfl; rfl; rfl; (first | omega | ((try simp only [List.length_append, List.length_cons, List.length_nil, List.length_map]); (try dsimp only); omega)); rfl; rfl; rfl; rfl
 | fail)
  all_goals first
    | (refine endG (X' := I i) (hs' := [ro 117 l]) [0] rfl rfl rfl rfl rfl rfl ?_ ?_
       · rw [sel_t ⟨rd l i, rd_mem ⟨by omega, by omega⟩, by assumption⟩, fIx_eq ⟨by omega, by omega⟩ hall (by assumption)]
       · rw [sel_t ⟨rd l i, rd_mem ⟨by omega, by omega⟩, by assumption⟩])
    | exact endF (no_rd (by assumption) hall) [0] rfl rfl rfl rfl rfl rfl
    | exact endR (i + 1) [0] ⟨rfl, rfl, rfl, rfl, rfl, rfl, rfl, rfl⟩ ⟨by omega, by omega, all_step hall (by assumption)⟩ (by first | omega | (dsimp only; omega))
set_option maxHeartbeats 4000000 in
theorem slices_DeleteFunc_Leg_nz {l : List Leg}  (hl : l.length ≤ 1000000) : FC Tryz.prog 89 [.c (.row 0 0 l.length), .c (.fn 90 [])] ([ow 117 l]) (.c (.row 0 0 (flt (fun x => ¬ (x.Amount = 0)) l).length)) ([ow 117 (flt (fun x => ¬ (x.Amount = 0)) l)]) := by
  refine fent tk 42 [.tmp 4] Tryz.func89 (by kernel_rfl) rfl rfl rfl rfl rfl rfl rfl ?_
  repeat' (first
 | (with_reducible apply zds); exact tk; rfl; rfl; rfl; rfl; rfl
 | (with_reducible apply zd); rfl; exact tk; rfl
 | (with_reducible first | intro _ | apply wseq | apply zreg | apply thenQ_n | apply thenQ_r | apply thenQ_e | apply znil | apply wret | apply bodyQ_r | apply wblk | apply blkQ_n | apply blkQ_r | apply wskip | apply wexit)
 | apply wct rfl
 | apply wcf rfl
 | (with_reducible apply zcmp); rfl; exact tk; rfl; rfl; rfl
 | (with_reducible apply zar); rfl; rfl; rfl; rfl; (first | omega | ((try simp only [List.length_append, List.length_cons, List.length_nil, List.length_map]); (try dsimp only); omega)); rfl; rfl
 | (with_reducible apply zcs); (iterate 10 rfl); (first | exact slices_IndexFunc_Leg_lf | exact slices_IndexFunc_Leg_na | exact slices_IndexFunc_Leg_nz); exact fun _ => rfl; exact fun _ => rfl; rfl; rfl; rfl; rfl
 | fail)
  · rename_i hex hm
    have := fIx_nn l (fun x => x.Amount = 0)
    exfalso; omega
  · rename_i hex hm
    have hn := fIx_lt hex
    have hn2 := fIx_nn l (fun x => x.Amount = 0)
    repeat' (first
 | (with_reducible apply zd); rfl; exact tk; rfl
 | (with_reducible first | intro _ | apply wseq | apply zreg | apply thenQ_n | apply thenQ_r | apply thenQ_e | apply znil | apply wret | apply bodyQ_r | apply wblk | apply blkQ_n | apply blkQ_r | apply wskip | apply wexit)
 | (with_reducible apply zar); rfl; rfl; rfl; rfl; (first | omega | ((try simp only [List.length_append, List.length_cons, List.length_nil, List.length_map]); (try dsimp only); omega)); rfl; rfl
 | fail)
    refine wlp (X := Int × Int × List Leg) [0, 1] [0] (fun x => [(5, I x.1), (6, I x.2.1)]) (fun x => [(0, ow 117 x.2.2)]) (fun x => DfI l (fun x => x.Amount = 0) x.1 x.2.1 x.2.2) (fun x => (l.length - x.2.1).toNat) (fIx l (fun x => x.Amount = 0), fIx l (fun x => x.Amount = 0) + 1, l) (DfI.init hex) rfl rfl (fun _ => rfl) (fun _ => rfl) ⟨rfl, rfl, rfl, rfl, rfl, rfl, rfl, rfl⟩ (fun x hx => ?_)
    obtain ⟨i, j, xs⟩ := x
    dsimp only at hx ⊢
    obtain ⟨h0, h1, h2⟩ := hx.bnd
    have hlen := hx.len
    repeat' (first
 | (with_reducible apply zds); exact tk; rfl; rfl; rfl; rfl; rfl
 | (with_reducible apply zd); rfl; exact tk; rfl
 | (with_reducible apply zcp); (iterate 10 rfl); exact impl_NetLegs_2; rfl; rfl
 | (with_reducible first | intro _ | apply wseq | apply zreg | apply thenQ_n | apply thenQ_r | apply thenQ_e | apply znil | apply wret | apply bodyQ_r | apply wblk | apply blkQ_n | apply blkQ_r | apply wskip | apply wexit)
 | apply wct rfl
 | apply wcf rfl
 | (with_reducible apply blkQ_x rfl)
 | (with_reducible apply zcmp); rfl; exact tk; rfl; rfl; rfl
 | (with_reducible apply zar); rfl; rfl; rfl; rfl; (first | omega | ((try simp only [List.length_append, List.length_cons, List.length_nil, List.length_map]); (try dsimp only); omega)); rfl; rfl
 | (with_reducible apply zix); rfl; exact tk; (iterate 7 rfl); (first | omega | ((try simp only [List.length_append, List.length_cons, List.length_nil, List.length_map]); (try dsimp only); omega)); rfl; rfl
 | (with_reducible apply zle); rfl; exact tk; rfl; rfl; rfl; rfl; (first | omega | ((try simp only [List.length_append, List.length_cons, List.length_nil, List.length_map]); (try dsimp only); omega)); rfl; rfl; rfl; rfl
 | (with_reducible apply zse); rfl; exact tk; (iterate 6 rfl); (first | omega | ((try simp only [List.length_append, List.length_cons, List.length_nil, List.length_map]); (try dsimp only); omega)); rfl; rfl; rfl; rfl; rfl
 | (with_reducible apply zslr); rfl; exact tk; (iterate 8 rfl); omega; rfl; rfl
 | fail)
    · rename_i h3 h4
      exact endR (i, j + 1, xs) [0] ⟨rfl, rfl, rfl, rfl, rfl, rfl, rfl, rfl⟩ (hx.skip (by omega) h4) (by first | omega | (dsimp only; omega))
    · rename_i h3 h4
      exact endR (i + 1, j + 1, upd xs i (rd xs j)) [0] ⟨rfl, rfl, rfl, rfl, rfl, rfl, rfl, rfl⟩ (hx.keep (by omega) h4) (by first | omega | (dsimp only; omega))
    · refine zclr rfl tk rfl rfl rfl rfl rfl rfl rfl (by omega) rfl rfl ?_
      repeat' (first
 | (with_reducible apply zds); exact tk; rfl; rfl; rfl; rfl; rfl
 | (with_reducible apply zd); rfl; exact tk; rfl
 | (with_reducible first | intro _ | apply wseq | apply zreg | apply thenQ_n | apply thenQ_r | apply thenQ_e | apply znil | apply wret | apply bodyQ_r | apply wblk | apply blkQ_n | apply blkQ_r | apply wskip | apply wexit)
 | (with_reducible apply zslr); rfl; exact tk; (iterate 8 rfl); omega; rfl; rfl
 | fail)
      exact endG (X' := .c (.row 0 0 (i.toNat - Int.toNat 0))) (hs' := [ow 117 (xs.take i.toNat)]) [0] rfl rfl rfl rfl rfl rfl (by rw [← hx.len2 (by assumption)]; rfl) (by rw [hx.fin (by assumption)])
  · rename_i hex hm
    exact endG (X' := .c (.row 0 0 l.length)) (hs' := [ow 117 l]) [0] rfl rfl rfl rfl rfl rfl (by rw [flt_all (fun x hx k => hex ⟨x, hx, k⟩)]) (by rw [flt_all (fun x hx k => hex ⟨x, hx, k⟩)])
  · exfalso; omega
noncomputable def legT (bt : List Trade) (no : Int) : List Leg := tLegs (rd bt (tAt bt no))
noncomputable def lgs (bt : List Trade) (nos : List Int) : List Leg := (nos.map (legT bt)).flatten
theorem lgs_succ {bt : List Trade} {nos : List Int} {i : Int} (h : 0 ≤ i ∧ i < nos.length) : lgs bt (pf nos (i + 1)) = lgs bt (pf nos i) ++ legT bt (rd nos i) := by
  rw [pf_succ h, lgs, List.map_append, List.flatten_append]
  simp [lgs]
noncomputable def ntA (G : List Leg) : List Leg := G.foldl nt []
theorem ntA_succ {G t : List Leg} {k : Int} (h : 0 ≤ k ∧ k < t.length) : ntA (G ++ pf t (k + 1)) = nt (ntA (G ++ pf t k)) (rd t k) := by
  rw [pf_succ h, ← List.append_assoc, ntA, List.foldl_append]
  rfl
theorem nt_len (L : List Leg) (x : Leg) : (nt L x).length ≤ L.length + 1 := by
  unfold nt
  by_cases h : nHas L x.Account x.Instr
  · rw [sel_t h, upd_len]; omega
  · rw [sel_f h, ins_len (nIx_nn _ _ _)]; omega
theorem nt_bd {L : List Leg} {x : Leg} {M : Int} (hM : 0 ≤ M) (h : ∀ y ∈ L, -M ≤ y.Amount ∧ y.Amount ≤ M) (hx : -1000000000000000 ≤ x.Amount ∧ x.Amount ≤ 1000000000000000) : ∀ y ∈ nt L x, -(M + 1000000000000000) ≤ y.Amount ∧ y.Amount ≤ M + 1000000000000000 := by
  intro y hy
  unfold nt at hy
  by_cases hh : nHas L x.Account x.Instr
  · rw [sel_t hh] at hy
    rcases List.mem_or_eq_of_mem_set hy with h1 | h1
    · have := h y h1
      omega
    · have := h _ (rd_mem (l := L) ⟨(nIx_nn L x.Account x.Instr).1, hh.1⟩)
      rw [h1]
      dsimp only
      omega
  · rw [sel_f hh] at hy
    unfold ins at hy
    rcases List.mem_append.1 hy with h1 | h1
    · have := h y (List.mem_of_mem_take h1)
      omega
    · rcases List.mem_cons.1 h1 with h1 | h1
      · rw [h1]; omega
      · have := h y (List.mem_of_mem_drop h1)
        omega
theorem legT_bd {bt : List Trade} (hk : TradesOk bt) {no : Int} (h : tHas bt no) : ∀ y ∈ legT bt no, -1000000000000000 ≤ y.Amount ∧ y.Amount ≤ 1000000000000000 := by
  obtain ⟨h1, h2⟩ := tAt_bnd h
  obtain ⟨_, _, _, _, _, _, hq, hp, _⟩ := hk.1 _ h1 h2
  unfold inP at hq hp
  intro y hy
  simp only [legT, tLegs, List.mem_cons, List.not_mem_nil, or_false] at hy
  rcases hy with rfl | rfl | rfl | rfl <;> dsimp only <;> omega
def netAt (bt : List Trade) (nos : List Int) (i : Int) : Prop := tOpen bt (rd nos i) ∧ ¬ rd nos i ∈ sub nos 0 i
def NetOk (b : Books) (nos : List Int) : Prop := BooksOk b ∧ nos.length ≤ 30 ∧ (∀ i : Int, 0 ≤ i → i < nos.length → netAt b.Trades nos i) ∧ ∀ x ∈ ntA (lgs b.Trades nos), amountOk x.Amount
noncomputable def netR (b : Books) (nos : List Int) : List Leg := flt (fun x => ¬ (x.Amount = 0)) (ntA (lgs b.Trades nos))
set_option maxHeartbeats 4000000 in
theorem impl_NetLegs {ba : List Account} {bi : List Instr} {bb : List Bal} {bl : List Lot} {bt : List Trade} {bn : Int} {nos : List Int} : FC Tryz.prog 23 [bkV 0 ⟨ba, bi, bb, bl, bt, bn⟩, .c (.row 5 0 nos.length)] (bkR ⟨ba, bi, bb, bl, bt, bn⟩ ++ [ro 3 nos]) (sel (NetOk ⟨ba, bi, bb, bl, bt, bn⟩ nos) (.tup [.c (.row 6 0 (netR ⟨ba, bi, bb, bl, bt, bn⟩ nos).length), B true]) (.tup [.c (.row 6 0 ([] : List Leg).length), B false])) (sel (NetOk ⟨ba, bi, bb, bl, bt, bn⟩ nos) (bkR ⟨ba, bi, bb, bl, bt, bn⟩ ++ [ro 3 nos, ow 117 (netR ⟨ba, bi, bb, bl, bt, bn⟩ nos)]) (bkR ⟨ba, bi, bb, bl, bt, bn⟩ ++ [ro 3 nos, ow 117 ([] : List Leg)])) := by
  refine fent tk 64 [.tmp 4, .tmp 5] Tryz.func23 (by kernel_rfl) rfl rfl rfl rfl rfl rfl rfl ?_
  by_cases hok : BooksOk ⟨ba, bi, bb, bl, bt, bn⟩ ∧ nos.length ≤ 30
  rotate_left
  ·
    repeat' (first
 | (intro h9; exact absurd ⟨by assumption, by omega⟩ hok)
 | (with_reducible apply znila (d := 4) 117 3); rfl; rfl; rfl
 | (with_reducible apply zd); rfl; exact tk; rfl
 | (with_reducible first | intro _ | apply wseq | apply zreg | apply thenQ_n | apply thenQ_r | apply thenQ_e | apply znil | apply wret | apply bodyQ_r | apply wblk | apply blkQ_n | apply blkQ_r | apply wskip | apply wexit)
 | apply wct rfl
 | (with_reducible apply zcmp); rfl; exact tk; rfl; rfl; rfl
 | (with_reducible apply zcp); (iterate 10 rfl); (first | exact impl_BooksOk | exact slices_Contains_int | exact slices_ContainsFunc_Leg_lf | exact slices_ContainsFunc_Leg_na); rfl; rfl
 | fail)
    all_goals first | exact endF (fun k => hok ⟨k.1, k.2.1⟩) [0, 1, 2, 3, 4, 5, 8] rfl rfl rfl rfl rfl rfl | exact endF (fun k => hok ⟨k.1, k.2.1⟩) [0, 1, 2, 3, 4, 5, 7] rfl rfl rfl rfl rfl rfl
  obtain ⟨hb, hnl⟩ := id hok
  have hto := hb.trades
  dsimp only at hto
  have htl := hto.2
  repeat' (first
 | (intro h9; exfalso; first | contradiction | omega)
 | (with_reducible apply zds); exact tk; rfl; rfl; rfl; rfl; rfl
 | (with_reducible apply zd); rfl; exact tk; rfl
 | (with_reducible first | intro _ | apply wseq | apply zreg | apply thenQ_n | apply thenQ_r | apply thenQ_e | apply znil | apply wret | apply bodyQ_r | apply wblk | apply blkQ_n | apply blkQ_r | apply wskip | apply wexit)
 | apply wcf rfl
 | (with_reducible apply zcmp); rfl; exact tk; rfl; rfl; rfl
 | (with_reducible apply zlit (α := Leg) (e := 117)); rfl; exact tk; (iterate 13 rfl)
 | (with_reducible apply zcp); (iterate 10 rfl); (first | exact impl_BooksOk | exact slices_Contains_int | exact slices_ContainsFunc_Leg_lf | exact slices_ContainsFunc_Leg_na); rfl; rfl
 | fail)
  refine wlp (X := Int × List Leg) [1, 2, 22, 23] [0, 1, 2, 3, 4, 5, 6, 7] (fun x => [(24, I x.1), (6, .c (.row 7 0 x.2.length))]) (fun x => [(7, ow 117 x.2)]) (fun x => (0 ≤ x.1 ∧ x.1 ≤ nos.length) ∧ x.2 = ntA (lgs bt (pf nos x.1)) ∧ (∀ y ∈ x.2, -(4000000000000000 * x.1) ≤ y.Amount ∧ y.Amount ≤ 4000000000000000 * x.1) ∧ x.2.length ≤ 4 * x.1 ∧ ∀ j : Int, 0 ≤ j → j < x.1 → netAt bt nos j) (fun x => (nos.length - x.1).toNat) (0, []) ⟨⟨by dsimp only; omega, by dsimp only; omega⟩, rfl, fun y hy => (by cases hy), by dsimp only [List.length_nil]; omega, fun j h0 h1 => by dsimp only at h1; omega⟩ rfl rfl (fun _ => rfl) (fun _ => rfl) ⟨rfl, rfl, rfl, rfl, rfl, rfl, rfl, rfl⟩ (fun x hx => ?_)
  obtain ⟨i, L⟩ := x
  obtain ⟨h0, hL, hbd, hLl, hall⟩ := hx
  dsimp only at h0 hL hbd hLl hall ⊢
  have hoc := oC_ne bt (rd nos i)
  by_cases hil : i < nos.length
  rotate_left
  · rw [pf_all hil] at hL
    subst hL
    repeat' (first
 | (intro h9; exfalso; first | contradiction | omega)
 | (with_reducible apply zds); exact tk; rfl; rfl; rfl; rfl; rfl
 | (with_reducible apply zd); rfl; exact tk; rfl
 | (with_reducible apply znila (d := 4) 117 3); rfl; rfl; rfl
 | (with_reducible first | intro _ | apply wseq | apply zreg | apply thenQ_n | apply thenQ_r | apply thenQ_e | apply znil | apply wret | apply bodyQ_r | apply wblk | apply blkQ_n | apply blkQ_r | apply wskip | apply wexit)
 | apply wct rfl
 | apply wcf rfl
 | (with_reducible apply blkQ_x rfl)
 | (with_reducible apply zcmp); rfl; exact tk; rfl; rfl; rfl
 | (with_reducible apply zcp); (iterate 10 rfl); (first | exact impl_BooksOk | exact slices_Contains_int | exact slices_ContainsFunc_Leg_lf | exact slices_ContainsFunc_Leg_na); rfl; rfl
 | (with_reducible apply zcw  [true]); (iterate 10 rfl); (first | exact impl_netted (by assumption) (by assumption) (by omega) | exact slices_DeleteFunc_Leg_nz (by omega)); rfl; rfl; rfl; rfl
 | fail)
    all_goals first
      | (refine endG (X' := .tup [.c (.row 6 0 (netR ⟨ba, bi, bb, bl, bt, bn⟩ nos).length), B true]) (hs' := bkR ⟨ba, bi, bb, bl, bt, bn⟩ ++ [ro 3 nos, ow 117 (netR ⟨ba, bi, bb, bl, bt, bn⟩ nos)]) [0, 1, 2, 3, 4, 5, 7] rfl rfl rfl rfl rfl rfl ?_ ?_
         all_goals rw [sel_t (show NetOk ⟨ba, bi, bb, bl, bt, bn⟩ nos from ⟨hb, hnl, fun j q0 q1 => hall j q0 (by omega), fun x hx => Classical.byContradiction fun k => absurd (⟨x, hx, k⟩ : ∃ x ∈ ntA (lgs bt nos), ¬ amountOk x.Amount) (by assumption)⟩)])
      | (have hx : ∃ x ∈ ntA (lgs bt nos), ¬ amountOk x.Amount := by assumption
         have hn : ¬ NetOk ⟨ba, bi, bb, bl, bt, bn⟩ nos := fun k => by obtain ⟨x, hx, hk⟩ := hx; exact hk (k.2.2.2 x hx)
         first | exact endF hn [0, 1, 2, 3, 4, 5, 8] rfl rfl rfl rfl rfl rfl | exact endF hn [0, 1, 2, 3, 4, 5, 9] rfl rfl rfl rfl rfl rfl)
      | trace_state
  by_cases hop : tOpen bt (rd nos i)
  rotate_left
  · have hn : ¬ NetOk ⟨ba, bi, bb, bl, bt, bn⟩ nos := fun k => hop (k.2.2.1 i h0.1 hil).1
    repeat' (first
 | (intro h9; exfalso; first | contradiction | omega)
 | (with_reducible apply zds); exact tk; rfl; rfl; rfl; rfl; rfl
 | (with_reducible apply zd); rfl; exact tk; rfl
 | (with_reducible apply znila (d := 4) 117 3); rfl; rfl; rfl
 | (with_reducible first | intro _ | apply wseq | apply zreg | apply thenQ_n | apply thenQ_r | apply thenQ_e | apply znil | apply wret | apply bodyQ_r | apply wblk | apply blkQ_n | apply blkQ_r | apply wskip | apply wexit)
 | apply wct rfl
 | (with_reducible apply zcmp); rfl; exact tk; rfl; rfl; rfl
 | (with_reducible apply zne); rfl; exact tk; rfl; rfl; rfl; rfl
 | (with_reducible apply zix); rfl; exact tk; (iterate 7 rfl); (first | omega | ((try simp only [List.length_append, List.length_cons, List.length_nil, List.length_map]); (try dsimp only); omega)); rfl; rfl
 | (with_reducible apply zle); rfl; exact tk; rfl; rfl; rfl; rfl; (first | omega | ((try simp only [List.length_append, List.length_cons, List.length_nil, List.length_map]); (try dsimp only); omega)); rfl; rfl; rfl; rfl
 | (with_reducible apply zcs); (iterate 10 rfl); exact impl_openTrade; exact fun _ => rfl; exact fun _ => rfl; rfl; rfl; rfl; rfl
 | fail)
    all_goals first | exact endF hn [0, 1, 2, 3, 4, 5, 8] rfl rfl rfl rfl rfl rfl | exact endF hn [0, 1, 2, 3, 4, 5, 9] rfl rfl rfl rfl rfl rfl | trace_state
  obtain ⟨hta1, hta2⟩ := tAt_bnd hop.1
  have hlb := legT_bd hto hop.1
  obtain ⟨_, _, _, _, _, _, hq, hp, _⟩ := hto.1 _ hta1 hta2
  unfold inP at hq hp
  repeat' (first
 | (intro h9; exfalso; first | contradiction | omega)
 | (with_reducible apply zds); exact tk; rfl; rfl; rfl; rfl; rfl
 | (with_reducible apply zd); rfl; exact tk; rfl
 | (with_reducible apply znila (d := 4) 117 3); rfl; rfl; rfl
 | (with_reducible first | intro _ | apply wseq | apply zreg | apply thenQ_n | apply thenQ_r | apply thenQ_e | apply znil | apply wret | apply bodyQ_r | apply wblk | apply blkQ_n | apply blkQ_r | apply wskip | apply wexit)
 | apply wct rfl
 | apply wcf rfl
 | (with_reducible apply zcmp); rfl; exact tk; rfl; rfl; rfl
 | (with_reducible apply zne); rfl; exact tk; rfl; rfl; rfl; rfl
 | (with_reducible apply zix); rfl; exact tk; (iterate 7 rfl); (first | omega | ((try simp only [List.length_append, List.length_cons, List.length_nil, List.length_map]); (try dsimp only); omega)); rfl; rfl
 | (with_reducible apply zle); rfl; exact tk; rfl; rfl; rfl; rfl; (first | omega | ((try simp only [List.length_append, List.length_cons, List.length_nil, List.length_map]); (try dsimp only); omega)); rfl; rfl; rfl; rfl
 | (with_reducible apply zsl); rfl; exact tk; (iterate 8 rfl); (first | omega | ((try simp only [List.length_append, List.length_cons, List.length_nil, List.length_map]); (try dsimp only); omega)); rfl; rfl; rfl; rfl; rfl
 | (with_reducible apply zcp); (iterate 10 rfl); (first | exact impl_BooksOk | exact slices_Contains_int | exact slices_ContainsFunc_Leg_lf | exact slices_ContainsFunc_Leg_na); rfl; rfl
 | (with_reducible apply zcs); (iterate 10 rfl); exact impl_openTrade; exact fun _ => rfl; exact fun _ => rfl; rfl; rfl; rfl; rfl
 | (with_reducible apply zcf); (iterate 10 rfl); exact impl_tradeLegs (by omega) (by omega); rfl; rfl; rfl; rfl; rfl
 | fail)
  all_goals first
    | (have hx : rd nos i ∈ sub nos 0 i := by assumption
       have hn : ¬ NetOk ⟨ba, bi, bb, bl, bt, bn⟩ nos := fun k => (k.2.2.1 i h0.1 hil).2 hx
       first | exact endF hn [0, 1, 2, 3, 4, 5, 8] rfl rfl rfl rfl rfl rfl | exact endF hn [0, 1, 2, 3, 4, 5, 9] rfl rfl rfl rfl rfl rfl | exact endF hn [0, 1, 2, 3, 4, 5, 10] rfl rfl rfl rfl rfl rfl)
    | skip
  obtain ⟨T, hTT⟩ : ∃ T, T = tLegs ⟨(rd bt (tAt bt (rd nos i))).No, (rd bt (tAt bt (rd nos i))).Buyer, (rd bt (tAt bt (rd nos i))).Seller, (rd bt (tAt bt (rd nos i))).Paper, (rd bt (tAt bt (rd nos i))).Qty, (rd bt (tAt bt (rd nos i))).Cash, (rd bt (tAt bt (rd nos i))).Price, (rd bt (tAt bt (rd nos i))).State⟩ := ⟨_, rfl⟩
  rw [← hTT]
  have hT : T = legT bt (rd nos i) := hTT
  have hT4 : T.length = 4 := by rw [hTT]; rfl
  rw [← hT] at hlb
  clear hTT hq hp
  refine wlp (X := Int × List Leg) [1, 2, 22, 23, 24, 49, 50] [0, 1, 2, 3, 4, 5, 6, 7, 8, 9] (fun x => [(51, I x.1), (6, .c (.row 7 0 x.2.length))]) (fun x => [(7, ow 117 x.2)]) (fun x => (0 ≤ x.1 ∧ x.1 ≤ T.length) ∧ x.2 = ntA (lgs bt (pf nos i) ++ pf T x.1) ∧ (∀ y ∈ x.2, -(4000000000000000 * i + 1000000000000000 * x.1) ≤ y.Amount ∧ y.Amount ≤ 4000000000000000 * i + 1000000000000000 * x.1) ∧ x.2.length ≤ 4 * i + x.1) (fun x => (T.length - x.1).toNat) (0, L) ⟨⟨by dsimp only; omega, by dsimp only; omega⟩, by dsimp only; rw [pf_zero, List.append_nil, hL], fun y hy => (by dsimp only at hy ⊢; have := hbd y hy; omega), by dsimp only; omega⟩ rfl rfl (fun _ => rfl) (fun _ => rfl) ⟨rfl, rfl, rfl, rfl, rfl, rfl, rfl, rfl⟩ (fun x hx => ?_)
  obtain ⟨k, M⟩ := x
  obtain ⟨k0, hM, hbm, hMl⟩ := hx
  dsimp only at k0 hM hbm hMl ⊢
  have hMl2 : M.length ≤ 4000000 := by omega
  have hbm2 : ∀ y ∈ M, -4000000000000000000 ≤ y.Amount ∧ y.Amount ≤ 4000000000000000000 := fun y hy => by have := hbm y hy; omega
  by_cases hkl : k < T.length
  · have hr := hlb _ (rd_mem ⟨k0.1, hkl⟩)
    repeat' (first
 | (intro h9; exfalso; first | contradiction | omega)
 | (with_reducible apply zds); exact tk; rfl; rfl; rfl; rfl; rfl
 | (with_reducible apply zd); rfl; exact tk; rfl
 | (with_reducible first | intro _ | apply wseq | apply zreg | apply thenQ_n | apply thenQ_r | apply thenQ_e | apply znil | apply wret | apply bodyQ_r | apply wblk | apply blkQ_n | apply blkQ_r | apply wskip | apply wexit)
 | apply wct rfl
 | (with_reducible apply zcmp); rfl; exact tk; rfl; rfl; rfl
 | (with_reducible apply zar); rfl; rfl; rfl; rfl; (first | omega | ((try simp only [List.length_append, List.length_cons, List.length_nil, List.length_map]); (try dsimp only); omega)); rfl; rfl
 | (with_reducible apply zix); rfl; exact tk; (iterate 7 rfl); (first | omega | ((try simp only [List.length_append, List.length_cons, List.length_nil, List.length_map]); (try dsimp only); omega)); rfl; rfl
 | (with_reducible apply zle); rfl; exact tk; rfl; rfl; rfl; rfl; (first | omega | ((try simp only [List.length_append, List.length_cons, List.length_nil, List.length_map]); (try dsimp only); omega)); rfl; rfl; rfl; rfl
 | (with_reducible apply zcw  [true]); (iterate 10 rfl); (first | exact impl_netted (by assumption) (by assumption) (by omega) | exact slices_DeleteFunc_Leg_nz (by omega)); rfl; rfl; rfl; rfl
 | fail)
    all_goals first
      | exact endR (k + 1, nt M ⟨(rd T k).Account, (rd T k).Instr, (rd T k).Amount⟩) [0, 1, 2, 3, 4, 5, 6, 11, 8, 9] ⟨rfl, rfl, rfl, rfl, rfl, rfl, rfl, rfl⟩ ⟨⟨by dsimp only; omega, by dsimp only; omega⟩, by dsimp only; rw [ntA_succ ⟨k0.1, hkl⟩, ← hM], fun y hy => (by have := nt_bd (M := 4000000000000000 * i + 1000000000000000 * k) (by omega) hbm hr y hy; dsimp only; omega), by dsimp only; have := nt_len M ⟨(rd T k).Account, (rd T k).Instr, (rd T k).Amount⟩; omega⟩ (by first | omega | (dsimp only; omega))
      | trace_state
  repeat' (first
 | (intro h9; exfalso; first | contradiction | omega)
 | (with_reducible apply zd); rfl; exact tk; rfl
 | (with_reducible first | intro _ | apply wseq | apply zreg | apply thenQ_n | apply thenQ_r | apply thenQ_e | apply znil | apply wret | apply bodyQ_r | apply wblk | apply blkQ_n | apply blkQ_r | apply wskip | apply wexit)
 | apply wcf rfl
 | (with_reducible apply blkQ_x rfl)
 | (with_reducible apply zcmp); rfl; exact tk; rfl; rfl; rfl
 | (with_reducible apply zar); rfl; rfl; rfl; rfl; (first | omega | ((try simp only [List.length_append, List.length_cons, List.length_nil, List.length_map]); (try dsimp only); omega)); rfl; rfl
 | fail)
  all_goals first
    | exact endR (i + 1, M) [0, 1, 2, 3, 4, 5, 6, 7] ⟨rfl, rfl, rfl, rfl, rfl, rfl, rfl, rfl⟩ ⟨⟨by dsimp only; omega, by dsimp only; omega⟩, by dsimp only; rw [lgs_succ ⟨h0.1, hil⟩, hM, pf_all hkl, hT], fun y hy => (by have := hbm y hy; dsimp only; omega), by dsimp only; omega, all_step hall ⟨hop, by assumption⟩⟩ (by first | omega | (dsimp only; omega))
    | trace_state
def toL (x : Bal) : Leg := ⟨x.Account, x.Instr, x.Amount⟩
theorem ntA_pO (G : List Leg) : flt nz (lb (ntA G)) = pO [] G := (nt_all (L := []) (G := G) (by intro i h0 h1; rw [lb_len] at h1; simp only [List.length_nil] at h1; omega)).2
theorem netR_eq (b : Books) (nos : List Int) : netR b nos = (pO [] (lgs b.Trades nos)).map toL := by
  rw [← ntA_pO, netR]
  generalize ntA (lgs b.Trades nos) = L
  induction L with
  | nil => rfl
  | cons x L ih =>
    have e1 : x :: L = [x] ++ L := rfl
    have e2 : lb (x :: L) = [toB x] ++ lb L := rfl
    rw [e2, e1, flt_append, flt_append, List.map_append, ih]
    congr 1
    by_cases h : x.Amount = 0
    · rw [flt_n (p := fun x : Leg => ¬ (x.Amount = 0)) (fun k => k h), flt_n (p := nz) (x := toB x) (fun k => k h)]
      rfl
    · rw [flt_y (p := fun x : Leg => ¬ (x.Amount = 0)) h, flt_y (p := nz) (x := toB x) h]
      rfl
theorem netAmt (G : List Leg) : (∀ x ∈ ntA G, amountOk x.Amount) ↔ ∀ x ∈ pO [] G, amountOk x.Amount := by
  rw [← ntA_pO]
  constructor
  · intro h x hx
    obtain ⟨y, hy, rfl⟩ := List.mem_map.1 (flt_mem.1 hx).1
    exact h y hy
  · intro h x hx
    by_cases e : x.Amount = 0
    · rw [e]; unfold amountOk inP; omega
    · exact h (toB x) (flt_mem.2 ⟨List.mem_map.2 ⟨x, hx, rfl⟩, e⟩)
theorem balOf_bd {l : List Bal} {M : Int} (hM : 0 ≤ M) (h : ∀ y ∈ l, -M ≤ y.Amount ∧ y.Amount ≤ M) (a c : Int) : -M ≤ balOf l a c ∧ balOf l a c ≤ M := by
  by_cases e : balOf l a c = 0
  · rw [e]; omega
  · obtain ⟨x, hx, _, _, e2⟩ := balOf_ex1 e
    rw [← e2]
    exact h x hx
theorem putB_bd {l : List Bal} {M a c b n : Int} (hs : BSd l) (h : ∀ y ∈ l, -M ≤ y.Amount ∧ y.Amount ≤ M) (hb : -M ≤ b ∧ b ≤ M) (hn : -1000000000000000 ≤ n ∧ n ≤ 1000000000000000) : ∀ y ∈ putB l a c (b + n), -(M + 1000000000000000) ≤ y.Amount ∧ y.Amount ≤ M + 1000000000000000 := by
  intro y hy
  rcases putB_mem hs hy with q | q
  · have := h y q
    omega
  · rw [q]
    dsimp only
    omega
theorem pO_app {G t : List Leg} {k : Int} (h : 0 ≤ k ∧ k < t.length) : pO [] (G ++ pf t (k + 1)) = stepB (pO [] (G ++ pf t k)) (rd t k) := by
  rw [pf_succ h, ← List.append_assoc, pO, List.foldl_append]
  rfl
set_option maxHeartbeats 4000000 in
theorem spec_NetLegs {ba : List Account} {bi : List Instr} {bb : List Bal} {bl : List Lot} {bt : List Trade} {bn : Int} {nos : List Int} : FC Tryz.prog 21 [bkV 0 ⟨ba, bi, bb, bl, bt, bn⟩, .c (.row 5 0 nos.length)] (bkR ⟨ba, bi, bb, bl, bt, bn⟩ ++ [ro 3 nos]) (sel (NetOk ⟨ba, bi, bb, bl, bt, bn⟩ nos) (.tup [.c (.row 6 0 (netR ⟨ba, bi, bb, bl, bt, bn⟩ nos).length), B true]) (.tup [.c (.row 6 0 ([] : List Leg).length), B false])) (sel (NetOk ⟨ba, bi, bb, bl, bt, bn⟩ nos) (bkR ⟨ba, bi, bb, bl, bt, bn⟩ ++ [ro 3 nos, ow 117 (netR ⟨ba, bi, bb, bl, bt, bn⟩ nos)]) (bkR ⟨ba, bi, bb, bl, bt, bn⟩ ++ [ro 3 nos, ow 117 ([] : List Leg)])) := by
  refine fent tk 131 [.tmp 4, .tmp 5] Tryz.func21 (by kernel_rfl) rfl rfl rfl rfl rfl rfl rfl ?_
  by_cases hok : BooksOk ⟨ba, bi, bb, bl, bt, bn⟩ ∧ nos.length ≤ 30
  rotate_left
  ·
    repeat' (first
 | (with_reducible apply zds); exact tk; rfl; rfl; rfl; rfl; rfl
 | (with_reducible apply zd); rfl; exact tk; rfl
 | (intro h9; exact absurd ⟨by assumption, by omega⟩ hok)
 | (with_reducible first | intro _ | apply wseq | apply zreg | apply thenQ_n | apply thenQ_r | apply thenQ_e | apply znil | apply wret | apply bodyQ_r | apply wblk | apply blkQ_n | apply blkQ_r | apply wskip | apply wexit)
 | apply wct rfl
 | (with_reducible apply zcmp); rfl; exact tk; rfl; rfl; rfl
 | (with_reducible apply zlit (α := Leg) (e := 117)); rfl; exact tk; (iterate 13 rfl)
 | (with_reducible apply zcp); (iterate 10 rfl); (first | exact spec_BooksOk | exact spec_l4Has | exact spec_AmountOk); rfl; rfl
 | fail)
    all_goals exact endF (fun k => hok ⟨k.1, k.2.1⟩) [0, 1, 2, 3, 4, 5, 7] rfl rfl rfl rfl rfl rfl
  obtain ⟨hb, hnl⟩ := id hok
  have hto := hb.trades
  dsimp only at hto
  have htl := hto.2
  repeat' (first
 | (intro h9; exfalso; first | contradiction | omega)
 | (with_reducible apply zds); exact tk; rfl; rfl; rfl; rfl; rfl
 | (with_reducible apply zd); rfl; exact tk; rfl
 | (with_reducible first | intro _ | apply wseq | apply zreg | apply thenQ_n | apply thenQ_r | apply thenQ_e | apply znil | apply wret | apply bodyQ_r | apply wblk | apply blkQ_n | apply blkQ_r | apply wskip | apply wexit)
 | apply wcf rfl
 | (with_reducible apply zcmp); rfl; exact tk; rfl; rfl; rfl
 | (with_reducible apply zlit (α := Leg) (e := 117)); rfl; exact tk; (iterate 13 rfl)
 | (with_reducible apply zlit (α := Bal) (e := 97)); rfl; exact tk; (iterate 13 rfl)
 | (with_reducible apply zcp); (iterate 10 rfl); (first | exact spec_BooksOk | exact spec_l4Has | exact spec_AmountOk); rfl; rfl
 | fail)
  refine wlp (X := Int × List Bal) [1, 2, 6] [0, 1, 2, 3, 4, 5, 6, 7, 8] (fun x => [(8, I x.1), (7, .c (.row 8 0 x.2.length))]) (fun x => [(8, ow 97 x.2)]) (fun x => (0 ≤ x.1 ∧ x.1 ≤ nos.length) ∧ x.2 = pO [] (lgs bt (pf nos x.1)) ∧ BSd x.2 ∧ (∀ y ∈ x.2, -(4000000000000000 * x.1) ≤ y.Amount ∧ y.Amount ≤ 4000000000000000 * x.1) ∧ x.2.length ≤ 4 * x.1 ∧ ∀ j : Int, 0 ≤ j → j < x.1 → netAt bt nos j) (fun x => (nos.length - x.1).toNat) (0, []) ⟨⟨by dsimp only; omega, by dsimp only; omega⟩, rfl, (by intro i h0 h1; dsimp only [List.length_nil] at h1; omega), fun y hy => (by cases hy), by dsimp only [List.length_nil]; omega, fun j h0 h1 => by dsimp only at h1; omega⟩ rfl rfl (fun _ => rfl) (fun _ => rfl) ⟨rfl, rfl, rfl, rfl, rfl, rfl, rfl, rfl⟩ (fun x hx => ?_)
  obtain ⟨i, L⟩ := x
  obtain ⟨h0, hL, hsd, hbd, hLl, hall⟩ := hx
  dsimp only at h0 hL hsd hbd hLl hall ⊢
  have hoc := oC_ne bt (rd nos i)
  by_cases hil : i < nos.length
  rotate_left
  · rw [pf_all hil] at hL
    repeat' (first
 | (intro h9; exfalso; first | contradiction | omega)
 | (with_reducible apply zds); exact tk; rfl; rfl; rfl; rfl; rfl
 | (with_reducible apply zd); rfl; exact tk; rfl
 | (with_reducible first | intro _ | apply wseq | apply zreg | apply thenQ_n | apply thenQ_r | apply thenQ_e | apply znil | apply wret | apply bodyQ_r | apply wblk | apply blkQ_n | apply blkQ_r | apply wskip | apply wexit)
 | apply wcf rfl
 | (with_reducible apply blkQ_x rfl)
 | (with_reducible apply zcmp); rfl; exact tk; rfl; rfl; rfl
 | (with_reducible apply zlit (α := Leg) (e := 117)); rfl; exact tk; (iterate 13 rfl)
 | fail)
    refine wlp (X := Int × List Leg) [6, 7] [0, 1, 2, 3, 4, 5, 6, 7, 8, 9] (fun x => [(14, I x.1), (13, .c (.row 9 0 x.2.length))]) (fun x => [(9, ow 117 x.2)]) (fun x => (0 ≤ x.1 ∧ x.1 ≤ L.length) ∧ x.2 = (pf L x.1).map toL ∧ ∀ j : Int, 0 ≤ j → j < x.1 → amountOk (rd L j).Amount) (fun x => (L.length - x.1).toNat) (0, []) ⟨⟨by dsimp only; omega, by dsimp only; omega⟩, rfl, fun j h0 h1 => by dsimp only at h1; omega⟩ rfl rfl (fun _ => rfl) (fun _ => rfl) ⟨rfl, rfl, rfl, rfl, rfl, rfl, rfl, rfl⟩ (fun x hx => ?_)
    obtain ⟨k, M⟩ := x
    obtain ⟨k0, hM, hka⟩ := hx
    dsimp only at k0 hM hka ⊢
    have hMl : M.length ≤ 200 := by rw [hM, List.length_map]; have := pf_len k0; omega
    repeat' (first
 | (with_reducible apply zds); exact tk; rfl; rfl; rfl; rfl; rfl
 | (with_reducible apply zd); rfl; exact tk; rfl
 | (with_reducible first | intro _ | apply wseq | apply zreg | apply thenQ_n | apply thenQ_r | apply thenQ_e | apply znil | apply wret | apply bodyQ_r | apply wblk | apply blkQ_n | apply blkQ_r | apply wskip | apply wexit)
 | apply wct rfl
 | apply wcf rfl
 | (with_reducible apply blkQ_x rfl)
 | (with_reducible apply zcmp); rfl; exact tk; rfl; rfl; rfl
 | (with_reducible apply zar); rfl; rfl; rfl; rfl; (first | omega | ((try simp only [List.length_append, List.length_cons, List.length_nil, List.length_map]); (try dsimp only); omega)); rfl; rfl
 | (with_reducible apply zix); rfl; exact tk; (iterate 7 rfl); (first | omega | ((try simp only [List.length_append, List.length_cons, List.length_nil, List.length_map]); (try dsimp only); omega)); rfl; rfl
 | (with_reducible apply zle); rfl; exact tk; rfl; rfl; rfl; rfl; (first | omega | ((try simp only [List.length_append, List.length_cons, List.length_nil, List.length_map]); (try dsimp only); omega)); rfl; rfl; rfl; rfl
 | (with_reducible apply zlit (α := Leg) (e := 117)); rfl; exact tk; (iterate 13 rfl)
 | (with_reducible apply zap); rfl; exact tk; (iterate 10 rfl); (first | omega | ((try simp only [List.length_append, List.length_cons, List.length_nil, List.length_map]); (try dsimp only); omega)); rfl; rfl; rfl; rfl; rfl
 | refine zdq (id := 22) rfl (by kernel_rfl) [(.p, 0), (.p, 1), (.p, 2), (.p, 3), (.p, 4), (.p, 6), (.p, 7), (.p, 8), (.p, 9), (.p, 11), (.p, 12), (.p, 13), (.p, 14), (.t, 5), (.t, 10), (.t, 15), (.p, 16), (.o, 17), (.l, 18), (.p, 19)] [18] (by kernel_rfl) rfl ?_
 | (with_reducible apply zcp); (iterate 10 rfl); (first | exact spec_BooksOk | exact spec_l4Has | exact spec_AmountOk); rfl; rfl
 | fail)
    all_goals first
      | exact endR (k + 1, M ++ [⟨(rd L k).Account, (rd L k).Instr, (rd L k).Amount⟩]) [0, 1, 2, 3, 4, 5, 6, 7, 8, 11] ⟨rfl, rfl, rfl, rfl, rfl, rfl, rfl, rfl⟩ ⟨⟨by dsimp only; omega, by dsimp only; omega⟩, by dsimp only; rw [pf_succ ⟨k0.1, by assumption⟩, List.map_append, hM]; rfl, all_step hka (by assumption)⟩ (by first | omega | (dsimp only; omega))
      | (rename_i hkl hna
         exact endF (fun q => hna ((netAmt _).1 q.2.2.2 _ (hL ▸ rd_mem ⟨k0.1, hkl⟩))) [0, 1, 2, 3, 4, 5, 7] rfl rfl rfl rfl rfl rfl)
      | (rename_i hkl
         have hr : netR ⟨ba, bi, bb, bl, bt, bn⟩ nos = M := by rw [netR_eq, hM, pf_all hkl, hL]
         refine endG (X' := .tup [.c (.row 6 0 M.length), B true]) (hs' := bkR ⟨ba, bi, bb, bl, bt, bn⟩ ++ [ro 3 nos, ow 117 M]) [0, 1, 2, 3, 4, 5, 9] rfl rfl rfl rfl rfl rfl ?_ ?_
         all_goals rw [sel_t (show NetOk ⟨ba, bi, bb, bl, bt, bn⟩ nos from ⟨hb, hnl, fun j q0 q1 => hall j q0 (by omega), (netAmt _).2 (hL ▸ all_rd.1 fun j q0 q1 => hka j q0 (by omega))⟩), hr])
      | trace_state
  by_cases hop : tOpen bt (rd nos i)
  rotate_left
  · have hn : ¬ NetOk ⟨ba, bi, bb, bl, bt, bn⟩ nos := fun k => hop (k.2.2.1 i h0.1 hil).1
    repeat' (first
 | (intro h9; exfalso; first | contradiction | omega)
 | (with_reducible apply zds); exact tk; rfl; rfl; rfl; rfl; rfl
 | (with_reducible apply zd); rfl; exact tk; rfl
 | (with_reducible first | intro _ | apply wseq | apply zreg | apply thenQ_n | apply thenQ_r | apply thenQ_e | apply znil | apply wret | apply bodyQ_r | apply wblk | apply blkQ_n | apply blkQ_r | apply wskip | apply wexit)
 | apply wct rfl
 | (with_reducible apply zcmp); rfl; exact tk; rfl; rfl; rfl
 | (with_reducible apply zne); rfl; exact tk; rfl; rfl; rfl; rfl
 | (with_reducible apply zix); rfl; exact tk; (iterate 7 rfl); (first | omega | ((try simp only [List.length_append, List.length_cons, List.length_nil, List.length_map]); (try dsimp only); omega)); rfl; rfl
 | (with_reducible apply zle); rfl; exact tk; rfl; rfl; rfl; rfl; (first | omega | ((try simp only [List.length_append, List.length_cons, List.length_nil, List.length_map]); (try dsimp only); omega)); rfl; rfl; rfl; rfl
 | refine zdq (id := 8) rfl (by kernel_rfl) [(.p, 1), (.p, 2), (.p, 3), (.t, 0), (.t, 4), (.o, 5), (.p, 6), (.p, 7), (.p, 8), (.p, 9), (.p, 10)] [] (by kernel_rfl) rfl ?_
 | refine zdq (id := 9) rfl (by kernel_rfl) [(.p, 0), (.p, 1), (.p, 2), (.p, 3), (.p, 4), (.p, 5), (.p, 6), (.p, 7), (.p, 8), (.t, 9), (.o, 10), (.p, 11)] [] (by kernel_rfl) rfl ?_
 | (with_reducible apply zcs); (iterate 10 rfl); exact spec_l7Open; exact fun _ => rfl; exact fun _ => rfl; rfl; rfl; rfl; rfl
 | fail)
    all_goals first | exact endF hn [0, 1, 2, 3, 4, 5, 7] rfl rfl rfl rfl rfl rfl | trace_state
  obtain ⟨hta1, hta2⟩ := tAt_bnd hop.1
  have hlb := legT_bd hto hop.1
  obtain ⟨_, _, _, _, _, _, hq, hp, _⟩ := hto.1 _ hta1 hta2
  unfold inP at hq hp
  repeat' (first
 | (intro h9; exfalso; first | contradiction | omega)
 | (with_reducible apply zds); exact tk; rfl; rfl; rfl; rfl; rfl
 | (with_reducible apply zd); rfl; exact tk; rfl
 | (with_reducible first | intro _ | apply wseq | apply zreg | apply thenQ_n | apply thenQ_r | apply thenQ_e | apply znil | apply wret | apply bodyQ_r | apply wblk | apply blkQ_n | apply blkQ_r | apply wskip | apply wexit)
 | apply wct rfl
 | apply wcf rfl
 | (with_reducible apply zcmp); rfl; exact tk; rfl; rfl; rfl
 | (with_reducible apply zne); rfl; exact tk; rfl; rfl; rfl; rfl
 | (with_reducible apply zix); rfl; exact tk; (iterate 7 rfl); (first | omega | ((try simp only [List.length_append, List.length_cons, List.length_nil, List.length_map]); (try dsimp only); omega)); rfl; rfl
 | (with_reducible apply zle); rfl; exact tk; rfl; rfl; rfl; rfl; (first | omega | ((try simp only [List.length_append, List.length_cons, List.length_nil, List.length_map]); (try dsimp only); omega)); rfl; rfl; rfl; rfl
 | (with_reducible apply zsl); rfl; exact tk; (iterate 8 rfl); (first | omega | ((try simp only [List.length_append, List.length_cons, List.length_nil, List.length_map]); (try dsimp only); omega)); rfl; rfl; rfl; rfl; rfl
 | refine zdq (id := 8) rfl (by kernel_rfl) [(.p, 1), (.p, 2), (.p, 3), (.t, 0), (.t, 4), (.o, 5), (.p, 6), (.p, 7), (.p, 8), (.p, 9), (.p, 10)] [] (by kernel_rfl) rfl ?_
 | refine zdq (id := 9) rfl (by kernel_rfl) [(.p, 0), (.p, 1), (.p, 2), (.p, 3), (.p, 4), (.p, 5), (.p, 6), (.p, 7), (.p, 8), (.t, 9), (.o, 10), (.p, 11)] [] (by kernel_rfl) rfl ?_
 | (with_reducible apply zcp); (iterate 10 rfl); (first | exact spec_BooksOk | exact spec_l4Has | exact spec_AmountOk); rfl; rfl
 | (with_reducible apply zcs); (iterate 10 rfl); exact spec_l7Open; exact fun _ => rfl; exact fun _ => rfl; rfl; rfl; rfl; rfl
 | (with_reducible apply zcf); (iterate 10 rfl); (first | exact spec_l7Legs (by omega) (by omega) | exact spec_l4Put (by assumption) (by omega)); rfl; rfl; rfl; rfl; rfl
 | fail)
  all_goals first
    | (have hx : rd nos i ∈ sub nos 0 i := by assumption
       have hn : ¬ NetOk ⟨ba, bi, bb, bl, bt, bn⟩ nos := fun k => (k.2.2.1 i h0.1 hil).2 hx
       exact endF hn [0, 1, 2, 3, 4, 5, 7] rfl rfl rfl rfl rfl rfl)
    | skip
  obtain ⟨T, hTT⟩ : ∃ T, T = tLegs ⟨(rd bt (tAt bt (rd nos i))).No, (rd bt (tAt bt (rd nos i))).Buyer, (rd bt (tAt bt (rd nos i))).Seller, (rd bt (tAt bt (rd nos i))).Paper, (rd bt (tAt bt (rd nos i))).Qty, (rd bt (tAt bt (rd nos i))).Cash, (rd bt (tAt bt (rd nos i))).Price, (rd bt (tAt bt (rd nos i))).State⟩ := ⟨_, rfl⟩
  rw [← hTT]
  have hT : T = legT bt (rd nos i) := hTT
  have hT4 : T.length = 4 := by rw [hTT]; rfl
  rw [← hT] at hlb
  clear hTT hq hp
  refine wlp (X := Int × List Bal) [1, 2, 6, 8, 11] [0, 1, 2, 3, 4, 5, 6, 7, 8, 9, 10] (fun x => [(12, I x.1), (7, .c (.row 8 0 x.2.length))]) (fun x => [(8, ow 97 x.2)]) (fun x => (0 ≤ x.1 ∧ x.1 ≤ T.length) ∧ x.2 = pO [] (lgs bt (pf nos i) ++ pf T x.1) ∧ BSd x.2 ∧ (∀ y ∈ x.2, -(4000000000000000 * i + 1000000000000000 * x.1) ≤ y.Amount ∧ y.Amount ≤ 4000000000000000 * i + 1000000000000000 * x.1) ∧ x.2.length ≤ 4 * i + x.1) (fun x => (T.length - x.1).toNat) (0, L) ⟨⟨by dsimp only; omega, by dsimp only; omega⟩, by dsimp only; rw [pf_zero, List.append_nil, hL], hsd, fun y hy => (by dsimp only at hy ⊢; have := hbd y hy; omega), by dsimp only; omega⟩ rfl rfl (fun _ => rfl) (fun _ => rfl) ⟨rfl, rfl, rfl, rfl, rfl, rfl, rfl, rfl⟩ (fun x hx => ?_)
  obtain ⟨k, M⟩ := x
  obtain ⟨k0, hM, hms, hbm, hMl⟩ := hx
  dsimp only at k0 hM hms hbm hMl ⊢
  by_cases hkl : k < T.length
  · have hr := hlb _ (rd_mem ⟨k0.1, hkl⟩)
    have hbo := balOf_bd (M := 4000000000000000 * i + 1000000000000000 * k) (by omega) hbm (rd T k).Account (rd T k).Instr
    repeat' (first
 | (intro h9; exfalso; first | contradiction | omega)
 | (with_reducible apply zds); exact tk; rfl; rfl; rfl; rfl; rfl
 | (with_reducible apply zd); rfl; exact tk; rfl
 | (with_reducible first | intro _ | apply wseq | apply zreg | apply thenQ_n | apply thenQ_r | apply thenQ_e | apply znil | apply wret | apply bodyQ_r | apply wblk | apply blkQ_n | apply blkQ_r | apply wskip | apply wexit)
 | apply wct rfl
 | (with_reducible apply zcmp); rfl; exact tk; rfl; rfl; rfl
 | (with_reducible apply zar); rfl; rfl; rfl; rfl; (first | omega | ((try simp only [List.length_append, List.length_cons, List.length_nil, List.length_map]); (try dsimp only); omega)); rfl; rfl
 | (with_reducible apply zix); rfl; exact tk; (iterate 7 rfl); (first | omega | ((try simp only [List.length_append, List.length_cons, List.length_nil, List.length_map]); (try dsimp only); omega)); rfl; rfl
 | (with_reducible apply zle); rfl; exact tk; rfl; rfl; rfl; rfl; (first | omega | ((try simp only [List.length_append, List.length_cons, List.length_nil, List.length_map]); (try dsimp only); omega)); rfl; rfl; rfl; rfl
 | refine zdq (id := 15) rfl (by kernel_rfl) [(.p, 0), (.p, 1), (.p, 2), (.p, 3), (.p, 4), (.p, 6), (.p, 7), (.p, 8), (.p, 9), (.p, 11), (.p, 12), (.p, 13), (.p, 14), (.p, 15), (.p, 17), (.p, 18), (.p, 19), (.p, 20), (.p, 23), (.p, 24), (.p, 25), (.p, 26), (.t, 5), (.t, 10), (.t, 16), (.t, 21), (.t, 27), (.o, 22), (.p, 28), (.o, 29), (.p, 30)] [] (by kernel_rfl) rfl ?_
 | (with_reducible apply zcf); (iterate 10 rfl); (first | exact spec_l7Legs (by omega) (by omega) | exact spec_l4Put (by assumption) (by omega)); rfl; rfl; rfl; rfl; rfl
 | (with_reducible apply zc); (iterate 10 rfl); exact spec_l4Of; exact fun _ => rfl; rfl; rfl; rfl
 | fail)
    all_goals first
      | exact endR (k + 1, putB M (rd T k).Account (rd T k).Instr (balOf M (rd T k).Account (rd T k).Instr + (rd T k).Amount)) [0, 1, 2, 3, 4, 5, 6, 7, 11, 9, 10] ⟨rfl, rfl, rfl, rfl, rfl, rfl, rfl, rfl⟩ ⟨⟨by dsimp only; omega, by dsimp only; omega⟩, by dsimp only; rw [pO_app ⟨k0.1, hkl⟩, ← hM]; rfl, putB_sd hms _ _ _, fun y hy => (by dsimp only at hy ⊢; have := putB_bd hms hbm hbo hr y hy; omega), by dsimp only; have := putB_len hms (rd T k).Account (rd T k).Instr (balOf M (rd T k).Account (rd T k).Instr + (rd T k).Amount); omega⟩ (by first | omega | (dsimp only; omega))
      | trace_state
  repeat' (first
 | (intro h9; exfalso; first | contradiction | omega)
 | (with_reducible apply zds); exact tk; rfl; rfl; rfl; rfl; rfl
 | (with_reducible apply zd); rfl; exact tk; rfl
 | (with_reducible first | intro _ | apply wseq | apply zreg | apply thenQ_n | apply thenQ_r | apply thenQ_e | apply znil | apply wret | apply bodyQ_r | apply wblk | apply blkQ_n | apply blkQ_r | apply wskip | apply wexit)
 | apply wcf rfl
 | (with_reducible apply blkQ_x rfl)
 | (with_reducible apply zcmp); rfl; exact tk; rfl; rfl; rfl
 | (with_reducible apply zar); rfl; rfl; rfl; rfl; (first | omega | ((try simp only [List.length_append, List.length_cons, List.length_nil, List.length_map]); (try dsimp only); omega)); rfl; rfl
 | fail)
  all_goals first
    | exact endR (i + 1, M) [0, 1, 2, 3, 4, 5, 6, 7, 8] ⟨rfl, rfl, rfl, rfl, rfl, rfl, rfl, rfl⟩ ⟨⟨by dsimp only; omega, by dsimp only; omega⟩, by dsimp only; rw [lgs_succ ⟨h0.1, hil⟩, hM, pf_all hkl, hT], hms, fun y hy => (by have := hbm y hy; dsimp only; omega), by dsimp only; omega, all_step hall ⟨hop, by assumption⟩⟩ (by first | omega | (dsimp only; omega))
    | trace_state
end Go.Proofs.YtnlajjoheegbiaaGreat.Sh
