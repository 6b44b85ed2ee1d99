/- Lots told anew: both sides. No condition. -/
import Derived.Test.YtgehbhkfehmdkaaGreatKSpShLz
import Derived.Test.YtgehbhkfehmdkaaGreatKSpShTk
namespace Go.Proofs.YtgehbhkfehmdkaaGreat.Sh
open Go.RowKit
set_option linter.unusedVariables false
set_option linter.unusedSimpArgs false
theorem rd_qty {o : List Lot} {i : Int} (h : 0 ≤ i ∧ i < o.length) : rd (o.map Lot.Qty) i = (rd o i).Qty := by
  unfold rd
  rw [List.getD_eq_getElem?_getD, List.getD_eq_getElem?_getD, List.getElem?_map, List.getElem?_eq_getElem (by omega : i.toNat < o.length)]
  rfl
theorem scL_c {own : List Lot} {sh : List Int} (hc : ∀ x ∈ own, 0 ≤ x.Cost ∧ x.Cost ≤ 1000000000000000) : ∀ x ∈ scL own sh own.length, 0 ≤ x.Cost ∧ x.Cost ≤ 1000000000000000 := fun x hx => by
  obtain ⟨k, hk, rfl⟩ := mem_rd (flt_mem.1 hx).1
  rw [scA_len (by omega)] at hk
  unfold scA
  rw [rd_mkl (by omega)]
  exact hc (rd own k) (rd_mem hk)
section
variable {l : List Lot} {a c q : Int}
theorem ls_1 (h : ¬ (LotsOk l ∧ inP q 0 1000000000000000)) : lotScale l a c q = ([], 1) := by rw [lotScale, sel_t h]
theorem ls_2 (h : LotsOk l ∧ inP q 0 1000000000000000) (h1 : ¬ 0 < ((lotsOf l a c).length : Int) ∧ ¬ q = 0) : lotScale l a c q = (l, 2) := by rw [lotScale, sel_f (fun k => k h), sel_t h1]
theorem ls_3 (h : LotsOk l ∧ inP q 0 1000000000000000) (h1 : ¬ 0 < ((lotsOf l a c).length : Int)) (h2 : q = 0) : lotScale l a c q = (l, 0) := by rw [lotScale, sel_f (fun k => k h), sel_f (fun k => k.2 h2), sel_t h1]
theorem ls_4 (h : LotsOk l ∧ inP q 0 1000000000000000) (h1 : 0 < ((lotsOf l a c).length : Int)) (h2 : (lotsOf l a c).length > (40 : Int)) : lotScale l a c q = (l, 3) := by rw [lotScale, sel_f (fun k => k h), sel_f (fun k => k.1 h1), sel_f (fun k => k h1), sel_t h2]
theorem ls_0 (h : LotsOk l ∧ inP q 0 1000000000000000) (h1 : 0 < ((lotsOf l a c).length : Int)) (h2 : ¬ (lotsOf l a c).length > (40 : Int)) : lotScale l a c q = (mrg (lotsNot l a c) (scF (lotsOf l a c) (shs q ((lotsOf l a c).map Lot.Qty))), 0) := by rw [lotScale, sel_f (fun k => k h), sel_f (fun k => k.1 h1), sel_f (fun k => k h1), sel_f h2]
end
set_option maxHeartbeats 4000000 in
theorem impl_LotsScale {l : List Lot} {a c q : Int} : FC Tryz.prog 241 [.c (.row 0 0 l.length), I a, I c, I q] ([ro 137 l]) (.tup [.c (.row 1 0 (lotScale l a c q).1.length), I (lotScale l a c q).2]) ([ro 137 l, ow 137 (lotScale l a c q).1]) := by
  refine fent tk 114 [.tmp 8, .tmp 9] Tryz.func241 (by kernel_rfl) rfl rfl rfl rfl rfl rfl rfl ?_
  by_cases hok : LotsOk l ∧ inP q 0 1000000000000000
  rotate_left
  ·
    rw [ls_1 hok]
    repeat' (first
 | (intro h9; exact absurd ⟨by assumption, by assumption⟩ hok)
 | (with_reducible apply znila (d := 8) 137 5); rfl; rfl; rfl
 | (with_reducible apply zd); rfl; exact tk; rfl
 | (with_reducible first | intro _ | apply wseq | apply zreg | apply thenQ_n | apply thenQ_r | apply thenQ_e | apply znil | apply wret | apply bodyQ_r | apply wblk | apply blkQ_n | apply blkQ_r | apply wskip | apply wexit)
 | apply wct rfl
 | (with_reducible apply zcp); (iterate 10 rfl); (first | exact impl_LotsOk | exact impl_in); rfl; rfl
 | fail)
    all_goals first | exact endV [0, 2] rfl rfl rfl rfl rfl rfl | exact endV [0, 1] rfl rfl rfl rfl rfl rfl | trace_state
  obtain ⟨h1, h2⟩ := id hok
  have hll := h1.1.2
  have hlq := h1.q
  have h2' := h2
  unfold inP at h2'
  have hlo : (lotsOf l a c).length ≤ l.length := flt_le _ _
  have hlq2 : LQ (lotsOf l a c) := LQ.of hlq
  have hnl : (lotsNot l a c).length ≤ l.length := flt_le _ _
  by_cases hn : 0 < ((lotsOf l a c).length : Int)
  rotate_left
  ·
    by_cases hq : q = 0
    ·
      rw [ls_3 hok hn hq]
      repeat' (first
 | (intro h9; exfalso; first | contradiction | omega)
 | (with_reducible apply zds); exact tk; rfl; rfl; rfl; rfl; rfl
 | (with_reducible apply zd); rfl; exact tk; rfl
 | (with_reducible first | intro _ | apply wseq | apply zreg | apply thenQ_n | apply thenQ_r | apply thenQ_e | apply znil | apply wret | apply bodyQ_r | apply wblk | apply blkQ_n | apply blkQ_r | apply wskip | apply wexit)
 | apply wct rfl
 | apply wcf rfl
 | (with_reducible apply zcmp); rfl; exact tk; rfl; rfl; rfl
 | (with_reducible apply zne); rfl; exact tk; rfl; rfl; rfl; rfl
 | (with_reducible apply zcp); (iterate 10 rfl); (first | exact impl_LotsOk | exact impl_in); rfl; rfl
 | (with_reducible apply zcf); (iterate 10 rfl); (first | exact slices_Clone_Lot (by omega) | exact impl_lotsOf (by first | omega | (have := LQ.len (by assumption); omega)) | exact impl_Shares (by assumption) | exact impl_withLots (by assumption) (by omega) (by omega)); rfl; rfl; rfl; rfl; rfl
 | fail)
      all_goals first | exact endV [0, 1] rfl rfl rfl rfl rfl rfl | exact endV [0, 2] rfl rfl rfl rfl rfl rfl | exact endV [0, 3] rfl rfl rfl rfl rfl rfl | exact endV [0, 4] rfl rfl rfl rfl rfl rfl | (exfalso; omega) | trace_state
    ·
      rw [ls_2 hok ⟨hn, hq⟩]
      repeat' (first
 | (intro h9; exfalso; first | contradiction | omega)
 | (with_reducible apply zds); exact tk; rfl; rfl; rfl; rfl; rfl
 | (with_reducible apply zd); rfl; exact tk; rfl
 | (with_reducible first | intro _ | apply wseq | apply zreg | apply thenQ_n | apply thenQ_r | apply thenQ_e | apply znil | apply wret | apply bodyQ_r | apply wblk | apply blkQ_n | apply blkQ_r | apply wskip | apply wexit)
 | apply wct rfl
 | apply wcf rfl
 | (with_reducible apply zcmp); rfl; exact tk; rfl; rfl; rfl
 | (with_reducible apply zne); rfl; exact tk; rfl; rfl; rfl; rfl
 | (with_reducible apply zcp); (iterate 10 rfl); (first | exact impl_LotsOk | exact impl_in); rfl; rfl
 | (with_reducible apply zcf); (iterate 10 rfl); (first | exact slices_Clone_Lot (by omega) | exact impl_lotsOf (by first | omega | (have := LQ.len (by assumption); omega)) | exact impl_Shares (by assumption) | exact impl_withLots (by assumption) (by omega) (by omega)); rfl; rfl; rfl; rfl; rfl
 | fail)
      all_goals first | exact endV [0, 1] rfl rfl rfl rfl rfl rfl | exact endV [0, 2] rfl rfl rfl rfl rfl rfl | exact endV [0, 3] rfl rfl rfl rfl rfl rfl | exact endV [0, 4] rfl rfl rfl rfl rfl rfl | (exfalso; omega) | trace_state
  by_cases h40 : (lotsOf l a c).length > (40 : Int)
  ·
    rw [ls_4 hok hn h40]
    repeat' (first
 | (intro h9; exfalso; first | contradiction | omega)
 | (with_reducible apply zds); exact tk; rfl; rfl; rfl; rfl; rfl
 | (with_reducible apply zd); rfl; exact tk; rfl
 | (with_reducible first | intro _ | apply wseq | apply zreg | apply thenQ_n | apply thenQ_r | apply thenQ_e | apply znil | apply wret | apply bodyQ_r | apply wblk | apply blkQ_n | apply blkQ_r | apply wskip | apply wexit)
 | apply wct rfl
 | apply wcf rfl
 | (with_reducible apply zcmp); rfl; exact tk; rfl; rfl; rfl
 | (with_reducible apply zcp); (iterate 10 rfl); (first | exact impl_LotsOk | exact impl_in); rfl; rfl
 | (with_reducible apply zcf); (iterate 10 rfl); (first | exact slices_Clone_Lot (by omega) | exact impl_lotsOf (by first | omega | (have := LQ.len (by assumption); omega)) | exact impl_Shares (by assumption) | exact impl_withLots (by assumption) (by omega) (by omega)); rfl; rfl; rfl; rfl; rfl
 | fail)
    all_goals first | exact endV [0, 1] rfl rfl rfl rfl rfl rfl | exact endV [0, 2] rfl rfl rfl rfl rfl rfl | exact endV [0, 3] rfl rfl rfl rfl rfl rfl | exact endV [0, 4] rfl rfl rfl rfl rfl rfl | (exfalso; omega) | trace_state
  rw [ls_0 hok hn h40]
  have hsh := own_sh h1 hn h40 h2
  dsimp only
  have hqc : ∀ x ∈ lotsOf l a c, 0 ≤ x.Cost ∧ x.Cost ≤ 1000000000000000 := hlq2.c
  have hsn := shs_len q ((lotsOf l a c).map Lot.Qty)
  have hml : ((lotsOf l a c).map Lot.Qty).length = (lotsOf l a c).length := List.length_map _
  have hwl := scF_wl (sh := (shs q ((lotsOf l a c).map Lot.Qty))) (a := a) (c := c) h1
  repeat' (first
 | (intro h9; exfalso; first | contradiction | omega)
 | (with_reducible apply zds); exact tk; rfl; rfl; rfl; rfl; rfl
 | (with_reducible apply zd); rfl; exact tk; rfl
 | (with_reducible first | intro _ | apply wseq | apply zreg | apply thenQ_n | apply thenQ_r | apply thenQ_e | apply znil | apply wret | apply bodyQ_r | apply wblk | apply blkQ_n | apply blkQ_r | apply wskip | apply wexit)
 | apply wcf rfl
 | (with_reducible apply zcmp); rfl; exact tk; rfl; rfl; rfl
 | (with_reducible apply zlit (α := Int) (e := 3)); rfl; exact tk; (iterate 13 rfl)
 | (with_reducible apply zcp); (iterate 10 rfl); (first | exact impl_LotsOk | exact impl_in); rfl; rfl
 | (with_reducible apply zcf); (iterate 10 rfl); (first | exact slices_Clone_Lot (by omega) | exact impl_lotsOf (by first | omega | (have := LQ.len (by assumption); omega)) | exact impl_Shares (by assumption) | exact impl_withLots (by assumption) (by omega) (by omega)); rfl; rfl; rfl; rfl; rfl
 | fail)
  all_goals first | (exfalso; omega) | skip
  refine wlp (X := Int × List Int) [0, 1, 2, 3, 11, 55, 56] [0, 1, 2, 3] (fun x => [(57, I x.1), (12, .c (.row 3 0 x.2.length))]) (fun x => [(3, ow 3 x.2)]) (fun x => (0 ≤ x.1 ∧ x.1 ≤ (lotsOf l a c).length) ∧ x.2 = pf ((lotsOf l a c).map Lot.Qty) x.1) (fun x => ((lotsOf l a c).length - x.1).toNat) (0, []) ⟨by dsimp only; omega, rfl⟩ rfl rfl (fun _ => rfl) (fun _ => rfl) ⟨rfl, rfl, rfl, rfl, rfl, rfl, rfl, rfl⟩ (fun x hx => ?_)
  obtain ⟨i, u⟩ := x
  obtain ⟨h0, hu⟩ := hx
  dsimp only at h0 hu ⊢
  have hul : (u.length : Int) = i := by rw [hu]; exact pf_len (by omega)
  by_cases hil : i < (lotsOf l a c).length
  ·
    have hu2 : u ++ [(rd (lotsOf l a c) i).Qty] = pf ((lotsOf l a c).map Lot.Qty) (i + 1) := by rw [hu, pf_succ (by omega), rd_qty ⟨h0.1, hil⟩]
    repeat' (first
 | (intro h9; exfalso; first | contradiction | omega)
 | (with_reducible apply zds); exact tk; rfl; rfl; rfl; rfl; rfl
 | (with_reducible apply zd); rfl; exact tk; rfl
 | (with_reducible first | intro _ | apply wseq | apply zreg | apply thenQ_n | apply thenQ_r | apply thenQ_e | apply znil | apply wret | apply bodyQ_r | apply wblk | apply blkQ_n | apply blkQ_r | apply wskip | apply wexit)
 | apply wct rfl
 | (with_reducible apply zcmp); rfl; exact tk; rfl; rfl; rfl
 | (with_reducible apply zar); rfl; rfl; rfl; rfl; (first | omega | ((try simp only [List.length_append, List.length_cons, List.length_nil, List.length_map]); (try dsimp only); omega)); rfl; rfl
 | (with_reducible apply zix); rfl; exact tk; (iterate 7 rfl); (first | omega | ((try simp only [List.length_append, List.length_cons, List.length_nil, List.length_map]); (try dsimp only); omega)); rfl; rfl
 | (with_reducible apply zle); rfl; exact tk; rfl; rfl; rfl; rfl; (first | omega | ((try simp only [List.length_append, List.length_cons, List.length_nil, List.length_map]); (try dsimp only); omega)); rfl; rfl; rfl; rfl
 | (with_reducible apply zlit (α := Int) (e := 3)); rfl; exact tk; (iterate 13 rfl)
 | (with_reducible apply zap); rfl; exact tk; (iterate 10 rfl); (first | omega | ((try simp only [List.length_append, List.length_cons, List.length_nil, List.length_map]); (try dsimp only); omega)); rfl; rfl; rfl; rfl; rfl
 | fail)
    all_goals first
      | exact endR (i + 1, u ++ [(rd (lotsOf l a c) i).Qty]) [0, 1, 2, 6] ⟨rfl, rfl, rfl, rfl, rfl, rfl, rfl, rfl⟩ ⟨by dsimp only; omega, hu2⟩ (by first | omega | (dsimp only; omega))
      | (exfalso; omega)
      | trace_state
  rw [pf_all (by omega)] at hu
  subst hu
  repeat' (first
 | (intro h9; exfalso; first | contradiction | omega)
 | (with_reducible apply zds); exact tk; rfl; rfl; rfl; rfl; rfl
 | (with_reducible apply zd); rfl; exact tk; rfl
 | (with_reducible first | intro _ | apply wseq | apply zreg | apply thenQ_n | apply thenQ_r | apply thenQ_e | apply znil | apply wret | apply bodyQ_r | apply wblk | apply blkQ_n | apply blkQ_r | apply wskip | apply wexit)
 | apply wcf rfl
 | (with_reducible apply blkQ_x rfl)
 | (with_reducible apply zcmp); rfl; exact tk; rfl; rfl; rfl
 | (with_reducible apply zlit (α := Lot) (e := 137)); rfl; exact tk; (iterate 13 rfl)
 | (with_reducible apply zcf); (iterate 10 rfl); (first | exact slices_Clone_Lot (by omega) | exact impl_lotsOf (by first | omega | (have := LQ.len (by assumption); omega)) | exact impl_Shares (by assumption) | exact impl_withLots (by assumption) (by omega) (by omega)); rfl; rfl; rfl; rfl; rfl
 | fail)
  all_goals first | (exfalso; omega) | skip
  refine wlp (X := Int × List Lot × Int) [0, 1, 2, 15, 74, 75] [0, 1, 2, 3, 4, 5] (fun x => [(76, I x.1), (17, .c (.row 5 0 x.2.1.length)), (18, I x.2.2)]) (fun x => [(5, ow 137 x.2.1)]) (fun x => (0 ≤ x.1 ∧ x.1 ≤ (lotsOf l a c).length) ∧ x.2.1 = scL (lotsOf l a c) (shs q ((lotsOf l a c).map Lot.Qty)) x.1 ∧ x.2.2 = scC (lotsOf l a c) (shs q ((lotsOf l a c).map Lot.Qty)) x.1) (fun x => ((lotsOf l a c).length - x.1).toNat) (0, [], 0) ⟨by dsimp only; omega, rfl, rfl⟩ rfl rfl (fun _ => rfl) (fun _ => rfl) ⟨rfl, rfl, rfl, rfl, rfl, rfl, rfl, rfl⟩ (fun x hx => ?_)
  obtain ⟨i, u, n⟩ := x
  obtain ⟨h0, hu, hn2⟩ := hx
  dsimp only at h0 hu hn2 ⊢
  have hul := scL_len (own := lotsOf l a c) (sh := (shs q ((lotsOf l a c).map Lot.Qty))) h0.1
  rw [← hu] at hul
  have hcb := scC_bd (sh := (shs q ((lotsOf l a c).map Lot.Qty))) hqc i.toNat (by omega)
  rw [show ((i.toNat : Nat) : Int) = i from by omega, ← hn2] at hcb
  by_cases hil : i < (lotsOf l a c).length
  ·
    have hc1 := hqc _ (rd_mem ⟨h0.1, hil⟩)
    by_cases hz : rd (shs q ((lotsOf l a c).map Lot.Qty)) i = 0
    ·
      have hu2 : u = scL (lotsOf l a c) (shs q ((lotsOf l a c).map Lot.Qty)) (i + 1) := by rw [scL_n h0.1 hz, hu]
      have hn3 : n + (rd (lotsOf l a c) i).Cost = scC (lotsOf l a c) (shs q ((lotsOf l a c).map Lot.Qty)) (i + 1) := by rw [scC_y h0.1 hz, hn2]
      repeat' (first
 | (intro h9; exfalso; first | contradiction | omega)
 | (with_reducible apply zds); exact tk; rfl; rfl; rfl; rfl; rfl
 | (with_reducible apply zd); rfl; exact tk; rfl
 | (with_reducible apply zix); rfl; exact tk; (iterate 7 rfl); (first | omega | (simp only [upd_len]; omega)); rfl; rfl
 | (with_reducible apply zle); rfl; exact tk; rfl; rfl; rfl; rfl; (first | omega | (simp only [upd_len]; omega)); rfl; rfl; rfl; rfl
 | (with_reducible first | intro _ | apply wseq | apply zreg | apply thenQ_n | apply thenQ_r | apply thenQ_e | apply znil | apply wret | apply bodyQ_r | apply wblk | apply blkQ_n | apply blkQ_r | apply wskip | apply wexit)
 | apply wct rfl
 | (with_reducible apply zcmp); rfl; exact tk; rfl; rfl; rfl
 | (with_reducible apply zar); rfl; rfl; rfl; rfl; (first | omega | ((try simp only [List.length_append, List.length_cons, List.length_nil, List.length_map]); (try dsimp only); omega)); rfl; rfl
 | fail)
      all_goals first
        | exact endR (i + 1, u, n + (rd (lotsOf l a c) i).Cost) [0, 1, 2, 3, 4, 5] ⟨rfl, rfl, rfl, rfl, rfl, rfl, rfl, rfl⟩ ⟨by dsimp only; omega, hu2, hn3⟩ (by first | omega | (dsimp only; omega))
        | (exfalso; omega)
        | trace_state
    ·
      have hu2 : u ++ [⟨(rd (lotsOf l a c) i).Account, (rd (lotsOf l a c) i).Instr, (rd (lotsOf l a c) i).No, rd (shs q ((lotsOf l a c).map Lot.Qty)) i, (rd (lotsOf l a c) i).Cost⟩] = scL (lotsOf l a c) (shs q ((lotsOf l a c).map Lot.Qty)) (i + 1) := by rw [scL_y h0.1 hz, hu]
      have hn3 : n = scC (lotsOf l a c) (shs q ((lotsOf l a c).map Lot.Qty)) (i + 1) := by rw [scC_n h0.1 hz, hn2]
      repeat' (first
 | (intro h9; exfalso; first | contradiction | omega)
 | (with_reducible apply zds); exact tk; rfl; rfl; rfl; rfl; rfl
 | (with_reducible apply zd); rfl; exact tk; rfl
 | (with_reducible apply zix); rfl; exact tk; (iterate 7 rfl); (first | omega | (simp only [upd_len]; omega)); rfl; rfl
 | (with_reducible apply zle); rfl; exact tk; rfl; rfl; rfl; rfl; (first | omega | (simp only [upd_len]; omega)); rfl; rfl; rfl; rfl
 | (with_reducible first | intro _ | apply wseq | apply zreg | apply thenQ_n | apply thenQ_r | apply thenQ_e | apply znil | apply wret | apply bodyQ_r | apply wblk | apply blkQ_n | apply blkQ_r | apply wskip | apply wexit)
 | apply wct rfl
 | apply wcf rfl
 | (with_reducible apply zcmp); rfl; exact tk; rfl; rfl; rfl
 | (with_reducible apply zar); rfl; rfl; rfl; rfl; (first | omega | ((try simp only [List.length_append, List.length_cons, List.length_nil, List.length_map]); (try dsimp only); omega)); rfl; rfl
 | (with_reducible apply zlit (α := Lot) (e := 137)); rfl; exact tk; (iterate 13 rfl)
 | (with_reducible apply zap); rfl; exact tk; (iterate 10 rfl); (first | omega | ((try simp only [List.length_append, List.length_cons, List.length_nil, List.length_map]); (try dsimp only); omega)); rfl; rfl; rfl; rfl; rfl
 | fail)
      all_goals first
        | exact endR (i + 1, u ++ [⟨(rd (lotsOf l a c) i).Account, (rd (lotsOf l a c) i).Instr, (rd (lotsOf l a c) i).No, rd (shs q ((lotsOf l a c).map Lot.Qty)) i, (rd (lotsOf l a c) i).Cost⟩], n) [0, 1, 2, 3, 4, 8] ⟨rfl, rfl, rfl, rfl, rfl, rfl, rfl, rfl⟩ ⟨by dsimp only; omega, hu2, hn3⟩ (by first | omega | (dsimp only; omega))
        | (exfalso; omega)
        | trace_state
  have ei : i = ((lotsOf l a c).length : Int) := by omega
  rw [ei] at hu hn2
  by_cases hp : 0 < (u.length : Int)
  ·
    have hF : scF (lotsOf l a c) (shs q ((lotsOf l a c).map Lot.Qty)) = upd u 0 ⟨(rd u 0).Account, (rd u 0).Instr, (rd u 0).No, (rd u 0).Qty, (rd u 0).Cost + n⟩ := by rw [scF, ← hu, ← hn2, sel_t hp]
    have hub := upd_len u 0 ⟨(rd u 0).Account, (rd u 0).Instr, (rd u 0).No, (rd u 0).Qty, (rd u 0).Cost + n⟩
    have hcu : 0 ≤ (rd u 0).Cost ∧ (rd u 0).Cost ≤ 1000000000000000 := scL_c hqc _ (by rw [← hu]; exact rd_mem ⟨Int.le_refl 0, hp⟩)
    rw [hF] at hwl ⊢
    repeat' (first
 | (intro h9; exfalso; first | contradiction | omega)
 | (with_reducible apply zds); exact tk; rfl; rfl; rfl; rfl; rfl
 | (with_reducible apply zd); rfl; exact tk; rfl
 | (with_reducible apply zix); rfl; exact tk; (iterate 7 rfl); (first | omega | (simp only [upd_len]; omega)); rfl; rfl
 | (with_reducible apply zle); rfl; exact tk; rfl; rfl; rfl; rfl; (first | omega | (simp only [upd_len]; omega)); rfl; rfl; rfl; rfl
 | (with_reducible apply zse); rfl; exact tk; (iterate 6 rfl); (first | omega | (simp only [upd_len]; omega)); rfl; rfl; rfl; rfl; rfl
 | (with_reducible first | intro _ | apply wseq | apply zreg | apply thenQ_n | apply thenQ_r | apply thenQ_e | apply znil | apply wret | apply bodyQ_r | apply wblk | apply blkQ_n | apply blkQ_r | apply wskip | apply wexit)
 | apply wct rfl
 | apply wcf rfl
 | (with_reducible apply blkQ_x rfl)
 | (with_reducible apply zcmp); rfl; exact tk; rfl; rfl; rfl
 | (with_reducible apply zar); rfl; rfl; rfl; rfl; (first | omega | ((try simp only [List.length_append, List.length_cons, List.length_nil, List.length_map]); (try dsimp only); omega)); rfl; rfl
 | fail)
    all_goals first | (exfalso; omega) | skip
    rw [← hub]
    repeat' (first
 | (with_reducible apply zds); exact tk; rfl; rfl; rfl; rfl; rfl
 | (with_reducible first | intro _ | apply wseq | apply zreg | apply thenQ_n | apply thenQ_r | apply thenQ_e | apply znil | apply wret | apply bodyQ_r | apply wblk | apply blkQ_n | apply blkQ_r | apply wskip | apply wexit)
 | (with_reducible apply zcf); (iterate 10 rfl); (first | exact slices_Clone_Lot (by omega) | exact impl_lotsOf (by first | omega | (have := LQ.len (by assumption); omega)) | exact impl_Shares (by assumption) | exact impl_withLots (by assumption) (by omega) (by omega)); rfl; rfl; rfl; rfl; rfl
 | fail)
    all_goals first | exact endV [0, 6] rfl rfl rfl rfl rfl rfl | exact endV [0, 7] rfl rfl rfl rfl rfl rfl | exact endV [0, 8] rfl rfl rfl rfl rfl rfl | exact endV [0, 9] rfl rfl rfl rfl rfl rfl | trace_state
  ·
    have hF : scF (lotsOf l a c) (shs q ((lotsOf l a c).map Lot.Qty)) = u := by rw [scF, ← hu, ← hn2, sel_f hp]
    rw [hF] at hwl ⊢
    repeat' (first
 | (intro h9; exfalso; first | contradiction | omega)
 | (with_reducible apply zds); exact tk; rfl; rfl; rfl; rfl; rfl
 | (with_reducible first | intro _ | apply wseq | apply zreg | apply thenQ_n | apply thenQ_r | apply thenQ_e | apply znil | apply wret | apply bodyQ_r | apply wblk | apply blkQ_n | apply blkQ_r | apply wskip | apply wexit)
 | apply wcf rfl
 | (with_reducible apply blkQ_x rfl)
 | (with_reducible apply zcmp); rfl; exact tk; rfl; rfl; rfl
 | (with_reducible apply zcf); (iterate 10 rfl); (first | exact slices_Clone_Lot (by omega) | exact impl_lotsOf (by first | omega | (have := LQ.len (by assumption); omega)) | exact impl_Shares (by assumption) | exact impl_withLots (by assumption) (by omega) (by omega)); rfl; rfl; rfl; rfl; rfl
 | fail)
    all_goals first | (exfalso; omega) | exact endV [0, 6] rfl rfl rfl rfl rfl rfl | exact endV [0, 7] rfl rfl rfl rfl rfl rfl | exact endV [0, 8] rfl rfl rfl rfl rfl rfl | exact endV [0, 9] rfl rfl rfl rfl rfl rfl | trace_state
set_option maxHeartbeats 4000000 in
theorem spec_LotsScale {l : List Lot} {a c q : Int} : FC Tryz.prog 137 [.c (.row 0 0 l.length), I a, I c, I q] ([ro 137 l]) (.tup [.c (.row 1 0 (lotScale l a c q).1.length), I (lotScale l a c q).2]) ([ro 137 l, ow 137 (lotScale l a c q).1]) := by
  refine fent tk 122 [.tmp 8, .tmp 9] Tryz.func137 (by kernel_rfl) rfl rfl rfl rfl rfl rfl rfl ?_
  by_cases hok : LotsOk l ∧ inP q 0 1000000000000000
  rotate_left
  ·
    rw [ls_1 hok]
    repeat' (first
 | (intro h9; exact absurd ⟨by assumption, by assumption⟩ hok)
 | (with_reducible apply znila (d := 8) 137 5); rfl; rfl; rfl
 | (with_reducible apply zd); rfl; exact tk; rfl
 | (with_reducible first | intro _ | apply wseq | apply zreg | apply thenQ_n | apply thenQ_r | apply thenQ_e | apply znil | apply wret | apply bodyQ_r | apply wblk | apply blkQ_n | apply blkQ_r | apply wskip | apply wexit)
 | apply wct rfl
 | (with_reducible apply zlit (α := Lot) (e := 137)); rfl; exact tk; (iterate 13 rfl)
 | (with_reducible apply zcp); (iterate 10 rfl); (first | exact spec_LotsOk | exact spec_l1Some); rfl; rfl
 | fail)
    all_goals first | exact endV [0, 2] rfl rfl rfl rfl rfl rfl | exact endV [0, 1] rfl rfl rfl rfl rfl rfl | trace_state
  obtain ⟨h1, h2⟩ := id hok
  have hll := h1.1.2
  have hlq := h1.q
  have h2' := h2
  unfold inP at h2'
  have hlo : (lotsOf l a c).length ≤ l.length := flt_le _ _
  have hlq2 : LQ (lotsOf l a c) := LQ.of hlq
  have hnl : (lotsNot l a c).length ≤ l.length := flt_le _ _
  by_cases hn : 0 < ((lotsOf l a c).length : Int)
  rotate_left
  ·
    by_cases hq : q = 0
    ·
      rw [ls_3 hok hn hq]
      repeat' (first
 | (intro h9; exfalso; first | contradiction | omega)
 | (with_reducible apply zds); exact tk; rfl; rfl; rfl; rfl; rfl
 | (with_reducible apply zd); rfl; exact tk; rfl
 | (with_reducible first | intro _ | apply wseq | apply zreg | apply thenQ_n | apply thenQ_r | apply thenQ_e | apply znil | apply wret | apply bodyQ_r | apply wblk | apply blkQ_n | apply blkQ_r | apply wskip | apply wexit)
 | apply wct rfl
 | apply wcf rfl
 | (with_reducible apply zcmp); rfl; exact tk; rfl; rfl; rfl
 | (with_reducible apply zlit (α := Lot) (e := 137)); rfl; exact tk; (iterate 13 rfl)
 | (with_reducible apply zap); rfl; exact tk; (iterate 10 rfl); (first | omega | ((try simp only [List.length_append, List.length_cons, List.length_nil, List.length_map]); (try dsimp only); omega)); rfl; rfl; rfl; rfl; rfl
 | (with_reducible apply zcp); (iterate 10 rfl); (first | exact spec_LotsOk | exact spec_l1Some); rfl; rfl
 | (with_reducible apply zcf); (iterate 10 rfl); (first | exact spec_l5Split (by first | omega | (have := LQ.len (by assumption); omega)) | exact spec_Shares (by assumption) | exact spec_l5Merge (by omega) (by first | omega | (simp only [List.length_cons,List.length_nil]; omega))); rfl; rfl; rfl; rfl; rfl
 | fail)
      all_goals first | exact endV [0, 1] rfl rfl rfl rfl rfl rfl | exact endV [0, 2] rfl rfl rfl rfl rfl rfl | exact endV [0, 3] rfl rfl rfl rfl rfl rfl | exact endV [0, 4] rfl rfl rfl rfl rfl rfl | (exfalso; omega) | trace_state
    ·
      rw [ls_2 hok ⟨hn, hq⟩]
      repeat' (first
 | (intro h9; exfalso; first | contradiction | omega)
 | (with_reducible apply zds); exact tk; rfl; rfl; rfl; rfl; rfl
 | (with_reducible apply zd); rfl; exact tk; rfl
 | (with_reducible first | intro _ | apply wseq | apply zreg | apply thenQ_n | apply thenQ_r | apply thenQ_e | apply znil | apply wret | apply bodyQ_r | apply wblk | apply blkQ_n | apply blkQ_r | apply wskip | apply wexit)
 | apply wct rfl
 | apply wcf rfl
 | (with_reducible apply zcmp); rfl; exact tk; rfl; rfl; rfl
 | (with_reducible apply zlit (α := Lot) (e := 137)); rfl; exact tk; (iterate 13 rfl)
 | (with_reducible apply zap); rfl; exact tk; (iterate 10 rfl); (first | omega | ((try simp only [List.length_append, List.length_cons, List.length_nil, List.length_map]); (try dsimp only); omega)); rfl; rfl; rfl; rfl; rfl
 | (with_reducible apply zcp); (iterate 10 rfl); (first | exact spec_LotsOk | exact spec_l1Some); rfl; rfl
 | (with_reducible apply zcf); (iterate 10 rfl); (first | exact spec_l5Split (by first | omega | (have := LQ.len (by assumption); omega)) | exact spec_Shares (by assumption) | exact spec_l5Merge (by omega) (by first | omega | (simp only [List.length_cons,List.length_nil]; omega))); rfl; rfl; rfl; rfl; rfl
 | fail)
      all_goals first | exact endV [0, 1] rfl rfl rfl rfl rfl rfl | exact endV [0, 2] rfl rfl rfl rfl rfl rfl | exact endV [0, 3] rfl rfl rfl rfl rfl rfl | exact endV [0, 4] rfl rfl rfl rfl rfl rfl | (exfalso; omega) | trace_state
  by_cases h40 : (lotsOf l a c).length > (40 : Int)
  ·
    rw [ls_4 hok hn h40]
    repeat' (first
 | (intro h9; exfalso; first | contradiction | omega)
 | (with_reducible apply zds); exact tk; rfl; rfl; rfl; rfl; rfl
 | (with_reducible apply zd); rfl; exact tk; rfl
 | (with_reducible first | intro _ | apply wseq | apply zreg | apply thenQ_n | apply thenQ_r | apply thenQ_e | apply znil | apply wret | apply bodyQ_r | apply wblk | apply blkQ_n | apply blkQ_r | apply wskip | apply wexit)
 | apply wct rfl
 | apply wcf rfl
 | (with_reducible apply zcmp); rfl; exact tk; rfl; rfl; rfl
 | (with_reducible apply zlit (α := Lot) (e := 137)); rfl; exact tk; (iterate 13 rfl)
 | (with_reducible apply zap); rfl; exact tk; (iterate 10 rfl); (first | omega | ((try simp only [List.length_append, List.length_cons, List.length_nil, List.length_map]); (try dsimp only); omega)); rfl; rfl; rfl; rfl; rfl
 | (with_reducible apply zcp); (iterate 10 rfl); (first | exact spec_LotsOk | exact spec_l1Some); rfl; rfl
 | (with_reducible apply zcf); (iterate 10 rfl); (first | exact spec_l5Split (by first | omega | (have := LQ.len (by assumption); omega)) | exact spec_Shares (by assumption) | exact spec_l5Merge (by omega) (by first | omega | (simp only [List.length_cons,List.length_nil]; omega))); rfl; rfl; rfl; rfl; rfl
 | fail)
    all_goals first | exact endV [0, 1] rfl rfl rfl rfl rfl rfl | exact endV [0, 2] rfl rfl rfl rfl rfl rfl | exact endV [0, 3] rfl rfl rfl rfl rfl rfl | exact endV [0, 4] rfl rfl rfl rfl rfl rfl | (exfalso; omega) | trace_state
  rw [ls_0 hok hn h40]
  have hsh := own_sh h1 hn h40 h2
  dsimp only
  have hqc : ∀ x ∈ lotsOf l a c, 0 ≤ x.Cost ∧ x.Cost ≤ 1000000000000000 := hlq2.c
  have hsn := shs_len q ((lotsOf l a c).map Lot.Qty)
  have hml : ((lotsOf l a c).map Lot.Qty).length = (lotsOf l a c).length := List.length_map _
  have hwl := scF_wl (sh := (shs q ((lotsOf l a c).map Lot.Qty))) (a := a) (c := c) h1
  repeat' (first
 | (intro h9; exfalso; first | contradiction | omega)
 | (with_reducible apply zds); exact tk; rfl; rfl; rfl; rfl; rfl
 | (with_reducible apply zd); rfl; exact tk; rfl
 | (with_reducible first | intro _ | apply wseq | apply zreg | apply thenQ_n | apply thenQ_r | apply thenQ_e | apply znil | apply wret | apply bodyQ_r | apply wblk | apply blkQ_n | apply blkQ_r | apply wskip | apply wexit)
 | apply wcf rfl
 | (with_reducible apply zcmp); rfl; exact tk; rfl; rfl; rfl
 | (with_reducible apply zlit (α := Lot) (e := 137)); rfl; exact tk; (iterate 13 rfl)
 | (with_reducible apply zlit (α := Int) (e := 3)); rfl; exact tk; (iterate 13 rfl)
 | (with_reducible apply zap); rfl; exact tk; (iterate 10 rfl); (first | omega | ((try simp only [List.length_append, List.length_cons, List.length_nil, List.length_map]); (try dsimp only); omega)); rfl; rfl; rfl; rfl; rfl
 | (with_reducible apply zcp); (iterate 10 rfl); (first | exact spec_LotsOk | exact spec_l1Some); rfl; rfl
 | (with_reducible apply zcf); (iterate 10 rfl); (first | exact spec_l5Split (by first | omega | (have := LQ.len (by assumption); omega)) | exact spec_Shares (by assumption) | exact spec_l5Merge (by omega) (by first | omega | (simp only [List.length_cons,List.length_nil]; omega))); rfl; rfl; rfl; rfl; rfl
 | fail)
  all_goals first | (exfalso; omega) | skip
  refine wlp (X := Int × List Int) [3, 10, 11] [0, 1, 2, 3, 4, 5] (fun x => [(14, I x.1), (13, .c (.row 5 0 x.2.length))]) (fun x => [(5, ow 3 x.2)]) (fun x => (0 ≤ x.1 ∧ x.1 ≤ (lotsOf l a c).length) ∧ x.2 = pf ((lotsOf l a c).map Lot.Qty) x.1) (fun x => ((lotsOf l a c).length - x.1).toNat) (0, []) ⟨by dsimp only; omega, rfl⟩ rfl rfl (fun _ => rfl) (fun _ => rfl) ⟨rfl, rfl, rfl, rfl, rfl, rfl, rfl, rfl⟩ (fun x hx => ?_)
  obtain ⟨i, u⟩ := x
  obtain ⟨h0, hu⟩ := hx
  dsimp only at h0 hu ⊢
  have hul : (u.length : Int) = i := by rw [hu]; exact pf_len (by omega)
  by_cases hil : i < (lotsOf l a c).length
  ·
    have hu2 : u ++ [(rd (lotsOf l a c) i).Qty] = pf ((lotsOf l a c).map Lot.Qty) (i + 1) := by rw [hu, pf_succ (by omega), rd_qty ⟨h0.1, hil⟩]
    repeat' (first
 | (intro h9; exfalso; first | contradiction | omega)
 | (with_reducible apply zds); exact tk; rfl; rfl; rfl; rfl; rfl
 | (with_reducible apply zd); rfl; exact tk; rfl
 | (with_reducible first | intro _ | apply wseq | apply zreg | apply thenQ_n | apply thenQ_r | apply thenQ_e | apply znil | apply wret | apply bodyQ_r | apply wblk | apply blkQ_n | apply blkQ_r | apply wskip | apply wexit)
 | apply wct rfl
 | (with_reducible apply zcmp); rfl; exact tk; rfl; rfl; rfl
 | (with_reducible apply zar); rfl; rfl; rfl; rfl; (first | omega | ((try simp only [List.length_append, List.length_cons, List.length_nil, List.length_map]); (try dsimp only); omega)); rfl; rfl
 | (with_reducible apply zix); rfl; exact tk; (iterate 7 rfl); (first | omega | ((try simp only [List.length_append, List.length_cons, List.length_nil, List.length_map]); (try dsimp only); omega)); rfl; rfl
 | (with_reducible apply zle); rfl; exact tk; rfl; rfl; rfl; rfl; (first | omega | ((try simp only [List.length_append, List.length_cons, List.length_nil, List.length_map]); (try dsimp only); omega)); rfl; rfl; rfl; rfl
 | (with_reducible apply zlit (α := Int) (e := 3)); rfl; exact tk; (iterate 13 rfl)
 | (with_reducible apply zap); rfl; exact tk; (iterate 10 rfl); (first | omega | ((try simp only [List.length_append, List.length_cons, List.length_nil, List.length_map]); (try dsimp only); omega)); rfl; rfl; rfl; rfl; rfl
 | fail)
    all_goals first
      | exact endR (i + 1, u ++ [(rd (lotsOf l a c) i).Qty]) [0, 1, 2, 3, 4, 7] ⟨rfl, rfl, rfl, rfl, rfl, rfl, rfl, rfl⟩ ⟨by dsimp only; omega, hu2⟩ (by first | omega | (dsimp only; omega))
      | (exfalso; omega)
      | trace_state
  rw [pf_all (by omega)] at hu
  subst hu
  repeat' (first
 | (intro h9; exfalso; first | contradiction | omega)
 | (with_reducible apply zds); exact tk; rfl; rfl; rfl; rfl; rfl
 | (with_reducible apply zd); rfl; exact tk; rfl
 | (with_reducible first | intro _ | apply wseq | apply zreg | apply thenQ_n | apply thenQ_r | apply thenQ_e | apply znil | apply wret | apply bodyQ_r | apply wblk | apply blkQ_n | apply blkQ_r | apply wskip | apply wexit)
 | apply wcf rfl
 | (with_reducible apply blkQ_x rfl)
 | (with_reducible apply zcmp); rfl; exact tk; rfl; rfl; rfl
 | (with_reducible apply zlit (α := Lot) (e := 137)); rfl; exact tk; (iterate 13 rfl)
 | (with_reducible apply zcf); (iterate 10 rfl); (first | exact spec_l5Split (by first | omega | (have := LQ.len (by assumption); omega)) | exact spec_Shares (by assumption) | exact spec_l5Merge (by omega) (by first | omega | (simp only [List.length_cons,List.length_nil]; omega))); rfl; rfl; rfl; rfl; rfl
 | fail)
  all_goals first | (exfalso; omega) | skip
  refine wlp (X := Int × List Lot × Int) [10, 11, 15] [0, 1, 2, 3, 4, 5, 6, 7] (fun x => [(19, I x.1), (17, .c (.row 7 0 x.2.1.length)), (18, I x.2.2)]) (fun x => [(7, ow 137 x.2.1)]) (fun x => (0 ≤ x.1 ∧ x.1 ≤ (lotsOf l a c).length) ∧ x.2.1 = scL (lotsOf l a c) (shs q ((lotsOf l a c).map Lot.Qty)) x.1 ∧ x.2.2 = scC (lotsOf l a c) (shs q ((lotsOf l a c).map Lot.Qty)) x.1) (fun x => ((lotsOf l a c).length - x.1).toNat) (0, [], 0) ⟨by dsimp only; omega, rfl, rfl⟩ rfl rfl (fun _ => rfl) (fun _ => rfl) ⟨rfl, rfl, rfl, rfl, rfl, rfl, rfl, rfl⟩ (fun x hx => ?_)
  obtain ⟨i, u, n⟩ := x
  obtain ⟨h0, hu, hn2⟩ := hx
  dsimp only at h0 hu hn2 ⊢
  have hul := scL_len (own := lotsOf l a c) (sh := (shs q ((lotsOf l a c).map Lot.Qty))) h0.1
  rw [← hu] at hul
  have hcb := scC_bd (sh := (shs q ((lotsOf l a c).map Lot.Qty))) hqc i.toNat (by omega)
  rw [show ((i.toNat : Nat) : Int) = i from by omega, ← hn2] at hcb
  by_cases hil : i < (lotsOf l a c).length
  ·
    have hc1 := hqc _ (rd_mem ⟨h0.1, hil⟩)
    by_cases hz : rd (shs q ((lotsOf l a c).map Lot.Qty)) i = 0
    ·
      have hu2 : u = scL (lotsOf l a c) (shs q ((lotsOf l a c).map Lot.Qty)) (i + 1) := by rw [scL_n h0.1 hz, hu]
      have hn3 : n + (rd (lotsOf l a c) i).Cost = scC (lotsOf l a c) (shs q ((lotsOf l a c).map Lot.Qty)) (i + 1) := by rw [scC_y h0.1 hz, hn2]
      repeat' (first
 | (intro h9; exfalso; first | contradiction | omega)
 | (with_reducible apply zds); exact tk; rfl; rfl; rfl; rfl; rfl
 | (with_reducible apply zd); rfl; exact tk; rfl
 | (with_reducible apply zix); rfl; exact tk; (iterate 7 rfl); (first | omega | (simp only [upd_len]; omega)); rfl; rfl
 | (with_reducible apply zle); rfl; exact tk; rfl; rfl; rfl; rfl; (first | omega | (simp only [upd_len]; omega)); rfl; rfl; rfl; rfl
 | (with_reducible first | intro _ | apply wseq | apply zreg | apply thenQ_n | apply thenQ_r | apply thenQ_e | apply znil | apply wret | apply bodyQ_r | apply wblk | apply blkQ_n | apply blkQ_r | apply wskip | apply wexit)
 | apply wct rfl
 | (with_reducible apply zcmp); rfl; exact tk; rfl; rfl; rfl
 | (with_reducible apply zar); rfl; rfl; rfl; rfl; (first | omega | ((try simp only [List.length_append, List.length_cons, List.length_nil, List.length_map]); (try dsimp only); omega)); rfl; rfl
 | fail)
      all_goals first
        | exact endR (i + 1, u, n + (rd (lotsOf l a c) i).Cost) [0, 1, 2, 3, 4, 5, 6, 7] ⟨rfl, rfl, rfl, rfl, rfl, rfl, rfl, rfl⟩ ⟨by dsimp only; omega, hu2, hn3⟩ (by first | omega | (dsimp only; omega))
        | (exfalso; omega)
        | trace_state
    ·
      have hu2 : u ++ [⟨(rd (lotsOf l a c) i).Account, (rd (lotsOf l a c) i).Instr, (rd (lotsOf l a c) i).No, rd (shs q ((lotsOf l a c).map Lot.Qty)) i, (rd (lotsOf l a c) i).Cost⟩] = scL (lotsOf l a c) (shs q ((lotsOf l a c).map Lot.Qty)) (i + 1) := by rw [scL_y h0.1 hz, hu]
      have hn3 : n = scC (lotsOf l a c) (shs q ((lotsOf l a c).map Lot.Qty)) (i + 1) := by rw [scC_n h0.1 hz, hn2]
      repeat' (first
 | (intro h9; exfalso; first | contradiction | omega)
 | (with_reducible apply zds); exact tk; rfl; rfl; rfl; rfl; rfl
 | (with_reducible apply zd); rfl; exact tk; rfl
 | (with_reducible apply zix); rfl; exact tk; (iterate 7 rfl); (first | omega | (simp only [upd_len]; omega)); rfl; rfl
 | (with_reducible apply zle); rfl; exact tk; rfl; rfl; rfl; rfl; (first | omega | (simp only [upd_len]; omega)); rfl; rfl; rfl; rfl
 | (with_reducible first | intro _ | apply wseq | apply zreg | apply thenQ_n | apply thenQ_r | apply thenQ_e | apply znil | apply wret | apply bodyQ_r | apply wblk | apply blkQ_n | apply blkQ_r | apply wskip | apply wexit)
 | apply wct rfl
 | apply wcf rfl
 | (with_reducible apply zcmp); rfl; exact tk; rfl; rfl; rfl
 | (with_reducible apply zar); rfl; rfl; rfl; rfl; (first | omega | ((try simp only [List.length_append, List.length_cons, List.length_nil, List.length_map]); (try dsimp only); omega)); rfl; rfl
 | (with_reducible apply zlit (α := Lot) (e := 137)); rfl; exact tk; (iterate 13 rfl)
 | (with_reducible apply zap); rfl; exact tk; (iterate 10 rfl); (first | omega | ((try simp only [List.length_append, List.length_cons, List.length_nil, List.length_map]); (try dsimp only); omega)); rfl; rfl; rfl; rfl; rfl
 | fail)
      all_goals first
        | exact endR (i + 1, u ++ [⟨(rd (lotsOf l a c) i).Account, (rd (lotsOf l a c) i).Instr, (rd (lotsOf l a c) i).No, rd (shs q ((lotsOf l a c).map Lot.Qty)) i, (rd (lotsOf l a c) i).Cost⟩], n) [0, 1, 2, 3, 4, 5, 6, 10] ⟨rfl, rfl, rfl, rfl, rfl, rfl, rfl, rfl⟩ ⟨by dsimp only; omega, hu2, hn3⟩ (by first | omega | (dsimp only; omega))
        | (exfalso; omega)
        | trace_state
  have ei : i = ((lotsOf l a c).length : Int) := by omega
  rw [ei] at hu hn2
  by_cases hp : 0 < (u.length : Int)
  ·
    have hF : scF (lotsOf l a c) (shs q ((lotsOf l a c).map Lot.Qty)) = upd u 0 ⟨(rd u 0).Account, (rd u 0).Instr, (rd u 0).No, (rd u 0).Qty, (rd u 0).Cost + n⟩ := by rw [scF, ← hu, ← hn2, sel_t hp]
    have hub := upd_len u 0 ⟨(rd u 0).Account, (rd u 0).Instr, (rd u 0).No, (rd u 0).Qty, (rd u 0).Cost + n⟩
    have hcu : 0 ≤ (rd u 0).Cost ∧ (rd u 0).Cost ≤ 1000000000000000 := scL_c hqc _ (by rw [← hu]; exact rd_mem ⟨Int.le_refl 0, hp⟩)
    rw [hF] at hwl ⊢
    repeat' (first
 | (intro h9; exfalso; first | contradiction | omega)
 | (with_reducible apply zds); exact tk; rfl; rfl; rfl; rfl; rfl
 | (with_reducible apply zd); rfl; exact tk; rfl
 | (with_reducible apply zix); rfl; exact tk; (iterate 7 rfl); (first | omega | (simp only [upd_len]; omega)); rfl; rfl
 | (with_reducible apply zle); rfl; exact tk; rfl; rfl; rfl; rfl; (first | omega | (simp only [upd_len]; omega)); rfl; rfl; rfl; rfl
 | (with_reducible apply zse); rfl; exact tk; (iterate 6 rfl); (first | omega | (simp only [upd_len]; omega)); rfl; rfl; rfl; rfl; rfl
 | (with_reducible first | intro _ | apply wseq | apply zreg | apply thenQ_n | apply thenQ_r | apply thenQ_e | apply znil | apply wret | apply bodyQ_r | apply wblk | apply blkQ_n | apply blkQ_r | apply wskip | apply wexit)
 | apply wct rfl
 | apply wcf rfl
 | (with_reducible apply blkQ_x rfl)
 | (with_reducible apply zcmp); rfl; exact tk; rfl; rfl; rfl
 | (with_reducible apply zar); rfl; rfl; rfl; rfl; (first | omega | ((try simp only [List.length_append, List.length_cons, List.length_nil, List.length_map]); (try dsimp only); omega)); rfl; rfl
 | fail)
    all_goals first | (exfalso; omega) | skip
    rw [← hub]
    repeat' (first
 | (with_reducible apply zds); exact tk; rfl; rfl; rfl; rfl; rfl
 | (with_reducible first | intro _ | apply wseq | apply zreg | apply thenQ_n | apply thenQ_r | apply thenQ_e | apply znil | apply wret | apply bodyQ_r | apply wblk | apply blkQ_n | apply blkQ_r | apply wskip | apply wexit)
 | (with_reducible apply zcf); (iterate 10 rfl); (first | exact spec_l5Split (by first | omega | (have := LQ.len (by assumption); omega)) | exact spec_Shares (by assumption) | exact spec_l5Merge (by omega) (by first | omega | (simp only [List.length_cons,List.length_nil]; omega))); rfl; rfl; rfl; rfl; rfl
 | fail)
    all_goals first | exact endV [0, 8] rfl rfl rfl rfl rfl rfl | exact endV [0, 9] rfl rfl rfl rfl rfl rfl | exact endV [0, 10] rfl rfl rfl rfl rfl rfl | trace_state
  ·
    have hF : scF (lotsOf l a c) (shs q ((lotsOf l a c).map Lot.Qty)) = u := by rw [scF, ← hu, ← hn2, sel_f hp]
    rw [hF] at hwl ⊢
    repeat' (first
 | (intro h9; exfalso; first | contradiction | omega)
 | (with_reducible apply zds); exact tk; rfl; rfl; rfl; rfl; rfl
 | (with_reducible first | intro _ | apply wseq | apply zreg | apply thenQ_n | apply thenQ_r | apply thenQ_e | apply znil | apply wret | apply bodyQ_r | apply wblk | apply blkQ_n | apply blkQ_r | apply wskip | apply wexit)
 | apply wcf rfl
 | (with_reducible apply blkQ_x rfl)
 | (with_reducible apply zcmp); rfl; exact tk; rfl; rfl; rfl
 | (with_reducible apply zcf); (iterate 10 rfl); (first | exact spec_l5Split (by first | omega | (have := LQ.len (by assumption); omega)) | exact spec_Shares (by assumption) | exact spec_l5Merge (by omega) (by first | omega | (simp only [List.length_cons,List.length_nil]; omega))); rfl; rfl; rfl; rfl; rfl
 | fail)
    all_goals first | (exfalso; omega) | exact endV [0, 8] rfl rfl rfl rfl rfl rfl | exact endV [0, 9] rfl rfl rfl rfl rfl rfl | exact endV [0, 10] rfl rfl rfl rfl rfl rfl | trace_state
end Go.Proofs.YtgehbhkfehmdkaaGreat.Sh
