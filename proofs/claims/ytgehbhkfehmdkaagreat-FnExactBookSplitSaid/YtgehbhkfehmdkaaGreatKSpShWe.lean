/- Weights and what they get: both sides. No condition. -/
import Derived.Test.YtgehbhkfehmdkaaGreatKSpShLt
import Derived.Test.YtgehbhkfehmdkaaGreatKSpShMw
import Derived.Test.YtgehbhkfehmdkaaGreatKSpShTr
import Derived.Test.YtgehbhkfehmdkaaGreatKSpShPc
import Derived.Test.YtgehbhkfehmdkaaGreatKSpShN
namespace Go.Proofs.YtgehbhkfehmdkaaGreat.Sh
open Go.RowKit
set_option linter.unusedVariables false
set_option linter.unusedSimpArgs false
theorem all_of {l : List Int} {p : Int → Prop} (h : ¬ ∃ x ∈ l, ¬ p x) : ∀ x ∈ l, p x := fun x hx => Classical.byContradiction fun k => h ⟨x, hx, k⟩
theorem ws_bd {l : List Int} (h : ∀ x ∈ l, inP x 0 1000000000000000) {i : Int} (hi : 0 ≤ i ∧ i ≤ l.length) : -1000000000000000 * i ≤ sumF id (pf l i) ∧ sumF id (pf l i) ≤ 1000000000000000 * i := sumF_bnd (fun x hx => by have := h x hx; unfold inP at this; show -1000000000000000 ≤ x ∧ x ≤ 1000000000000000; omega) hi
theorem shareable.md {t i : Int} {ws : List Int} (h : shareable t ws) (hi : 0 ≤ i ∧ i < ws.length) : mdOk t (rd ws i) (sumF id ws) := ⟨h.2, h.1.2.1 _ (rd_mem hi), h.1.2.2, Int.le_trans (h.q (rd_mem hi)).2 h.2.2⟩
set_option maxHeartbeats 4000000 in
theorem impl_WeightsOk_1 {n : Int} : FC Tryz.prog 329 [I n] ([]) (B (dB (¬ inP n 0 1000000000000000))) ([]) := by
  refine fent tk 6 [.tmp 2] Tryz.func329 (by kernel_rfl) rfl rfl rfl rfl rfl rfl rfl ?_
  repeat' (first
 | (with_reducible apply zds); exact tk; rfl; rfl; rfl; rfl; rfl
 | (with_reducible apply zd); rfl; exact tk; rfl
 | (with_reducible first | intro _ | apply wseq | apply zreg | apply thenQ_n | apply thenQ_r | apply thenQ_e | apply znil | apply wret | apply bodyQ_r | apply wblk | apply blkQ_n | apply blkQ_r | apply wskip | apply wexit)
 | (with_reducible apply zcp); (iterate 10 rfl); exact impl_in; rfl; rfl
 | fail)
  all_goals first | exact endY [] rfl rfl rfl rfl rfl rfl (by assumption) | exact endN [] rfl rfl rfl rfl rfl rfl (fun k => k (by assumption))
set_option maxHeartbeats 4000000 in
theorem slices_IndexFunc_int_wo {l : List Int} : FC Tryz.prog 261 [.c (.row 0 0 l.length), .c (.fn 329 [])] ([ro 3 l]) (sel (∃ x ∈ l, ¬ inP x 0 1000000000000000) (I (fIx l (fun x => ¬ inP x 0 1000000000000000))) (I (-1))) (sel (∃ x ∈ l, ¬ inP x 0 1000000000000000) [ro 3 l] [ro 3 l]) := by
  refine fent tk 19 [.tmp 4] Tryz.func261 (by kernel_rfl) rfl rfl rfl rfl rfl rfl rfl ?_
  refine wlen l 0 rfl (fun hl => ?_)
  repeat' (first
 | (with_reducible apply zds); exact tk; rfl; rfl; rfl; rfl; rfl
 | (with_reducible apply zd); rfl; exact tk; rfl
 | (with_reducible first | intro _ | apply wseq | apply zreg | apply thenQ_n | apply thenQ_r | apply thenQ_e | apply znil | apply wret | apply bodyQ_r | apply wblk | apply blkQ_n | apply blkQ_r | apply wskip | apply wexit)
 | fail)
  refine wlp (X := Int) [0, 1, 7] [0] (fun i => [(8, I i)]) (fun _ => []) (fun i => 0 ≤ i ∧ i ≤ l.length ∧ ∀ j : Int, 0 ≤ j → j < i → ¬ (fun x => ¬ inP x 0 1000000000000000) (rd l j)) (fun i => (l.length - i).toNat) 0 ⟨by omega, by omega, fun j h0 h1 => by omega⟩ rfl rfl (fun _ => rfl) (fun _ => rfl) ⟨rfl, rfl, rfl, rfl, rfl, rfl, rfl, rfl⟩ (fun i hi => ?_)
  obtain ⟨h0, hi, hall⟩ := hi
  skip
  repeat' (first
 | (with_reducible apply zds); exact tk; rfl; rfl; rfl; rfl; rfl
 | (with_reducible apply zd); rfl; exact tk; rfl
 | (with_reducible apply zcp); (iterate 10 rfl); exact impl_WeightsOk_1; rfl; rfl
 | (with_reducible first | intro _ | apply wseq | apply zreg | apply thenQ_n | apply thenQ_r | apply thenQ_e | apply znil | apply wret | apply bodyQ_r | apply wblk | apply blkQ_n | apply blkQ_r | apply wskip | apply wexit)
 | apply wct rfl
 | apply wcf rfl
 | (with_reducible apply blkQ_x rfl)
 | (with_reducible apply zcmp); rfl; exact tk; rfl; rfl; rfl
 | (with_reducible apply zar); rfl; rfl; rfl; rfl; (first | omega | ((try simp only [List.length_append, List.length_cons, List.length_nil, List.length_map]); (try dsimp only); omega)); rfl; rfl
 | (with_reducible apply zix); rfl; exact tk; (iterate 7 rfl); (first | omega | ((try simp only [List.length_append, List.length_cons, List.length_nil, List.length_map]); (try dsimp only); omega)); rfl; rfl
 | (with_reducible apply zle); rfl; exact tk; rfl; rfl; rfl; rfl; (first | omega | ((try simp only [List.length_append, List.length_cons, List.length_nil, List.length_map]); (try dsimp only); omega)); rfl; rfl; rfl; rfl
 | fail)
  all_goals first
    | (refine endG (X' := I i) (hs' := [ro 3 l]) [0] rfl rfl rfl rfl rfl rfl ?_ ?_
       · rw [sel_t ⟨rd l i, rd_mem ⟨by omega, by omega⟩, by assumption⟩, fIx_eq ⟨by omega, by omega⟩ hall (by assumption)]
       · rw [sel_t ⟨rd l i, rd_mem ⟨by omega, by omega⟩, by assumption⟩])
    | exact endF (no_rd (by assumption) hall) [0] rfl rfl rfl rfl rfl rfl
    | exact endR (i + 1) [0] ⟨rfl, rfl, rfl, rfl, rfl, rfl, rfl, rfl⟩ ⟨by omega, by omega, all_step hall (by assumption)⟩ (by first | omega | (dsimp only; omega))
set_option maxHeartbeats 4000000 in
theorem slices_ContainsFunc_int_wo {l : List Int} : FC Tryz.prog 161 [.c (.row 0 0 l.length), .c (.fn 329 [])] ([ro 3 l]) (B (dB (∃ x ∈ l, ¬ inP x 0 1000000000000000))) ([ro 3 l]) := by
  refine fent tk 9 [.tmp 4] Tryz.func161 (by kernel_rfl) rfl rfl rfl rfl rfl rfl rfl ?_
  have hn := fIx_nn l (fun x => ¬ inP x 0 1000000000000000)
  repeat' (first
 | (with_reducible apply zds); exact tk; rfl; rfl; rfl; rfl; rfl
 | (with_reducible apply zd); rfl; exact tk; rfl
 | (with_reducible first | intro _ | apply wseq | apply zreg | apply thenQ_n | apply thenQ_r | apply thenQ_e | apply znil | apply wret | apply bodyQ_r | apply wblk | apply blkQ_n | apply blkQ_r | apply wskip | apply wexit)
 | (with_reducible apply zcmp); rfl; exact tk; rfl; rfl; rfl
 | (with_reducible apply zcs); (iterate 10 rfl); (first | exact slices_IndexFunc_int_neg | exact slices_IndexFunc_int_nos | exact slices_IndexFunc_int_wo); exact fun _ => rfl; exact fun _ => rfl; rfl; rfl; rfl; rfl
 | fail)
  all_goals first
    | exact endY [0] rfl rfl rfl rfl rfl rfl (by assumption)
    | exact endN [0] rfl rfl rfl rfl rfl rfl (by assumption)
    | (exfalso; omega)
set_option maxHeartbeats 4000000 in
theorem impl_sumOf_w {ws : List Int} (hb : ∀ x ∈ ws, inP x 0 1000000000000000) (hl : (ws.length : Int) ≤ 1000) : FC Tryz.prog 139 [.c (.row 0 0 ws.length)] ([ro 3 ws]) (I (sumF id ws)) ([ro 3 ws]) := by
  refine fent tk 17 [.tmp 2] Tryz.func139 (by kernel_rfl) rfl rfl rfl rfl rfl rfl rfl ?_
  repeat' (first
 | (with_reducible apply zds); exact tk; rfl; rfl; rfl; rfl; rfl
 | (with_reducible apply zd); rfl; exact tk; rfl
 | (with_reducible first | intro _ | apply wseq | apply zreg | apply thenQ_n | apply thenQ_r | apply thenQ_e | apply znil | apply wret | apply bodyQ_r | apply wblk | apply blkQ_n | apply blkQ_r | apply wskip | apply wexit)
 | fail)
  refine wlp (X := Int × Int) [6, 7] [0] (fun x => [(8, I x.1), (3, I x.2)]) (fun _ => []) (fun x => (0 ≤ x.1 ∧ x.1 ≤ ws.length) ∧ x.2 = sumF id (pf ws x.1)) (fun x => (ws.length - x.1).toNat) (0, 0) ⟨by dsimp only; omega, rfl⟩ rfl rfl (fun _ => rfl) (fun _ => rfl) ⟨rfl, rfl, rfl, rfl, rfl, rfl, rfl, rfl⟩ (fun x hx => ?_)
  obtain ⟨i, n⟩ := x
  obtain ⟨h0, hn⟩ := hx
  dsimp only at h0 hn ⊢
  have hbd := ws_bd hb h0
  rw [← hn] at hbd
  have hm := fun (h : i < ws.length) => (by have := hb _ (rd_mem ⟨h0.1, h⟩); unfold inP at this; exact this : 0 ≤ rd ws i ∧ rd ws i ≤ 1000000000000000)
  repeat' (first
 | (with_reducible apply zds); exact tk; rfl; rfl; rfl; rfl; rfl
 | (with_reducible apply zd); rfl; exact tk; rfl
 | (with_reducible apply zar); rfl; rfl; rfl; rfl; (have h1 := hm (by assumption); omega); rfl; rfl
 | (with_reducible first | intro _ | apply wseq | apply zreg | apply thenQ_n | apply thenQ_r | apply thenQ_e | apply znil | apply wret | apply bodyQ_r | apply wblk | apply blkQ_n | apply blkQ_r | apply wskip | apply wexit)
 | apply wct rfl
 | apply wcf rfl
 | (with_reducible apply blkQ_x rfl)
 | (with_reducible apply zcmp); rfl; exact tk; rfl; rfl; rfl
 | (with_reducible apply zix); rfl; exact tk; (iterate 7 rfl); (first | omega | ((try simp only [List.length_append, List.length_cons, List.length_nil, List.length_map]); (try dsimp only); omega)); rfl; rfl
 | (with_reducible apply zle); rfl; exact tk; rfl; rfl; rfl; rfl; (first | omega | ((try simp only [List.length_append, List.length_cons, List.length_nil, List.length_map]); (try dsimp only); omega)); rfl; rfl; rfl; rfl
 | fail)
  all_goals first
    | exact endR (i + 1, _) [0] ⟨rfl, rfl, rfl, rfl, rfl, rfl, rfl, rfl⟩ ⟨by dsimp only; omega, by dsimp only; rw [sumF_succ ⟨h0.1, by assumption⟩, hn]; rfl⟩ (by first | omega | (dsimp only; omega))
    | (rw [pf_all (by assumption)] at hn
       exact endI [0] rfl rfl rfl rfl rfl rfl hn.symm)
    | trace_state
set_option maxHeartbeats 4000000 in
theorem spec_l2All {ws : List Int} (hb : ∀ x ∈ ws, inP x 0 1000000000000000) (hl : (ws.length : Int) ≤ 1000) : FC Tryz.prog 303 [.c (.row 0 0 ws.length)] ([ro 3 ws]) (I (sumF id ws)) ([ro 3 ws]) := by
  refine fent tk 18 [.tmp 2] Tryz.func303 (by kernel_rfl) rfl rfl rfl rfl rfl rfl rfl ?_
  repeat' (first
 | (with_reducible apply zd); rfl; exact tk; rfl
 | (with_reducible first | intro _ | apply wseq | apply zreg | apply thenQ_n | apply thenQ_r | apply thenQ_e | apply znil | apply wret | apply bodyQ_r | apply wblk | apply blkQ_n | apply blkQ_r | apply wskip | apply wexit)
 | fail)
  refine wlp (X := Int × Int) [0] [0] (fun x => [(4, I x.1), (3, I x.2)]) (fun _ => []) (fun x => (0 ≤ x.1 ∧ x.1 ≤ ws.length) ∧ x.2 = sumF id (pf ws x.1)) (fun x => (ws.length - x.1).toNat) (0, 0) ⟨by dsimp only; omega, rfl⟩ rfl rfl (fun _ => rfl) (fun _ => rfl) ⟨rfl, rfl, rfl, rfl, rfl, rfl, rfl, rfl⟩ (fun x hx => ?_)
  obtain ⟨i, n⟩ := x
  obtain ⟨h0, hn⟩ := hx
  dsimp only at h0 hn ⊢
  have hbd := ws_bd hb h0
  rw [← hn] at hbd
  have hm := fun (h : i < ws.length) => (by have := hb _ (rd_mem ⟨h0.1, h⟩); unfold inP at this; exact this : 0 ≤ rd ws i ∧ rd ws i ≤ 1000000000000000)
  repeat' (first
 | (with_reducible apply zds); exact tk; rfl; rfl; rfl; rfl; rfl
 | (with_reducible apply zd); rfl; exact tk; rfl
 | (with_reducible apply zar); rfl; rfl; rfl; rfl; (have h1 := hm (by assumption); omega); rfl; rfl
 | (with_reducible first | intro _ | apply wseq | apply zreg | apply thenQ_n | apply thenQ_r | apply thenQ_e | apply znil | apply wret | apply bodyQ_r | apply wblk | apply blkQ_n | apply blkQ_r | apply wskip | apply wexit)
 | apply wct rfl
 | apply wcf rfl
 | (with_reducible apply blkQ_x rfl)
 | (with_reducible apply zcmp); rfl; exact tk; rfl; rfl; rfl
 | (with_reducible apply zix); rfl; exact tk; (iterate 7 rfl); (first | omega | ((try simp only [List.length_append, List.length_cons, List.length_nil, List.length_map]); (try dsimp only); omega)); rfl; rfl
 | (with_reducible apply zle); rfl; exact tk; rfl; rfl; rfl; rfl; (first | omega | ((try simp only [List.length_append, List.length_cons, List.length_nil, List.length_map]); (try dsimp only); omega)); rfl; rfl; rfl; rfl
 | fail)
  all_goals first
    | exact endR (i + 1, _) [0] ⟨rfl, rfl, rfl, rfl, rfl, rfl, rfl, rfl⟩ ⟨by dsimp only; omega, by dsimp only; rw [sumF_succ ⟨h0.1, by assumption⟩, hn]; rfl⟩ (by first | omega | (dsimp only; omega))
    | (rw [pf_all (by assumption)] at hn
       exact endI [0] rfl rfl rfl rfl rfl rfl hn.symm)
    | trace_state
set_option maxHeartbeats 4000000 in
theorem impl_WeightsOk {ws : List Int} : FC Tryz.prog 300 [.c (.row 0 0 ws.length)] ([ro 3 ws]) (B (dB (weightsOk ws))) ([ro 3 ws]) := by
  refine fent tk 14 [.tmp 2] Tryz.func300 (by kernel_rfl) rfl rfl rfl rfl rfl rfl rfl ?_
  repeat' (first
 | (with_reducible apply zds); exact tk; rfl; rfl; rfl; rfl; rfl
 | (with_reducible apply zd); rfl; exact tk; rfl
 | (with_reducible first | intro _ | apply wseq | apply zreg | apply thenQ_n | apply thenQ_r | apply thenQ_e | apply znil | apply wret | apply bodyQ_r | apply wblk | apply blkQ_n | apply blkQ_r | apply wskip | apply wexit)
 | apply wct rfl
 | apply wcf rfl
 | (with_reducible apply zcp); (iterate 10 rfl); (first | exact impl_in | exact slices_ContainsFunc_int_neg | exact slices_ContainsFunc_int_nos | exact slices_ContainsFunc_int_wo); rfl; rfl
 | (with_reducible apply zc); (iterate 10 rfl); (first | exact impl_sumOf (by assumption) | exact impl_sumOf_w (by first | assumption | exact all_of (by assumption)) (by unfold inP at *; omega)); exact fun _ => rfl; rfl; rfl; rfl
 | fail)
  all_goals first
    | exact endY [0] rfl rfl rfl rfl rfl rfl ⟨by assumption, all_of (by assumption), by assumption⟩
    | exact endN [0] rfl rfl rfl rfl rfl rfl (fun k => absurd k.1 (by assumption))
    | exact endN [0] rfl rfl rfl rfl rfl rfl (fun k => absurd k.2.2 (by assumption))
    | (have hx : ∃ x ∈ ws, ¬ inP x 0 1000000000000000 := by assumption
       exact endN [0] rfl rfl rfl rfl rfl rfl (fun k => by obtain ⟨x, hx, hn⟩ := hx; exact hn (k.2.1 x hx)))
    | trace_state
set_option maxHeartbeats 4000000 in
theorem spec_WeightsOk {ws : List Int} : FC Tryz.prog 242 [.c (.row 0 0 ws.length)] ([ro 3 ws]) (B (dB (weightsOk ws))) ([ro 3 ws]) := by
  refine fent tk 23 [.tmp 2] Tryz.func242 (by kernel_rfl) rfl rfl rfl rfl rfl rfl rfl ?_
  repeat' (first
 | (with_reducible apply zds); exact tk; rfl; rfl; rfl; rfl; rfl
 | (with_reducible apply zd); rfl; exact tk; rfl
 | (with_reducible first | intro _ | apply wseq | apply zreg | apply thenQ_n | apply thenQ_r | apply thenQ_e | apply znil | apply wret | apply bodyQ_r | apply wblk | apply blkQ_n | apply blkQ_r | apply wskip | apply wexit)
 | apply wct rfl
 | apply wcf rfl
 | (with_reducible apply zcp); (iterate 10 rfl); (first | exact spec_l1In | exact spec_l1Some); rfl; rfl
 | fail)
  all_goals first | exact endN [0] rfl rfl rfl rfl rfl rfl (fun k => absurd k.1 (by assumption)) | skip
  have hlen : inP (ws.length : Int) 1 40 := by assumption
  have hln : (ws.length : Int) ≤ 40 := hlen.2
  refine wlp (X := Int) [0] [0] (fun i => [(3, I i)]) (fun _ => []) (fun i => 0 ≤ i ∧ i ≤ ws.length ∧ ∀ j : Int, 0 ≤ j → j < i → inP (rd ws j) 0 1000000000000000) (fun i => (ws.length - i).toNat) 0 ⟨by omega, by omega, fun j h0 h1 => by omega⟩ rfl rfl (fun _ => rfl) (fun _ => rfl) ⟨rfl, rfl, rfl, rfl, rfl, rfl, rfl, rfl⟩ (fun i hi => ?_)
  obtain ⟨h0, hi, hall⟩ := hi
  by_cases hil : i < ws.length
  ·
    repeat' (first
 | (with_reducible apply zds); exact tk; rfl; rfl; rfl; rfl; rfl
 | (with_reducible apply zd); rfl; exact tk; rfl
 | (with_reducible first | intro _ | apply wseq | apply zreg | apply thenQ_n | apply thenQ_r | apply thenQ_e | apply znil | apply wret | apply bodyQ_r | apply wblk | apply blkQ_n | apply blkQ_r | apply wskip | apply wexit)
 | apply wct rfl
 | apply wcf rfl
 | (with_reducible apply blkQ_x rfl)
 | (with_reducible apply zcmp); rfl; exact tk; rfl; rfl; rfl
 | (with_reducible apply zar); rfl; rfl; rfl; rfl; (first | omega | ((try simp only [List.length_append, List.length_cons, List.length_nil, List.length_map]); (try dsimp only); omega)); rfl; rfl
 | (with_reducible apply zix); rfl; exact tk; (iterate 7 rfl); (first | omega | ((try simp only [List.length_append, List.length_cons, List.length_nil, List.length_map]); (try dsimp only); omega)); rfl; rfl
 | (with_reducible apply zle); rfl; exact tk; rfl; rfl; rfl; rfl; (first | omega | ((try simp only [List.length_append, List.length_cons, List.length_nil, List.length_map]); (try dsimp only); omega)); rfl; rfl; rfl; rfl
 | (with_reducible apply zcp); (iterate 10 rfl); (first | exact spec_l1In | exact spec_l1Some); rfl; rfl
 | fail)
    all_goals first
      | exact endR (i + 1) [0] ⟨rfl, rfl, rfl, rfl, rfl, rfl, rfl, rfl⟩ ⟨by omega, by omega, all_step hall (by assumption)⟩ (by first | omega | (dsimp only; omega))
      | exact endN [0] rfl rfl rfl rfl rfl rfl (fun k => absurd (k.2.1 _ (rd_mem ⟨h0, hil⟩)) (by assumption))
      | (exfalso; contradiction)
      | trace_state
  · have hb : ∀ x ∈ ws, inP x 0 1000000000000000 := fun x hx => by
      obtain ⟨j, hj, rfl⟩ := mem_rd hx
      exact hall j hj.1 (by omega)
    repeat' (first
 | (with_reducible apply zds); exact tk; rfl; rfl; rfl; rfl; rfl
 | (with_reducible apply zd); rfl; exact tk; rfl
 | (with_reducible first | intro _ | apply wseq | apply zreg | apply thenQ_n | apply thenQ_r | apply thenQ_e | apply znil | apply wret | apply bodyQ_r | apply wblk | apply blkQ_n | apply blkQ_r | apply wskip | apply wexit)
 | apply wct rfl
 | apply wcf rfl
 | (with_reducible apply blkQ_x rfl)
 | (with_reducible apply zcmp); rfl; exact tk; rfl; rfl; rfl
 | (with_reducible apply zar); rfl; rfl; rfl; rfl; (first | omega | ((try simp only [List.length_append, List.length_cons, List.length_nil, List.length_map]); (try dsimp only); omega)); rfl; rfl
 | (with_reducible apply zix); rfl; exact tk; (iterate 7 rfl); (first | omega | ((try simp only [List.length_append, List.length_cons, List.length_nil, List.length_map]); (try dsimp only); omega)); rfl; rfl
 | (with_reducible apply zle); rfl; exact tk; rfl; rfl; rfl; rfl; (first | omega | ((try simp only [List.length_append, List.length_cons, List.length_nil, List.length_map]); (try dsimp only); omega)); rfl; rfl; rfl; rfl
 | (with_reducible apply zcp); (iterate 10 rfl); (first | exact spec_l1In | exact spec_l1Some); rfl; rfl
 | (with_reducible apply zc); (iterate 10 rfl); exact spec_l2All (by first | assumption | exact all_of (by assumption)) (by unfold inP at *; omega); exact fun _ => rfl; rfl; rfl; rfl
 | fail)
    all_goals first
      | exact endY [0] rfl rfl rfl rfl rfl rfl ⟨hlen, hb, by assumption⟩
      | exact endN [0] rfl rfl rfl rfl rfl rfl (fun k => absurd k.2.2 (by assumption))
      | (exfalso; contradiction)
      | trace_state
set_option maxHeartbeats 4000000 in
theorem impl_shareable {t : Int} {ws : List Int} : FC Tryz.prog 238 [I t, .c (.row 0 0 ws.length)] ([ro 3 ws]) (B (dB (shareable t ws))) ([ro 3 ws]) := by
  refine fent tk 11 [.tmp 4] Tryz.func238 (by kernel_rfl) rfl rfl rfl rfl rfl rfl rfl ?_
  repeat' (first
 | (with_reducible apply zds); exact tk; rfl; rfl; rfl; rfl; rfl
 | (with_reducible apply zd); rfl; exact tk; rfl
 | (with_reducible first | intro _ | apply wseq | apply zreg | apply thenQ_n | apply thenQ_r | apply thenQ_e | apply znil | apply wret | apply bodyQ_r | apply wblk | apply blkQ_n | apply blkQ_r | apply wskip | apply wexit)
 | (with_reducible apply zcp); (iterate 10 rfl); (first | exact impl_WeightsOk | exact impl_in); rfl; rfl
 | fail)
  all_goals first
    | exact endY [0] rfl rfl rfl rfl rfl rfl ⟨by assumption, by assumption⟩
    | exact endN [0] rfl rfl rfl rfl rfl rfl (fun k => absurd k.1 (by assumption))
    | exact endN [0] rfl rfl rfl rfl rfl rfl (fun k => absurd k.2 (by assumption))
    | trace_state
set_option maxHeartbeats 4000000 in
theorem impl_ShareQuota {t i : Int} {ws : List Int} (h : shareable t ws) (hi : 0 ≤ i ∧ i < ws.length) : FC Tryz.prog 239 [I t, .c (.row 0 0 ws.length), I i] ([ro 3 ws]) (.tup [I (t * rd ws i / sumF id ws), I (t * rd ws i % sumF id ws), B true]) ([ro 3 ws]) := by
  refine fent tk 32 [.tmp 6, .tmp 7, .tmp 8] Tryz.func239 (by kernel_rfl) rfl rfl rfl rfl rfl rfl rfl ?_
  have hw := h.1
  have ht := h.2
  have hb := h.1.2.1
  have hmd := h.md hi
  have hln := h.1.1
  have hii : inP i 0 (ws.length - 1) := ⟨by omega, by omega⟩
  unfold inP at hln
  repeat' (first
 | (intro h9; exfalso; first | contradiction | omega)
 | (with_reducible apply zds); exact tk; rfl; rfl; rfl; rfl; rfl
 | (with_reducible apply zd); rfl; exact tk; rfl
 | (with_reducible first | intro _ | apply wseq | apply zreg | apply thenQ_n | apply thenQ_r | apply thenQ_e | apply znil | apply wret | apply bodyQ_r | apply wblk | apply blkQ_n | apply blkQ_r | apply wskip | apply wexit)
 | apply wcf rfl
 | (with_reducible apply zar); rfl; rfl; rfl; rfl; (first | omega | ((try simp only [List.length_append, List.length_cons, List.length_nil, List.length_map]); (try dsimp only); omega)); rfl; rfl
 | (with_reducible apply zix); rfl; exact tk; (iterate 7 rfl); (first | omega | ((try simp only [List.length_append, List.length_cons, List.length_nil, List.length_map]); (try dsimp only); omega)); rfl; rfl
 | (with_reducible apply zle); rfl; exact tk; rfl; rfl; rfl; rfl; (first | omega | ((try simp only [List.length_append, List.length_cons, List.length_nil, List.length_map]); (try dsimp only); omega)); rfl; rfl; rfl; rfl
 | refine zdq (id := 3) rfl (by kernel_rfl) [(.p, 0), (.p, 1), (.p, 2), (.p, 3), (.p, 5), (.t, 4), (.o, 6), (.o, 7), (.p, 8), (.p, 9), (.p, 10), (.p, 11), (.p, 12), (.p, 13)] [] (by kernel_rfl) rfl ?_
 | (with_reducible apply zcp); (iterate 10 rfl); (first | exact impl_shareable | exact impl_in); rfl; rfl
 | (with_reducible apply zc); (iterate 10 rfl); (first | exact impl_sumOf (by assumption) | exact impl_sumOf_w (by first | assumption | exact all_of (by assumption)) (by unfold inP at *; omega) | exact impl_MulDiv_ok (by first | assumption | omega) | exact impl_MulDiv_no (by assumption)); exact fun _ => rfl; rfl; rfl; rfl
 | fail)
  all_goals first | exact endV [0] rfl rfl rfl rfl rfl rfl | (exfalso; contradiction) | trace_state
set_option maxHeartbeats 4000000 in
theorem spec_ShareQuota {t i : Int} {ws : List Int} (h : shareable t ws) (hi : 0 ≤ i ∧ i < ws.length) : FC Tryz.prog 243 [I t, .c (.row 0 0 ws.length), I i] ([ro 3 ws]) (.tup [I (t * rd ws i / sumF id ws), I (t * rd ws i % sumF id ws), B true]) ([ro 3 ws]) := by
  refine fent tk 36 [.tmp 6, .tmp 7, .tmp 8] Tryz.func243 (by kernel_rfl) rfl rfl rfl rfl rfl rfl rfl ?_
  have hw := h.1
  have ht := h.2
  have hb := h.1.2.1
  have hmd := h.md hi
  have hln := h.1.1
  have hii : inP i 0 (ws.length - 1) := ⟨by omega, by omega⟩
  unfold inP at hln
  repeat' (first
 | (intro h9; exfalso; first | contradiction | omega)
 | (with_reducible apply zds); exact tk; rfl; rfl; rfl; rfl; rfl
 | (with_reducible apply zd); rfl; exact tk; rfl
 | (with_reducible first | intro _ | apply wseq | apply zreg | apply thenQ_n | apply thenQ_r | apply thenQ_e | apply znil | apply wret | apply bodyQ_r | apply wblk | apply blkQ_n | apply blkQ_r | apply wskip | apply wexit)
 | apply wcf rfl
 | (with_reducible apply zar); rfl; rfl; rfl; rfl; (first | omega | ((try simp only [List.length_append, List.length_cons, List.length_nil, List.length_map]); (try dsimp only); omega)); rfl; rfl
 | (with_reducible apply zix); rfl; exact tk; (iterate 7 rfl); (first | omega | ((try simp only [List.length_append, List.length_cons, List.length_nil, List.length_map]); (try dsimp only); omega)); rfl; rfl
 | (with_reducible apply zle); rfl; exact tk; rfl; rfl; rfl; rfl; (first | omega | ((try simp only [List.length_append, List.length_cons, List.length_nil, List.length_map]); (try dsimp only); omega)); rfl; rfl; rfl; rfl
 | refine zdq (id := 3) rfl (by kernel_rfl) [(.p, 0), (.p, 1), (.p, 2), (.p, 3), (.p, 5), (.t, 4), (.o, 6), (.o, 7), (.p, 8), (.p, 9), (.p, 10), (.p, 11), (.p, 12), (.p, 13)] [] (by kernel_rfl) rfl ?_
 | (with_reducible apply zcp); (iterate 10 rfl); (first | exact spec_WeightsOk | exact spec_l1Some | exact spec_l1In); rfl; rfl
 | (with_reducible apply zc); (iterate 10 rfl); (first | exact spec_l2All (by first | assumption | exact all_of (by assumption)) (by unfold inP at *; omega) | exact spec_MulDiv_ok (by first | assumption | omega) | exact spec_MulDiv_no (by assumption)); exact fun _ => rfl; rfl; rfl; rfl
 | fail)
  all_goals first | exact endV [0] rfl rfl rfl rfl rfl rfl | (exfalso; contradiction) | trace_state
end Go.Proofs.YtgehbhkfehmdkaaGreat.Sh
namespace Go.Proofs.YtgehbhkfehmdkaaGreat.Sh
open Go.RowKit
set_option linter.unusedVariables false
set_option linter.unusedSimpArgs false
def vO (r n : Nat) : Option AO := some ⟨false, 37, 1, .mx [.row r 0 n]⟩
noncomputable def stb (g : Int → Int) (l : List Int) (a b : Int) : List Int := @dite _ (∃ l', Mv l l' a b ∧ RS g l' a b) (Classical.propDecidable _) (fun h => Classical.choose h) (fun _ => l)
theorem stb_eq {g : Int → Int} {l u : List Int} {a b : Int} (h0 : 0 ≤ a) (hb : b ≤ l.length) (h1 : Mv l u a b) (h2 : RS g u a b) : u = stb g l a b := by
  have hx : ∃ l', Mv l l' a b ∧ RS g l' a b := ⟨u, h1, h2⟩
  rw [stb, dif_pos hx]
  exact RS.uniq h0 hb h1 (Classical.choose_spec hx).1 h2 (Classical.choose_spec hx).2
theorem stb_ok {g : Int → Int} {l : List Int} {a b : Int} (h : ∃ l', Mv l l' a b ∧ RS g l' a b) : Mv l (stb g l a b) a b ∧ RS g (stb g l a b) a b := by
  rw [stb, dif_pos h]
  exact Classical.choose_spec h
def Rng (l : List Int) (n : Nat) : Prop := ∀ i : Int, 0 ≤ i → i < l.length → 0 ≤ rd l i ∧ rd l i < n
theorem Rng.mv {l u : List Int} {n : Nat} {a b : Int} (h : Rng l n) (hm : Mv l u a b) (h0 : 0 ≤ a) (hb : b ≤ l.length) : Rng u n := fun i i0 i1 => by
  rw [hm.len] at i1
  by_cases c : a ≤ i ∧ i < b
  · obtain ⟨j, hj, e⟩ := hm.to i c.1 c.2
    rw [e]
    exact h j (by omega) (by omega)
  · rw [hm.out i i0 c]
    exact h i i0 i1
theorem pick_01 {p : Prop} : 0 ≤ pick p 1 0 := by
  by_cases h : p
  · rw [pick_t h]; decide
  · rw [pick_f h]; decide
set_option maxHeartbeats 4000000 in
theorem impl_ShareOrder_1 {ov : List Int} {a b : Int} (ha : 0 ≤ a ∧ a < ov.length) (hb : 0 ≤ b ∧ b < ov.length) : FC Tryz.prog 302 [I a, I b, .c (.ptr 0 0 0)] ([vO 1 ov.length, ro 3 ov]) (sel (rd ov a > rd ov b) (I (-1)) (I (pick (rd ov a < rd ov b) 1 0))) (sel (rd ov a > rd ov b) [vO 1 ov.length, ro 3 ov] [vO 1 ov.length, ro 3 ov]) := by
  refine fent tk 26 [.tmp 5] Tryz.func302 (by kernel_rfl) rfl rfl rfl rfl rfl rfl rfl ?_
  repeat' (first
 | (with_reducible apply zds); exact tk; rfl; rfl; rfl; rfl; rfl
 | (with_reducible apply zd); rfl; exact tk; rfl
 | (with_reducible first | intro _ | apply wseq | apply zreg | apply thenQ_n | apply thenQ_r | apply thenQ_e | apply znil | apply wret | apply bodyQ_r | apply wblk | apply blkQ_n | apply blkQ_r | apply wskip | apply wexit)
 | apply wct rfl
 | apply wcf rfl
 | (with_reducible apply zcmp); rfl; exact tk; rfl; rfl; rfl
 | (with_reducible apply zix); rfl; exact tk; (iterate 7 rfl); (first | omega | ((try simp only [List.length_append, List.length_cons, List.length_nil, List.length_map]); (try dsimp only); omega)); rfl; rfl
 | (with_reducible apply zle); rfl; exact tk; rfl; rfl; rfl; rfl; (first | omega | ((try simp only [List.length_append, List.length_cons, List.length_nil, List.length_map]); (try dsimp only); omega)); rfl; rfl; rfl; rfl
 | refine zdq (id := 1) rfl (by kernel_rfl) [(.p, 1), (.p, 5), (.t, 0), (.p, 2), (.t, 3), (.t, 4), (.p, 6), (.t, 7), (.p, 8), (.p, 9)] [] (by kernel_rfl) rfl ?_
 | refine zdq (id := 3) rfl (by kernel_rfl) [(.p, 1), (.p, 5), (.t, 0), (.p, 2), (.t, 3), (.t, 4), (.p, 6), (.t, 7), (.p, 8), (.p, 9)] [] (by kernel_rfl) rfl ?_
 | fail)
  all_goals first
    | exact endT (by assumption) [0, 1] rfl rfl rfl rfl rfl rfl
    | (refine endG (X' := I 1) (hs' := [vO 1 ov.length, ro 3 ov]) [0, 1] rfl rfl rfl rfl rfl rfl ?_ ?_
       · rw [sel_f (by assumption), pick_t (by assumption)]
       · rw [sel_f (by assumption)])
    | (refine endG (X' := I 0) (hs' := [vO 1 ov.length, ro 3 ov]) [0, 1] rfl rfl rfl rfl rfl rfl ?_ ?_
       · rw [sel_f (by assumption), pick_f (by assumption)]
       · rw [sel_f (by assumption)])
    | trace_state
set_option maxHeartbeats 4000000 in
theorem slices_insertionSortCmpFunc_int {l ov : List Int} {z : Nat} {a b : Int} (hz : l.length = z) (h0 : 0 ≤ a ∧ a ≤ b) (hb : b ≤ l.length ∧ l.length ≤ 1000) (hr : Rng l ov.length) (hs : ∀ i j : Int, a ≤ i → i < j → j < b → rd l i < rd l j) : FC Tryz.prog 339 [.c (.row 0 0 z), I a, I b, .c (.fn 302 [(1, 0, 0)])] ([ow 3 l, vO 2 ov.length, ro 3 ov]) (.tup []) ([ow 3 (stb (rd ov) l a b), vO 2 ov.length, ro 3 ov]) := by
  refine fent tk 53 [] Tryz.func339 (by kernel_rfl) rfl rfl rfl rfl rfl rfl rfl ?_
  repeat' (first
 | (with_reducible apply zd); rfl; exact tk; rfl
 | (with_reducible first | intro _ | apply wseq | apply zreg | apply thenQ_n | apply thenQ_r | apply thenQ_e | apply znil | apply wret | apply bodyQ_r | apply wblk | apply blkQ_n | apply blkQ_r | apply wskip | apply wexit)
 | (with_reducible apply zar); rfl; rfl; rfl; rfl; (first | omega | ((try simp only [List.length_append, List.length_cons, List.length_nil, List.length_map]); (try dsimp only); omega)); rfl; rfl
 | fail)
  refine wlp (X := Int × List Int) [0, 1, 2, 3] [0, 1, 2] (fun x => [(8, I x.1)]) (fun x => [(0, ow 3 x.2)]) (fun x => (a + 1 ≤ x.1 ∧ (x.1 ≤ b ∨ x.1 = a + 1 ∧ x.2 = l)) ∧ Mv l x.2 a x.1 ∧ RS (rd ov) x.2 a x.1) (fun x => (b - x.1).toNat) (a + 1, l) ⟨⟨by dsimp only; omega, .inr ⟨rfl, rfl⟩⟩, .refl _ _ _, fun p q k0 k1 k2 => by dsimp only at k2; omega⟩ rfl rfl (fun _ => rfl) (fun _ => rfl) ⟨rfl, rfl, rfl, rfl, rfl, rfl, rfl, rfl⟩ (fun x hx => ?_)
  obtain ⟨i, u⟩ := x
  obtain ⟨⟨h1, h2⟩, hm, hrs⟩ := hx
  dsimp only at h1 h2 hm hrs ⊢
  have hul : u.length = l.length := hm.len
  by_cases hib : i < b
  rotate_left
  ·
    have hst : u = stb (rd ov) l a b := by
      rcases h2 with h | ⟨h, e⟩
      · rw [show i = b from by omega] at hm hrs
        exact stb_eq h0.1 hb.1 hm hrs
      · rw [e]
        exact stb_eq h0.1 hb.1 (.refl _ _ _) (fun p q k0 k1 k2 => by omega)
    repeat' (first
 | (intro h9; exfalso; first | contradiction | omega)
 | (with_reducible apply zds); exact tk; rfl; rfl; rfl; rfl; rfl
 | (with_reducible first | intro _ | apply wseq | apply zreg | apply thenQ_n | apply thenQ_r | apply thenQ_e | apply znil | apply wret | apply bodyQ_r | apply wblk | apply blkQ_n | apply blkQ_r | apply wskip | apply wexit)
 | apply wcf rfl
 | (with_reducible apply blkQ_x rfl)
 | (with_reducible apply zcmp); rfl; exact tk; rfl; rfl; rfl
 | fail)
    all_goals
      rw [hst]
      exact endV [0, 1, 2] rfl rfl rfl rfl rfl rfl
  have hru : Rng u ov.length := by
    rcases h2 with h | ⟨h, e⟩
    · exact hr.mv hm h0.1 (by omega)
    · rw [e]; exact hr
  have hlt : ∀ p : Int, a ≤ p → p < i → rd u p < rd u i := fun p k0 k1 => by
    obtain ⟨j, hj, e⟩ := hm.to p k0 k1
    rw [e, hm.out i (by omega) (by omega)]
    exact hs j i hj.1 hj.2 hib
  have hin : InI (rd ov) u u a i i := .init ⟨h0.1, by omega, by omega⟩ hrs hlt
  repeat' (first
 | (intro h9; exfalso; first | contradiction | omega)
 | (with_reducible apply zds); exact tk; rfl; rfl; rfl; rfl; rfl
 | (with_reducible first | intro _ | apply wseq | apply zreg | apply thenQ_n | apply thenQ_r | apply thenQ_e | apply znil | apply wret | apply bodyQ_r | apply wblk | apply blkQ_n | apply blkQ_r | apply wskip | apply wexit)
 | apply wct rfl
 | (with_reducible apply zcmp); rfl; exact tk; rfl; rfl; rfl
 | fail)
  refine wlp (X := Int × List Int) [0, 1, 2, 3, 8] [0, 1, 2] (fun x => [(9, I x.1)]) (fun x => [(0, ow 3 x.2)]) (fun x => InI (rd ov) u x.2 a i x.1) (fun x => (x.1 - a).toNat) (i, u) hin rfl rfl (fun _ => rfl) (fun _ => rfl) ⟨rfl, rfl, rfl, rfl, rfl, rfl, rfl, rfl⟩ (fun x hx => ?_)
  obtain ⟨j, v⟩ := x
  dsimp only at hx ⊢
  have hjb := hx.bnd
  have hvl : v.length = u.length := hx.mv.len
  have hrv := hru.mv hx.mv h0.1 (by omega)
  have hj0 := hrv j (by omega) (by omega)
  have hj1 := fun (h : a < j) => hrv (j - 1) (by omega) (by omega)
  have hpk : 0 ≤ pick (rd ov (rd v j) < rd ov (rd v (j - 1))) 1 0 := pick_01
  have hfin := fun (hq : j = a ∨ ¬ rd ov (rd v j) > rd ov (rd v (j - 1))) => (⟨⟨by omega, .inl (by omega)⟩, (hm.wide h0.1 (Int.le_refl _) (by omega)).trans hx.mv, hx.fin hq⟩ : (a + 1 ≤ i + 1 ∧ (i + 1 ≤ b ∨ i + 1 = a + 1 ∧ v = l)) ∧ Mv l v a (i + 1) ∧ RS (rd ov) v a (i + 1))
  repeat' (first
 | (intro h9; exfalso; first | contradiction | omega)
 | (with_reducible apply zds); exact tk; rfl; rfl; rfl; rfl; rfl
 | (with_reducible apply zd); rfl; exact tk; rfl
 | (with_reducible apply zcs); (iterate 10 rfl); exact impl_ShareOrder_1 (by omega) (by omega); exact fun _ => rfl; exact fun _ => rfl; rfl; rfl; rfl; rfl
 | (with_reducible apply zix); rfl; exact tk; (iterate 7 rfl); (first | omega | (simp only [upd_len]; omega)); rfl; rfl
 | (with_reducible apply zle); rfl; exact tk; rfl; rfl; rfl; rfl; (first | omega | (simp only [upd_len]; omega)); rfl; rfl; rfl; rfl
 | (with_reducible apply zse); rfl; exact tk; (iterate 6 rfl); (first | omega | (simp only [upd_len]; omega)); rfl; rfl; rfl; rfl; rfl
 | (with_reducible first | intro _ | apply wseq | apply zreg | apply thenQ_n | apply thenQ_r | apply thenQ_e | apply znil | apply wret | apply bodyQ_r | apply wblk | apply blkQ_n | apply blkQ_r | apply wskip | apply wexit)
 | apply wct rfl
 | apply wcf rfl
 | (with_reducible apply blkQ_x rfl)
 | (with_reducible apply zcmp); rfl; exact tk; rfl; rfl; rfl
 | (with_reducible apply zar); rfl; rfl; rfl; rfl; (first | omega | ((try simp only [List.length_append, List.length_cons, List.length_nil, List.length_map]); (try dsimp only); omega)); rfl; rfl
 | refine zdq (id := 4) rfl (by kernel_rfl) [(.p, 0), (.p, 1), (.p, 2), (.p, 3), (.p, 4), (.p, 5), (.p, 6), (.p, 7), (.p, 9), (.p, 10), (.p, 11), (.p, 12), (.t, 8), (.t, 13), (.o, 14), (.p, 15), (.p, 16)] [] (by kernel_rfl) rfl ?_
 | refine zdq (id := 6) rfl (by kernel_rfl) [(.p, 0), (.p, 1), (.p, 2), (.p, 3), (.p, 4), (.p, 5), (.p, 6), (.p, 7), (.p, 8), (.p, 10), (.p, 11), (.p, 12), (.t, 9), (.t, 13), (.p, 14), (.l, 15), (.p, 16), (.l, 17)] [15, 17] (by kernel_rfl) rfl ?_
 | fail)
  all_goals first
    | exact endR (j - 1, swp v j (j - 1)) [0, 1, 2] ⟨rfl, rfl, rfl, rfl, rfl, rfl, rfl, rfl⟩ (hx.step (by omega) (by assumption)) (by first | omega | (dsimp only; omega))
    | exact endR (i + 1, v) [0, 1, 2] ⟨rfl, rfl, rfl, rfl, rfl, rfl, rfl, rfl⟩ (hfin (by first | exact .inl (by omega) | exact .inr (by assumption))) (by first | omega | (dsimp only; omega))
    | (exfalso; omega)
    | trace_state
end Go.Proofs.YtgehbhkfehmdkaaGreat.Sh
namespace Go.Proofs.YtgehbhkfehmdkaaGreat.Sh
open Go.RowKit
set_option linter.unusedVariables false
set_option linter.unusedSimpArgs false
set_option maxHeartbeats 4000000 in
theorem slices_swapRangeCmpFunc_int {l ov : List Int} {z : Nat} {a b n : Int} (hz : l.length = z) (h0 : 0 ≤ a ∧ 0 ≤ n ∧ a + n ≤ b) (hb : b + n ≤ l.length ∧ l.length ≤ 1000) : FC Tryz.prog 362 [.c (.row 0 0 z), I a, I b, I n, .c (.fn 302 [(1, 0, 0)])] ([ow 3 l, vO 2 ov.length, ro 3 ov]) (.tup []) ([ow 3 (swr l a b n), vO 2 ov.length, ro 3 ov]) := by
  refine fent tk 38 [] Tryz.func362 (by kernel_rfl) rfl rfl rfl rfl rfl rfl rfl ?_
  repeat' (first
 | (with_reducible apply zd); rfl; exact tk; rfl
 | (with_reducible first | intro _ | apply wseq | apply zreg | apply thenQ_n | apply thenQ_r | apply thenQ_e | apply znil | apply wret | apply bodyQ_r | apply wblk | apply blkQ_n | apply blkQ_r | apply wskip | apply wexit)
 | fail)
  refine wlp (X := Int) [0, 1, 2, 3] [0, 1, 2] (fun i => [(10, I i)]) (fun i => [(0, ow 3 (swr l a b i))]) (fun i => 0 ≤ i ∧ i ≤ n) (fun i => (n - i).toNat) 0 ⟨by omega, by omega⟩ rfl rfl (fun _ => rfl) (fun _ => rfl) (by rw [swr_z]; exact ⟨rfl, rfl, rfl, rfl, rfl, rfl, rfl, rfl⟩) (fun i hi => ?_)
  have hml := swr_len (l := l) (x := a) (y := b) (n := i)
  by_cases hin : i < n
  rotate_left
  ·
    obtain rfl : i = n := by omega
    repeat' (first
 | (intro h9; exfalso; first | contradiction | omega)
 | (with_reducible apply zds); exact tk; rfl; rfl; rfl; rfl; rfl
 | (with_reducible first | intro _ | apply wseq | apply zreg | apply thenQ_n | apply thenQ_r | apply thenQ_e | apply znil | apply wret | apply bodyQ_r | apply wblk | apply blkQ_n | apply blkQ_r | apply wskip | apply wexit)
 | apply wcf rfl
 | (with_reducible apply blkQ_x rfl)
 | (with_reducible apply zcmp); rfl; exact tk; rfl; rfl; rfl
 | fail)
    all_goals exact endV [0, 1, 2] rfl rfl rfl rfl rfl rfl
  have hst : upd (upd (swr l a b i) (a + i) (rd (swr l a b i) (b + i))) (b + i) (rd (swr l a b i) (a + i)) = swr l a b (i + 1) := swr_succ ⟨h0.1, hi.1, by omega, by omega⟩
  repeat' (first
 | (intro h9; exfalso; first | contradiction | omega)
 | (with_reducible apply zds); exact tk; rfl; rfl; rfl; rfl; rfl
 | (with_reducible apply zd); rfl; exact tk; rfl
 | (with_reducible apply zix); rfl; exact tk; (iterate 7 rfl); (first | omega | (simp only [upd_len]; omega)); rfl; rfl
 | (with_reducible apply zle); rfl; exact tk; rfl; rfl; rfl; rfl; (first | omega | (simp only [upd_len]; omega)); rfl; rfl; rfl; rfl
 | (with_reducible apply zse); rfl; exact tk; (iterate 6 rfl); (first | omega | (simp only [upd_len]; omega)); rfl; rfl; rfl; rfl; rfl
 | (with_reducible first | intro _ | apply wseq | apply zreg | apply thenQ_n | apply thenQ_r | apply thenQ_e | apply znil | apply wret | apply bodyQ_r | apply wblk | apply blkQ_n | apply blkQ_r | apply wskip | apply wexit)
 | apply wct rfl
 | (with_reducible apply zcmp); rfl; exact tk; rfl; rfl; rfl
 | (with_reducible apply zar); rfl; rfl; rfl; rfl; (first | omega | ((try simp only [List.length_append, List.length_cons, List.length_nil, List.length_map]); (try dsimp only); omega)); rfl; rfl
 | refine zdq (id := 3) rfl (by kernel_rfl) [(.p, 0), (.p, 1), (.p, 2), (.p, 3), (.p, 4), (.p, 5), (.p, 6), (.p, 7), (.p, 8), (.p, 9), (.p, 10), (.p, 11), (.p, 12), (.p, 14), (.p, 15), (.p, 16), (.p, 17), (.p, 18), (.t, 13), (.t, 19), (.p, 20), (.l, 21), (.p, 22), (.l, 23)] [21, 23] (by kernel_rfl) rfl ?_
 | fail)
  all_goals first
    | (rw [hst]
       exact endR (i + 1) [0, 1, 2] ⟨rfl, rfl, rfl, rfl, rfl, rfl, rfl, rfl⟩ ⟨by omega, by omega⟩ (by first | omega | (dsimp only; omega)))
    | trace_state
set_option maxHeartbeats 4000000 in
theorem slices_rotateCmpFunc_int {l ov : List Int} {z : Nat} {a m b : Int} (hz : l.length = z) (h0 : 0 ≤ a ∧ a < m ∧ m < b) (hb : b ≤ l.length ∧ l.length ≤ 1000) : FC Tryz.prog 354 [.c (.row 0 0 z), I a, I m, I b, .c (.fn 302 [(1, 0, 0)])] ([ow 3 l, vO 2 ov.length, ro 3 ov]) (.tup []) ([ow 3 (rot l a m b), vO 2 ov.length, ro 3 ov]) := by
  refine fent tk 58 [] Tryz.func354 (by kernel_rfl) rfl rfl rfl rfl rfl rfl rfl ?_
  repeat' (first
 | (with_reducible apply zds); exact tk; rfl; rfl; rfl; rfl; rfl
 | (with_reducible apply zd); rfl; exact tk; rfl
 | (with_reducible first | intro _ | apply wseq | apply zreg | apply thenQ_n | apply thenQ_r | apply thenQ_e | apply znil | apply wret | apply bodyQ_r | apply wblk | apply blkQ_n | apply blkQ_r | apply wskip | apply wexit)
 | (with_reducible apply zar); rfl; rfl; rfl; rfl; (first | omega | ((try simp only [List.length_append, List.length_cons, List.length_nil, List.length_map]); (try dsimp only); omega)); rfl; rfl
 | fail)
  refine wlp (X := Int × Int × List Int) [0, 2, 4] [0, 1, 2] (fun x => [(10, I x.1), (11, I x.2.1)]) (fun x => [(0, ow 3 x.2.2)]) (fun x => (0 < x.1 ∧ x.1 ≤ m - a ∧ 0 < x.2.1 ∧ x.2.1 ≤ b - m) ∧ x.2.2.length = l.length ∧ rot x.2.2 (m - x.1) m (m + x.2.1) = rot l a m b) (fun x => (x.1 + x.2.1).toNat) (m - a, b - m, l) ⟨⟨by dsimp only; omega, by dsimp only; omega, by dsimp only; omega, by dsimp only; omega⟩, rfl, by dsimp only; rw [show m - (m - a) = a from by omega, show m + (b - m) = b from by omega]⟩ rfl rfl (fun _ => rfl) (fun _ => rfl) ⟨rfl, rfl, rfl, rfl, rfl, rfl, rfl, rfl⟩ (fun x hx => ?_)
  obtain ⟨i, j, v⟩ := x
  obtain ⟨⟨i1, i2, j1, j2⟩, hvl, hro⟩ := hx
  dsimp only at i1 i2 j1 j2 hvl hro ⊢
  rcases Int.lt_trichotomy i j with hij | hij | hij
  ·
    have hst : rot (swr v (m - i) (m + j - i) i) (m - i) m (m + (j - i)) = rot l a m b := by rw [rot_lt ⟨by omega, by omega, hij, by omega⟩]; exact hro
    have hsl := swr_len (l := v) (x := m - i) (y := m + j - i) (n := i)
    repeat' (first
 | (intro h9; exfalso; first | contradiction | omega)
 | (with_reducible apply zds); exact tk; rfl; rfl; rfl; rfl; rfl
 | (with_reducible apply zd); rfl; exact tk; rfl
 | (with_reducible first | intro _ | apply wseq | apply zreg | apply thenQ_n | apply thenQ_r | apply thenQ_e | apply znil | apply wret | apply bodyQ_r | apply wblk | apply blkQ_n | apply blkQ_r | apply wskip | apply wexit)
 | apply wct rfl
 | apply wcf rfl
 | (with_reducible apply zcmp); rfl; exact tk; rfl; rfl; rfl
 | (with_reducible apply zne); rfl; exact tk; rfl; rfl; rfl; rfl
 | (with_reducible apply zar); rfl; rfl; rfl; rfl; (first | omega | ((try simp only [List.length_append, List.length_cons, List.length_nil, List.length_map]); (try dsimp only); omega)); rfl; rfl
 | (with_reducible apply zcw  [true,false,false]); (iterate 10 rfl); exact slices_swapRangeCmpFunc_int (by omega) (by omega) (by omega); rfl; rfl; rfl; rfl
 | fail)
    all_goals first
      | exact endR (i, j - i, swr v (m - i) (m + j - i) i) [0, 1, 2] ⟨rfl, rfl, rfl, rfl, rfl, rfl, rfl, rfl⟩ ⟨⟨by dsimp only; omega, by dsimp only; omega, by dsimp only; omega, by dsimp only; omega⟩, by dsimp only; omega, hst⟩ (by first | omega | (dsimp only; omega))
      | (exfalso; omega)
      | trace_state
  ·
    subst hij
    have hst : swr v (m - i) m i = rot l a m b := by rw [rot_same ⟨by omega, by omega, by omega⟩]; exact hro
    repeat' (first
 | (intro h9; exfalso; first | contradiction | omega)
 | (with_reducible apply zds); exact tk; rfl; rfl; rfl; rfl; rfl
 | (with_reducible first | intro _ | apply wseq | apply zreg | apply thenQ_n | apply thenQ_r | apply thenQ_e | apply znil | apply wret | apply bodyQ_r | apply wblk | apply blkQ_n | apply blkQ_r | apply wskip | apply wexit)
 | apply wcf rfl
 | (with_reducible apply blkQ_x rfl)
 | (with_reducible apply zne); rfl; exact tk; rfl; rfl; rfl; rfl
 | (with_reducible apply zar); rfl; rfl; rfl; rfl; (first | omega | ((try simp only [List.length_append, List.length_cons, List.length_nil, List.length_map]); (try dsimp only); omega)); rfl; rfl
 | (with_reducible apply zcw  [true,false,false]); (iterate 10 rfl); exact slices_swapRangeCmpFunc_int (by omega) (by omega) (by omega); rfl; rfl; rfl; rfl
 | fail)
    all_goals first
      | (rw [hst]
         exact endV [0, 1, 2] rfl rfl rfl rfl rfl rfl)
      | (exfalso; omega)
      | trace_state
  ·
    have hst : rot (swr v (m - i) m j) (m - (i - j)) m (m + j) = rot l a m b := by rw [show m - (i - j) = m - i + j from by omega, rot_gt ⟨by omega, by omega, hij, by omega⟩]; exact hro
    have hsl := swr_len (l := v) (x := m - i) (y := m) (n := j)
    repeat' (first
 | (intro h9; exfalso; first | contradiction | omega)
 | (with_reducible apply zds); exact tk; rfl; rfl; rfl; rfl; rfl
 | (with_reducible apply zd); rfl; exact tk; rfl
 | (with_reducible first | intro _ | apply wseq | apply zreg | apply thenQ_n | apply thenQ_r | apply thenQ_e | apply znil | apply wret | apply bodyQ_r | apply wblk | apply blkQ_n | apply blkQ_r | apply wskip | apply wexit)
 | apply wct rfl
 | (with_reducible apply zcmp); rfl; exact tk; rfl; rfl; rfl
 | (with_reducible apply zne); rfl; exact tk; rfl; rfl; rfl; rfl
 | (with_reducible apply zar); rfl; rfl; rfl; rfl; (first | omega | ((try simp only [List.length_append, List.length_cons, List.length_nil, List.length_map]); (try dsimp only); omega)); rfl; rfl
 | (with_reducible apply zcw  [true,false,false]); (iterate 10 rfl); exact slices_swapRangeCmpFunc_int (by omega) (by omega) (by omega); rfl; rfl; rfl; rfl
 | fail)
    all_goals first
      | exact endR (i - j, j, swr v (m - i) m j) [0, 1, 2] ⟨rfl, rfl, rfl, rfl, rfl, rfl, rfl, rfl⟩ ⟨⟨by dsimp only; omega, by dsimp only; omega, by dsimp only; omega, by dsimp only; omega⟩, by dsimp only; omega, hst⟩ (by first | omega | (dsimp only; omega))
      | (exfalso; omega)
      | trace_state
end Go.Proofs.YtgehbhkfehmdkaaGreat.Sh
