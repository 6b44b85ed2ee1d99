/- Shares: the program. No condition. -/
import Derived.Test.YtgehbhkfehmdkaaGreatKSpShWo
namespace Go.Proofs.YtgehbhkfehmdkaaGreat.Sh
open Go.RowKit
set_option linter.unusedVariables false
set_option linter.unusedSimpArgs false
theorem rd_sub0 {l : List Int} {m k : Int} (h : 0 ≤ k ∧ k < m) : rd (sub l 0 m) k = rd l k := by
  unfold rd sub
  rw [List.getD_eq_getElem?_getD, List.getD_eq_getElem?_getD]
  show ((List.drop 0 (List.take m.toNat l))[k.toNat]?).getD _ = _
  rw [List.drop_zero, List.getElem?_take_of_lt (by omega)]
set_option maxHeartbeats 4000000 in
theorem impl_Shares {t : Int} {ws : List Int} (h : shareable t ws) : FC Tryz.prog 130 [I t, .c (.row 0 0 ws.length)] ([ro 3 ws]) (.tup [.c (.row 1 0 (shs t ws).length), B true]) ([ro 3 ws, ow 3 (shs t ws)]) := by
  refine fent tk 59 [.tmp 4, .tmp 5] Tryz.func130 (by kernel_rfl) rfl rfl rfl rfl rfl rfl rfl ?_
  have hw := h.1
  have ht := h.2
  have hln : (1 : Int) ≤ ws.length ∧ (ws.length : Int) ≤ 40 := h.1.1
  have htb : 0 ≤ t ∧ t ≤ 1000000000000000 := h.2
  repeat' (first
 | (intro h9; exfalso; first | contradiction | omega)
 | (with_reducible apply zds); exact tk; rfl; rfl; rfl; rfl; rfl
 | (with_reducible apply zd); rfl; exact tk; rfl
 | (with_reducible first | intro _ | apply wseq | apply zreg | apply thenQ_n | apply thenQ_r | apply thenQ_e | apply znil | apply wret | apply bodyQ_r | apply wblk | apply blkQ_n | apply blkQ_r | apply wskip | apply wexit)
 | apply wcf rfl
 | (with_reducible apply zlit (α := Int) (e := 3)); rfl; exact tk; (iterate 13 rfl)
 | (with_reducible apply zcp); (iterate 10 rfl); exact impl_shareable; rfl; rfl
 | fail)
  refine wlp (X := Int × List Int) [0, 1, 20] [0, 1] (fun x => [(21, I x.1), (6, .c (.row 1 0 x.2.length))]) (fun x => [(1, ow 3 x.2)]) (fun x => (0 ≤ x.1 ∧ x.1 ≤ ws.length) ∧ x.2 = pf (shQs t ws) x.1) (fun x => (ws.length - x.1).toNat) (0, []) ⟨by dsimp only; omega, rfl⟩ rfl rfl (fun _ => rfl) (fun _ => rfl) ⟨rfl, rfl, rfl, rfl, rfl, rfl, rfl, rfl⟩ (fun x hx => ?_)
  obtain ⟨i, u⟩ := x
  obtain ⟨h0, hu⟩ := hx
  dsimp only at h0 hu ⊢
  have hul : (u.length : Int) = i := by rw [hu]; exact pf_len (by rw [shQs_len]; exact h0)
  by_cases hil : i < ws.length
  ·
    have hu2 : u ++ [t * rd ws i / sumF id ws] = pf (shQs t ws) (i + 1) := by rw [shQs_succ ⟨h0.1, hil⟩, hu]
    repeat' (first
 | (intro h9; exfalso; first | contradiction | omega)
 | (with_reducible apply zds); exact tk; rfl; rfl; rfl; rfl; rfl
 | (with_reducible apply zd); rfl; exact tk; rfl
 | (with_reducible first | intro _ | apply wseq | apply zreg | apply thenQ_n | apply thenQ_r | apply thenQ_e | apply znil | apply wret | apply bodyQ_r | apply wblk | apply blkQ_n | apply blkQ_r | apply wskip | apply wexit)
 | apply wct rfl
 | (with_reducible apply zcmp); rfl; exact tk; rfl; rfl; rfl
 | (with_reducible apply zar); rfl; rfl; rfl; rfl; (first | omega | ((try simp only [List.length_append, List.length_cons, List.length_nil, List.length_map]); (try dsimp only); omega)); rfl; rfl
 | (with_reducible apply zlit (α := Int) (e := 3)); rfl; exact tk; (iterate 13 rfl)
 | (with_reducible apply zap); rfl; exact tk; (iterate 10 rfl); (first | omega | ((try simp only [List.length_append, List.length_cons, List.length_nil, List.length_map]); (try dsimp only); omega)); rfl; rfl; rfl; rfl; rfl
 | (with_reducible apply zc); (iterate 10 rfl); (first | exact impl_ShareQuota (by assumption) (by omega) | exact impl_sumOf (by assumption) | exact impl_sumOf_w (by first | assumption | exact all_of (by assumption)) (by unfold inP at *; omega)); exact fun _ => rfl; rfl; rfl; rfl
 | fail)
    all_goals first
      | exact endR (i + 1, u ++ [t * rd ws i / sumF id ws]) [0, 3] ⟨rfl, rfl, rfl, rfl, rfl, rfl, rfl, rfl⟩ ⟨by dsimp only; omega, hu2⟩ (by first | omega | (dsimp only; omega))
      | trace_state
  have hpa : pf (shQs t ws) i = shQs t ws := pf_all (by rw [shQs_len]; exact hil)
  rw [hpa] at hu
  have hb : ∀ x ∈ u, inP x 0 1000000000000000 := by rw [hu]; exact shQs_bd h
  have hmo := h.more
  have hmd : t - sumF id u = shMore t ws := by rw [hu]; rfl
  have hol := shOrd_len t ws
  repeat' (first
 | (intro h9; exfalso; first | contradiction | omega)
 | (with_reducible apply zds); exact tk; rfl; rfl; rfl; rfl; rfl
 | (with_reducible apply zd); rfl; exact tk; rfl
 | (with_reducible first | intro _ | apply wseq | apply zreg | apply thenQ_n | apply thenQ_r | apply thenQ_e | apply znil | apply wret | apply bodyQ_r | apply wblk | apply blkQ_n | apply blkQ_r | apply wskip | apply wexit)
 | apply wcf rfl
 | (with_reducible apply blkQ_x rfl)
 | (with_reducible apply zcmp); rfl; exact tk; rfl; rfl; rfl
 | (with_reducible apply zar); rfl; rfl; rfl; rfl; (first | omega | ((try simp only [List.length_append, List.length_cons, List.length_nil, List.length_map]); (try dsimp only); omega)); rfl; rfl
 | (with_reducible apply zsl); rfl; exact tk; (iterate 8 rfl); (first | omega | ((try simp only [List.length_append, List.length_cons, List.length_nil, List.length_map]); (try dsimp only); omega)); rfl; rfl; rfl; rfl; rfl
 | (with_reducible apply zc); (iterate 10 rfl); (first | exact impl_ShareQuota (by assumption) (by omega) | exact impl_sumOf (by assumption) | exact impl_sumOf_w (by first | assumption | exact all_of (by assumption)) (by unfold inP at *; omega)); exact fun _ => rfl; rfl; rfl; rfl
 | (with_reducible apply zcf); (iterate 10 rfl); exact impl_ShareOrder (by assumption); rfl; rfl; rfl; rfl; rfl
 | fail)
  rw [hmd]
  subst hu
  have hsl := sub_len (l := shOrd t ws) (a := 0) (b := shMore t ws) ⟨by omega, by omega, by omega⟩
  refine wlp (X := Int) [6, 45, 46] [0, 1, 2, 3] (fun k => [(47, I k)]) (fun k => [(1, ow 3 (incd t ws k))]) (fun k => 0 ≤ k ∧ k ≤ shMore t ws) (fun k => (shMore t ws - k).toNat) 0 ⟨by omega, by omega⟩ rfl rfl (fun _ => rfl) (fun _ => rfl) ⟨rfl, rfl, rfl, rfl, rfl, rfl, rfl, rfl⟩ (fun k k0 => ?_)
  have hil2 := incd_len t ws k
  have hql := shQs_len t ws
  by_cases hk : k < shMore t ws
  ·
    have hr := shOrd_rng (t := t) (ws := ws) (k := k) ⟨k0.1, by omega⟩
    have hb2 := incd_bd h k.toNat (by omega) _ hr.1 hr.2
    rw [show ((k.toNat : Nat) : Int) = k from by omega] at hb2
    have hrk := rd_sub0 (l := shOrd t ws) (m := shMore t ws) (k := k) ⟨k0.1, hk⟩
    have hU := (incd_succ (t := t) (ws := ws) ⟨k0.1, by omega⟩ : incd t ws (k + 1) = _).symm
    rw [← hrk] at hr hb2 hU
    repeat' (first
 | (intro h9; exfalso; first | contradiction | omega)
 | (with_reducible apply zds); exact tk; rfl; rfl; rfl; rfl; rfl
 | (with_reducible apply zd); rfl; exact tk; rfl
 | (with_reducible apply zix); rfl; exact tk; (iterate 7 rfl); (first | omega | (simp only [upd_len]; omega)); rfl; rfl
 | (with_reducible apply zle); rfl; exact tk; rfl; rfl; rfl; rfl; (first | omega | (simp only [upd_len]; omega)); rfl; rfl; rfl; rfl
 | (with_reducible apply zse); rfl; exact tk; (iterate 6 rfl); (first | omega | (simp only [upd_len]; omega)); rfl; rfl; rfl; rfl; rfl
 | (with_reducible first | intro _ | apply wseq | apply zreg | apply thenQ_n | apply thenQ_r | apply thenQ_e | apply znil | apply wret | apply bodyQ_r | apply wblk | apply blkQ_n | apply blkQ_r | apply wskip | apply wexit)
 | apply wct rfl
 | (with_reducible apply zcmp); rfl; exact tk; rfl; rfl; rfl
 | (with_reducible apply zar); rfl; rfl; rfl; rfl; (first | omega | ((try simp only [List.length_append, List.length_cons, List.length_nil, List.length_map]); (try dsimp only); omega)); rfl; rfl
 | fail)
    all_goals first
      | (rw [hU]
         exact endR (k + 1) [0, 1, 2, 3] ⟨rfl, rfl, rfl, rfl, rfl, rfl, rfl, rfl⟩ ⟨by omega, by omega⟩ (by first | omega | (dsimp only; omega)))
      | (exfalso; omega)
      | trace_state
  ·
    obtain rfl : k = shMore t ws := by omega
    have hfl : (shQs t ws).length = (shs t ws).length := by rw [shQs_len, shs_len]
    repeat' (first
 | (intro h9; exfalso; first | contradiction | omega)
 | (with_reducible apply zds); exact tk; rfl; rfl; rfl; rfl; rfl
 | (with_reducible first | intro _ | apply wseq | apply zreg | apply thenQ_n | apply thenQ_r | apply thenQ_e | apply znil | apply wret | apply bodyQ_r | apply wblk | apply blkQ_n | apply blkQ_r | apply wskip | apply wexit)
 | apply wcf rfl
 | (with_reducible apply blkQ_x rfl)
 | (with_reducible apply zcmp); rfl; exact tk; rfl; rfl; rfl
 | fail)
    all_goals first
      | (rw [hfl]
         exact endV [0, 1] rfl rfl rfl rfl rfl rfl)
      | (exfalso; omega)
      | trace_state
end Go.Proofs.YtgehbhkfehmdkaaGreat.Sh
