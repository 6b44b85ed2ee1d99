/- Posting in books: pieces. No condition. -/
import Derived.Test.YtnlajjoheegbiaaGreatShPo
import Derived.Test.YtnlajjoheegbiaaGreatShTr
namespace Go.Proofs.YtnlajjoheegbiaaGreat.Sh
open Go.RowKit
set_option linter.unusedVariables false
set_option linter.unusedSimpArgs false
noncomputable def pCode (n : Int) : Int := pick (n = 0) 0 (pick (n = 3) 5 (pick (n = 4) 8 (pick (n = 5) 7 1)))
set_option maxHeartbeats 4000000 in
theorem impl_postCode {n : Int} : FC Tryz.prog 187 [I n] ([]) (I (pCode n)) ([]) := by
  refine fent tk 12 [.tmp 2] Tryz.func187 (by kernel_rfl) rfl rfl rfl rfl rfl rfl rfl ?_
  repeat' (first
    | (intro h9; exfalso; first | contradiction | omega)
    | (with_reducible apply zds); exact tk; rfl; rfl; rfl; rfl; rfl
    | (with_reducible apply zd); rfl; exact tk; rfl
    | (with_reducible first | intro _ | apply wseq | apply zreg | apply thenQ_n | apply thenQ_r | apply thenQ_e | apply znil | apply wret | apply bodyQ_r | apply wblk | apply blkQ_n | apply blkQ_r | apply wskip | apply wexit)
    | apply wct rfl
    | apply wcf rfl
    | (with_reducible apply blkQ_x rfl)
    | (with_reducible apply blkQ_y rfl)
    | (with_reducible apply zeq); rfl; exact tk; rfl; rfl; rfl; rfl
    | fail)
  all_goals first
    | exact endI [] rfl rfl rfl rfl rfl rfl (by rw [pCode, pick_t (by assumption)])
    | exact endI [] rfl rfl rfl rfl rfl rfl (by rw [pCode, pick_f (by assumption), pick_t (by assumption)])
    | exact endI [] rfl rfl rfl rfl rfl rfl (by rw [pCode, pick_f (by assumption), pick_f (by assumption), pick_t (by assumption)])
    | exact endI [] rfl rfl rfl rfl rfl rfl (by rw [pCode, pick_f (by assumption), pick_f (by assumption), pick_f (by assumption), pick_t (by assumption)])
    | exact endI [] rfl rfl rfl rfl rfl rfl (by rw [pCode, pick_f (by assumption), pick_f (by assumption), pick_f (by assumption), pick_f (by assumption)])
/-- The accounts that may be short. -/
noncomputable def shA (ba : List Account) : List Int := (flt (fun a => ¬ a.Kind = 1) ba).map Account.No
theorem shA_len (ba : List Account) : (shA ba).length ≤ ba.length := by
  unfold shA
  rw [List.length_map]
  exact flt_le _ _
theorem shA_y {ba : List Account} {i : Int} (h : 0 ≤ i ∧ i < ba.length) (k : ¬ (rd ba i).Kind = 1) : shA (pf ba (i + 1)) = shA (pf ba i) ++ [(rd ba i).No] := by
  unfold shA
  rw [flt_succ h, flt_y (p := fun a : Account => ¬ a.Kind = 1) k, List.map_append]
  rfl
theorem shA_n {ba : List Account} {i : Int} (h : 0 ≤ i ∧ i < ba.length) (k : (rd ba i).Kind = 1) : shA (pf ba (i + 1)) = shA (pf ba i) := by
  unfold shA
  rw [flt_succ h, flt_n (p := fun a : Account => ¬ a.Kind = 1) (fun q => q k), List.append_nil]
set_option maxHeartbeats 4000000 in
theorem spec_l6Short {ba : List Account} {bi : List Instr} {bb : List Bal} {bl : List Lot} {bt : List Trade} {bn : Int} (hl : ba.length ≤ 1000000) : FC Tryz.prog 183 [bkV 0 ⟨ba, bi, bb, bl, bt, bn⟩] (bkR ⟨ba, bi, bb, bl, bt, bn⟩) (.c (.row 5 0 (shA ba).length)) (bkR ⟨ba, bi, bb, bl, bt, bn⟩ ++ [ow 3 (shA ba)]) := by
  refine fent tk 30 [.tmp 2] Tryz.func183 (by kernel_rfl) rfl rfl rfl rfl rfl rfl rfl ?_
  repeat' (first
    | (with_reducible apply zds); exact tk; rfl; rfl; rfl; rfl; rfl
    | (with_reducible apply zd); rfl; exact tk; rfl
    | (with_reducible first | intro _ | apply wseq | apply zreg | apply thenQ_n | apply thenQ_r | apply thenQ_e | apply znil | apply wret | apply bodyQ_r | apply wblk | apply blkQ_n | apply blkQ_r | apply wskip | apply wexit)
    | apply wct rfl
    | apply wcf rfl
    | (with_reducible apply blkQ_x rfl)
    | (with_reducible apply blkQ_y rfl)
    | (with_reducible apply zcmp); rfl; exact tk; rfl; rfl; rfl
    | (with_reducible apply zne); rfl; exact tk; rfl; rfl; rfl; rfl
    | (with_reducible apply zar); rfl; rfl; rfl; rfl; (first | omega | ((try simp only [List.length_append, List.length_cons, List.length_nil, List.length_map]); (try dsimp only); omega)); rfl; rfl
    | (with_reducible apply zix); rfl; exact tk; rfl; rfl; rfl; rfl; rfl; rfl; rfl; (first | omega | ((try simp only [List.length_append, List.length_cons, List.length_nil, List.length_map]); (try dsimp only); omega)); rfl; rfl
    | (with_reducible apply zle); rfl; exact tk; rfl; rfl; rfl; rfl; (first | omega | ((try simp only [List.length_append, List.length_cons, List.length_nil, List.length_map]); (try dsimp only); omega)); rfl; rfl; rfl; rfl
    | (with_reducible apply zlit (α := Int) (e := 3)); rfl; exact tk; rfl; rfl; rfl; rfl; rfl; rfl; rfl; rfl; rfl; rfl; rfl; rfl; rfl
    | (with_reducible apply zap); rfl; exact tk; rfl; rfl; rfl; rfl; rfl; rfl; rfl; rfl; rfl; rfl; (first | omega | ((try simp only [List.length_append, List.length_cons, List.length_nil, List.length_map]); (try dsimp only); omega)); rfl; rfl; rfl; rfl; rfl
    | fail)
  refine wlp (X := Int × List Int) [1] [0, 1, 2, 3, 4, 5, 6] (fun x => [(4, I x.1), (3, .c (.row 6 0 x.2.length))]) (fun x => [(6, ow 3 x.2)]) (fun x => (0 ≤ x.1 ∧ x.1 ≤ ba.length) ∧ x.2 = shA (pf ba x.1)) (fun x => (ba.length - x.1).toNat) (0, []) ⟨⟨by dsimp only; omega, by dsimp only; omega⟩, rfl⟩ rfl rfl (fun _ => rfl) (fun _ => rfl) ⟨rfl, rfl, rfl, rfl, rfl, rfl, rfl, rfl⟩ (fun x hx => ?_)
  obtain ⟨i, u⟩ := x
  obtain ⟨h0, hu⟩ := hx
  dsimp only at h0 hu ⊢
  have hul : u.length ≤ 1000000 := by rw [hu]; have := shA_len (pf ba i); have := pf_len h0; omega
  repeat' (first
    | (with_reducible apply zds); exact tk; rfl; rfl; rfl; rfl; rfl
    | (with_reducible apply zd); rfl; exact tk; rfl
    | (with_reducible first | intro _ | apply wseq | apply zreg | apply thenQ_n | apply thenQ_r | apply thenQ_e | apply znil | apply wret | apply bodyQ_r | apply wblk | apply blkQ_n | apply blkQ_r | apply wskip | apply wexit)
    | apply wct rfl
    | apply wcf rfl
    | (with_reducible apply blkQ_x rfl)
    | (with_reducible apply blkQ_y rfl)
    | (with_reducible apply zcmp); rfl; exact tk; rfl; rfl; rfl
    | (with_reducible apply zne); rfl; exact tk; rfl; rfl; rfl; rfl
    | (with_reducible apply zar); rfl; rfl; rfl; rfl; (first | omega | ((try simp only [List.length_append, List.length_cons, List.length_nil, List.length_map]); (try dsimp only); omega)); rfl; rfl
    | (with_reducible apply zix); rfl; exact tk; rfl; rfl; rfl; rfl; rfl; rfl; rfl; (first | omega | ((try simp only [List.length_append, List.length_cons, List.length_nil, List.length_map]); (try dsimp only); omega)); rfl; rfl
    | (with_reducible apply zle); rfl; exact tk; rfl; rfl; rfl; rfl; (first | omega | ((try simp only [List.length_append, List.length_cons, List.length_nil, List.length_map]); (try dsimp only); omega)); rfl; rfl; rfl; rfl
    | (with_reducible apply zlit (α := Int) (e := 3)); rfl; exact tk; rfl; rfl; rfl; rfl; rfl; rfl; rfl; rfl; rfl; rfl; rfl; rfl; rfl
    | (with_reducible apply zap); rfl; exact tk; rfl; rfl; rfl; rfl; rfl; rfl; rfl; rfl; rfl; rfl; (first | omega | ((try simp only [List.length_append, List.length_cons, List.length_nil, List.length_map]); (try dsimp only); omega)); rfl; rfl; rfl; rfl; rfl
    | fail)
  all_goals first
    | exact endR (i + 1, u ++ [(rd ba i).No]) [0, 1, 2, 3, 4, 5, 8] ⟨rfl, rfl, rfl, rfl, rfl, rfl, rfl, rfl⟩ ⟨⟨by dsimp only; omega, by dsimp only; omega⟩, by dsimp only; rw [shA_y ⟨h0.1, by assumption⟩ (by assumption), hu]⟩ (by first | omega | (dsimp only; omega))
    | exact endR (i + 1, u) [0, 1, 2, 3, 4, 5, 6] ⟨rfl, rfl, rfl, rfl, rfl, rfl, rfl, rfl⟩ ⟨⟨by dsimp only; omega, by dsimp only; omega⟩, by dsimp only; rw [shA_n ⟨h0.1, by assumption⟩ (by assumption), hu]⟩ (by first | omega | (dsimp only; omega))
    | (rw [show shA ba = u from by rw [hu, pf_all (by assumption)]]
       exact endV [0, 1, 2, 3, 4, 6] rfl rfl rfl rfl rfl rfl)
end Go.Proofs.YtnlajjoheegbiaaGreat.Sh
