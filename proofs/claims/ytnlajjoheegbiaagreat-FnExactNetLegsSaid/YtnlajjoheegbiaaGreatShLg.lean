/- Legs. No condition. -/
import Derived.Test.YtnlajjoheegbiaaGreatShBp
namespace Go.Proofs.YtnlajjoheegbiaaGreat.Sh
open Go.RowKit
set_option linter.unusedVariables false
set_option linter.unusedSimpArgs false
def legF (a c n : Int) : Prop := isNo a ∧ isNo c ∧ amountOk n
def legsForm (g : List Leg) : Prop := g.length ≤ 160 ∧ ∀ x ∈ g, legF x.Account x.Instr x.Amount
def legB (c : Int) (x : Leg) : Int := if x.Instr = c then x.Amount else 0
def legsSum (g : List Leg) (c : Int) : Int := sumF (legB c) g
def LegsOk (g : List Leg) : Prop := legsForm g ∧ ∀ x ∈ g, legsSum g x.Instr = 0
theorem legB_y {c : Int} {x : Leg} (h : x.Instr = c) : legB c x = x.Amount := if_pos h
theorem legB_n {c : Int} {x : Leg} (h : ¬ x.Instr = c) : legB c x = 0 := if_neg h
theorem legB_bnd {g : List Leg} (h : legsForm g) (c : Int) : ∀ x ∈ g, -1000000000000000 ≤ legB c x ∧ legB c x ≤ 1000000000000000 := fun x hx => by
  have := (h.2 x hx).2.2
  unfold amountOk inP at this
  unfold legB
  split <;> omega
set_option maxHeartbeats 4000000 in
theorem impl_legsForm_1 {a c n : Int} : FC Tryz.prog 267 [.agg [.sc (.int .i64 a), .sc (.int .i64 c), .sc (.int .i64 n)]] ([]) (B (dB (¬ legF a c n))) ([]) := by
  refine fent tk 19 [.tmp 2] Tryz.func267 (by kernel_rfl) rfl rfl rfl rfl rfl rfl rfl ?_
  repeat' (first
    | (with_reducible apply zds); exact tk; rfl; rfl; rfl; rfl; rfl
    | (with_reducible apply zd); rfl; exact tk; rfl
    | (with_reducible first | intro _ | apply wseq | apply zreg | apply thenQ_n | apply thenQ_r | apply thenQ_e | apply znil | apply wret | apply bodyQ_r | apply wblk | apply blkQ_n | apply blkQ_r | apply wskip | apply wexit)
    | (with_reducible apply zcp); rfl; rfl; rfl; rfl; rfl; rfl; rfl; rfl; rfl; rfl; (first | exact impl_isNo | exact impl_AmountOk); rfl; rfl
    | fail)
  all_goals first
    | exact endN [] rfl rfl rfl rfl rfl rfl (fun k => k ⟨by assumption, by assumption, by assumption⟩)
    | exact endY [] rfl rfl rfl rfl rfl rfl (fun k => by obtain ⟨k1, k2, k3⟩ := k; contradiction)
set_option maxHeartbeats 4000000 in
theorem slices_IndexFunc_Leg_lf {l : List Leg} : FC Tryz.prog 169 [.c (.row 0 0 l.length), .c (.fn 267 [])] ([ro 117 l]) (sel (∃ x ∈ l, ¬ legF x.Account x.Instr x.Amount) (I (fIx l (fun x => ¬ legF x.Account x.Instr x.Amount))) (I (-1))) (sel (∃ x ∈ l, ¬ legF x.Account x.Instr x.Amount) [ro 117 l] [ro 117 l]) := by
  refine fent tk 19 [.tmp 4] Tryz.func169 (by kernel_rfl) rfl rfl rfl rfl rfl rfl rfl ?_
  refine wlen l 0 rfl (fun hl => ?_)
  repeat' (first
    | (with_reducible apply zds); exact tk; rfl; rfl; rfl; rfl; rfl
    | (with_reducible apply zd); rfl; exact tk; rfl
    | (with_reducible first | intro _ | apply wseq | apply zreg | apply thenQ_n | apply thenQ_r | apply thenQ_e | apply znil | apply wret | apply bodyQ_r | apply wblk | apply blkQ_n | apply blkQ_r | apply wskip | apply wexit)
    | apply wct rfl
    | apply wcf rfl
    | (with_reducible apply blkQ_x rfl)
    | (with_reducible apply blkQ_y rfl)
    | (with_reducible apply zcmp); rfl; exact tk; rfl; rfl; rfl
    | (with_reducible apply zar); rfl; rfl; rfl; rfl; (first | omega | ((try simp only [List.length_append, List.length_cons, List.length_nil, List.length_map]); (try dsimp only); omega)); rfl; rfl
    | (with_reducible apply zix); rfl; exact tk; rfl; rfl; rfl; rfl; rfl; rfl; rfl; (first | omega | ((try simp only [List.length_append, List.length_cons, List.length_nil, List.length_map]); (try dsimp only); omega)); rfl; rfl
    | (with_reducible apply zle); rfl; exact tk; rfl; rfl; rfl; rfl; (first | omega | ((try simp only [List.length_append, List.length_cons, List.length_nil, List.length_map]); (try dsimp only); omega)); rfl; rfl; rfl; rfl
    | fail)
  refine wlp (X := Int) [0, 1, 7] [0] (fun i => [(8, I i)]) (fun _ => []) (fun i => 0 ≤ i ∧ i ≤ l.length ∧ ∀ j : Int, 0 ≤ j → j < i → ¬ (fun x => ¬ legF x.Account x.Instr x.Amount) (rd l j)) (fun i => (l.length - i).toNat) 0 ⟨by omega, by omega, fun j h0 h1 => by omega⟩ rfl rfl (fun _ => rfl) (fun _ => rfl) ⟨rfl, rfl, rfl, rfl, rfl, rfl, rfl, rfl⟩ (fun i hi => ?_)
  obtain ⟨h0, hi, hall⟩ := hi
  skip
  repeat' (first
    | (with_reducible apply zds); exact tk; rfl; rfl; rfl; rfl; rfl
    | (with_reducible apply zd); rfl; exact tk; rfl
    | (with_reducible apply zcp); rfl; rfl; rfl; rfl; rfl; rfl; rfl; rfl; rfl; rfl; exact impl_legsForm_1; rfl; rfl
    | (with_reducible first | intro _ | apply wseq | apply zreg | apply thenQ_n | apply thenQ_r | apply thenQ_e | apply znil | apply wret | apply bodyQ_r | apply wblk | apply blkQ_n | apply blkQ_r | apply wskip | apply wexit)
    | apply wct rfl
    | apply wcf rfl
    | (with_reducible apply blkQ_x rfl)
    | (with_reducible apply blkQ_y rfl)
    | (with_reducible apply zcmp); rfl; exact tk; rfl; rfl; rfl
    | (with_reducible apply zar); rfl; rfl; rfl; rfl; (first | omega | ((try simp only [List.length_append, List.length_cons, List.length_nil, List.length_map]); (try dsimp only); omega)); rfl; rfl
    | (with_reducible apply zix); rfl; exact tk; rfl; rfl; rfl; rfl; rfl; rfl; rfl; (first | omega | ((try simp only [List.length_append, List.length_cons, List.length_nil, List.length_map]); (try dsimp only); omega)); rfl; rfl
    | (with_reducible apply zle); rfl; exact tk; rfl; rfl; rfl; rfl; (first | omega | ((try simp only [List.length_append, List.length_cons, List.length_nil, List.length_map]); (try dsimp only); omega)); rfl; rfl; rfl; rfl
    | fail)
  all_goals first
    | (refine endG (X' := I i) (hs' := [ro 117 l]) [0] rfl rfl rfl rfl rfl rfl ?_ ?_
       · rw [sel_t ⟨rd l i, rd_mem ⟨by omega, by omega⟩, by assumption⟩, fIx_eq ⟨by omega, by omega⟩ hall (by assumption)]
       · rw [sel_t ⟨rd l i, rd_mem ⟨by omega, by omega⟩, by assumption⟩])
    | exact endF (no_rd (by assumption) hall) [0] rfl rfl rfl rfl rfl rfl
    | exact endR (i + 1) [0] ⟨rfl, rfl, rfl, rfl, rfl, rfl, rfl, rfl⟩ ⟨by omega, by omega, all_step hall (by assumption)⟩ (by first | omega | (dsimp only; omega))

set_option maxHeartbeats 4000000 in
theorem slices_ContainsFunc_Leg_lf {l : List Leg} : FC Tryz.prog 86 [.c (.row 0 0 l.length), .c (.fn 267 [])] ([ro 117 l]) (B (dB (∃ x ∈ l, ¬ legF x.Account x.Instr x.Amount))) ([ro 117 l]) := by
  refine fent tk 9 [.tmp 4] Tryz.func86 (by kernel_rfl) rfl rfl rfl rfl rfl rfl rfl ?_
  have hn := fIx_nn l (fun x => ¬ legF x.Account x.Instr x.Amount)
  repeat' (first
    | (with_reducible apply zds); exact tk; rfl; rfl; rfl; rfl; rfl
    | (with_reducible apply zd); rfl; exact tk; rfl
    | (with_reducible first | intro _ | apply wseq | apply zreg | apply thenQ_n | apply thenQ_r | apply thenQ_e | apply znil | apply wret | apply bodyQ_r | apply wblk | apply blkQ_n | apply blkQ_r | apply wskip | apply wexit)
    | (with_reducible apply zcmp); rfl; exact tk; rfl; rfl; rfl
    | (with_reducible apply zcs); rfl; rfl; rfl; rfl; rfl; rfl; rfl; rfl; rfl; rfl; (first | exact slices_IndexFunc_Leg_na | exact slices_IndexFunc_Leg_nz | exact slices_IndexFunc_Leg_lf); exact fun _ => rfl; exact fun _ => rfl; rfl; rfl; rfl; rfl
    | fail)
  all_goals first
    | exact endY [0] rfl rfl rfl rfl rfl rfl (by assumption)
    | exact endN [0] rfl rfl rfl rfl rfl rfl (by assumption)
    | (exfalso; omega)

set_option maxHeartbeats 4000000 in
theorem impl_legsForm {g : List Leg} : FC Tryz.prog 233 [.c (.row 0 0 g.length)] ([ro 117 g]) (B (dB (legsForm g))) ([ro 117 g]) := by
  refine fent tk 11 [.tmp 2] Tryz.func233 (by kernel_rfl) rfl rfl rfl rfl rfl rfl rfl ?_
  repeat' (first
    | (with_reducible apply zds); exact tk; rfl; rfl; rfl; rfl; rfl
    | (with_reducible apply zd); rfl; exact tk; rfl
    | (with_reducible first | intro _ | apply wseq | apply zreg | apply thenQ_n | apply thenQ_r | apply thenQ_e | apply znil | apply wret | apply bodyQ_r | apply wblk | apply blkQ_n | apply blkQ_r | apply wskip | apply wexit)
    | (with_reducible apply zcmp); rfl; exact tk; rfl; rfl; rfl
    | (with_reducible apply zcp); rfl; rfl; rfl; rfl; rfl; rfl; rfl; rfl; rfl; rfl; (first | exact slices_ContainsFunc_Leg_na | exact slices_ContainsFunc_Leg_lf); rfl; rfl
    | fail)
  all_goals first
    | exact endY [0] rfl rfl rfl rfl rfl rfl ⟨by omega, fun x hx => Classical.byContradiction fun k => absurd (⟨x, hx, k⟩ : ∃ x ∈ g, ¬ legF x.Account x.Instr x.Amount) (by assumption)⟩
    | exact endN [0] rfl rfl rfl rfl rfl rfl (fun h => by have := h.1; omega)
    | exact endN [0] rfl rfl rfl rfl rfl rfl (fun h => by obtain ⟨x, hx, k⟩ : ∃ x ∈ g, ¬ legF x.Account x.Instr x.Amount := (by assumption); exact k (h.2 x hx))
set_option maxHeartbeats 4000000 in
theorem spec_l4LegsRight {g : List Leg} : FC Tryz.prog 229 [.c (.row 0 0 g.length)] ([ro 117 g]) (B (dB (legsForm g))) ([ro 117 g]) := by
  refine fent tk 38 [.tmp 2] Tryz.func229 (by kernel_rfl) rfl rfl rfl rfl rfl rfl rfl ?_
  repeat' (first
    | (with_reducible apply zds); exact tk; rfl; rfl; rfl; rfl; rfl
    | (with_reducible apply zd); rfl; exact tk; rfl
    | (with_reducible first | intro _ | apply wseq | apply zreg | apply thenQ_n | apply thenQ_r | apply thenQ_e | apply znil | apply wret | apply bodyQ_r | apply wblk | apply blkQ_n | apply blkQ_r | apply wskip | apply wexit)
    | apply wct rfl
    | apply wcf rfl
    | (with_reducible apply blkQ_x rfl)
    | (with_reducible apply blkQ_y rfl)
    | (with_reducible apply zcmp); rfl; exact tk; rfl; rfl; rfl
    | (with_reducible apply zar); rfl; rfl; rfl; rfl; (first | omega | ((try simp only [List.length_append, List.length_cons, List.length_nil, List.length_map]); (try dsimp only); omega)); rfl; rfl
    | (with_reducible apply zix); rfl; exact tk; rfl; rfl; rfl; rfl; rfl; rfl; rfl; (first | omega | ((try simp only [List.length_append, List.length_cons, List.length_nil, List.length_map]); (try dsimp only); omega)); rfl; rfl
    | (with_reducible apply zle); rfl; exact tk; rfl; rfl; rfl; rfl; (first | omega | ((try simp only [List.length_append, List.length_cons, List.length_nil, List.length_map]); (try dsimp only); omega)); rfl; rfl; rfl; rfl
    | (with_reducible apply zcp); rfl; rfl; rfl; rfl; rfl; rfl; rfl; rfl; rfl; rfl; (first | exact spec_l3No | exact spec_AmountOk); rfl; rfl
    | fail)
  rotate_left
  · refine wlp (X := Int) [0] [0] (fun i => [(3, I i)]) (fun _ => []) (fun i => 0 ≤ i ∧ i ≤ g.length ∧ ∀ j : Int, 0 ≤ j → j < i → legF (rd g j).Account (rd g j).Instr (rd g j).Amount) (fun i => (g.length - i).toNat) 0 ⟨by omega, by omega, fun j h0 h1 => by omega⟩ rfl rfl (fun _ => rfl) (fun _ => rfl) ⟨rfl, rfl, rfl, rfl, rfl, rfl, rfl, rfl⟩ (fun i hi => ?_)
    obtain ⟨h0, hi, hall⟩ := hi
    repeat' (first
      | (with_reducible apply zds); exact tk; rfl; rfl; rfl; rfl; rfl
      | (with_reducible apply zd); rfl; exact tk; rfl
      | (with_reducible first | intro _ | apply wseq | apply zreg | apply thenQ_n | apply thenQ_r | apply thenQ_e | apply znil | apply wret | apply bodyQ_r | apply wblk | apply blkQ_n | apply blkQ_r | apply wskip | apply wexit)
      | apply wct rfl
      | apply wcf rfl
      | (with_reducible apply blkQ_x rfl)
      | (with_reducible apply blkQ_y rfl)
      | (with_reducible apply zcmp); rfl; exact tk; rfl; rfl; rfl
      | (with_reducible apply zar); rfl; rfl; rfl; rfl; (first | omega | ((try simp only [List.length_append, List.length_cons, List.length_nil, List.length_map]); (try dsimp only); omega)); rfl; rfl
      | (with_reducible apply zix); rfl; exact tk; rfl; rfl; rfl; rfl; rfl; rfl; rfl; (first | omega | ((try simp only [List.length_append, List.length_cons, List.length_nil, List.length_map]); (try dsimp only); omega)); rfl; rfl
      | (with_reducible apply zle); rfl; exact tk; rfl; rfl; rfl; rfl; (first | omega | ((try simp only [List.length_append, List.length_cons, List.length_nil, List.length_map]); (try dsimp only); omega)); rfl; rfl; rfl; rfl
      | (with_reducible apply zcp); rfl; rfl; rfl; rfl; rfl; rfl; rfl; rfl; rfl; rfl; (first | exact spec_l3No | exact spec_AmountOk); rfl; rfl
      | fail)
    all_goals first
      | exact endR (i + 1) [0] ⟨rfl, rfl, rfl, rfl, rfl, rfl, rfl, rfl⟩ ⟨by omega, by omega, all_step hall ⟨by assumption, by assumption, by assumption⟩⟩ (by first | omega | (dsimp only; omega))
      | exact endY [0] rfl rfl rfl rfl rfl rfl ⟨by omega, all_rd.1 fun j h1 h2 => hall j h1 (by omega)⟩
      | exact endN [0] rfl rfl rfl rfl rfl rfl (fun h => by obtain ⟨e1, e2, e3⟩ := h.2 _ (rd_mem (l := g) (i := i) ⟨h0, by assumption⟩); contradiction)
  all_goals exact endN [0] rfl rfl rfl rfl rfl rfl (fun h => by have := h.1; omega)
set_option maxHeartbeats 4000000 in
theorem impl_LegsOk {g : List Leg} : FC Tryz.prog 234 [.c (.row 0 0 g.length)] ([ro 117 g]) (B (dB (LegsOk g))) ([ro 117 g]) := by
  refine fent tk 36 [.tmp 2] Tryz.func234 (by kernel_rfl) rfl rfl rfl rfl rfl rfl rfl ?_
  repeat' (first
    | (with_reducible apply zds); exact tk; rfl; rfl; rfl; rfl; rfl
    | (with_reducible apply zd); rfl; exact tk; rfl
    | (with_reducible first | intro _ | apply wseq | apply zreg | apply thenQ_n | apply thenQ_r | apply thenQ_e | apply znil | apply wret | apply bodyQ_r | apply wblk | apply blkQ_n | apply blkQ_r | apply wskip | apply wexit)
    | apply wct rfl
    | apply wcf rfl
    | (with_reducible apply blkQ_x rfl)
    | (with_reducible apply blkQ_y rfl)
    | (with_reducible apply zcmp); rfl; exact tk; rfl; rfl; rfl
    | (with_reducible apply zeq); rfl; exact tk; rfl; rfl; rfl; rfl
    | (with_reducible apply zne); rfl; exact tk; rfl; rfl; rfl; rfl
    | (with_reducible apply zar); rfl; rfl; rfl; rfl; (first | omega | ((try simp only [List.length_append, List.length_cons, List.length_nil, List.length_map]); (try dsimp only); omega)); rfl; rfl
    | (with_reducible apply zix); rfl; exact tk; rfl; rfl; rfl; rfl; rfl; rfl; rfl; (first | omega | ((try simp only [List.length_append, List.length_cons, List.length_nil, List.length_map]); (try dsimp only); omega)); rfl; rfl
    | (with_reducible apply zle); rfl; exact tk; rfl; rfl; rfl; rfl; (first | omega | ((try simp only [List.length_append, List.length_cons, List.length_nil, List.length_map]); (try dsimp only); omega)); rfl; rfl; rfl; rfl
    | (with_reducible apply zse); rfl; exact tk; rfl; rfl; rfl; rfl; rfl; rfl; (first | omega | ((try simp only [List.length_append, List.length_cons, List.length_nil, List.length_map]); (try dsimp only); omega)); rfl; rfl; rfl; rfl; rfl
    | (with_reducible apply zcp); rfl; rfl; rfl; rfl; rfl; rfl; rfl; rfl; rfl; rfl; exact impl_legsForm; rfl; rfl
    | fail)
  rotate_left
  · exact endN [0] rfl rfl rfl rfl rfl rfl (fun h => absurd h.1 (by assumption))
  rename_i hf
  have hl := hf.1
  refine wlp (X := Int) [0, 11, 12] [0] (fun i => [(13, I i)]) (fun _ => []) (fun i => 0 ≤ i ∧ i ≤ g.length ∧ ∀ j : Int, 0 ≤ j → j < i → legsSum g (rd g j).Instr = 0) (fun i => (g.length - i).toNat) 0 ⟨by omega, by omega, fun j h0 h1 => by omega⟩ rfl rfl (fun _ => rfl) (fun _ => rfl) ⟨rfl, rfl, rfl, rfl, rfl, rfl, rfl, rfl⟩ (fun i hi => ?_)
  obtain ⟨h0, hi, hall⟩ := hi
  repeat' (first
    | (with_reducible apply zds); exact tk; rfl; rfl; rfl; rfl; rfl
    | (with_reducible apply zd); rfl; exact tk; rfl
    | (with_reducible first | intro _ | apply wseq | apply zreg | apply thenQ_n | apply thenQ_r | apply thenQ_e | apply znil | apply wret | apply bodyQ_r | apply wblk | apply blkQ_n | apply blkQ_r | apply wskip | apply wexit)
    | apply wct rfl
    | apply wcf rfl
    | (with_reducible apply blkQ_x rfl)
    | (with_reducible apply blkQ_y rfl)
    | (with_reducible apply zcmp); rfl; exact tk; rfl; rfl; rfl
    | (with_reducible apply zeq); rfl; exact tk; rfl; rfl; rfl; rfl
    | (with_reducible apply zne); rfl; exact tk; rfl; rfl; rfl; rfl
    | (with_reducible apply zar); rfl; rfl; rfl; rfl; (first | omega | ((try simp only [List.length_append, List.length_cons, List.length_nil, List.length_map]); (try dsimp only); omega)); rfl; rfl
    | (with_reducible apply zix); rfl; exact tk; rfl; rfl; rfl; rfl; rfl; rfl; rfl; (first | omega | ((try simp only [List.length_append, List.length_cons, List.length_nil, List.length_map]); (try dsimp only); omega)); rfl; rfl
    | (with_reducible apply zle); rfl; exact tk; rfl; rfl; rfl; rfl; (first | omega | ((try simp only [List.length_append, List.length_cons, List.length_nil, List.length_map]); (try dsimp only); omega)); rfl; rfl; rfl; rfl
    | (with_reducible apply zse); rfl; exact tk; rfl; rfl; rfl; rfl; rfl; rfl; (first | omega | ((try simp only [List.length_append, List.length_cons, List.length_nil, List.length_map]); (try dsimp only); omega)); rfl; rfl; rfl; rfl; rfl
    | (with_reducible apply zcp); rfl; rfl; rfl; rfl; rfl; rfl; rfl; rfl; rfl; rfl; exact impl_legsForm; rfl; rfl
    | fail)
  rotate_left
  · exact endY [0] rfl rfl rfl rfl rfl rfl ⟨hf, all_rd.1 fun j h1 h2 => hall j h1 (by omega)⟩
  rename_i hil
  refine wlp (X := Int × Int) [0, 4, 11, 12, 13, 17, 18] [0, 1] (fun x => [(19, I x.1), (5, I x.2)]) (fun _ => []) (fun x => (0 ≤ x.1 ∧ x.1 ≤ g.length) ∧ x.2 = legsSum (pf g x.1) (rd g i).Instr) (fun x => (g.length - x.1).toNat) (0, 0) ⟨⟨by dsimp only; omega, by dsimp only; omega⟩, rfl⟩ rfl rfl (fun _ => rfl) (fun _ => rfl) ⟨rfl, rfl, rfl, rfl, rfl, rfl, rfl, rfl⟩ (fun x hx => ?_)
  obtain ⟨k, n⟩ := x
  obtain ⟨k0, hn⟩ := hx
  dsimp only at k0 hn ⊢
  have hb := sumF_bnd (legB_bnd hf (rd g i).Instr) k0
  rw [show sumF (legB (rd g i).Instr) (pf g k) = n from hn.symm] at hb
  have hs := fun h : k < g.length => sumF_succ (f := legB (rd g i).Instr) (l := g) (i := k) ⟨k0.1, h⟩
  have hb2 := fun h : k < g.length => (hf.2 _ (rd_mem (l := g) (i := k) ⟨k0.1, h⟩)).2.2
  unfold amountOk inP at hb2
  repeat' (first
    | (with_reducible apply zds); exact tk; rfl; rfl; rfl; rfl; rfl
    | (with_reducible apply zd); rfl; exact tk; rfl
    | (with_reducible apply zar); rfl; rfl; rfl; rfl; (have h1 := hb2 (by assumption); omega); rfl; rfl
    | (with_reducible first | intro _ | apply wseq | apply zreg | apply thenQ_n | apply thenQ_r | apply thenQ_e | apply znil | apply wret | apply bodyQ_r | apply wblk | apply blkQ_n | apply blkQ_r | apply wskip | apply wexit)
    | apply wct rfl
    | apply wcf rfl
    | (with_reducible apply blkQ_x rfl)
    | (with_reducible apply blkQ_y rfl)
    | (with_reducible apply zcmp); rfl; exact tk; rfl; rfl; rfl
    | (with_reducible apply zeq); rfl; exact tk; rfl; rfl; rfl; rfl
    | (with_reducible apply zne); rfl; exact tk; rfl; rfl; rfl; rfl
    | (with_reducible apply zar); rfl; rfl; rfl; rfl; (first | omega | ((try simp only [List.length_append, List.length_cons, List.length_nil, List.length_map]); (try dsimp only); omega)); rfl; rfl
    | (with_reducible apply zix); rfl; exact tk; rfl; rfl; rfl; rfl; rfl; rfl; rfl; (first | omega | ((try simp only [List.length_append, List.length_cons, List.length_nil, List.length_map]); (try dsimp only); omega)); rfl; rfl
    | (with_reducible apply zle); rfl; exact tk; rfl; rfl; rfl; rfl; (first | omega | ((try simp only [List.length_append, List.length_cons, List.length_nil, List.length_map]); (try dsimp only); omega)); rfl; rfl; rfl; rfl
    | (with_reducible apply zse); rfl; exact tk; rfl; rfl; rfl; rfl; rfl; rfl; (first | omega | ((try simp only [List.length_append, List.length_cons, List.length_nil, List.length_map]); (try dsimp only); omega)); rfl; rfl; rfl; rfl; rfl
    | (with_reducible apply zcp); rfl; rfl; rfl; rfl; rfl; rfl; rfl; rfl; rfl; rfl; exact impl_legsForm; rfl; rfl
    | fail)
  all_goals first
    | (rename_i h e
       exact endR (k + 1, _) [0, 1] ⟨rfl, rfl, rfl, rfl, rfl, rfl, rfl, rfl⟩ ⟨⟨by dsimp only; omega, by dsimp only; omega⟩, by dsimp only; rw [legsSum, hs h, legB_y e, hn]; rfl⟩ (by first | omega | (dsimp only; omega)))
    | (rename_i h e
       exact endR (k + 1, _) [0, 1] ⟨rfl, rfl, rfl, rfl, rfl, rfl, rfl, rfl⟩ ⟨⟨by dsimp only; omega, by dsimp only; omega⟩, by dsimp only; rw [legsSum, hs h, legB_n e, hn, Int.add_zero]; rfl⟩ (by first | omega | (dsimp only; omega)))
    | (have e : n = legsSum g (rd g i).Instr := hn.trans (congrArg (fun x => legsSum x (rd g i).Instr) (pf_all (i := k) (by assumption)))
       first
       | exact endN [0] rfl rfl rfl rfl rfl rfl (fun h => absurd (e.trans (h.2 _ (rd_mem (l := g) (i := i) ⟨h0, hil⟩))) (by assumption))
       | exact endR (i + 1) [0] ⟨rfl, rfl, rfl, rfl, rfl, rfl, rfl, rfl⟩ ⟨by omega, by omega, all_step hall (e.symm.trans (by first | assumption | omega))⟩ (by first | omega | (dsimp only; omega)))
set_option maxHeartbeats 4000000 in
theorem spec_LegsOk {g : List Leg} : FC Tryz.prog 230 [.c (.row 0 0 g.length)] ([ro 117 g]) (B (dB (LegsOk g))) ([ro 117 g]) := by
  refine fent tk 41 [.tmp 2] Tryz.func230 (by kernel_rfl) rfl rfl rfl rfl rfl rfl rfl ?_
  repeat' (first
    | (with_reducible apply zds); exact tk; rfl; rfl; rfl; rfl; rfl
    | (with_reducible apply zd); rfl; exact tk; rfl
    | (with_reducible first | intro _ | apply wseq | apply zreg | apply thenQ_n | apply thenQ_r | apply thenQ_e | apply znil | apply wret | apply bodyQ_r | apply wblk | apply blkQ_n | apply blkQ_r | apply wskip | apply wexit)
    | apply wct rfl
    | apply wcf rfl
    | (with_reducible apply blkQ_x rfl)
    | (with_reducible apply blkQ_y rfl)
    | (with_reducible apply zcmp); rfl; exact tk; rfl; rfl; rfl
    | (with_reducible apply zeq); rfl; exact tk; rfl; rfl; rfl; rfl
    | (with_reducible apply zne); rfl; exact tk; rfl; rfl; rfl; rfl
    | (with_reducible apply zar); rfl; rfl; rfl; rfl; (first | omega | ((try simp only [List.length_append, List.length_cons, List.length_nil, List.length_map]); (try dsimp only); omega)); rfl; rfl
    | (with_reducible apply zix); rfl; exact tk; rfl; rfl; rfl; rfl; rfl; rfl; rfl; (first | omega | ((try simp only [List.length_append, List.length_cons, List.length_nil, List.length_map]); (try dsimp only); omega)); rfl; rfl
    | (with_reducible apply zle); rfl; exact tk; rfl; rfl; rfl; rfl; (first | omega | ((try simp only [List.length_append, List.length_cons, List.length_nil, List.length_map]); (try dsimp only); omega)); rfl; rfl; rfl; rfl
    | refine zdq (id := 10) rfl (by kernel_rfl) [(.p, 0), (.p, 1), (.p, 2), (.p, 3), (.p, 5), (.p, 6), (.p, 7), (.p, 8), (.t, 4), (.t, 9), (.p, 10)] [] (by kernel_rfl) rfl ?_
    | (with_reducible apply zcp); rfl; rfl; rfl; rfl; rfl; rfl; rfl; rfl; rfl; rfl; exact spec_l4LegsRight; rfl; rfl
    | fail)
  rotate_left
  · exact endN [0] rfl rfl rfl rfl rfl rfl (fun h => absurd h.1 (by assumption))
  rename_i hf
  have hl := hf.1
  refine wlp (X := Int) [0] [0] (fun i => [(3, I i)]) (fun _ => []) (fun i => 0 ≤ i ∧ i ≤ g.length ∧ ∀ j : Int, 0 ≤ j → j < i → legsSum g (rd g j).Instr = 0) (fun i => (g.length - i).toNat) 0 ⟨by omega, by omega, fun j h0 h1 => by omega⟩ rfl rfl (fun _ => rfl) (fun _ => rfl) ⟨rfl, rfl, rfl, rfl, rfl, rfl, rfl, rfl⟩ (fun i hi => ?_)
  obtain ⟨h0, hi, hall⟩ := hi
  repeat' (first
    | (with_reducible apply zds); exact tk; rfl; rfl; rfl; rfl; rfl
    | (with_reducible apply zd); rfl; exact tk; rfl
    | (with_reducible first | intro _ | apply wseq | apply zreg | apply thenQ_n | apply thenQ_r | apply thenQ_e | apply znil | apply wret | apply bodyQ_r | apply wblk | apply blkQ_n | apply blkQ_r | apply wskip | apply wexit)
    | apply wct rfl
    | apply wcf rfl
    | (with_reducible apply blkQ_x rfl)
    | (with_reducible apply blkQ_y rfl)
    | (with_reducible apply zcmp); rfl; exact tk; rfl; rfl; rfl
    | (with_reducible apply zeq); rfl; exact tk; rfl; rfl; rfl; rfl
    | (with_reducible apply zne); rfl; exact tk; rfl; rfl; rfl; rfl
    | (with_reducible apply zar); rfl; rfl; rfl; rfl; (first | omega | ((try simp only [List.length_append, List.length_cons, List.length_nil, List.length_map]); (try dsimp only); omega)); rfl; rfl
    | (with_reducible apply zix); rfl; exact tk; rfl; rfl; rfl; rfl; rfl; rfl; rfl; (first | omega | ((try simp only [List.length_append, List.length_cons, List.length_nil, List.length_map]); (try dsimp only); omega)); rfl; rfl
    | (with_reducible apply zle); rfl; exact tk; rfl; rfl; rfl; rfl; (first | omega | ((try simp only [List.length_append, List.length_cons, List.length_nil, List.length_map]); (try dsimp only); omega)); rfl; rfl; rfl; rfl
    | refine zdq (id := 10) rfl (by kernel_rfl) [(.p, 0), (.p, 1), (.p, 2), (.p, 3), (.p, 5), (.p, 6), (.p, 7), (.p, 8), (.t, 4), (.t, 9), (.p, 10)] [] (by kernel_rfl) rfl ?_
    | (with_reducible apply zcp); rfl; rfl; rfl; rfl; rfl; rfl; rfl; rfl; rfl; rfl; exact spec_l4LegsRight; rfl; rfl
    | fail)
  rotate_left
  · exact endY [0] rfl rfl rfl rfl rfl rfl ⟨hf, all_rd.1 fun j h1 h2 => hall j h1 (by omega)⟩
  rename_i hil
  refine wlp (X := Int × Int) [0, 3] [0] (fun x => [(5, I x.1), (4, I x.2)]) (fun _ => []) (fun x => (0 ≤ x.1 ∧ x.1 ≤ g.length) ∧ x.2 = legsSum (pf g x.1) (rd g i).Instr) (fun x => (g.length - x.1).toNat) (0, 0) ⟨⟨by dsimp only; omega, by dsimp only; omega⟩, rfl⟩ rfl rfl (fun _ => rfl) (fun _ => rfl) ⟨rfl, rfl, rfl, rfl, rfl, rfl, rfl, rfl⟩ (fun x hx => ?_)
  obtain ⟨k, n⟩ := x
  obtain ⟨k0, hn⟩ := hx
  dsimp only at k0 hn ⊢
  have hb := sumF_bnd (legB_bnd hf (rd g i).Instr) k0
  rw [show sumF (legB (rd g i).Instr) (pf g k) = n from hn.symm] at hb
  have hs := fun h : k < g.length => sumF_succ (f := legB (rd g i).Instr) (l := g) (i := k) ⟨k0.1, h⟩
  have hb2 := fun h : k < g.length => (hf.2 _ (rd_mem (l := g) (i := k) ⟨k0.1, h⟩)).2.2
  unfold amountOk inP at hb2
  repeat' (first
    | (with_reducible apply zds); exact tk; rfl; rfl; rfl; rfl; rfl
    | (with_reducible apply zd); rfl; exact tk; rfl
    | (with_reducible apply zar); rfl; rfl; rfl; rfl; (have h1 := hb2 (by assumption); omega); rfl; rfl
    | (with_reducible first | intro _ | apply wseq | apply zreg | apply thenQ_n | apply thenQ_r | apply thenQ_e | apply znil | apply wret | apply bodyQ_r | apply wblk | apply blkQ_n | apply blkQ_r | apply wskip | apply wexit)
    | apply wct rfl
    | apply wcf rfl
    | (with_reducible apply blkQ_x rfl)
    | (with_reducible apply blkQ_y rfl)
    | (with_reducible apply zcmp); rfl; exact tk; rfl; rfl; rfl
    | (with_reducible apply zeq); rfl; exact tk; rfl; rfl; rfl; rfl
    | (with_reducible apply zne); rfl; exact tk; rfl; rfl; rfl; rfl
    | (with_reducible apply zar); rfl; rfl; rfl; rfl; (first | omega | ((try simp only [List.length_append, List.length_cons, List.length_nil, List.length_map]); (try dsimp only); omega)); rfl; rfl
    | (with_reducible apply zix); rfl; exact tk; rfl; rfl; rfl; rfl; rfl; rfl; rfl; (first | omega | ((try simp only [List.length_append, List.length_cons, List.length_nil, List.length_map]); (try dsimp only); omega)); rfl; rfl
    | (with_reducible apply zle); rfl; exact tk; rfl; rfl; rfl; rfl; (first | omega | ((try simp only [List.length_append, List.length_cons, List.length_nil, List.length_map]); (try dsimp only); omega)); rfl; rfl; rfl; rfl
    | refine zdq (id := 10) rfl (by kernel_rfl) [(.p, 0), (.p, 1), (.p, 2), (.p, 3), (.p, 5), (.p, 6), (.p, 7), (.p, 8), (.t, 4), (.t, 9), (.p, 10)] [] (by kernel_rfl) rfl ?_
    | (with_reducible apply zcp); rfl; rfl; rfl; rfl; rfl; rfl; rfl; rfl; rfl; rfl; exact spec_l4LegsRight; rfl; rfl
    | fail)
  all_goals first
    | (rename_i h e
       exact endR (k + 1, _) [0] ⟨rfl, rfl, rfl, rfl, rfl, rfl, rfl, rfl⟩ ⟨⟨by dsimp only; omega, by dsimp only; omega⟩, by dsimp only; rw [legsSum, hs h, legB_y e, hn]; rfl⟩ (by first | omega | (dsimp only; omega)))
    | (rename_i h e
       exact endR (k + 1, _) [0] ⟨rfl, rfl, rfl, rfl, rfl, rfl, rfl, rfl⟩ ⟨⟨by dsimp only; omega, by dsimp only; omega⟩, by dsimp only; rw [legsSum, hs h, legB_n e, hn, Int.add_zero]; rfl⟩ (by first | omega | (dsimp only; omega)))
    | (have e : n = legsSum g (rd g i).Instr := hn.trans (congrArg (fun x => legsSum x (rd g i).Instr) (pf_all (i := k) (by assumption)))
       first
       | exact endN [0] rfl rfl rfl rfl rfl rfl (fun h => absurd (e.trans (h.2 _ (rd_mem (l := g) (i := i) ⟨h0, hil⟩))) (by assumption))
       | exact endR (i + 1) [0] ⟨rfl, rfl, rfl, rfl, rfl, rfl, rfl, rfl⟩ ⟨by omega, by omega, all_step hall (e.symm.trans (by first | assumption | omega))⟩ (by first | omega | (dsimp only; omega)))
set_option maxHeartbeats 4000000 in
theorem spec_AddIn {a b : Int} (ha : amountOk a) (hb : amountOk b) : FC Tryz.prog 231 [I a, I b] ([]) (sel (amountOk (a + b)) (.tup [I (a + b), B true]) (.tup [I 0, B false])) (sel (amountOk (a + b)) [] []) := by
  refine fent tk 18 [.tmp 4, .tmp 5] Tryz.func231 (by kernel_rfl) rfl rfl rfl rfl rfl rfl rfl ?_
  have ha2 := ha
  have hb2 := hb
  unfold amountOk inP at ha2 hb2
  repeat' (first
    | (with_reducible apply zds); exact tk; rfl; rfl; rfl; rfl; rfl
    | (with_reducible apply zd); rfl; exact tk; rfl
    | (with_reducible first | intro _ | apply wseq | apply zreg | apply thenQ_n | apply thenQ_r | apply thenQ_e | apply znil | apply wret | apply bodyQ_r | apply wblk | apply blkQ_n | apply blkQ_r | apply wskip | apply wexit)
    | (with_reducible apply zar); rfl; rfl; rfl; rfl; (first | omega | ((try simp only [List.length_append, List.length_cons, List.length_nil, List.length_map]); (try dsimp only); omega)); rfl; rfl
    | (with_reducible apply zcp); rfl; rfl; rfl; rfl; rfl; rfl; rfl; rfl; rfl; rfl; exact spec_AmountOk; rfl; rfl
    | (with_reducible apply zc); rfl; rfl; rfl; rfl; rfl; rfl; rfl; rfl; rfl; rfl; (first | exact spec_l1Told | exact spec_l1Told_n); exact fun _ => rfl; rfl; rfl; rfl
    | (with_reducible apply zcs); rfl; rfl; rfl; rfl; rfl; rfl; rfl; rfl; rfl; rfl; exact spec_l1Told_y; exact fun _ => rfl; exact fun _ => rfl; rfl; rfl; rfl; rfl
    | fail)
  all_goals first
    | (exfalso; contradiction)
    | exact endT (by assumption) [] rfl rfl rfl rfl rfl rfl
    | exact endF (by assumption) [] rfl rfl rfl rfl rfl rfl
end Go.Proofs.YtnlajjoheegbiaaGreat.Sh
