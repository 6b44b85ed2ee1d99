/- Legs are posted: both sides. No condition. -/
import Derived.Test.YtnlajjoheegbiaaGreatShBq
namespace Go.Proofs.YtnlajjoheegbiaaGreat.Sh
open Go.RowKit
set_option linter.unusedVariables false
set_option linter.unusedSimpArgs false
set_option maxHeartbeats 4000000 in
theorem slices_Index_int {l : List Int} {x : Int} : FC Tryz.prog 166 [.c (.row 0 0 l.length), I x] ([ro 3 l]) (sel (x ∈ l) (I (fIx l (fun y => x = y))) (I (-1))) (sel (x ∈ l) [ro 3 l] [ro 3 l]) := by
  refine fent tk 19 [.tmp 4] Tryz.func166 (by kernel_rfl) rfl rfl rfl rfl rfl rfl rfl ?_
  refine wlen l 0 rfl (fun hl => ?_)
  repeat' (first
    | (with_reducible apply zds); exact tk; rfl; rfl; rfl; rfl; rfl
    | (with_reducible apply zd); rfl; exact tk; rfl
    | (with_reducible first | intro _ | apply wseq | apply zreg | apply thenQ_n | apply thenQ_r | apply thenQ_e | apply znil | apply wret | apply bodyQ_r | apply wblk | apply blkQ_n | apply blkQ_r | apply wskip | apply wexit)
    | apply wct rfl
    | apply wcf rfl
    | (with_reducible apply blkQ_x rfl)
    | (with_reducible apply blkQ_y rfl)
    | (with_reducible apply zcmp); rfl; exact tk; rfl; rfl; rfl
    | (with_reducible apply zeq); rfl; exact tk; rfl; rfl; rfl; rfl
    | (with_reducible apply zar); rfl; rfl; rfl; rfl; (first | omega | ((try simp only [List.length_append, List.length_cons, List.length_nil, List.length_map]); (try dsimp only); omega)); rfl; rfl
    | (with_reducible apply zix); rfl; exact tk; rfl; rfl; rfl; rfl; rfl; rfl; rfl; (first | omega | ((try simp only [List.length_append, List.length_cons, List.length_nil, List.length_map]); (try dsimp only); omega)); rfl; rfl
    | (with_reducible apply zle); rfl; exact tk; rfl; rfl; rfl; rfl; (first | omega | ((try simp only [List.length_append, List.length_cons, List.length_nil, List.length_map]); (try dsimp only); omega)); rfl; rfl; rfl; rfl
    | fail)
  refine wlp (X := Int) [0, 1, 7] [0] (fun i => [(8, I i)]) (fun _ => []) (fun i => 0 ≤ i ∧ i ≤ l.length ∧ ∀ j : Int, 0 ≤ j → j < i → ¬ (fun y => x = y) (rd l j)) (fun i => (l.length - i).toNat) 0 ⟨by omega, by omega, fun j h0 h1 => by omega⟩ rfl rfl (fun _ => rfl) (fun _ => rfl) ⟨rfl, rfl, rfl, rfl, rfl, rfl, rfl, rfl⟩ (fun i hi => ?_)
  obtain ⟨h0, hi, hall⟩ := hi
  repeat' (first
    | (with_reducible apply zds); exact tk; rfl; rfl; rfl; rfl; rfl
    | (with_reducible apply zd); rfl; exact tk; rfl
    | (with_reducible first | intro _ | apply wseq | apply zreg | apply thenQ_n | apply thenQ_r | apply thenQ_e | apply znil | apply wret | apply bodyQ_r | apply wblk | apply blkQ_n | apply blkQ_r | apply wskip | apply wexit)
    | apply wct rfl
    | apply wcf rfl
    | (with_reducible apply blkQ_x rfl)
    | (with_reducible apply blkQ_y rfl)
    | (with_reducible apply zcmp); rfl; exact tk; rfl; rfl; rfl
    | (with_reducible apply zeq); rfl; exact tk; rfl; rfl; rfl; rfl
    | (with_reducible apply zar); rfl; rfl; rfl; rfl; (first | omega | ((try simp only [List.length_append, List.length_cons, List.length_nil, List.length_map]); (try dsimp only); omega)); rfl; rfl
    | (with_reducible apply zix); rfl; exact tk; rfl; rfl; rfl; rfl; rfl; rfl; rfl; (first | omega | ((try simp only [List.length_append, List.length_cons, List.length_nil, List.length_map]); (try dsimp only); omega)); rfl; rfl
    | (with_reducible apply zle); rfl; exact tk; rfl; rfl; rfl; rfl; (first | omega | ((try simp only [List.length_append, List.length_cons, List.length_nil, List.length_map]); (try dsimp only); omega)); rfl; rfl; rfl; rfl
    | fail)
  all_goals first
    | (rename_i h1 h2
       have hm : x ∈ l := h2 ▸ rd_mem ⟨h0, h1⟩
       refine endG (X' := I i) (hs' := [ro 3 l]) [0] rfl rfl rfl rfl rfl rfl ?_ ?_
       · rw [sel_t hm, fIx_eq ⟨h0, h1⟩ hall h2]
       · rw [sel_t hm])
    | exact endF (fun hm => no_rd (q := fun y => x = y) (by assumption) hall ⟨x, hm, rfl⟩) [0] rfl rfl rfl rfl rfl rfl
    | exact endR (i + 1) [0] ⟨rfl, rfl, rfl, rfl, rfl, rfl, rfl, rfl⟩ ⟨by omega, by omega, all_step hall (by assumption)⟩ (by first | omega | (dsimp only; omega))
set_option maxHeartbeats 4000000 in
theorem slices_Contains_int {l : List Int} {x : Int} : FC Tryz.prog 83 [.c (.row 0 0 l.length), I x] ([ro 3 l]) (B (dB (x ∈ l))) ([ro 3 l]) := by
  refine fent tk 9 [.tmp 4] Tryz.func83 (by kernel_rfl) rfl rfl rfl rfl rfl rfl rfl ?_
  have hn := fIx_nn l (fun y => x = y)
  repeat' (first
    | (intro h9; exfalso; first | contradiction | omega)
    | (with_reducible apply zds); exact tk; rfl; rfl; rfl; rfl; rfl
    | (with_reducible apply zd); rfl; exact tk; rfl
    | (with_reducible first | intro _ | apply wseq | apply zreg | apply thenQ_n | apply thenQ_r | apply thenQ_e | apply znil | apply wret | apply bodyQ_r | apply wblk | apply blkQ_n | apply blkQ_r | apply wskip | apply wexit)
    | (with_reducible apply zcmp); rfl; exact tk; rfl; rfl; rfl
    | (with_reducible apply zcs); rfl; rfl; rfl; rfl; rfl; rfl; rfl; rfl; rfl; rfl; exact slices_Index_int; exact fun _ => rfl; exact fun _ => rfl; rfl; rfl; rfl; rfl
    | fail)
  all_goals first
    | exact endY [0] rfl rfl rfl rfl rfl rfl (by assumption)
    | exact endN [0] rfl rfl rfl rfl rfl rfl (by assumption)
    | (exfalso; omega)
set_option maxHeartbeats 4000000 in
theorem spec_l4Has {l : List Int} {x : Int} : FC Tryz.prog 77 [.c (.row 0 0 l.length), I x] ([ro 3 l]) (B (dB (x ∈ l))) ([ro 3 l]) := by
  refine fent tk 18 [.tmp 4] Tryz.func77 (by kernel_rfl) rfl rfl rfl rfl rfl rfl rfl ?_
  refine wlen l 0 rfl (fun hl => ?_)
  repeat' (first
    | (with_reducible apply zds); exact tk; rfl; rfl; rfl; rfl; rfl
    | (with_reducible apply zd); rfl; exact tk; rfl
    | (with_reducible first | intro _ | apply wseq | apply zreg | apply thenQ_n | apply thenQ_r | apply thenQ_e | apply znil | apply wret | apply bodyQ_r | apply wblk | apply blkQ_n | apply blkQ_r | apply wskip | apply wexit)
    | apply wct rfl
    | apply wcf rfl
    | (with_reducible apply blkQ_x rfl)
    | (with_reducible apply blkQ_y rfl)
    | (with_reducible apply zcmp); rfl; exact tk; rfl; rfl; rfl
    | (with_reducible apply zeq); rfl; exact tk; rfl; rfl; rfl; rfl
    | (with_reducible apply zar); rfl; rfl; rfl; rfl; (first | omega | ((try simp only [List.length_append, List.length_cons, List.length_nil, List.length_map]); (try dsimp only); omega)); rfl; rfl
    | (with_reducible apply zix); rfl; exact tk; rfl; rfl; rfl; rfl; rfl; rfl; rfl; (first | omega | ((try simp only [List.length_append, List.length_cons, List.length_nil, List.length_map]); (try dsimp only); omega)); rfl; rfl
    | (with_reducible apply zle); rfl; exact tk; rfl; rfl; rfl; rfl; (first | omega | ((try simp only [List.length_append, List.length_cons, List.length_nil, List.length_map]); (try dsimp only); omega)); rfl; rfl; rfl; rfl
    | fail)
  refine wlp (X := Int) [0, 1] [0] (fun i => [(5, I i)]) (fun _ => []) (fun i => 0 ≤ i ∧ i ≤ l.length ∧ ∀ j : Int, 0 ≤ j → j < i → ¬ (fun y => y = x) (rd l j)) (fun i => (l.length - i).toNat) 0 ⟨by omega, by omega, fun j h0 h1 => by omega⟩ rfl rfl (fun _ => rfl) (fun _ => rfl) ⟨rfl, rfl, rfl, rfl, rfl, rfl, rfl, rfl⟩ (fun i hi => ?_)
  obtain ⟨h0, hi, hall⟩ := hi
  repeat' (first
    | (with_reducible apply zds); exact tk; rfl; rfl; rfl; rfl; rfl
    | (with_reducible apply zd); rfl; exact tk; rfl
    | (with_reducible first | intro _ | apply wseq | apply zreg | apply thenQ_n | apply thenQ_r | apply thenQ_e | apply znil | apply wret | apply bodyQ_r | apply wblk | apply blkQ_n | apply blkQ_r | apply wskip | apply wexit)
    | apply wct rfl
    | apply wcf rfl
    | (with_reducible apply blkQ_x rfl)
    | (with_reducible apply blkQ_y rfl)
    | (with_reducible apply zcmp); rfl; exact tk; rfl; rfl; rfl
    | (with_reducible apply zeq); rfl; exact tk; rfl; rfl; rfl; rfl
    | (with_reducible apply zar); rfl; rfl; rfl; rfl; (first | omega | ((try simp only [List.length_append, List.length_cons, List.length_nil, List.length_map]); (try dsimp only); omega)); rfl; rfl
    | (with_reducible apply zix); rfl; exact tk; rfl; rfl; rfl; rfl; rfl; rfl; rfl; (first | omega | ((try simp only [List.length_append, List.length_cons, List.length_nil, List.length_map]); (try dsimp only); omega)); rfl; rfl
    | (with_reducible apply zle); rfl; exact tk; rfl; rfl; rfl; rfl; (first | omega | ((try simp only [List.length_append, List.length_cons, List.length_nil, List.length_map]); (try dsimp only); omega)); rfl; rfl; rfl; rfl
    | fail)
  all_goals first
    | (rename_i h1 h2
       exact endY [0] rfl rfl rfl rfl rfl rfl (h2 ▸ rd_mem ⟨h0, h1⟩))
    | exact endN [0] rfl rfl rfl rfl rfl rfl (fun hm => no_rd (q := fun y => y = x) (by assumption) hall ⟨x, hm, rfl⟩)
    | exact endR (i + 1) [0] ⟨rfl, rfl, rfl, rfl, rfl, rfl, rfl, rfl⟩ ⟨by omega, by omega, all_step hall (by assumption)⟩ (by first | omega | (dsimp only; omega))
def postAt (l : List Bal) (g : List Leg) (i : Int) : Prop := amountOk (balOf (pO l (pf g i)) (rd g i).Account (rd g i).Instr + (rd g i).Amount)
def postFit (l : List Bal) (g : List Leg) : Prop := ∀ i : Int, 0 ≤ i → i < g.length → postAt l g i
def postLow (o : List Bal) (g : List Leg) (sh : List Int) : Prop := ∃ x ∈ g, ¬ (x.Account ∈ sh) ∧ balOf o x.Account x.Instr < 0
noncomputable def balsPost (l : List Bal) (g : List Leg) (sh : List Int) : List Bal × Int :=
  sel (¬ (BalsOk l ∧ legsForm g ∧ sh.length ≤ 20)) ([], 1) (sel (¬ LegsOk g) (l, 2) (sel (¬ postFit l g) (l, 4) (sel (postLow (pO l g) g sh) (l, 3) (sel (160 < (pO l g).length) (l, 5) (pO l g, 0)))))
section
variable {l : List Bal} {g : List Leg} {sh : List Int}
theorem bp_1 (h : ¬ (BalsOk l ∧ legsForm g ∧ sh.length ≤ 20)) : balsPost l g sh = ([], 1) := by rw [balsPost, sel_t h]
theorem bp_2 (h : BalsOk l ∧ legsForm g ∧ sh.length ≤ 20) (h2 : ¬ LegsOk g) : balsPost l g sh = (l, 2) := by rw [balsPost, sel_f (fun k => k h), sel_t h2]
theorem bp_4 (h : BalsOk l ∧ legsForm g ∧ sh.length ≤ 20) (h2 : LegsOk g) (h3 : ¬ postFit l g) : balsPost l g sh = (l, 4) := by rw [balsPost, sel_f (fun k => k h), sel_f (fun k => k h2), sel_t h3]
theorem bp_3 (h : BalsOk l ∧ legsForm g ∧ sh.length ≤ 20) (h2 : LegsOk g) (h3 : postFit l g) (h4 : postLow (pO l g) g sh) : balsPost l g sh = (l, 3) := by rw [balsPost, sel_f (fun k => k h), sel_f (fun k => k h2), sel_f (fun k => k h3), sel_t h4]
theorem bp_5 (h : BalsOk l ∧ legsForm g ∧ sh.length ≤ 20) (h2 : LegsOk g) (h3 : postFit l g) (h4 : ¬ postLow (pO l g) g sh) (h5 : 160 < (pO l g).length) : balsPost l g sh = (l, 5) := by rw [balsPost, sel_f (fun k => k h), sel_f (fun k => k h2), sel_f (fun k => k h3), sel_f h4, sel_t h5]
theorem bp_0 (h : BalsOk l ∧ legsForm g ∧ sh.length ≤ 20) (h2 : LegsOk g) (h3 : postFit l g) (h4 : ¬ postLow (pO l g) g sh) (h5 : ¬ 160 < (pO l g).length) : balsPost l g sh = (pO l g, 0) := by rw [balsPost, sel_f (fun k => k h), sel_f (fun k => k h2), sel_f (fun k => k h3), sel_f h4, sel_f h5]
end
set_option maxHeartbeats 4000000 in
theorem impl_BalsPost {l : List Bal} {g : List Leg} {sh : List Int} : FC Tryz.prog 186 [.c (.row 0 0 l.length), .c (.row 1 0 g.length), .c (.row 2 0 sh.length)] ([ro 97 l, ro 117 g, ro 3 sh]) (.tup [.c (.row 3 0 (balsPost l g sh).1.length), I (balsPost l g sh).2]) ([ro 97 l, ro 117 g, ro 3 sh, ow 97 (balsPost l g sh).1]) := by
  refine fent tk 90 [.tmp 6, .tmp 7] Tryz.func186 (by kernel_rfl) rfl rfl rfl rfl rfl rfl rfl ?_
  by_cases hok : BalsOk l ∧ legsForm g ∧ sh.length ≤ 20
  rotate_left
  · rw [bp_1 hok]
    repeat' (first
      | (intro h9; exfalso; first | contradiction | omega)
      | (intro h9; exact absurd ⟨by assumption, by assumption, by omega⟩ hok)
      | (with_reducible apply znila (d := 6) 97 3); rfl; rfl; rfl
      | (with_reducible apply zd); rfl; exact tk; rfl
      | (with_reducible first | intro _ | apply wseq | apply zreg | apply thenQ_n | apply thenQ_r | apply thenQ_e | apply znil | apply wret | apply bodyQ_r | apply wblk | apply blkQ_n | apply blkQ_r | apply wskip | apply wexit)
      | apply wct rfl
      | apply wcf rfl
      | (with_reducible apply blkQ_x rfl)
      | (with_reducible apply blkQ_y rfl)
      | (with_reducible apply zcmp); rfl; exact tk; rfl; rfl; rfl
      | (with_reducible apply zar); rfl; rfl; rfl; rfl; (first | omega | ((try simp only [List.length_append, List.length_cons, List.length_nil, List.length_map]); (try dsimp only); omega)); rfl; rfl
      | (with_reducible apply zix); rfl; exact tk; rfl; rfl; rfl; rfl; rfl; rfl; rfl; (first | omega | ((try simp only [List.length_append, List.length_cons, List.length_nil, List.length_map]); (try dsimp only); omega)); rfl; rfl
      | (with_reducible apply zle); rfl; exact tk; rfl; rfl; rfl; rfl; (first | omega | ((try simp only [List.length_append, List.length_cons, List.length_nil, List.length_map]); (try dsimp only); omega)); rfl; rfl; rfl; rfl
      | (with_reducible apply zse); rfl; exact tk; rfl; rfl; rfl; rfl; rfl; rfl; (first | omega | ((try simp only [List.length_append, List.length_cons, List.length_nil, List.length_map]); (try dsimp only); omega)); rfl; rfl; rfl; rfl; rfl
      | refine zdq (id := 10) rfl (by kernel_rfl) [(.p, 0), (.p, 1), (.p, 3), (.p, 6), (.t, 2), (.t, 4), (.t, 7), (.o, 5), (.p, 8), (.p, 9)] [] (by kernel_rfl) rfl ?_
      | (with_reducible apply zcp); rfl; rfl; rfl; rfl; rfl; rfl; rfl; rfl; rfl; rfl; (first | exact impl_BalsOk | exact impl_legsForm | exact impl_LegsOk | exact impl_AmountOk | exact slices_Contains_int); rfl; rfl
      | (with_reducible apply zcf); rfl; rfl; rfl; rfl; rfl; rfl; rfl; rfl; rfl; rfl; (first | exact slices_Clone_Bal (by omega) | exact impl_withBal (by assumption) (by omega)); rfl; rfl; rfl; rfl; rfl
      | (with_reducible apply zc); rfl; rfl; rfl; rfl; rfl; rfl; rfl; rfl; rfl; rfl; exact impl_balOf (by assumption); exact fun _ => rfl; rfl; rfl; rfl
      | fail)
    all_goals first | exact endV [0, 1, 2, 4] rfl rfl rfl rfl rfl rfl | exact endV [0, 1, 2, 3] rfl rfl rfl rfl rfl rfl
  obtain ⟨hb, hf, hsh⟩ := id hok
  by_cases hlo : LegsOk g
  rotate_left
  · rw [bp_2 hok hlo]
    have hbl := hb.2
    repeat' (first
      | (intro h9; exfalso; first | contradiction | omega)
      | (with_reducible apply zds); exact tk; rfl; rfl; rfl; rfl; rfl
      | (with_reducible apply zd); rfl; exact tk; rfl
      | (with_reducible first | intro _ | apply wseq | apply zreg | apply thenQ_n | apply thenQ_r | apply thenQ_e | apply znil | apply wret | apply bodyQ_r | apply wblk | apply blkQ_n | apply blkQ_r | apply wskip | apply wexit)
      | apply wct rfl
      | apply wcf rfl
      | (with_reducible apply blkQ_x rfl)
      | (with_reducible apply blkQ_y rfl)
      | (with_reducible apply zcmp); rfl; exact tk; rfl; rfl; rfl
      | (with_reducible apply zar); rfl; rfl; rfl; rfl; (first | omega | ((try simp only [List.length_append, List.length_cons, List.length_nil, List.length_map]); (try dsimp only); omega)); rfl; rfl
      | (with_reducible apply zix); rfl; exact tk; rfl; rfl; rfl; rfl; rfl; rfl; rfl; (first | omega | ((try simp only [List.length_append, List.length_cons, List.length_nil, List.length_map]); (try dsimp only); omega)); rfl; rfl
      | (with_reducible apply zle); rfl; exact tk; rfl; rfl; rfl; rfl; (first | omega | ((try simp only [List.length_append, List.length_cons, List.length_nil, List.length_map]); (try dsimp only); omega)); rfl; rfl; rfl; rfl
      | (with_reducible apply zse); rfl; exact tk; rfl; rfl; rfl; rfl; rfl; rfl; (first | omega | ((try simp only [List.length_append, List.length_cons, List.length_nil, List.length_map]); (try dsimp only); omega)); rfl; rfl; rfl; rfl; rfl
      | refine zdq (id := 10) rfl (by kernel_rfl) [(.p, 0), (.p, 1), (.p, 3), (.p, 6), (.t, 2), (.t, 4), (.t, 7), (.o, 5), (.p, 8), (.p, 9)] [] (by kernel_rfl) rfl ?_
      | (with_reducible apply zcp); rfl; rfl; rfl; rfl; rfl; rfl; rfl; rfl; rfl; rfl; (first | exact impl_BalsOk | exact impl_legsForm | exact impl_LegsOk | exact impl_AmountOk | exact slices_Contains_int); rfl; rfl
      | (with_reducible apply zcf); rfl; rfl; rfl; rfl; rfl; rfl; rfl; rfl; rfl; rfl; (first | exact slices_Clone_Bal (by omega) | exact impl_withBal (by assumption) (by omega)); rfl; rfl; rfl; rfl; rfl
      | (with_reducible apply zc); rfl; rfl; rfl; rfl; rfl; rfl; rfl; rfl; rfl; rfl; exact impl_balOf (by assumption); exact fun _ => rfl; rfl; rfl; rfl
      | fail)
    all_goals first | exact endV [0, 1, 2, 3] rfl rfl rfl rfl rfl rfl | exact endV [0, 1, 2, 4] rfl rfl rfl rfl rfl rfl
  have hbl := hb.2
  have hgl := hf.1
  repeat' (first
    | (intro h9; exfalso; first | contradiction | omega)
    | (with_reducible apply zds); exact tk; rfl; rfl; rfl; rfl; rfl
    | (with_reducible apply zd); rfl; exact tk; rfl
    | (with_reducible first | intro _ | apply wseq | apply zreg | apply thenQ_n | apply thenQ_r | apply thenQ_e | apply znil | apply wret | apply bodyQ_r | apply wblk | apply blkQ_n | apply blkQ_r | apply wskip | apply wexit)
    | apply wct rfl
    | apply wcf rfl
    | (with_reducible apply blkQ_x rfl)
    | (with_reducible apply blkQ_y rfl)
    | (with_reducible apply zcmp); rfl; exact tk; rfl; rfl; rfl
    | (with_reducible apply zar); rfl; rfl; rfl; rfl; (first | omega | ((try simp only [List.length_append, List.length_cons, List.length_nil, List.length_map]); (try dsimp only); omega)); rfl; rfl
    | (with_reducible apply zix); rfl; exact tk; rfl; rfl; rfl; rfl; rfl; rfl; rfl; (first | omega | ((try simp only [List.length_append, List.length_cons, List.length_nil, List.length_map]); (try dsimp only); omega)); rfl; rfl
    | (with_reducible apply zle); rfl; exact tk; rfl; rfl; rfl; rfl; (first | omega | ((try simp only [List.length_append, List.length_cons, List.length_nil, List.length_map]); (try dsimp only); omega)); rfl; rfl; rfl; rfl
    | (with_reducible apply zse); rfl; exact tk; rfl; rfl; rfl; rfl; rfl; rfl; (first | omega | ((try simp only [List.length_append, List.length_cons, List.length_nil, List.length_map]); (try dsimp only); omega)); rfl; rfl; rfl; rfl; rfl
    | refine zdq (id := 10) rfl (by kernel_rfl) [(.p, 0), (.p, 1), (.p, 3), (.p, 6), (.t, 2), (.t, 4), (.t, 7), (.o, 5), (.p, 8), (.p, 9)] [] (by kernel_rfl) rfl ?_
    | (with_reducible apply zcp); rfl; rfl; rfl; rfl; rfl; rfl; rfl; rfl; rfl; rfl; (first | exact impl_BalsOk | exact impl_legsForm | exact impl_LegsOk | exact impl_AmountOk | exact slices_Contains_int); rfl; rfl
    | (with_reducible apply zcf); rfl; rfl; rfl; rfl; rfl; rfl; rfl; rfl; rfl; rfl; (first | exact slices_Clone_Bal (by omega) | exact impl_withBal (by assumption) (by omega)); rfl; rfl; rfl; rfl; rfl
    | (with_reducible apply zc); rfl; rfl; rfl; rfl; rfl; rfl; rfl; rfl; rfl; rfl; exact impl_balOf (by assumption); exact fun _ => rfl; rfl; rfl; rfl
    | fail)
  refine wlp (X := Int × List Bal) [1, 2, 8, 36, 37] [0, 1, 2, 3, 4] (fun x => [(38, I x.1), (9, .c (.row 4 0 x.2.length))]) (fun x => [(4, ow 97 x.2)]) (fun x => (0 ≤ x.1 ∧ x.1 ≤ g.length) ∧ x.2 = pO l (pf g x.1) ∧ (BSd x.2 ∧ amtB x.2) ∧ x.2.length ≤ l.length + x.1 ∧ ∀ j : Int, 0 ≤ j → j < x.1 → postAt l g j) (fun x => (g.length - x.1).toNat) (0, l) ⟨⟨by dsimp only; omega, by dsimp only; omega⟩, rfl, ⟨hb.sd, hb.amt⟩, by dsimp only; omega, fun j h0 h1 => by dsimp only at h1; omega⟩ rfl rfl (fun _ => rfl) (fun _ => rfl) ⟨rfl, rfl, rfl, rfl, rfl, rfl, rfl, rfl⟩ (fun x hx => ?_)
  obtain ⟨i, xs⟩ := x
  obtain ⟨h0, hxs, ⟨hsd, hamt⟩, hxl, hall⟩ := hx
  dsimp only at h0 hxs hsd hamt hxl hall ⊢
  have hba := balOf_amt hamt (rd g i).Account (rd g i).Instr
  have hga : i < g.length → amountOk (rd g i).Amount := fun h => (hf.2 _ (rd_mem ⟨h0.1, h⟩)).2.2
  unfold amountOk inP at hba hga
  repeat' (first
    | (with_reducible apply zds); exact tk; rfl; rfl; rfl; rfl; rfl
    | (with_reducible apply zd); rfl; exact tk; rfl
    | (with_reducible apply zar); rfl; rfl; rfl; rfl; (have h1 := hga (by assumption); omega); rfl; rfl
    | (with_reducible first | intro _ | apply wseq | apply zreg | apply thenQ_n | apply thenQ_r | apply thenQ_e | apply znil | apply wret | apply bodyQ_r | apply wblk | apply blkQ_n | apply blkQ_r | apply wskip | apply wexit)
    | apply wct rfl
    | apply wcf rfl
    | (with_reducible apply blkQ_x rfl)
    | (with_reducible apply blkQ_y rfl)
    | (with_reducible apply zcmp); rfl; exact tk; rfl; rfl; rfl
    | (with_reducible apply zar); rfl; rfl; rfl; rfl; (first | omega | ((try simp only [List.length_append, List.length_cons, List.length_nil, List.length_map]); (try dsimp only); omega)); rfl; rfl
    | (with_reducible apply zix); rfl; exact tk; rfl; rfl; rfl; rfl; rfl; rfl; rfl; (first | omega | ((try simp only [List.length_append, List.length_cons, List.length_nil, List.length_map]); (try dsimp only); omega)); rfl; rfl
    | (with_reducible apply zle); rfl; exact tk; rfl; rfl; rfl; rfl; (first | omega | ((try simp only [List.length_append, List.length_cons, List.length_nil, List.length_map]); (try dsimp only); omega)); rfl; rfl; rfl; rfl
    | (with_reducible apply zse); rfl; exact tk; rfl; rfl; rfl; rfl; rfl; rfl; (first | omega | ((try simp only [List.length_append, List.length_cons, List.length_nil, List.length_map]); (try dsimp only); omega)); rfl; rfl; rfl; rfl; rfl
    | refine zdq (id := 10) rfl (by kernel_rfl) [(.p, 0), (.p, 1), (.p, 3), (.p, 6), (.t, 2), (.t, 4), (.t, 7), (.o, 5), (.p, 8), (.p, 9)] [] (by kernel_rfl) rfl ?_
    | (with_reducible apply zcp); rfl; rfl; rfl; rfl; rfl; rfl; rfl; rfl; rfl; rfl; (first | exact impl_BalsOk | exact impl_legsForm | exact impl_LegsOk | exact impl_AmountOk | exact slices_Contains_int); rfl; rfl
    | (with_reducible apply zcf); rfl; rfl; rfl; rfl; rfl; rfl; rfl; rfl; rfl; rfl; (first | exact slices_Clone_Bal (by omega) | exact impl_withBal (by assumption) (by omega)); rfl; rfl; rfl; rfl; rfl
    | (with_reducible apply zc); rfl; rfl; rfl; rfl; rfl; rfl; rfl; rfl; rfl; rfl; exact impl_balOf (by assumption); exact fun _ => rfl; rfl; rfl; rfl
    | fail)
  all_goals first
    | exact endR (i + 1, putB xs (rd g i).Account (rd g i).Instr (balOf xs (rd g i).Account (rd g i).Instr + (rd g i).Amount)) [0, 1, 2, 3, 6] ⟨rfl, rfl, rfl, rfl, rfl, rfl, rfl, rfl⟩ ⟨⟨by dsimp only; omega, by dsimp only; omega⟩, by dsimp only; rw [pO_succ ⟨h0.1, by assumption⟩, ← hxs]; rfl, ⟨putB_sd hsd _ _ _, putB_amt hsd hamt (by assumption)⟩, (by dsimp only; have := putB_len hsd (rd g i).Account (rd g i).Instr (balOf xs (rd g i).Account (rd g i).Instr + (rd g i).Amount); omega), all_step hall (by unfold postAt; rw [← hxs]; assumption)⟩ (by first | omega | (dsimp only; omega))
    | (rw [bp_4 hok hlo (fun k => absurd (k i h0.1 (by assumption)) (by unfold postAt; rw [← hxs]; assumption))]
       exact endV [0, 1, 2, 3] rfl rfl rfl rfl rfl rfl)
    | skip
  rename_i hil
  have e : xs = pO l g := hxs.trans (by rw [pf_all hil])
  have hfit : postFit l g := fun j h0 h1 => hall j h0 (by omega)
  clear hxs hba hga
  subst e
  refine wlp (X := Int) [2, 8, 9, 63, 64] [0, 1, 2, 3, 4] (fun k => [(65, I k)]) (fun _ => []) (fun k => 0 ≤ k ∧ k ≤ g.length ∧ ∀ j : Int, 0 ≤ j → j < k → ¬ (fun x : Leg => ¬ (x.Account ∈ sh) ∧ balOf (pO l g) x.Account x.Instr < 0) (rd g j)) (fun k => (g.length - k).toNat) 0 ⟨by omega, by omega, fun j h0 h1 => by omega⟩ rfl rfl (fun _ => rfl) (fun _ => rfl) ⟨rfl, rfl, rfl, rfl, rfl, rfl, rfl, rfl⟩ (fun k hk => ?_)
  obtain ⟨k0, hk, hall2⟩ := hk
  repeat' (first
    | (with_reducible apply zds); exact tk; rfl; rfl; rfl; rfl; rfl
    | (with_reducible apply zd); rfl; exact tk; rfl
    | (with_reducible first | intro _ | apply wseq | apply zreg | apply thenQ_n | apply thenQ_r | apply thenQ_e | apply znil | apply wret | apply bodyQ_r | apply wblk | apply blkQ_n | apply blkQ_r | apply wskip | apply wexit)
    | apply wct rfl
    | apply wcf rfl
    | (with_reducible apply blkQ_x rfl)
    | (with_reducible apply blkQ_y rfl)
    | (with_reducible apply zcmp); rfl; exact tk; rfl; rfl; rfl
    | (with_reducible apply zar); rfl; rfl; rfl; rfl; (first | omega | ((try simp only [List.length_append, List.length_cons, List.length_nil, List.length_map]); (try dsimp only); omega)); rfl; rfl
    | (with_reducible apply zix); rfl; exact tk; rfl; rfl; rfl; rfl; rfl; rfl; rfl; (first | omega | ((try simp only [List.length_append, List.length_cons, List.length_nil, List.length_map]); (try dsimp only); omega)); rfl; rfl
    | (with_reducible apply zle); rfl; exact tk; rfl; rfl; rfl; rfl; (first | omega | ((try simp only [List.length_append, List.length_cons, List.length_nil, List.length_map]); (try dsimp only); omega)); rfl; rfl; rfl; rfl
    | (with_reducible apply zse); rfl; exact tk; rfl; rfl; rfl; rfl; rfl; rfl; (first | omega | ((try simp only [List.length_append, List.length_cons, List.length_nil, List.length_map]); (try dsimp only); omega)); rfl; rfl; rfl; rfl; rfl
    | refine zdq (id := 10) rfl (by kernel_rfl) [(.p, 0), (.p, 1), (.p, 3), (.p, 6), (.t, 2), (.t, 4), (.t, 7), (.o, 5), (.p, 8), (.p, 9)] [] (by kernel_rfl) rfl ?_
    | (with_reducible apply zcp); rfl; rfl; rfl; rfl; rfl; rfl; rfl; rfl; rfl; rfl; (first | exact impl_BalsOk | exact impl_legsForm | exact impl_LegsOk | exact impl_AmountOk | exact slices_Contains_int); rfl; rfl
    | (with_reducible apply zcf); rfl; rfl; rfl; rfl; rfl; rfl; rfl; rfl; rfl; rfl; (first | exact slices_Clone_Bal (by omega) | exact impl_withBal (by assumption) (by omega)); rfl; rfl; rfl; rfl; rfl
    | (with_reducible apply zc); rfl; rfl; rfl; rfl; rfl; rfl; rfl; rfl; rfl; rfl; exact impl_balOf (by assumption); exact fun _ => rfl; rfl; rfl; rfl
    | fail)
  all_goals first
    | (rw [bp_3 hok hlo hfit ⟨rd g k, rd_mem ⟨k0, by assumption⟩, by assumption, by assumption⟩]
       exact endV [0, 1, 2, 3] rfl rfl rfl rfl rfl rfl)
    | exact endR (k + 1) [0, 1, 2, 3, 4] ⟨rfl, rfl, rfl, rfl, rfl, rfl, rfl, rfl⟩ ⟨by omega, by omega, all_step hall2 (fun e => by first | exact e.1 (by assumption) | exact absurd e.2 (by assumption))⟩ (by first | omega | (dsimp only; omega))
    | (have hno := no_rd (q := fun x : Leg => ¬ (x.Account ∈ sh) ∧ balOf (pO l g) x.Account x.Instr < 0) (by assumption) hall2
       first
       | (rw [bp_5 hok hlo hfit hno (by omega)]
          exact endV [0, 1, 2, 3] rfl rfl rfl rfl rfl rfl)
       | (rw [bp_0 hok hlo hfit hno (by omega)]
          exact endV [0, 1, 2, 4] rfl rfl rfl rfl rfl rfl))
set_option maxHeartbeats 4000000 in
theorem spec_BalsPost {l : List Bal} {g : List Leg} {sh : List Int} : FC Tryz.prog 182 [.c (.row 0 0 l.length), .c (.row 1 0 g.length), .c (.row 2 0 sh.length)] ([ro 97 l, ro 117 g, ro 3 sh]) (.tup [.c (.row 3 0 (balsPost l g sh).1.length), I (balsPost l g sh).2]) ([ro 97 l, ro 117 g, ro 3 sh, ow 97 (balsPost l g sh).1]) := by
  refine fent tk 120 [.tmp 6, .tmp 7] Tryz.func182 (by kernel_rfl) rfl rfl rfl rfl rfl rfl rfl ?_
  by_cases hok : BalsOk l ∧ legsForm g ∧ sh.length ≤ 20
  rotate_left
  · rw [bp_1 hok]
    repeat' (first
      | (intro h9; exfalso; first | contradiction | omega)
      | (with_reducible apply zds); exact tk; rfl; rfl; rfl; rfl; rfl
      | (with_reducible apply zd); rfl; exact tk; rfl
      | (intro h9; exact absurd ⟨by assumption, by assumption, by omega⟩ hok)
      | (with_reducible first | intro _ | apply wseq | apply zreg | apply thenQ_n | apply thenQ_r | apply thenQ_e | apply znil | apply wret | apply bodyQ_r | apply wblk | apply blkQ_n | apply blkQ_r | apply wskip | apply wexit)
      | apply wct rfl
      | apply wcf rfl
      | (with_reducible apply blkQ_x rfl)
      | (with_reducible apply blkQ_y rfl)
      | (with_reducible apply zcmp); rfl; exact tk; rfl; rfl; rfl
      | (with_reducible apply zar); rfl; rfl; rfl; rfl; (first | omega | ((try simp only [List.length_append, List.length_cons, List.length_nil, List.length_map]); (try dsimp only); omega)); rfl; rfl
      | (with_reducible apply zix); rfl; exact tk; rfl; rfl; rfl; rfl; rfl; rfl; rfl; (first | omega | ((try simp only [List.length_append, List.length_cons, List.length_nil, List.length_map]); (try dsimp only); omega)); rfl; rfl
      | (with_reducible apply zle); rfl; exact tk; rfl; rfl; rfl; rfl; (first | omega | ((try simp only [List.length_append, List.length_cons, List.length_nil, List.length_map]); (try dsimp only); omega)); rfl; rfl; rfl; rfl
      | (with_reducible apply zlit (α := Bal) (e := 97)); rfl; exact tk; rfl; rfl; rfl; rfl; rfl; rfl; rfl; rfl; rfl; rfl; rfl; rfl; rfl
      | (with_reducible apply zap); rfl; exact tk; rfl; rfl; rfl; rfl; rfl; rfl; rfl; rfl; rfl; rfl; (first | omega | ((try simp only [List.length_append, List.length_cons, List.length_nil, List.length_map]); (try dsimp only); omega)); rfl; rfl; rfl; rfl; rfl
      | refine zdq (id := 10) rfl (by kernel_rfl) [(.p, 0), (.p, 1), (.p, 2), (.p, 3), (.p, 4), (.p, 6), (.p, 7), (.p, 8), (.p, 9), (.p, 12), (.p, 13), (.p, 14), (.p, 15), (.t, 5), (.t, 10), (.t, 16), (.o, 11), (.o, 17), (.p, 18), (.p, 19), (.p, 20), (.p, 21), (.p, 22)] [] (by kernel_rfl) rfl ?_
      | refine zdq (id := 13) rfl (by kernel_rfl) [(.p, 0), (.p, 1), (.p, 2), (.p, 3), (.p, 4), (.p, 6), (.p, 7), (.p, 8), (.p, 9), (.p, 11), (.t, 5), (.t, 10), (.o, 12), (.p, 13)] [] (by kernel_rfl) rfl ?_
      | refine zdq (id := 17) rfl (by kernel_rfl) [(.p, 0), (.p, 1), (.p, 2), (.p, 3), (.p, 4), (.p, 6), (.p, 7), (.p, 8), (.p, 9), (.t, 5), (.t, 10), (.o, 11), (.p, 12), (.p, 13), (.p, 14), (.p, 15), (.p, 16), (.p, 17), (.p, 18), (.t, 19), (.o, 20), (.p, 21), (.p, 22)] [] (by kernel_rfl) rfl ?_
      | (with_reducible apply zcp); rfl; rfl; rfl; rfl; rfl; rfl; rfl; rfl; rfl; rfl; (first | exact spec_BalsOk | exact spec_l4LegsRight | exact spec_LegsOk | exact spec_l4Has); rfl; rfl
      | (with_reducible apply zc); rfl; rfl; rfl; rfl; rfl; rfl; rfl; rfl; rfl; rfl; exact spec_l4Of; exact fun _ => rfl; rfl; rfl; rfl
      | (with_reducible apply zcs); rfl; rfl; rfl; rfl; rfl; rfl; rfl; rfl; rfl; rfl; exact spec_AddIn (by assumption) (by assumption); exact fun _ => rfl; exact fun _ => rfl; rfl; rfl; rfl; rfl
      | (with_reducible apply zcf); rfl; rfl; rfl; rfl; rfl; rfl; rfl; rfl; rfl; rfl; exact spec_l4Put (by assumption) (by omega); rfl; rfl; rfl; rfl; rfl
      | fail)
    all_goals first | exact endV [0, 1, 2, 3] rfl rfl rfl rfl rfl rfl | exact endV [0, 1, 2, 4] rfl rfl rfl rfl rfl rfl
  obtain ⟨hb, hf, hsh⟩ := id hok
  have hbl := hb.2
  have hgl := hf.1
  by_cases hlo : LegsOk g
  rotate_left
  · rw [bp_2 hok hlo]
    repeat' (first
      | (intro h9; exfalso; first | contradiction | omega)
      | (with_reducible apply zds); exact tk; rfl; rfl; rfl; rfl; rfl
      | (with_reducible apply zd); rfl; exact tk; rfl
      | (with_reducible first | intro _ | apply wseq | apply zreg | apply thenQ_n | apply thenQ_r | apply thenQ_e | apply znil | apply wret | apply bodyQ_r | apply wblk | apply blkQ_n | apply blkQ_r | apply wskip | apply wexit)
      | apply wct rfl
      | apply wcf rfl
      | (with_reducible apply blkQ_x rfl)
      | (with_reducible apply blkQ_y rfl)
      | (with_reducible apply zcmp); rfl; exact tk; rfl; rfl; rfl
      | (with_reducible apply zar); rfl; rfl; rfl; rfl; (first | omega | ((try simp only [List.length_append, List.length_cons, List.length_nil, List.length_map]); (try dsimp only); omega)); rfl; rfl
      | (with_reducible apply zix); rfl; exact tk; rfl; rfl; rfl; rfl; rfl; rfl; rfl; (first | omega | ((try simp only [List.length_append, List.length_cons, List.length_nil, List.length_map]); (try dsimp only); omega)); rfl; rfl
      | (with_reducible apply zle); rfl; exact tk; rfl; rfl; rfl; rfl; (first | omega | ((try simp only [List.length_append, List.length_cons, List.length_nil, List.length_map]); (try dsimp only); omega)); rfl; rfl; rfl; rfl
      | (with_reducible apply zlit (α := Bal) (e := 97)); rfl; exact tk; rfl; rfl; rfl; rfl; rfl; rfl; rfl; rfl; rfl; rfl; rfl; rfl; rfl
      | (with_reducible apply zap); rfl; exact tk; rfl; rfl; rfl; rfl; rfl; rfl; rfl; rfl; rfl; rfl; (first | omega | ((try simp only [List.length_append, List.length_cons, List.length_nil, List.length_map]); (try dsimp only); omega)); rfl; rfl; rfl; rfl; rfl
      | refine zdq (id := 10) rfl (by kernel_rfl) [(.p, 0), (.p, 1), (.p, 2), (.p, 3), (.p, 4), (.p, 6), (.p, 7), (.p, 8), (.p, 9), (.p, 12), (.p, 13), (.p, 14), (.p, 15), (.t, 5), (.t, 10), (.t, 16), (.o, 11), (.o, 17), (.p, 18), (.p, 19), (.p, 20), (.p, 21), (.p, 22)] [] (by kernel_rfl) rfl ?_
      | refine zdq (id := 13) rfl (by kernel_rfl) [(.p, 0), (.p, 1), (.p, 2), (.p, 3), (.p, 4), (.p, 6), (.p, 7), (.p, 8), (.p, 9), (.p, 11), (.t, 5), (.t, 10), (.o, 12), (.p, 13)] [] (by kernel_rfl) rfl ?_
      | refine zdq (id := 17) rfl (by kernel_rfl) [(.p, 0), (.p, 1), (.p, 2), (.p, 3), (.p, 4), (.p, 6), (.p, 7), (.p, 8), (.p, 9), (.t, 5), (.t, 10), (.o, 11), (.p, 12), (.p, 13), (.p, 14), (.p, 15), (.p, 16), (.p, 17), (.p, 18), (.t, 19), (.o, 20), (.p, 21), (.p, 22)] [] (by kernel_rfl) rfl ?_
      | (with_reducible apply zcp); rfl; rfl; rfl; rfl; rfl; rfl; rfl; rfl; rfl; rfl; (first | exact spec_BalsOk | exact spec_l4LegsRight | exact spec_LegsOk | exact spec_l4Has); rfl; rfl
      | (with_reducible apply zc); rfl; rfl; rfl; rfl; rfl; rfl; rfl; rfl; rfl; rfl; exact spec_l4Of; exact fun _ => rfl; rfl; rfl; rfl
      | (with_reducible apply zcs); rfl; rfl; rfl; rfl; rfl; rfl; rfl; rfl; rfl; rfl; exact spec_AddIn (by assumption) (by assumption); exact fun _ => rfl; exact fun _ => rfl; rfl; rfl; rfl; rfl
      | (with_reducible apply zcf); rfl; rfl; rfl; rfl; rfl; rfl; rfl; rfl; rfl; rfl; exact spec_l4Put (by assumption) (by omega); rfl; rfl; rfl; rfl; rfl
      | fail)
    all_goals first | exact endV [0, 1, 2, 4] rfl rfl rfl rfl rfl rfl | exact endV [0, 1, 2, 5] rfl rfl rfl rfl rfl rfl
  repeat' (first
    | (intro h9; exfalso; first | contradiction | omega)
    | (with_reducible apply zds); exact tk; rfl; rfl; rfl; rfl; rfl
    | (with_reducible apply zd); rfl; exact tk; rfl
    | (with_reducible first | intro _ | apply wseq | apply zreg | apply thenQ_n | apply thenQ_r | apply thenQ_e | apply znil | apply wret | apply bodyQ_r | apply wblk | apply blkQ_n | apply blkQ_r | apply wskip | apply wexit)
    | apply wct rfl
    | apply wcf rfl
    | (with_reducible apply blkQ_x rfl)
    | (with_reducible apply blkQ_y rfl)
    | (with_reducible apply zcmp); rfl; exact tk; rfl; rfl; rfl
    | (with_reducible apply zar); rfl; rfl; rfl; rfl; (first | omega | ((try simp only [List.length_append, List.length_cons, List.length_nil, List.length_map]); (try dsimp only); omega)); rfl; rfl
    | (with_reducible apply zix); rfl; exact tk; rfl; rfl; rfl; rfl; rfl; rfl; rfl; (first | omega | ((try simp only [List.length_append, List.length_cons, List.length_nil, List.length_map]); (try dsimp only); omega)); rfl; rfl
    | (with_reducible apply zle); rfl; exact tk; rfl; rfl; rfl; rfl; (first | omega | ((try simp only [List.length_append, List.length_cons, List.length_nil, List.length_map]); (try dsimp only); omega)); rfl; rfl; rfl; rfl
    | (with_reducible apply zlit (α := Bal) (e := 97)); rfl; exact tk; rfl; rfl; rfl; rfl; rfl; rfl; rfl; rfl; rfl; rfl; rfl; rfl; rfl
    | (with_reducible apply zap); rfl; exact tk; rfl; rfl; rfl; rfl; rfl; rfl; rfl; rfl; rfl; rfl; (first | omega | ((try simp only [List.length_append, List.length_cons, List.length_nil, List.length_map]); (try dsimp only); omega)); rfl; rfl; rfl; rfl; rfl
    | refine zdq (id := 10) rfl (by kernel_rfl) [(.p, 0), (.p, 1), (.p, 2), (.p, 3), (.p, 4), (.p, 6), (.p, 7), (.p, 8), (.p, 9), (.p, 12), (.p, 13), (.p, 14), (.p, 15), (.t, 5), (.t, 10), (.t, 16), (.o, 11), (.o, 17), (.p, 18), (.p, 19), (.p, 20), (.p, 21), (.p, 22)] [] (by kernel_rfl) rfl ?_
    | refine zdq (id := 13) rfl (by kernel_rfl) [(.p, 0), (.p, 1), (.p, 2), (.p, 3), (.p, 4), (.p, 6), (.p, 7), (.p, 8), (.p, 9), (.p, 11), (.t, 5), (.t, 10), (.o, 12), (.p, 13)] [] (by kernel_rfl) rfl ?_
    | refine zdq (id := 17) rfl (by kernel_rfl) [(.p, 0), (.p, 1), (.p, 2), (.p, 3), (.p, 4), (.p, 6), (.p, 7), (.p, 8), (.p, 9), (.t, 5), (.t, 10), (.o, 11), (.p, 12), (.p, 13), (.p, 14), (.p, 15), (.p, 16), (.p, 17), (.p, 18), (.t, 19), (.o, 20), (.p, 21), (.p, 22)] [] (by kernel_rfl) rfl ?_
    | (with_reducible apply zcp); rfl; rfl; rfl; rfl; rfl; rfl; rfl; rfl; rfl; rfl; (first | exact spec_BalsOk | exact spec_l4LegsRight | exact spec_LegsOk | exact spec_l4Has); rfl; rfl
    | (with_reducible apply zc); rfl; rfl; rfl; rfl; rfl; rfl; rfl; rfl; rfl; rfl; exact spec_l4Of; exact fun _ => rfl; rfl; rfl; rfl
    | (with_reducible apply zcs); rfl; rfl; rfl; rfl; rfl; rfl; rfl; rfl; rfl; rfl; exact spec_AddIn (by assumption) (by assumption); exact fun _ => rfl; exact fun _ => rfl; rfl; rfl; rfl; rfl
    | (with_reducible apply zcf); rfl; rfl; rfl; rfl; rfl; rfl; rfl; rfl; rfl; rfl; exact spec_l4Put (by assumption) (by omega); rfl; rfl; rfl; rfl; rfl
    | fail)
  refine wlp (X := Int × List Bal) [0, 1, 2] [0, 1, 2, 4] (fun x => [(10, I x.1), (9, .c (.row 3 0 x.2.length))]) (fun x => [(3, ow 97 x.2)]) (fun x => (0 ≤ x.1 ∧ x.1 ≤ g.length) ∧ x.2 = pO l (pf g x.1) ∧ (BSd x.2 ∧ amtB x.2) ∧ x.2.length ≤ l.length + x.1 ∧ ∀ j : Int, 0 ≤ j → j < x.1 → postAt l g j) (fun x => (g.length - x.1).toNat) (0, l) ⟨⟨by dsimp only; omega, by dsimp only; omega⟩, rfl, ⟨hb.sd, hb.amt⟩, by dsimp only; omega, fun j h0 h1 => by dsimp only at h1; omega⟩ rfl rfl (fun _ => rfl) (fun _ => rfl) ⟨rfl, rfl, rfl, rfl, rfl, rfl, rfl, rfl⟩ (fun x hx => ?_)
  obtain ⟨i, xs⟩ := x
  obtain ⟨h0, hxs, ⟨hsd, hamt⟩, hxl, hall⟩ := hx
  dsimp only at h0 hxs hsd hamt hxl hall ⊢
  have hba := balOf_amt hamt (rd g i).Account (rd g i).Instr
  have hga : i < g.length → amountOk (rd g i).Amount := fun h => (hf.2 _ (rd_mem ⟨h0.1, h⟩)).2.2
  by_cases hil2 : i < g.length
  · have hga2 := hga hil2
    repeat' (first
      | (intro h9; exfalso; first | contradiction | omega)
      | (with_reducible apply zds); exact tk; rfl; rfl; rfl; rfl; rfl
      | (with_reducible apply zd); rfl; exact tk; rfl
      | (with_reducible first | intro _ | apply wseq | apply zreg | apply thenQ_n | apply thenQ_r | apply thenQ_e | apply znil | apply wret | apply bodyQ_r | apply wblk | apply blkQ_n | apply blkQ_r | apply wskip | apply wexit)
      | apply wct rfl
      | apply wcf rfl
      | (with_reducible apply blkQ_x rfl)
      | (with_reducible apply blkQ_y rfl)
      | (with_reducible apply zcmp); rfl; exact tk; rfl; rfl; rfl
      | (with_reducible apply zar); rfl; rfl; rfl; rfl; (first | omega | ((try simp only [List.length_append, List.length_cons, List.length_nil, List.length_map]); (try dsimp only); omega)); rfl; rfl
      | (with_reducible apply zix); rfl; exact tk; rfl; rfl; rfl; rfl; rfl; rfl; rfl; (first | omega | ((try simp only [List.length_append, List.length_cons, List.length_nil, List.length_map]); (try dsimp only); omega)); rfl; rfl
      | (with_reducible apply zle); rfl; exact tk; rfl; rfl; rfl; rfl; (first | omega | ((try simp only [List.length_append, List.length_cons, List.length_nil, List.length_map]); (try dsimp only); omega)); rfl; rfl; rfl; rfl
      | (with_reducible apply zlit (α := Bal) (e := 97)); rfl; exact tk; rfl; rfl; rfl; rfl; rfl; rfl; rfl; rfl; rfl; rfl; rfl; rfl; rfl
      | (with_reducible apply zap); rfl; exact tk; rfl; rfl; rfl; rfl; rfl; rfl; rfl; rfl; rfl; rfl; (first | omega | ((try simp only [List.length_append, List.length_cons, List.length_nil, List.length_map]); (try dsimp only); omega)); rfl; rfl; rfl; rfl; rfl
      | refine zdq (id := 10) rfl (by kernel_rfl) [(.p, 0), (.p, 1), (.p, 2), (.p, 3), (.p, 4), (.p, 6), (.p, 7), (.p, 8), (.p, 9), (.p, 12), (.p, 13), (.p, 14), (.p, 15), (.t, 5), (.t, 10), (.t, 16), (.o, 11), (.o, 17), (.p, 18), (.p, 19), (.p, 20), (.p, 21), (.p, 22)] [] (by kernel_rfl) rfl ?_
      | refine zdq (id := 13) rfl (by kernel_rfl) [(.p, 0), (.p, 1), (.p, 2), (.p, 3), (.p, 4), (.p, 6), (.p, 7), (.p, 8), (.p, 9), (.p, 11), (.t, 5), (.t, 10), (.o, 12), (.p, 13)] [] (by kernel_rfl) rfl ?_
      | refine zdq (id := 17) rfl (by kernel_rfl) [(.p, 0), (.p, 1), (.p, 2), (.p, 3), (.p, 4), (.p, 6), (.p, 7), (.p, 8), (.p, 9), (.t, 5), (.t, 10), (.o, 11), (.p, 12), (.p, 13), (.p, 14), (.p, 15), (.p, 16), (.p, 17), (.p, 18), (.t, 19), (.o, 20), (.p, 21), (.p, 22)] [] (by kernel_rfl) rfl ?_
      | (with_reducible apply zcp); rfl; rfl; rfl; rfl; rfl; rfl; rfl; rfl; rfl; rfl; (first | exact spec_BalsOk | exact spec_l4LegsRight | exact spec_LegsOk | exact spec_l4Has); rfl; rfl
      | (with_reducible apply zc); rfl; rfl; rfl; rfl; rfl; rfl; rfl; rfl; rfl; rfl; exact spec_l4Of; exact fun _ => rfl; rfl; rfl; rfl
      | (with_reducible apply zcs); rfl; rfl; rfl; rfl; rfl; rfl; rfl; rfl; rfl; rfl; exact spec_AddIn (by assumption) (by assumption); exact fun _ => rfl; exact fun _ => rfl; rfl; rfl; rfl; rfl
      | (with_reducible apply zcf); rfl; rfl; rfl; rfl; rfl; rfl; rfl; rfl; rfl; rfl; exact spec_l4Put (by assumption) (by omega); rfl; rfl; rfl; rfl; rfl
      | fail)
    all_goals first
      | exact endR (i + 1, putB xs (rd g i).Account (rd g i).Instr (balOf xs (rd g i).Account (rd g i).Instr + (rd g i).Amount)) [0, 1, 2, 4] ⟨rfl, rfl, rfl, rfl, rfl, rfl, rfl, rfl⟩ ⟨⟨by dsimp only; omega, by dsimp only; omega⟩, by dsimp only; rw [pO_succ ⟨h0.1, by assumption⟩, ← hxs]; rfl, ⟨putB_sd hsd _ _ _, putB_amt hsd hamt (by assumption)⟩, (by dsimp only; have := putB_len hsd (rd g i).Account (rd g i).Instr (balOf xs (rd g i).Account (rd g i).Instr + (rd g i).Amount); omega), all_step hall (by unfold postAt; rw [← hxs]; assumption)⟩ (by first | omega | (dsimp only; omega))
      | (rw [bp_4 hok hlo (fun k => absurd (k i h0.1 (by assumption)) (by unfold postAt; rw [← hxs]; assumption))]
         exact endV [0, 1, 2, 5] rfl rfl rfl rfl rfl rfl)
  repeat' (first
    | (intro h9; exfalso; first | contradiction | omega)
    | (with_reducible apply zds); exact tk; rfl; rfl; rfl; rfl; rfl
    | (with_reducible apply zd); rfl; exact tk; rfl
    | (with_reducible first | intro _ | apply wseq | apply zreg | apply thenQ_n | apply thenQ_r | apply thenQ_e | apply znil | apply wret | apply bodyQ_r | apply wblk | apply blkQ_n | apply blkQ_r | apply wskip | apply wexit)
    | apply wct rfl
    | apply wcf rfl
    | (with_reducible apply blkQ_x rfl)
    | (with_reducible apply blkQ_y rfl)
    | (with_reducible apply zcmp); rfl; exact tk; rfl; rfl; rfl
    | (with_reducible apply zar); rfl; rfl; rfl; rfl; (first | omega | ((try simp only [List.length_append, List.length_cons, List.length_nil, List.length_map]); (try dsimp only); omega)); rfl; rfl
    | (with_reducible apply zix); rfl; exact tk; rfl; rfl; rfl; rfl; rfl; rfl; rfl; (first | omega | ((try simp only [List.length_append, List.length_cons, List.length_nil, List.length_map]); (try dsimp only); omega)); rfl; rfl
    | (with_reducible apply zle); rfl; exact tk; rfl; rfl; rfl; rfl; (first | omega | ((try simp only [List.length_append, List.length_cons, List.length_nil, List.length_map]); (try dsimp only); omega)); rfl; rfl; rfl; rfl
    | (with_reducible apply zlit (α := Bal) (e := 97)); rfl; exact tk; rfl; rfl; rfl; rfl; rfl; rfl; rfl; rfl; rfl; rfl; rfl; rfl; rfl
    | (with_reducible apply zap); rfl; exact tk; rfl; rfl; rfl; rfl; rfl; rfl; rfl; rfl; rfl; rfl; (first | omega | ((try simp only [List.length_append, List.length_cons, List.length_nil, List.length_map]); (try dsimp only); omega)); rfl; rfl; rfl; rfl; rfl
    | refine zdq (id := 10) rfl (by kernel_rfl) [(.p, 0), (.p, 1), (.p, 2), (.p, 3), (.p, 4), (.p, 6), (.p, 7), (.p, 8), (.p, 9), (.p, 12), (.p, 13), (.p, 14), (.p, 15), (.t, 5), (.t, 10), (.t, 16), (.o, 11), (.o, 17), (.p, 18), (.p, 19), (.p, 20), (.p, 21), (.p, 22)] [] (by kernel_rfl) rfl ?_
    | refine zdq (id := 13) rfl (by kernel_rfl) [(.p, 0), (.p, 1), (.p, 2), (.p, 3), (.p, 4), (.p, 6), (.p, 7), (.p, 8), (.p, 9), (.p, 11), (.t, 5), (.t, 10), (.o, 12), (.p, 13)] [] (by kernel_rfl) rfl ?_
    | refine zdq (id := 17) rfl (by kernel_rfl) [(.p, 0), (.p, 1), (.p, 2), (.p, 3), (.p, 4), (.p, 6), (.p, 7), (.p, 8), (.p, 9), (.t, 5), (.t, 10), (.o, 11), (.p, 12), (.p, 13), (.p, 14), (.p, 15), (.p, 16), (.p, 17), (.p, 18), (.t, 19), (.o, 20), (.p, 21), (.p, 22)] [] (by kernel_rfl) rfl ?_
    | (with_reducible apply zcp); rfl; rfl; rfl; rfl; rfl; rfl; rfl; rfl; rfl; rfl; (first | exact spec_BalsOk | exact spec_l4LegsRight | exact spec_LegsOk | exact spec_l4Has); rfl; rfl
    | (with_reducible apply zc); rfl; rfl; rfl; rfl; rfl; rfl; rfl; rfl; rfl; rfl; exact spec_l4Of; exact fun _ => rfl; rfl; rfl; rfl
    | (with_reducible apply zcs); rfl; rfl; rfl; rfl; rfl; rfl; rfl; rfl; rfl; rfl; exact spec_AddIn (by assumption) (by assumption); exact fun _ => rfl; exact fun _ => rfl; rfl; rfl; rfl; rfl
    | (with_reducible apply zcf); rfl; rfl; rfl; rfl; rfl; rfl; rfl; rfl; rfl; rfl; exact spec_l4Put (by assumption) (by omega); rfl; rfl; rfl; rfl; rfl
    | fail)
  rename_i hil
  have e : xs = pO l g := hxs.trans (by rw [pf_all hil])
  have hfit : postFit l g := fun j h0 h1 => hall j h0 (by omega)
  clear hxs hba hga
  subst e
  refine wlp (X := Int) [0, 1, 2, 9] [0, 1, 2, 3] (fun k => [(13, I k)]) (fun _ => []) (fun k => 0 ≤ k ∧ k ≤ g.length ∧ ∀ j : Int, 0 ≤ j → j < k → ¬ (fun x : Leg => ¬ (x.Account ∈ sh) ∧ balOf (pO l g) x.Account x.Instr < 0) (rd g j)) (fun k => (g.length - k).toNat) 0 ⟨by omega, by omega, fun j h0 h1 => by omega⟩ rfl rfl (fun _ => rfl) (fun _ => rfl) ⟨rfl, rfl, rfl, rfl, rfl, rfl, rfl, rfl⟩ (fun k hk => ?_)
  obtain ⟨k0, hk, hall2⟩ := hk
  repeat' (first
    | (intro h9; exfalso; first | contradiction | omega)
    | (with_reducible apply zds); exact tk; rfl; rfl; rfl; rfl; rfl
    | (with_reducible apply zd); rfl; exact tk; rfl
    | (with_reducible first | intro _ | apply wseq | apply zreg | apply thenQ_n | apply thenQ_r | apply thenQ_e | apply znil | apply wret | apply bodyQ_r | apply wblk | apply blkQ_n | apply blkQ_r | apply wskip | apply wexit)
    | apply wct rfl
    | apply wcf rfl
    | (with_reducible apply blkQ_x rfl)
    | (with_reducible apply blkQ_y rfl)
    | (with_reducible apply zcmp); rfl; exact tk; rfl; rfl; rfl
    | (with_reducible apply zar); rfl; rfl; rfl; rfl; (first | omega | ((try simp only [List.length_append, List.length_cons, List.length_nil, List.length_map]); (try dsimp only); omega)); rfl; rfl
    | (with_reducible apply zix); rfl; exact tk; rfl; rfl; rfl; rfl; rfl; rfl; rfl; (first | omega | ((try simp only [List.length_append, List.length_cons, List.length_nil, List.length_map]); (try dsimp only); omega)); rfl; rfl
    | (with_reducible apply zle); rfl; exact tk; rfl; rfl; rfl; rfl; (first | omega | ((try simp only [List.length_append, List.length_cons, List.length_nil, List.length_map]); (try dsimp only); omega)); rfl; rfl; rfl; rfl
    | (with_reducible apply zlit (α := Bal) (e := 97)); rfl; exact tk; rfl; rfl; rfl; rfl; rfl; rfl; rfl; rfl; rfl; rfl; rfl; rfl; rfl
    | (with_reducible apply zap); rfl; exact tk; rfl; rfl; rfl; rfl; rfl; rfl; rfl; rfl; rfl; rfl; (first | omega | ((try simp only [List.length_append, List.length_cons, List.length_nil, List.length_map]); (try dsimp only); omega)); rfl; rfl; rfl; rfl; rfl
    | refine zdq (id := 10) rfl (by kernel_rfl) [(.p, 0), (.p, 1), (.p, 2), (.p, 3), (.p, 4), (.p, 6), (.p, 7), (.p, 8), (.p, 9), (.p, 12), (.p, 13), (.p, 14), (.p, 15), (.t, 5), (.t, 10), (.t, 16), (.o, 11), (.o, 17), (.p, 18), (.p, 19), (.p, 20), (.p, 21), (.p, 22)] [] (by kernel_rfl) rfl ?_
    | refine zdq (id := 13) rfl (by kernel_rfl) [(.p, 0), (.p, 1), (.p, 2), (.p, 3), (.p, 4), (.p, 6), (.p, 7), (.p, 8), (.p, 9), (.p, 11), (.t, 5), (.t, 10), (.o, 12), (.p, 13)] [] (by kernel_rfl) rfl ?_
    | refine zdq (id := 17) rfl (by kernel_rfl) [(.p, 0), (.p, 1), (.p, 2), (.p, 3), (.p, 4), (.p, 6), (.p, 7), (.p, 8), (.p, 9), (.t, 5), (.t, 10), (.o, 11), (.p, 12), (.p, 13), (.p, 14), (.p, 15), (.p, 16), (.p, 17), (.p, 18), (.t, 19), (.o, 20), (.p, 21), (.p, 22)] [] (by kernel_rfl) rfl ?_
    | (with_reducible apply zcp); rfl; rfl; rfl; rfl; rfl; rfl; rfl; rfl; rfl; rfl; (first | exact spec_BalsOk | exact spec_l4LegsRight | exact spec_LegsOk | exact spec_l4Has); rfl; rfl
    | (with_reducible apply zc); rfl; rfl; rfl; rfl; rfl; rfl; rfl; rfl; rfl; rfl; exact spec_l4Of; exact fun _ => rfl; rfl; rfl; rfl
    | (with_reducible apply zcs); rfl; rfl; rfl; rfl; rfl; rfl; rfl; rfl; rfl; rfl; exact spec_AddIn (by assumption) (by assumption); exact fun _ => rfl; exact fun _ => rfl; rfl; rfl; rfl; rfl
    | (with_reducible apply zcf); rfl; rfl; rfl; rfl; rfl; rfl; rfl; rfl; rfl; rfl; exact spec_l4Put (by assumption) (by omega); rfl; rfl; rfl; rfl; rfl
    | fail)
  all_goals first
    | (rw [bp_3 hok hlo hfit ⟨rd g k, rd_mem ⟨k0, by assumption⟩, by assumption, by assumption⟩]
       exact endV [0, 1, 2, 5] rfl rfl rfl rfl rfl rfl)
    | exact endR (k + 1) [0, 1, 2, 3] ⟨rfl, rfl, rfl, rfl, rfl, rfl, rfl, rfl⟩ ⟨by omega, by omega, all_step hall2 (fun e => by first | exact e.1 (by assumption) | exact absurd e.2 (by assumption))⟩ (by first | omega | (dsimp only; omega))
    | (have hno := no_rd (q := fun x : Leg => ¬ (x.Account ∈ sh) ∧ balOf (pO l g) x.Account x.Instr < 0) (by assumption) hall2
       first
       | (rw [bp_5 hok hlo hfit hno (by omega)]
          exact endV [0, 1, 2, 5] rfl rfl rfl rfl rfl rfl)
       | (rw [bp_0 hok hlo hfit hno (by omega)]
          exact endV [0, 1, 2, 3] rfl rfl rfl rfl rfl rfl))
end Go.Proofs.YtnlajjoheegbiaaGreat.Sh
