/- Rows of numbers, and books, as bytes. No condition. -/
import Derived.Test.YtnlajjoheegbiaaShPn
import Derived.Test.YtnlajjoheegbiaaShBo
namespace Go.Proofs.Ytnlajjoheegbiaa.Sh
open Go.RowKit
set_option linter.unusedVariables false
set_option linter.unusedSimpArgs false
set_option maxHeartbeats 4000000 in
theorem impl_PutNums_1 {n : Int} : FC Try.prog 99 [I n] ([]) (B (dB (n < 0))) ([]) := by
  refine fent tk 5 [.tmp 2] Try.func99 (by kernel_rfl) rfl rfl rfl rfl rfl rfl rfl ?_
  repeat' (first
    | (with_reducible apply zds); exact tk; rfl; rfl; rfl; rfl; rfl
    | (with_reducible apply zd); rfl; exact tk; rfl
    | (with_reducible first | intro _ | apply wseq | apply zreg | apply thenQ_n | apply thenQ_r | apply thenQ_e | apply znil | apply wret | apply bodyQ_r | apply wblk | apply blkQ_n | apply blkQ_r | apply wskip | apply wexit)
    | (with_reducible apply zcmp); rfl; exact tk; rfl; rfl; rfl
    | fail)
  all_goals first | exact endY [] rfl rfl rfl rfl rfl rfl (by assumption) | exact endN [] rfl rfl rfl rfl rfl rfl (by assumption)
set_option maxHeartbeats 4000000 in
theorem slices_IndexFunc_int_neg {l : List Int} : FC Try.prog 122 [.c (.row 0 0 l.length), .c (.fn 99 [])] ([ro 3 l]) (sel (∃ x ∈ l, x < 0) (I (fIx l (fun x => x < 0))) (I (-1))) (sel (∃ x ∈ l, x < 0) [ro 3 l] [ro 3 l]) := by
  refine fent tk 19 [.tmp 4] Try.func122 (by kernel_rfl) rfl rfl rfl rfl rfl rfl rfl ?_
  refine wlen l 0 rfl (fun hl => ?_)
  repeat' (first
    | (with_reducible apply zds); exact tk; rfl; rfl; rfl; rfl; rfl
    | (with_reducible apply zd); rfl; exact tk; rfl
    | (with_reducible first | intro _ | apply wseq | apply zreg | apply thenQ_n | apply thenQ_r | apply thenQ_e | apply znil | apply wret | apply bodyQ_r | apply wblk | apply blkQ_n | apply blkQ_r | apply wskip | apply wexit)
    | apply wct rfl
    | apply wcf rfl
    | (with_reducible apply blkQ_x rfl)
    | (with_reducible apply blkQ_y rfl)
    | (with_reducible apply zcmp); rfl; exact tk; rfl; rfl; rfl
    | (with_reducible apply zar); rfl; rfl; rfl; rfl; (first | omega | ((try simp only [List.length_append, List.length_cons, List.length_nil, List.length_map]); (try dsimp only); omega)); rfl; rfl
    | (with_reducible apply zix); rfl; exact tk; rfl; rfl; rfl; rfl; rfl; rfl; rfl; (first | omega | ((try simp only [List.length_append, List.length_cons, List.length_nil, List.length_map]); (try dsimp only); omega)); rfl; rfl
    | (with_reducible apply zle); rfl; exact tk; rfl; rfl; rfl; rfl; (first | omega | ((try simp only [List.length_append, List.length_cons, List.length_nil, List.length_map]); (try dsimp only); omega)); rfl; rfl; rfl; rfl
    | fail)
  refine wlp (X := Int) [0, 1, 7] [0] (fun i => [(8, I i)]) (fun _ => []) (fun i => 0 ≤ i ∧ i ≤ l.length ∧ ∀ j : Int, 0 ≤ j → j < i → ¬ (fun x => x < 0) (rd l j)) (fun i => (l.length - i).toNat) 0 ⟨by omega, by omega, fun j h0 h1 => by omega⟩ rfl rfl (fun _ => rfl) (fun _ => rfl) ⟨rfl, rfl, rfl, rfl, rfl, rfl, rfl, rfl⟩ (fun i hi => ?_)
  obtain ⟨h0, hi, hall⟩ := hi
  skip
  repeat' (first
    | (with_reducible apply zds); exact tk; rfl; rfl; rfl; rfl; rfl
    | (with_reducible apply zd); rfl; exact tk; rfl
    | (with_reducible apply zcp); rfl; rfl; rfl; rfl; rfl; rfl; rfl; rfl; rfl; rfl; exact impl_PutNums_1; rfl; rfl
    | (with_reducible first | intro _ | apply wseq | apply zreg | apply thenQ_n | apply thenQ_r | apply thenQ_e | apply znil | apply wret | apply bodyQ_r | apply wblk | apply blkQ_n | apply blkQ_r | apply wskip | apply wexit)
    | apply wct rfl
    | apply wcf rfl
    | (with_reducible apply blkQ_x rfl)
    | (with_reducible apply blkQ_y rfl)
    | (with_reducible apply zcmp); rfl; exact tk; rfl; rfl; rfl
    | (with_reducible apply zar); rfl; rfl; rfl; rfl; (first | omega | ((try simp only [List.length_append, List.length_cons, List.length_nil, List.length_map]); (try dsimp only); omega)); rfl; rfl
    | (with_reducible apply zix); rfl; exact tk; rfl; rfl; rfl; rfl; rfl; rfl; rfl; (first | omega | ((try simp only [List.length_append, List.length_cons, List.length_nil, List.length_map]); (try dsimp only); omega)); rfl; rfl
    | (with_reducible apply zle); rfl; exact tk; rfl; rfl; rfl; rfl; (first | omega | ((try simp only [List.length_append, List.length_cons, List.length_nil, List.length_map]); (try dsimp only); omega)); rfl; rfl; rfl; rfl
    | fail)
  all_goals first
    | (refine endG (X' := I i) (hs' := [ro 3 l]) [0] rfl rfl rfl rfl rfl rfl ?_ ?_
       · rw [sel_t ⟨rd l i, rd_mem ⟨by omega, by omega⟩, by assumption⟩, fIx_eq ⟨by omega, by omega⟩ hall (by assumption)]
       · rw [sel_t ⟨rd l i, rd_mem ⟨by omega, by omega⟩, by assumption⟩])
    | exact endF (no_rd (by assumption) hall) [0] rfl rfl rfl rfl rfl rfl
    | exact endR (i + 1) [0] ⟨rfl, rfl, rfl, rfl, rfl, rfl, rfl, rfl⟩ ⟨by omega, by omega, all_step hall (by assumption)⟩ (by first | omega | (dsimp only; omega))

set_option maxHeartbeats 4000000 in
theorem slices_ContainsFunc_int_neg {l : List Int} : FC Try.prog 98 [.c (.row 0 0 l.length), .c (.fn 99 [])] ([ro 3 l]) (B (dB (∃ x ∈ l, x < 0))) ([ro 3 l]) := by
  refine fent tk 9 [.tmp 4] Try.func98 (by kernel_rfl) rfl rfl rfl rfl rfl rfl rfl ?_
  have hn := fIx_nn l (fun x => x < 0)
  repeat' (first
    | (with_reducible apply zds); exact tk; rfl; rfl; rfl; rfl; rfl
    | (with_reducible apply zd); rfl; exact tk; rfl
    | (with_reducible first | intro _ | apply wseq | apply zreg | apply thenQ_n | apply thenQ_r | apply thenQ_e | apply znil | apply wret | apply bodyQ_r | apply wblk | apply blkQ_n | apply blkQ_r | apply wskip | apply wexit)
    | (with_reducible apply zcmp); rfl; exact tk; rfl; rfl; rfl
    | (with_reducible apply zcs); rfl; rfl; rfl; rfl; rfl; rfl; rfl; rfl; rfl; rfl; exact slices_IndexFunc_int_neg; exact fun _ => rfl; exact fun _ => rfl; rfl; rfl; rfl; rfl
    | fail)
  all_goals first
    | exact endY [0] rfl rfl rfl rfl rfl rfl (by assumption)
    | exact endN [0] rfl rfl rfl rfl rfl rfl (by assumption)
    | (exfalso; omega)

theorem putNum_pos {x : Int} (h : ¬ x < 0) : putNum x = pnI x := sel_f h
theorem putNum_len {x : Int} (h : x ≤ 9223372036854775807) : (putNum x).length ≤ 9 := by
  by_cases k : x < 0
  · rw [putNum, sel_t k]; simp
  · rw [putNum, sel_f k]; exact pnI_len h
theorem fm_len {l : List Int} (hb : ∀ x ∈ l, x ≤ 9223372036854775807) : (l.flatMap pnI).length ≤ 9 * l.length := by
  induction l with
  | nil => simp
  | cons x l ih =>
    rw [List.flatMap_cons, List.length_append, List.length_cons]
    have h1 := pnI_len (hb x (by simp))
    have h2 := ih (fun y hy => hb y (by simp [hy]))
    omega
theorem fm_succ {l : List Int} {i : Int} (h : 0 ≤ i ∧ i < l.length) : (pf l (i + 1)).flatMap pnI = (pf l i).flatMap pnI ++ pnI (rd l i) := by
  rw [pf_succ h, List.flatMap_append]
  simp
set_option maxHeartbeats 4000000 in
theorem impl_PutNums {l : List Int} (hb : ∀ x ∈ l, x ≤ 9223372036854775807) (hl : l.length ≤ 1000000) : FC Try.prog 70 [.c (.row 0 0 l.length)] ([ro 3 l]) (.c (.row 1 0 (putNums l).length)) ([ro 3 l, ow 5 (putNums l)]) := by
  refine fent tk 21 [.tmp 2] Try.func70 (by kernel_rfl) rfl rfl rfl rfl rfl rfl rfl ?_
  repeat' (first
    | (with_reducible apply zds); exact tk; rfl; rfl; rfl; rfl; rfl
    | (with_reducible apply zd); rfl; exact tk; rfl
    | (with_reducible apply znila (d := 2) 5 1); rfl; rfl; rfl
    | (with_reducible first | intro _ | apply wseq | apply zreg | apply thenQ_n | apply thenQ_r | apply thenQ_e | apply znil | apply wret | apply bodyQ_r | apply wblk | apply blkQ_n | apply blkQ_r | apply wskip | apply wexit)
    | apply wct rfl
    | apply wcf rfl
    | (with_reducible apply blkQ_x rfl)
    | (with_reducible apply blkQ_y rfl)
    | (with_reducible apply zcmp); rfl; exact tk; rfl; rfl; rfl
    | (with_reducible apply zar); rfl; rfl; rfl; rfl; (first | omega | ((try simp only [List.length_append, List.length_cons, List.length_nil, List.length_map]); (try dsimp only); omega)); rfl; rfl
    | (with_reducible apply zix); rfl; exact tk; rfl; rfl; rfl; rfl; rfl; rfl; rfl; (first | omega | ((try simp only [List.length_append, List.length_cons, List.length_nil, List.length_map]); (try dsimp only); omega)); rfl; rfl
    | (with_reducible apply zle); rfl; exact tk; rfl; rfl; rfl; rfl; (first | omega | ((try simp only [List.length_append, List.length_cons, List.length_nil, List.length_map]); (try dsimp only); omega)); rfl; rfl; rfl; rfl
    | (with_reducible apply zlit (α := By) (e := 5)); rfl; exact tk; rfl; rfl; rfl; rfl; rfl; rfl; rfl; rfl; rfl; rfl; rfl; rfl; rfl
    | (with_reducible apply zap); rfl; exact tk; rfl; rfl; rfl; rfl; rfl; rfl; rfl; rfl; rfl; rfl; (first | omega | ((try simp only [List.length_append, List.length_cons, List.length_nil, List.length_map]); (try dsimp only); omega)); rfl; rfl; rfl; rfl; rfl
    | (with_reducible apply zcp); rfl; rfl; rfl; rfl; rfl; rfl; rfl; rfl; rfl; rfl; exact slices_ContainsFunc_int_neg; rfl; rfl
    | (with_reducible apply zcf); rfl; rfl; rfl; rfl; rfl; rfl; rfl; rfl; rfl; rfl; exact impl_PutNum (by first | omega | assumption); rfl; rfl; rfl; rfl; rfl
    | fail)
  · rename_i h
    exact endG (X' := .c (.row 1 0 0)) (hs' := [ro 3 l, ow 5 ([] : List By)]) [0, 2] rfl rfl rfl rfl rfl rfl (by rw [putNums, sel_t h]; rfl) (by rw [putNums, sel_t h])
  rename_i hneg
  refine wlp (X := Int × List By) [9, 10] [0, 2] (fun y => [(11, I y.1), (3, .c (.row 1 0 y.2.length))]) (fun y => [(1, ow 5 y.2)]) (fun y => (0 ≤ y.1 ∧ y.1 ≤ l.length) ∧ y.2 = (pf l y.1).flatMap pnI) (fun y => (l.length - y.1).toNat) (0, []) ⟨by dsimp only; omega, rfl⟩ rfl rfl (fun _ => rfl) (fun _ => rfl) ⟨rfl, rfl, rfl, rfl, rfl, rfl, rfl, rfl⟩ (fun y hy => ?_)
  obtain ⟨i, out⟩ := y
  obtain ⟨h0, he⟩ := hy
  dsimp only at h0 he ⊢
  have hol : out.length ≤ 9 * 1000000 := by
    rw [he]
    have h1 := fm_len (l := pf l i) (fun x hx => hb x (List.mem_of_mem_take hx))
    have h2 := pf_len h0
    omega
  have hbx := fun (h : i < l.length) => hb _ (rd_mem ⟨h0.1, h⟩)
  have hpl := fun (h : i < l.length) => putNum_len (hbx h)
  repeat' (first
    | (with_reducible apply zds); exact tk; rfl; rfl; rfl; rfl; rfl
    | (with_reducible apply zd); rfl; exact tk; rfl
    | (with_reducible apply zcf); rfl; rfl; rfl; rfl; rfl; rfl; rfl; rfl; rfl; rfl; exact impl_PutNum (hbx (by assumption)); rfl; rfl; rfl; rfl; rfl
    | (with_reducible apply zap); rfl; exact tk; rfl; rfl; rfl; rfl; rfl; rfl; rfl; rfl; rfl; rfl; (have h1 := hpl (by assumption); dsimp only; omega); rfl; rfl; rfl; rfl; rfl
    | (with_reducible first | intro _ | apply wseq | apply zreg | apply thenQ_n | apply thenQ_r | apply thenQ_e | apply znil | apply wret | apply bodyQ_r | apply wblk | apply blkQ_n | apply blkQ_r | apply wskip | apply wexit)
    | apply wct rfl
    | apply wcf rfl
    | (with_reducible apply blkQ_x rfl)
    | (with_reducible apply blkQ_y rfl)
    | (with_reducible apply zcmp); rfl; exact tk; rfl; rfl; rfl
    | (with_reducible apply zar); rfl; rfl; rfl; rfl; (first | omega | ((try simp only [List.length_append, List.length_cons, List.length_nil, List.length_map]); (try dsimp only); omega)); rfl; rfl
    | (with_reducible apply zix); rfl; exact tk; rfl; rfl; rfl; rfl; rfl; rfl; rfl; (first | omega | ((try simp only [List.length_append, List.length_cons, List.length_nil, List.length_map]); (try dsimp only); omega)); rfl; rfl
    | (with_reducible apply zle); rfl; exact tk; rfl; rfl; rfl; rfl; (first | omega | ((try simp only [List.length_append, List.length_cons, List.length_nil, List.length_map]); (try dsimp only); omega)); rfl; rfl; rfl; rfl
    | (with_reducible apply zlit (α := By) (e := 5)); rfl; exact tk; rfl; rfl; rfl; rfl; rfl; rfl; rfl; rfl; rfl; rfl; rfl; rfl; rfl
    | (with_reducible apply zap); rfl; exact tk; rfl; rfl; rfl; rfl; rfl; rfl; rfl; rfl; rfl; rfl; (first | omega | ((try simp only [List.length_append, List.length_cons, List.length_nil, List.length_map]); (try dsimp only); omega)); rfl; rfl; rfl; rfl; rfl
    | (with_reducible apply zcp); rfl; rfl; rfl; rfl; rfl; rfl; rfl; rfl; rfl; rfl; exact slices_ContainsFunc_int_neg; rfl; rfl
    | (with_reducible apply zcf); rfl; rfl; rfl; rfl; rfl; rfl; rfl; rfl; rfl; rfl; exact impl_PutNum (by first | omega | assumption); rfl; rfl; rfl; rfl; rfl
    | fail)
  · rename_i h
    rw [putNum_pos (fun k => hneg ⟨_, rd_mem ⟨h0.1, h⟩, k⟩)]
    exact endR (i + 1, out ++ pnI (rd l i)) [0, 3] ⟨rfl, rfl, rfl, rfl, rfl, rfl, rfl, rfl⟩ ⟨by dsimp only; omega, by dsimp only; rw [he, fm_succ ⟨h0.1, h⟩]⟩ (by first | omega | (dsimp only; omega))
  · rename_i h
    exact endG (X' := .c (.row 1 0 out.length)) (hs' := [ro 3 l, ow 5 out]) [0, 1] rfl rfl rfl rfl rfl rfl (by rw [putNums, sel_f hneg, he, pf_all h]) (by rw [putNums, sel_f hneg, he, pf_all h])
set_option maxHeartbeats 4000000 in
theorem spec_PutNums {l : List Int} (hb : ∀ x ∈ l, x ≤ 9223372036854775807) (hl : l.length ≤ 1000000) : FC Try.prog 63 [.c (.row 0 0 l.length)] ([ro 3 l]) (.c (.row 1 0 (putNums l).length)) ([ro 3 l, ow 5 (putNums l)]) := by
  refine fent tk 26 [.tmp 2] Try.func63 (by kernel_rfl) rfl rfl rfl rfl rfl rfl rfl ?_
  repeat' (first
    | (with_reducible apply zds); exact tk; rfl; rfl; rfl; rfl; rfl
    | (with_reducible apply zd); rfl; exact tk; rfl
    | (with_reducible first | intro _ | apply wseq | apply zreg | apply thenQ_n | apply thenQ_r | apply thenQ_e | apply znil | apply wret | apply bodyQ_r | apply wblk | apply blkQ_n | apply blkQ_r | apply wskip | apply wexit)
    | apply wct rfl
    | apply wcf rfl
    | (with_reducible apply blkQ_x rfl)
    | (with_reducible apply blkQ_y rfl)
    | (with_reducible apply zcmp); rfl; exact tk; rfl; rfl; rfl
    | (with_reducible apply zar); rfl; rfl; rfl; rfl; (first | omega | ((try simp only [List.length_append, List.length_cons, List.length_nil, List.length_map]); (try dsimp only); omega)); rfl; rfl
    | (with_reducible apply zix); rfl; exact tk; rfl; rfl; rfl; rfl; rfl; rfl; rfl; (first | omega | ((try simp only [List.length_append, List.length_cons, List.length_nil, List.length_map]); (try dsimp only); omega)); rfl; rfl
    | (with_reducible apply zle); rfl; exact tk; rfl; rfl; rfl; rfl; (first | omega | ((try simp only [List.length_append, List.length_cons, List.length_nil, List.length_map]); (try dsimp only); omega)); rfl; rfl; rfl; rfl
    | (with_reducible apply zlit (α := By) (e := 5)); rfl; exact tk; rfl; rfl; rfl; rfl; rfl; rfl; rfl; rfl; rfl; rfl; rfl; rfl; rfl
    | (with_reducible apply zap); rfl; exact tk; rfl; rfl; rfl; rfl; rfl; rfl; rfl; rfl; rfl; rfl; (first | omega | ((try simp only [List.length_append, List.length_cons, List.length_nil, List.length_map]); (try dsimp only); omega)); rfl; rfl; rfl; rfl; rfl
    | (with_reducible apply zcf); rfl; rfl; rfl; rfl; rfl; rfl; rfl; rfl; rfl; rfl; exact spec_PutNum (by first | omega | assumption); rfl; rfl; rfl; rfl; rfl
    | fail)
  refine wlp (X := Int × List By) [0] [0, 1] (fun y => [(4, I y.1), (3, .c (.row 1 0 y.2.length))]) (fun y => [(1, ow 5 y.2)]) (fun y => (0 ≤ y.1 ∧ y.1 ≤ l.length) ∧ y.2 = (pf l y.1).flatMap pnI ∧ ∀ j : Int, 0 ≤ j → j < y.1 → ¬ rd l j < 0) (fun y => (l.length - y.1).toNat) (0, []) ⟨by dsimp only; omega, rfl, fun j h0 h1 => absurd h1 (by dsimp only; omega)⟩ rfl rfl (fun _ => rfl) (fun _ => rfl) ⟨rfl, rfl, rfl, rfl, rfl, rfl, rfl, rfl⟩ (fun y hy => ?_)
  obtain ⟨i, out⟩ := y
  obtain ⟨h0, he, hall⟩ := hy
  dsimp only at h0 he hall ⊢
  have hol : out.length ≤ 9 * 1000000 := by
    rw [he]
    have h1 := fm_len (l := pf l i) (fun x hx => hb x (List.mem_of_mem_take hx))
    have h2 := pf_len h0
    omega
  have hbx := fun (h : i < l.length) => hb _ (rd_mem ⟨h0.1, h⟩)
  have hpl := fun (h : i < l.length) => putNum_len (hbx h)
  repeat' (first
    | (with_reducible apply zds); exact tk; rfl; rfl; rfl; rfl; rfl
    | (with_reducible apply zd); rfl; exact tk; rfl
    | (with_reducible apply zcf); rfl; rfl; rfl; rfl; rfl; rfl; rfl; rfl; rfl; rfl; exact spec_PutNum (hbx (by assumption)); rfl; rfl; rfl; rfl; rfl
    | (with_reducible apply zap); rfl; exact tk; rfl; rfl; rfl; rfl; rfl; rfl; rfl; rfl; rfl; rfl; (have h1 := hpl (by assumption); dsimp only; omega); rfl; rfl; rfl; rfl; rfl
    | (with_reducible first | intro _ | apply wseq | apply zreg | apply thenQ_n | apply thenQ_r | apply thenQ_e | apply znil | apply wret | apply bodyQ_r | apply wblk | apply blkQ_n | apply blkQ_r | apply wskip | apply wexit)
    | apply wct rfl
    | apply wcf rfl
    | (with_reducible apply blkQ_x rfl)
    | (with_reducible apply blkQ_y rfl)
    | (with_reducible apply zcmp); rfl; exact tk; rfl; rfl; rfl
    | (with_reducible apply zar); rfl; rfl; rfl; rfl; (first | omega | ((try simp only [List.length_append, List.length_cons, List.length_nil, List.length_map]); (try dsimp only); omega)); rfl; rfl
    | (with_reducible apply zix); rfl; exact tk; rfl; rfl; rfl; rfl; rfl; rfl; rfl; (first | omega | ((try simp only [List.length_append, List.length_cons, List.length_nil, List.length_map]); (try dsimp only); omega)); rfl; rfl
    | (with_reducible apply zle); rfl; exact tk; rfl; rfl; rfl; rfl; (first | omega | ((try simp only [List.length_append, List.length_cons, List.length_nil, List.length_map]); (try dsimp only); omega)); rfl; rfl; rfl; rfl
    | (with_reducible apply zlit (α := By) (e := 5)); rfl; exact tk; rfl; rfl; rfl; rfl; rfl; rfl; rfl; rfl; rfl; rfl; rfl; rfl; rfl
    | (with_reducible apply zap); rfl; exact tk; rfl; rfl; rfl; rfl; rfl; rfl; rfl; rfl; rfl; rfl; (first | omega | ((try simp only [List.length_append, List.length_cons, List.length_nil, List.length_map]); (try dsimp only); omega)); rfl; rfl; rfl; rfl; rfl
    | (with_reducible apply zcf); rfl; rfl; rfl; rfl; rfl; rfl; rfl; rfl; rfl; rfl; exact spec_PutNum (by first | omega | assumption); rfl; rfl; rfl; rfl; rfl
    | fail)
  · rename_i h k
    have hex : ∃ x ∈ l, x < 0 := ⟨_, rd_mem ⟨h0.1, h⟩, k⟩
    exact endG (X' := .c (.row 1 0 [].length)) (hs' := [ro 3 l, ow 5 ([] : List By)]) [0, 2] rfl rfl rfl rfl rfl rfl (by rw [putNums, sel_t hex]) (by rw [putNums, sel_t hex])
  · rename_i h k
    rw [putNum_pos k]
    exact endR (i + 1, out ++ pnI (rd l i)) [0, 3] ⟨rfl, rfl, rfl, rfl, rfl, rfl, rfl, rfl⟩ ⟨by dsimp only; omega, by dsimp only; rw [he, fm_succ ⟨h0.1, h⟩], all_step hall k⟩ (by first | omega | (dsimp only; omega))
  · rename_i h
    have hneg := no_rd (q := fun x => x < 0) h hall
    exact endG (X' := .c (.row 1 0 out.length)) (hs' := [ro 3 l, ow 5 out]) [0, 1] rfl rfl rfl rfl rfl rfl (by rw [putNums, sel_f hneg, he, pf_all h]) (by rw [putNums, sel_f hneg, he, pf_all h])
def encA (x : Account) : List Int := [x.No, x.Kind]
def encN (x : Instr) : List Int := [x.No, x.Kind]
def encB (x : Bal) : List Int := [x.Account, x.Instr, x.Amount + 1000000000000000]
def encL (x : Lot) : List Int := [x.Account, x.Instr, x.No, x.Qty, x.Cost]
def encT (x : Trade) : List Int := [x.No, x.Buyer, x.Seller, x.Paper, x.Qty, x.Cash, x.Price, x.State]
theorem fx_succ {α : Type} [Enc α] {f : α → List Int} {l : List α} {i : Int} (h : 0 ≤ i ∧ i < l.length) : (pf l (i + 1)).flatMap f = (pf l i).flatMap f ++ f (rd l i) := by
  rw [pf_succ h, List.flatMap_append]
  simp
theorem fx_len {α : Type} {f : α → List Int} (k : Nat) (hf : ∀ x, (f x).length = k) (l : List α) : (l.flatMap f).length = k * l.length := by
  induction l with
  | nil => simp
  | cons x l ih => rw [List.flatMap_cons, List.length_append, hf, ih, List.length_cons, Nat.mul_add]; omega
def bookNums : Books → List Int
  | ⟨ba, bi, bb, bl, bt, bn⟩ => [(ba.length : Int)] ++ ba.flatMap encA ++ [(bi.length : Int)] ++ bi.flatMap encN ++ [(bb.length : Int)] ++ bb.flatMap encB ++ [(bl.length : Int)] ++ bl.flatMap encL ++ [(bt.length : Int)] ++ bt.flatMap encT ++ [bn]
theorem books_len {b : Books} (h : BooksOk b) : b.Accounts.length ≤ 20 ∧ b.Instrs.length ≤ 8 ∧ b.Bals.length ≤ 160 ∧ b.Lots.length ≤ 120 ∧ b.Trades.length ≤ 30 := ⟨h.acc.2, h.ins.2, h.bals.2, h.lots.1.2, h.trades.2⟩
theorem nums_le {b : Books} (h : BooksOk b) : ∀ x ∈ bookNums b, x ≤ 9223372036854775807 := by
  obtain ⟨h1, h2, h3, h4, h5⟩ := books_len h
  obtain ⟨ba, bi, bb, bl, bt, bn⟩ := b
  obtain ⟨a1, a2, a3, a4, a5, a6, _, _, _⟩ := h
  dsimp only at *
  have ka : ∀ x ∈ ba, isNo x.No ∧ inP x.Kind 1 4 := fun x hx => by obtain ⟨i, hi, rfl⟩ := mem_rd hx; have := a1.1 i hi.1 hi.2; exact ⟨this.1, this.2.1⟩
  have ki : ∀ x ∈ bi, isNo x.No ∧ inP x.Kind 1 2 := fun x hx => by obtain ⟨i, hi, rfl⟩ := mem_rd hx; have := a2.1 i hi.1 hi.2; exact ⟨this.1, this.2.1⟩
  have kb : ∀ x ∈ bb, isNo x.Account ∧ isNo x.Instr ∧ amountOk x.Amount := fun x hx => by obtain ⟨i, hi, rfl⟩ := mem_rd hx; have := a3.1 i hi.1 hi.2; exact ⟨this.1, this.2.1, this.2.2.1⟩
  have kl : ∀ x ∈ bl, lotF x.Account x.Instr x.No x.Qty x.Cost := fun x hx => by obtain ⟨i, hi, rfl⟩ := mem_rd hx; exact (a4.1.1 i hi.1 hi.2).1
  have kt : ∀ x ∈ bt, isNo x.No ∧ isNo x.Buyer ∧ isNo x.Seller ∧ isNo x.Paper ∧ isNo x.Cash ∧ inP x.Qty 1 1000000000000000 ∧ inP x.Price 0 1000000000000000 ∧ inP x.State 1 3 := fun x hx => by obtain ⟨i, hi, rfl⟩ := mem_rd hx; have := a5.1 i hi.1 hi.2; exact ⟨this.1, this.2.1, this.2.2.1, this.2.2.2.1, this.2.2.2.2.1, this.2.2.2.2.2.2.1, this.2.2.2.2.2.2.2.1, this.2.2.2.2.2.2.2.2.1⟩
  intro x hx
  simp only [bookNums, List.mem_append, List.mem_singleton, List.mem_flatMap] at hx
  unfold isNo inP at *
  rcases hx with (((((((((hx | ⟨y, hy, hx⟩) | hx) | ⟨y, hy, hx⟩) | hx) | ⟨y, hy, hx⟩) | hx) | ⟨y, hy, hx⟩) | hx) | ⟨y, hy, hx⟩) | hx
  · omega
  · have := ka y hy; simp only [encA, List.mem_cons, List.not_mem_nil, or_false] at hx; omega
  · omega
  · have := ki y hy; simp only [encN, List.mem_cons, List.not_mem_nil, or_false] at hx; omega
  · omega
  · have := kb y hy; unfold amountOk inP at this; simp only [encB, List.mem_cons, List.not_mem_nil, or_false] at hx; omega
  · omega
  · have := kl y hy; unfold lotF isNo inP at this; simp only [encL, List.mem_cons, List.not_mem_nil, or_false] at hx; omega
  · omega
  · have := kt y hy; simp only [encT, List.mem_cons, List.not_mem_nil, or_false] at hx; omega
  · omega
theorem nums_len {b : Books} (h : BooksOk b) : (bookNums b).length ≤ 2000 := by
  obtain ⟨h1, h2, h3, h4, h5⟩ := books_len h
  obtain ⟨ba, bi, bb, bl, bt, bn⟩ := b
  dsimp only at *
  simp only [bookNums, List.length_append, List.length_cons, List.length_nil, fx_len 2 (fun x => rfl : ∀ x, (encA x).length = 2), fx_len 2 (fun x => rfl : ∀ x, (encN x).length = 2), fx_len 3 (fun x => rfl : ∀ x, (encB x).length = 3), fx_len 5 (fun x => rfl : ∀ x, (encL x).length = 5), fx_len 8 (fun x => rfl : ∀ x, (encT x).length = 8)]
  omega

set_option maxHeartbeats 4000000 in
theorem spec_l13Nums {ba : List Account} {bi : List Instr} {bb : List Bal} {bl : List Lot} {bt : List Trade} {bn : Int} (hok : BooksOk ⟨ba, bi, bb, bl, bt, bn⟩) : FC Try.prog 64 [bkV 0 ⟨ba, bi, bb, bl, bt, bn⟩] (bkR ⟨ba, bi, bb, bl, bt, bn⟩) (.c (.row 5 0 (bookNums ⟨ba, bi, bb, bl, bt, bn⟩).length)) (bkR ⟨ba, bi, bb, bl, bt, bn⟩ ++ [ow 3 (bookNums ⟨ba, bi, bb, bl, bt, bn⟩)]) := by
  refine fent tk 173 [.tmp 2] Try.func64 (by kernel_rfl) rfl rfl rfl rfl rfl rfl rfl ?_
  obtain ⟨l1, l2, l3, l4, l5⟩ := books_len hok
  dsimp only at l1 l2 l3 l4 l5
  have kb : ∀ x ∈ bb, -1000000000000000 ≤ x.Amount ∧ x.Amount ≤ 1000000000000000 := fun x hx => by obtain ⟨i, hi, rfl⟩ := mem_rd hx; exact (hok.bals.1 i hi.1 hi.2).2.2.1
  repeat' (first
    | (with_reducible apply zds); exact tk; rfl; rfl; rfl; rfl; rfl
    | (with_reducible apply zd); rfl; exact tk; rfl
    | (with_reducible first | intro _ | apply wseq | apply zreg | apply thenQ_n | apply thenQ_r | apply thenQ_e | apply znil | apply wret | apply bodyQ_r | apply wblk | apply blkQ_n | apply blkQ_r | apply wskip | apply wexit)
    | apply wct rfl
    | apply wcf rfl
    | (with_reducible apply blkQ_x rfl)
    | (with_reducible apply blkQ_y rfl)
    | (with_reducible apply zcmp); rfl; exact tk; rfl; rfl; rfl
    | (with_reducible apply zar); rfl; rfl; rfl; rfl; (first | omega | ((try simp only [List.length_append, List.length_cons, List.length_nil, List.length_map]); (try dsimp only); omega)); rfl; rfl
    | (with_reducible apply zix); rfl; exact tk; rfl; rfl; rfl; rfl; rfl; rfl; rfl; (first | omega | ((try simp only [List.length_append, List.length_cons, List.length_nil, List.length_map]); (try dsimp only); omega)); rfl; rfl
    | (with_reducible apply zle); rfl; exact tk; rfl; rfl; rfl; rfl; (first | omega | ((try simp only [List.length_append, List.length_cons, List.length_nil, List.length_map]); (try dsimp only); omega)); rfl; rfl; rfl; rfl
    | (with_reducible apply zse); rfl; exact tk; rfl; rfl; rfl; rfl; rfl; rfl; (first | omega | ((try simp only [List.length_append, List.length_cons, List.length_nil, List.length_map]); (try dsimp only); omega)); rfl; rfl; rfl; rfl; rfl
    | (with_reducible apply zlit (α := Int) (e := 3)); rfl; exact tk; rfl; rfl; rfl; rfl; rfl; rfl; rfl; rfl; rfl; rfl; rfl; rfl; rfl
    | (with_reducible apply zap); rfl; exact tk; rfl; rfl; rfl; rfl; rfl; rfl; rfl; rfl; rfl; rfl; (first | omega | ((try simp only [List.length_append, List.length_cons, List.length_nil, List.length_map]); (try dsimp only); omega)); rfl; rfl; rfl; rfl; rfl
    | refine zdq (id := 5) rfl (by kernel_rfl) [(.p, 0), (.p, 1), (.p, 3), (.p, 7), (.p, 9), (.t, 2), (.p, 4), (.p, 5), (.t, 6), (.t, 8), (.p, 10), (.p, 11), (.t, 12), (.o, 13), (.l, 14), (.p, 15)] [14] (by kernel_rfl) rfl ?_
    | refine zdq (id := 10) rfl (by kernel_rfl) [(.p, 0), (.p, 1), (.p, 3), (.p, 7), (.p, 9), (.t, 2), (.p, 4), (.p, 5), (.t, 6), (.t, 8), (.p, 10), (.p, 11), (.t, 12), (.o, 13), (.l, 14), (.p, 15)] [14] (by kernel_rfl) rfl ?_
    | refine zdq (id := 15) rfl (by kernel_rfl) [(.p, 0), (.p, 1), (.p, 3), (.p, 7), (.p, 9), (.p, 13), (.p, 15), (.t, 2), (.p, 4), (.p, 5), (.t, 6), (.t, 8), (.p, 10), (.p, 11), (.t, 12), (.t, 14), (.p, 16), (.p, 17), (.t, 18), (.p, 19), (.o, 20), (.l, 21), (.p, 22)] [21] (by kernel_rfl) rfl ?_
    | fail)
  refine wlp (X := Int × List Int) [1] [0, 1, 2, 3, 4, 5, 6] (fun y => [(4, I y.1), (3, .c (.row 6 0 y.2.length))]) (fun y => [(6, ow 3 y.2)]) (fun y => (0 ≤ y.1 ∧ y.1 ≤ ba.length) ∧ y.2 = [(ba.length : Int)] ++ (pf ba y.1).flatMap encA) (fun y => (ba.length - y.1).toNat) (0, [(ba.length : Int)]) ⟨by dsimp only; omega, by simp [pf]⟩ rfl rfl (fun _ => rfl) (fun _ => rfl) ⟨rfl, rfl, rfl, rfl, rfl, rfl, rfl, rfl⟩ (fun y hy => ?_)
  obtain ⟨i, n⟩ := y
  obtain ⟨h0, he⟩ := hy
  dsimp only at h0 he ⊢
  have hpl := pf_len h0
  have hnl : n.length ≤ 2000 := by
    rw [he]
    simp only [List.length_append, List.length_cons, List.length_nil, fx_len 2 (fun x => rfl : ∀ x, (encA x).length = 2), fx_len 2 (fun x => rfl : ∀ x, (encN x).length = 2), fx_len 3 (fun x => rfl : ∀ x, (encB x).length = 3), fx_len 5 (fun x => rfl : ∀ x, (encL x).length = 5), fx_len 8 (fun x => rfl : ∀ x, (encT x).length = 8)]
    omega
  repeat' (first
    | (with_reducible apply zds); exact tk; rfl; rfl; rfl; rfl; rfl
    | (with_reducible apply zd); rfl; exact tk; rfl
    | (with_reducible first | intro _ | apply wseq | apply zreg | apply thenQ_n | apply thenQ_r | apply thenQ_e | apply znil | apply wret | apply bodyQ_r | apply wblk | apply blkQ_n | apply blkQ_r | apply wskip | apply wexit)
    | apply wct rfl
    | apply wcf rfl
    | (with_reducible apply blkQ_x rfl)
    | (with_reducible apply blkQ_y rfl)
    | (with_reducible apply zcmp); rfl; exact tk; rfl; rfl; rfl
    | (with_reducible apply zar); rfl; rfl; rfl; rfl; (first | omega | ((try simp only [List.length_append, List.length_cons, List.length_nil, List.length_map]); (try dsimp only); omega)); rfl; rfl
    | (with_reducible apply zix); rfl; exact tk; rfl; rfl; rfl; rfl; rfl; rfl; rfl; (first | omega | ((try simp only [List.length_append, List.length_cons, List.length_nil, List.length_map]); (try dsimp only); omega)); rfl; rfl
    | (with_reducible apply zle); rfl; exact tk; rfl; rfl; rfl; rfl; (first | omega | ((try simp only [List.length_append, List.length_cons, List.length_nil, List.length_map]); (try dsimp only); omega)); rfl; rfl; rfl; rfl
    | (with_reducible apply zse); rfl; exact tk; rfl; rfl; rfl; rfl; rfl; rfl; (first | omega | ((try simp only [List.length_append, List.length_cons, List.length_nil, List.length_map]); (try dsimp only); omega)); rfl; rfl; rfl; rfl; rfl
    | (with_reducible apply zlit (α := Int) (e := 3)); rfl; exact tk; rfl; rfl; rfl; rfl; rfl; rfl; rfl; rfl; rfl; rfl; rfl; rfl; rfl
    | (with_reducible apply zap); rfl; exact tk; rfl; rfl; rfl; rfl; rfl; rfl; rfl; rfl; rfl; rfl; (first | omega | ((try simp only [List.length_append, List.length_cons, List.length_nil, List.length_map]); (try dsimp only); omega)); rfl; rfl; rfl; rfl; rfl
    | refine zdq (id := 5) rfl (by kernel_rfl) [(.p, 0), (.p, 1), (.p, 3), (.p, 7), (.p, 9), (.t, 2), (.p, 4), (.p, 5), (.t, 6), (.t, 8), (.p, 10), (.p, 11), (.t, 12), (.o, 13), (.l, 14), (.p, 15)] [14] (by kernel_rfl) rfl ?_
    | refine zdq (id := 10) rfl (by kernel_rfl) [(.p, 0), (.p, 1), (.p, 3), (.p, 7), (.p, 9), (.t, 2), (.p, 4), (.p, 5), (.t, 6), (.t, 8), (.p, 10), (.p, 11), (.t, 12), (.o, 13), (.l, 14), (.p, 15)] [14] (by kernel_rfl) rfl ?_
    | refine zdq (id := 15) rfl (by kernel_rfl) [(.p, 0), (.p, 1), (.p, 3), (.p, 7), (.p, 9), (.p, 13), (.p, 15), (.t, 2), (.p, 4), (.p, 5), (.t, 6), (.t, 8), (.p, 10), (.p, 11), (.t, 12), (.t, 14), (.p, 16), (.p, 17), (.t, 18), (.p, 19), (.o, 20), (.l, 21), (.p, 22)] [21] (by kernel_rfl) rfl ?_
    | fail)
  · rename_i h
    exact endR (i + 1, n ++ encA (rd ba i)) [0, 1, 2, 3, 4, 5, 8] ⟨rfl, rfl, rfl, rfl, rfl, rfl, rfl, rfl⟩ ⟨by dsimp only; omega, by dsimp only; rw [he, fx_succ ⟨h0.1, h⟩, List.append_assoc]⟩ (by first | omega | (dsimp only; omega))
  rename_i h
  rw [pf_all h] at he
  subst he
  clear h h0 hpl hnl
  repeat' (first
    | (with_reducible apply zds); exact tk; rfl; rfl; rfl; rfl; rfl
    | (with_reducible apply zd); rfl; exact tk; rfl
    | (with_reducible first | intro _ | apply wseq | apply zreg | apply thenQ_n | apply thenQ_r | apply thenQ_e | apply znil | apply wret | apply bodyQ_r | apply wblk | apply blkQ_n | apply blkQ_r | apply wskip | apply wexit)
    | apply wct rfl
    | apply wcf rfl
    | (with_reducible apply blkQ_x rfl)
    | (with_reducible apply blkQ_y rfl)
    | (with_reducible apply zcmp); rfl; exact tk; rfl; rfl; rfl
    | (with_reducible apply zar); rfl; rfl; rfl; rfl; (first | omega | ((try simp only [List.length_append, List.length_cons, List.length_nil, List.length_map]); (try dsimp only); omega)); rfl; rfl
    | (with_reducible apply zix); rfl; exact tk; rfl; rfl; rfl; rfl; rfl; rfl; rfl; (first | omega | ((try simp only [List.length_append, List.length_cons, List.length_nil, List.length_map]); (try dsimp only); omega)); rfl; rfl
    | (with_reducible apply zle); rfl; exact tk; rfl; rfl; rfl; rfl; (first | omega | ((try simp only [List.length_append, List.length_cons, List.length_nil, List.length_map]); (try dsimp only); omega)); rfl; rfl; rfl; rfl
    | (with_reducible apply zse); rfl; exact tk; rfl; rfl; rfl; rfl; rfl; rfl; (first | omega | ((try simp only [List.length_append, List.length_cons, List.length_nil, List.length_map]); (try dsimp only); omega)); rfl; rfl; rfl; rfl; rfl
    | (with_reducible apply zlit (α := Int) (e := 3)); rfl; exact tk; rfl; rfl; rfl; rfl; rfl; rfl; rfl; rfl; rfl; rfl; rfl; rfl; rfl
    | (with_reducible apply zap); rfl; exact tk; rfl; rfl; rfl; rfl; rfl; rfl; rfl; rfl; rfl; rfl; (first | omega | ((try simp only [List.length_append, List.length_cons, List.length_nil, List.length_map]); (try dsimp only); omega)); rfl; rfl; rfl; rfl; rfl
    | refine zdq (id := 5) rfl (by kernel_rfl) [(.p, 0), (.p, 1), (.p, 3), (.p, 7), (.p, 9), (.t, 2), (.p, 4), (.p, 5), (.t, 6), (.t, 8), (.p, 10), (.p, 11), (.t, 12), (.o, 13), (.l, 14), (.p, 15)] [14] (by kernel_rfl) rfl ?_
    | refine zdq (id := 10) rfl (by kernel_rfl) [(.p, 0), (.p, 1), (.p, 3), (.p, 7), (.p, 9), (.t, 2), (.p, 4), (.p, 5), (.t, 6), (.t, 8), (.p, 10), (.p, 11), (.t, 12), (.o, 13), (.l, 14), (.p, 15)] [14] (by kernel_rfl) rfl ?_
    | refine zdq (id := 15) rfl (by kernel_rfl) [(.p, 0), (.p, 1), (.p, 3), (.p, 7), (.p, 9), (.p, 13), (.p, 15), (.t, 2), (.p, 4), (.p, 5), (.t, 6), (.t, 8), (.p, 10), (.p, 11), (.t, 12), (.t, 14), (.p, 16), (.p, 17), (.t, 18), (.p, 19), (.o, 20), (.l, 21), (.p, 22)] [21] (by kernel_rfl) rfl ?_
    | fail)
  refine wlp (X := Int × List Int) [1] [0, 1, 2, 3, 4, 5, 8] (fun y => [(5, I y.1), (3, .c (.row 6 0 y.2.length))]) (fun y => [(6, ow 3 y.2)]) (fun y => (0 ≤ y.1 ∧ y.1 ≤ bi.length) ∧ y.2 = [(ba.length : Int)] ++ ba.flatMap encA ++ [(bi.length : Int)] ++ (pf bi y.1).flatMap encN) (fun y => (bi.length - y.1).toNat) (0, [(ba.length : Int)] ++ ba.flatMap encA ++ [(bi.length : Int)]) ⟨by dsimp only; omega, by simp [pf]⟩ rfl rfl (fun _ => rfl) (fun _ => rfl) ⟨rfl, rfl, rfl, rfl, rfl, rfl, rfl, rfl⟩ (fun y hy => ?_)
  obtain ⟨i, n⟩ := y
  obtain ⟨h0, he⟩ := hy
  dsimp only at h0 he ⊢
  have hpl := pf_len h0
  have hnl : n.length ≤ 2000 := by
    rw [he]
    simp only [List.length_append, List.length_cons, List.length_nil, fx_len 2 (fun x => rfl : ∀ x, (encA x).length = 2), fx_len 2 (fun x => rfl : ∀ x, (encN x).length = 2), fx_len 3 (fun x => rfl : ∀ x, (encB x).length = 3), fx_len 5 (fun x => rfl : ∀ x, (encL x).length = 5), fx_len 8 (fun x => rfl : ∀ x, (encT x).length = 8)]
    omega
  repeat' (first
    | (with_reducible apply zds); exact tk; rfl; rfl; rfl; rfl; rfl
    | (with_reducible apply zd); rfl; exact tk; rfl
    | (with_reducible first | intro _ | apply wseq | apply zreg | apply thenQ_n | apply thenQ_r | apply thenQ_e | apply znil | apply wret | apply bodyQ_r | apply wblk | apply blkQ_n | apply blkQ_r | apply wskip | apply wexit)
    | apply wct rfl
    | apply wcf rfl
    | (with_reducible apply blkQ_x rfl)
    | (with_reducible apply blkQ_y rfl)
    | (with_reducible apply zcmp); rfl; exact tk; rfl; rfl; rfl
    | (with_reducible apply zar); rfl; rfl; rfl; rfl; (first | omega | ((try simp only [List.length_append, List.length_cons, List.length_nil, List.length_map]); (try dsimp only); omega)); rfl; rfl
    | (with_reducible apply zix); rfl; exact tk; rfl; rfl; rfl; rfl; rfl; rfl; rfl; (first | omega | ((try simp only [List.length_append, List.length_cons, List.length_nil, List.length_map]); (try dsimp only); omega)); rfl; rfl
    | (with_reducible apply zle); rfl; exact tk; rfl; rfl; rfl; rfl; (first | omega | ((try simp only [List.length_append, List.length_cons, List.length_nil, List.length_map]); (try dsimp only); omega)); rfl; rfl; rfl; rfl
    | (with_reducible apply zse); rfl; exact tk; rfl; rfl; rfl; rfl; rfl; rfl; (first | omega | ((try simp only [List.length_append, List.length_cons, List.length_nil, List.length_map]); (try dsimp only); omega)); rfl; rfl; rfl; rfl; rfl
    | (with_reducible apply zlit (α := Int) (e := 3)); rfl; exact tk; rfl; rfl; rfl; rfl; rfl; rfl; rfl; rfl; rfl; rfl; rfl; rfl; rfl
    | (with_reducible apply zap); rfl; exact tk; rfl; rfl; rfl; rfl; rfl; rfl; rfl; rfl; rfl; rfl; (first | omega | ((try simp only [List.length_append, List.length_cons, List.length_nil, List.length_map]); (try dsimp only); omega)); rfl; rfl; rfl; rfl; rfl
    | refine zdq (id := 5) rfl (by kernel_rfl) [(.p, 0), (.p, 1), (.p, 3), (.p, 7), (.p, 9), (.t, 2), (.p, 4), (.p, 5), (.t, 6), (.t, 8), (.p, 10), (.p, 11), (.t, 12), (.o, 13), (.l, 14), (.p, 15)] [14] (by kernel_rfl) rfl ?_
    | refine zdq (id := 10) rfl (by kernel_rfl) [(.p, 0), (.p, 1), (.p, 3), (.p, 7), (.p, 9), (.t, 2), (.p, 4), (.p, 5), (.t, 6), (.t, 8), (.p, 10), (.p, 11), (.t, 12), (.o, 13), (.l, 14), (.p, 15)] [14] (by kernel_rfl) rfl ?_
    | refine zdq (id := 15) rfl (by kernel_rfl) [(.p, 0), (.p, 1), (.p, 3), (.p, 7), (.p, 9), (.p, 13), (.p, 15), (.t, 2), (.p, 4), (.p, 5), (.t, 6), (.t, 8), (.p, 10), (.p, 11), (.t, 12), (.t, 14), (.p, 16), (.p, 17), (.t, 18), (.p, 19), (.o, 20), (.l, 21), (.p, 22)] [21] (by kernel_rfl) rfl ?_
    | fail)
  · rename_i h
    exact endR (i + 1, n ++ encN (rd bi i)) [0, 1, 2, 3, 4, 5, 8] ⟨rfl, rfl, rfl, rfl, rfl, rfl, rfl, rfl⟩ ⟨by dsimp only; omega, by dsimp only; rw [he, fx_succ ⟨h0.1, h⟩, List.append_assoc]⟩ (by first | omega | (dsimp only; omega))
  rename_i h
  rw [pf_all h] at he
  subst he
  clear h h0 hpl hnl
  repeat' (first
    | (with_reducible apply zds); exact tk; rfl; rfl; rfl; rfl; rfl
    | (with_reducible apply zd); rfl; exact tk; rfl
    | (with_reducible first | intro _ | apply wseq | apply zreg | apply thenQ_n | apply thenQ_r | apply thenQ_e | apply znil | apply wret | apply bodyQ_r | apply wblk | apply blkQ_n | apply blkQ_r | apply wskip | apply wexit)
    | apply wct rfl
    | apply wcf rfl
    | (with_reducible apply blkQ_x rfl)
    | (with_reducible apply blkQ_y rfl)
    | (with_reducible apply zcmp); rfl; exact tk; rfl; rfl; rfl
    | (with_reducible apply zar); rfl; rfl; rfl; rfl; (first | omega | ((try simp only [List.length_append, List.length_cons, List.length_nil, List.length_map]); (try dsimp only); omega)); rfl; rfl
    | (with_reducible apply zix); rfl; exact tk; rfl; rfl; rfl; rfl; rfl; rfl; rfl; (first | omega | ((try simp only [List.length_append, List.length_cons, List.length_nil, List.length_map]); (try dsimp only); omega)); rfl; rfl
    | (with_reducible apply zle); rfl; exact tk; rfl; rfl; rfl; rfl; (first | omega | ((try simp only [List.length_append, List.length_cons, List.length_nil, List.length_map]); (try dsimp only); omega)); rfl; rfl; rfl; rfl
    | (with_reducible apply zse); rfl; exact tk; rfl; rfl; rfl; rfl; rfl; rfl; (first | omega | ((try simp only [List.length_append, List.length_cons, List.length_nil, List.length_map]); (try dsimp only); omega)); rfl; rfl; rfl; rfl; rfl
    | (with_reducible apply zlit (α := Int) (e := 3)); rfl; exact tk; rfl; rfl; rfl; rfl; rfl; rfl; rfl; rfl; rfl; rfl; rfl; rfl; rfl
    | (with_reducible apply zap); rfl; exact tk; rfl; rfl; rfl; rfl; rfl; rfl; rfl; rfl; rfl; rfl; (first | omega | ((try simp only [List.length_append, List.length_cons, List.length_nil, List.length_map]); (try dsimp only); omega)); rfl; rfl; rfl; rfl; rfl
    | refine zdq (id := 5) rfl (by kernel_rfl) [(.p, 0), (.p, 1), (.p, 3), (.p, 7), (.p, 9), (.t, 2), (.p, 4), (.p, 5), (.t, 6), (.t, 8), (.p, 10), (.p, 11), (.t, 12), (.o, 13), (.l, 14), (.p, 15)] [14] (by kernel_rfl) rfl ?_
    | refine zdq (id := 10) rfl (by kernel_rfl) [(.p, 0), (.p, 1), (.p, 3), (.p, 7), (.p, 9), (.t, 2), (.p, 4), (.p, 5), (.t, 6), (.t, 8), (.p, 10), (.p, 11), (.t, 12), (.o, 13), (.l, 14), (.p, 15)] [14] (by kernel_rfl) rfl ?_
    | refine zdq (id := 15) rfl (by kernel_rfl) [(.p, 0), (.p, 1), (.p, 3), (.p, 7), (.p, 9), (.p, 13), (.p, 15), (.t, 2), (.p, 4), (.p, 5), (.t, 6), (.t, 8), (.p, 10), (.p, 11), (.t, 12), (.t, 14), (.p, 16), (.p, 17), (.t, 18), (.p, 19), (.o, 20), (.l, 21), (.p, 22)] [21] (by kernel_rfl) rfl ?_
    | fail)
  refine wlp (X := Int × List Int) [1] [0, 1, 2, 3, 4, 5, 8] (fun y => [(6, I y.1), (3, .c (.row 6 0 y.2.length))]) (fun y => [(6, ow 3 y.2)]) (fun y => (0 ≤ y.1 ∧ y.1 ≤ bb.length) ∧ y.2 = [(ba.length : Int)] ++ ba.flatMap encA ++ [(bi.length : Int)] ++ bi.flatMap encN ++ [(bb.length : Int)] ++ (pf bb y.1).flatMap encB) (fun y => (bb.length - y.1).toNat) (0, [(ba.length : Int)] ++ ba.flatMap encA ++ [(bi.length : Int)] ++ bi.flatMap encN ++ [(bb.length : Int)]) ⟨by dsimp only; omega, by simp [pf]⟩ rfl rfl (fun _ => rfl) (fun _ => rfl) ⟨rfl, rfl, rfl, rfl, rfl, rfl, rfl, rfl⟩ (fun y hy => ?_)
  obtain ⟨i, n⟩ := y
  obtain ⟨h0, he⟩ := hy
  dsimp only at h0 he ⊢
  have hpl := pf_len h0
  have hnl : n.length ≤ 2000 := by
    rw [he]
    simp only [List.length_append, List.length_cons, List.length_nil, fx_len 2 (fun x => rfl : ∀ x, (encA x).length = 2), fx_len 2 (fun x => rfl : ∀ x, (encN x).length = 2), fx_len 3 (fun x => rfl : ∀ x, (encB x).length = 3), fx_len 5 (fun x => rfl : ∀ x, (encL x).length = 5), fx_len 8 (fun x => rfl : ∀ x, (encT x).length = 8)]
    omega
  repeat' (first
    | (with_reducible apply zds); exact tk; rfl; rfl; rfl; rfl; rfl
    | (with_reducible apply zd); rfl; exact tk; rfl
    | (with_reducible apply zar); rfl; rfl; rfl; rfl; (have h1 := kb _ (rd_mem ⟨h0.1, by assumption⟩); omega); rfl; rfl
    | (with_reducible first | intro _ | apply wseq | apply zreg | apply thenQ_n | apply thenQ_r | apply thenQ_e | apply znil | apply wret | apply bodyQ_r | apply wblk | apply blkQ_n | apply blkQ_r | apply wskip | apply wexit)
    | apply wct rfl
    | apply wcf rfl
    | (with_reducible apply blkQ_x rfl)
    | (with_reducible apply blkQ_y rfl)
    | (with_reducible apply zcmp); rfl; exact tk; rfl; rfl; rfl
    | (with_reducible apply zar); rfl; rfl; rfl; rfl; (first | omega | ((try simp only [List.length_append, List.length_cons, List.length_nil, List.length_map]); (try dsimp only); omega)); rfl; rfl
    | (with_reducible apply zix); rfl; exact tk; rfl; rfl; rfl; rfl; rfl; rfl; rfl; (first | omega | ((try simp only [List.length_append, List.length_cons, List.length_nil, List.length_map]); (try dsimp only); omega)); rfl; rfl
    | (with_reducible apply zle); rfl; exact tk; rfl; rfl; rfl; rfl; (first | omega | ((try simp only [List.length_append, List.length_cons, List.length_nil, List.length_map]); (try dsimp only); omega)); rfl; rfl; rfl; rfl
    | (with_reducible apply zse); rfl; exact tk; rfl; rfl; rfl; rfl; rfl; rfl; (first | omega | ((try simp only [List.length_append, List.length_cons, List.length_nil, List.length_map]); (try dsimp only); omega)); rfl; rfl; rfl; rfl; rfl
    | (with_reducible apply zlit (α := Int) (e := 3)); rfl; exact tk; rfl; rfl; rfl; rfl; rfl; rfl; rfl; rfl; rfl; rfl; rfl; rfl; rfl
    | (with_reducible apply zap); rfl; exact tk; rfl; rfl; rfl; rfl; rfl; rfl; rfl; rfl; rfl; rfl; (first | omega | ((try simp only [List.length_append, List.length_cons, List.length_nil, List.length_map]); (try dsimp only); omega)); rfl; rfl; rfl; rfl; rfl
    | refine zdq (id := 5) rfl (by kernel_rfl) [(.p, 0), (.p, 1), (.p, 3), (.p, 7), (.p, 9), (.t, 2), (.p, 4), (.p, 5), (.t, 6), (.t, 8), (.p, 10), (.p, 11), (.t, 12), (.o, 13), (.l, 14), (.p, 15)] [14] (by kernel_rfl) rfl ?_
    | refine zdq (id := 10) rfl (by kernel_rfl) [(.p, 0), (.p, 1), (.p, 3), (.p, 7), (.p, 9), (.t, 2), (.p, 4), (.p, 5), (.t, 6), (.t, 8), (.p, 10), (.p, 11), (.t, 12), (.o, 13), (.l, 14), (.p, 15)] [14] (by kernel_rfl) rfl ?_
    | refine zdq (id := 15) rfl (by kernel_rfl) [(.p, 0), (.p, 1), (.p, 3), (.p, 7), (.p, 9), (.p, 13), (.p, 15), (.t, 2), (.p, 4), (.p, 5), (.t, 6), (.t, 8), (.p, 10), (.p, 11), (.t, 12), (.t, 14), (.p, 16), (.p, 17), (.t, 18), (.p, 19), (.o, 20), (.l, 21), (.p, 22)] [21] (by kernel_rfl) rfl ?_
    | fail)
  · rename_i h
    exact endR (i + 1, n ++ encB (rd bb i)) [0, 1, 2, 3, 4, 5, 8] ⟨rfl, rfl, rfl, rfl, rfl, rfl, rfl, rfl⟩ ⟨by dsimp only; omega, by dsimp only; rw [he, fx_succ ⟨h0.1, h⟩, List.append_assoc]⟩ (by first | omega | (dsimp only; omega))
  rename_i h
  rw [pf_all h] at he
  subst he
  clear h h0 hpl hnl
  repeat' (first
    | (with_reducible apply zds); exact tk; rfl; rfl; rfl; rfl; rfl
    | (with_reducible apply zd); rfl; exact tk; rfl
    | (with_reducible first | intro _ | apply wseq | apply zreg | apply thenQ_n | apply thenQ_r | apply thenQ_e | apply znil | apply wret | apply bodyQ_r | apply wblk | apply blkQ_n | apply blkQ_r | apply wskip | apply wexit)
    | apply wct rfl
    | apply wcf rfl
    | (with_reducible apply blkQ_x rfl)
    | (with_reducible apply blkQ_y rfl)
    | (with_reducible apply zcmp); rfl; exact tk; rfl; rfl; rfl
    | (with_reducible apply zar); rfl; rfl; rfl; rfl; (first | omega | ((try simp only [List.length_append, List.length_cons, List.length_nil, List.length_map]); (try dsimp only); omega)); rfl; rfl
    | (with_reducible apply zix); rfl; exact tk; rfl; rfl; rfl; rfl; rfl; rfl; rfl; (first | omega | ((try simp only [List.length_append, List.length_cons, List.length_nil, List.length_map]); (try dsimp only); omega)); rfl; rfl
    | (with_reducible apply zle); rfl; exact tk; rfl; rfl; rfl; rfl; (first | omega | ((try simp only [List.length_append, List.length_cons, List.length_nil, List.length_map]); (try dsimp only); omega)); rfl; rfl; rfl; rfl
    | (with_reducible apply zse); rfl; exact tk; rfl; rfl; rfl; rfl; rfl; rfl; (first | omega | ((try simp only [List.length_append, List.length_cons, List.length_nil, List.length_map]); (try dsimp only); omega)); rfl; rfl; rfl; rfl; rfl
    | (with_reducible apply zlit (α := Int) (e := 3)); rfl; exact tk; rfl; rfl; rfl; rfl; rfl; rfl; rfl; rfl; rfl; rfl; rfl; rfl; rfl
    | (with_reducible apply zap); rfl; exact tk; rfl; rfl; rfl; rfl; rfl; rfl; rfl; rfl; rfl; rfl; (first | omega | ((try simp only [List.length_append, List.length_cons, List.length_nil, List.length_map]); (try dsimp only); omega)); rfl; rfl; rfl; rfl; rfl
    | refine zdq (id := 5) rfl (by kernel_rfl) [(.p, 0), (.p, 1), (.p, 3), (.p, 7), (.p, 9), (.t, 2), (.p, 4), (.p, 5), (.t, 6), (.t, 8), (.p, 10), (.p, 11), (.t, 12), (.o, 13), (.l, 14), (.p, 15)] [14] (by kernel_rfl) rfl ?_
    | refine zdq (id := 10) rfl (by kernel_rfl) [(.p, 0), (.p, 1), (.p, 3), (.p, 7), (.p, 9), (.t, 2), (.p, 4), (.p, 5), (.t, 6), (.t, 8), (.p, 10), (.p, 11), (.t, 12), (.o, 13), (.l, 14), (.p, 15)] [14] (by kernel_rfl) rfl ?_
    | refine zdq (id := 15) rfl (by kernel_rfl) [(.p, 0), (.p, 1), (.p, 3), (.p, 7), (.p, 9), (.p, 13), (.p, 15), (.t, 2), (.p, 4), (.p, 5), (.t, 6), (.t, 8), (.p, 10), (.p, 11), (.t, 12), (.t, 14), (.p, 16), (.p, 17), (.t, 18), (.p, 19), (.o, 20), (.l, 21), (.p, 22)] [21] (by kernel_rfl) rfl ?_
    | fail)
  refine wlp (X := Int × List Int) [1] [0, 1, 2, 3, 4, 5, 8] (fun y => [(7, I y.1), (3, .c (.row 6 0 y.2.length))]) (fun y => [(6, ow 3 y.2)]) (fun y => (0 ≤ y.1 ∧ y.1 ≤ bl.length) ∧ y.2 = [(ba.length : Int)] ++ ba.flatMap encA ++ [(bi.length : Int)] ++ bi.flatMap encN ++ [(bb.length : Int)] ++ bb.flatMap encB ++ [(bl.length : Int)] ++ (pf bl y.1).flatMap encL) (fun y => (bl.length - y.1).toNat) (0, [(ba.length : Int)] ++ ba.flatMap encA ++ [(bi.length : Int)] ++ bi.flatMap encN ++ [(bb.length : Int)] ++ bb.flatMap encB ++ [(bl.length : Int)]) ⟨by dsimp only; omega, by simp [pf]⟩ rfl rfl (fun _ => rfl) (fun _ => rfl) ⟨rfl, rfl, rfl, rfl, rfl, rfl, rfl, rfl⟩ (fun y hy => ?_)
  obtain ⟨i, n⟩ := y
  obtain ⟨h0, he⟩ := hy
  dsimp only at h0 he ⊢
  have hpl := pf_len h0
  have hnl : n.length ≤ 2000 := by
    rw [he]
    simp only [List.length_append, List.length_cons, List.length_nil, fx_len 2 (fun x => rfl : ∀ x, (encA x).length = 2), fx_len 2 (fun x => rfl : ∀ x, (encN x).length = 2), fx_len 3 (fun x => rfl : ∀ x, (encB x).length = 3), fx_len 5 (fun x => rfl : ∀ x, (encL x).length = 5), fx_len 8 (fun x => rfl : ∀ x, (encT x).length = 8)]
    omega
  repeat' (first
    | (with_reducible apply zds); exact tk; rfl; rfl; rfl; rfl; rfl
    | (with_reducible apply zd); rfl; exact tk; rfl
    | (with_reducible first | intro _ | apply wseq | apply zreg | apply thenQ_n | apply thenQ_r | apply thenQ_e | apply znil | apply wret | apply bodyQ_r | apply wblk | apply blkQ_n | apply blkQ_r | apply wskip | apply wexit)
    | apply wct rfl
    | apply wcf rfl
    | (with_reducible apply blkQ_x rfl)
    | (with_reducible apply blkQ_y rfl)
    | (with_reducible apply zcmp); rfl; exact tk; rfl; rfl; rfl
    | (with_reducible apply zar); rfl; rfl; rfl; rfl; (first | omega | ((try simp only [List.length_append, List.length_cons, List.length_nil, List.length_map]); (try dsimp only); omega)); rfl; rfl
    | (with_reducible apply zix); rfl; exact tk; rfl; rfl; rfl; rfl; rfl; rfl; rfl; (first | omega | ((try simp only [List.length_append, List.length_cons, List.length_nil, List.length_map]); (try dsimp only); omega)); rfl; rfl
    | (with_reducible apply zle); rfl; exact tk; rfl; rfl; rfl; rfl; (first | omega | ((try simp only [List.length_append, List.length_cons, List.length_nil, List.length_map]); (try dsimp only); omega)); rfl; rfl; rfl; rfl
    | (with_reducible apply zse); rfl; exact tk; rfl; rfl; rfl; rfl; rfl; rfl; (first | omega | ((try simp only [List.length_append, List.length_cons, List.length_nil, List.length_map]); (try dsimp only); omega)); rfl; rfl; rfl; rfl; rfl
    | (with_reducible apply zlit (α := Int) (e := 3)); rfl; exact tk; rfl; rfl; rfl; rfl; rfl; rfl; rfl; rfl; rfl; rfl; rfl; rfl; rfl
    | (with_reducible apply zap); rfl; exact tk; rfl; rfl; rfl; rfl; rfl; rfl; rfl; rfl; rfl; rfl; (first | omega | ((try simp only [List.length_append, List.length_cons, List.length_nil, List.length_map]); (try dsimp only); omega)); rfl; rfl; rfl; rfl; rfl
    | refine zdq (id := 5) rfl (by kernel_rfl) [(.p, 0), (.p, 1), (.p, 3), (.p, 7), (.p, 9), (.t, 2), (.p, 4), (.p, 5), (.t, 6), (.t, 8), (.p, 10), (.p, 11), (.t, 12), (.o, 13), (.l, 14), (.p, 15)] [14] (by kernel_rfl) rfl ?_
    | refine zdq (id := 10) rfl (by kernel_rfl) [(.p, 0), (.p, 1), (.p, 3), (.p, 7), (.p, 9), (.t, 2), (.p, 4), (.p, 5), (.t, 6), (.t, 8), (.p, 10), (.p, 11), (.t, 12), (.o, 13), (.l, 14), (.p, 15)] [14] (by kernel_rfl) rfl ?_
    | refine zdq (id := 15) rfl (by kernel_rfl) [(.p, 0), (.p, 1), (.p, 3), (.p, 7), (.p, 9), (.p, 13), (.p, 15), (.t, 2), (.p, 4), (.p, 5), (.t, 6), (.t, 8), (.p, 10), (.p, 11), (.t, 12), (.t, 14), (.p, 16), (.p, 17), (.t, 18), (.p, 19), (.o, 20), (.l, 21), (.p, 22)] [21] (by kernel_rfl) rfl ?_
    | fail)
  · rename_i h
    exact endR (i + 1, n ++ encL (rd bl i)) [0, 1, 2, 3, 4, 5, 9] ⟨rfl, rfl, rfl, rfl, rfl, rfl, rfl, rfl⟩ ⟨by dsimp only; omega, by dsimp only; rw [he, fx_succ ⟨h0.1, h⟩, List.append_assoc]⟩ (by first | omega | (dsimp only; omega))
  rename_i h
  rw [pf_all h] at he
  subst he
  clear h h0 hpl hnl
  repeat' (first
    | (with_reducible apply zds); exact tk; rfl; rfl; rfl; rfl; rfl
    | (with_reducible apply zd); rfl; exact tk; rfl
    | (with_reducible first | intro _ | apply wseq | apply zreg | apply thenQ_n | apply thenQ_r | apply thenQ_e | apply znil | apply wret | apply bodyQ_r | apply wblk | apply blkQ_n | apply blkQ_r | apply wskip | apply wexit)
    | apply wct rfl
    | apply wcf rfl
    | (with_reducible apply blkQ_x rfl)
    | (with_reducible apply blkQ_y rfl)
    | (with_reducible apply zcmp); rfl; exact tk; rfl; rfl; rfl
    | (with_reducible apply zar); rfl; rfl; rfl; rfl; (first | omega | ((try simp only [List.length_append, List.length_cons, List.length_nil, List.length_map]); (try dsimp only); omega)); rfl; rfl
    | (with_reducible apply zix); rfl; exact tk; rfl; rfl; rfl; rfl; rfl; rfl; rfl; (first | omega | ((try simp only [List.length_append, List.length_cons, List.length_nil, List.length_map]); (try dsimp only); omega)); rfl; rfl
    | (with_reducible apply zle); rfl; exact tk; rfl; rfl; rfl; rfl; (first | omega | ((try simp only [List.length_append, List.length_cons, List.length_nil, List.length_map]); (try dsimp only); omega)); rfl; rfl; rfl; rfl
    | (with_reducible apply zse); rfl; exact tk; rfl; rfl; rfl; rfl; rfl; rfl; (first | omega | ((try simp only [List.length_append, List.length_cons, List.length_nil, List.length_map]); (try dsimp only); omega)); rfl; rfl; rfl; rfl; rfl
    | (with_reducible apply zlit (α := Int) (e := 3)); rfl; exact tk; rfl; rfl; rfl; rfl; rfl; rfl; rfl; rfl; rfl; rfl; rfl; rfl; rfl
    | (with_reducible apply zap); rfl; exact tk; rfl; rfl; rfl; rfl; rfl; rfl; rfl; rfl; rfl; rfl; (first | omega | ((try simp only [List.length_append, List.length_cons, List.length_nil, List.length_map]); (try dsimp only); omega)); rfl; rfl; rfl; rfl; rfl
    | refine zdq (id := 5) rfl (by kernel_rfl) [(.p, 0), (.p, 1), (.p, 3), (.p, 7), (.p, 9), (.t, 2), (.p, 4), (.p, 5), (.t, 6), (.t, 8), (.p, 10), (.p, 11), (.t, 12), (.o, 13), (.l, 14), (.p, 15)] [14] (by kernel_rfl) rfl ?_
    | refine zdq (id := 10) rfl (by kernel_rfl) [(.p, 0), (.p, 1), (.p, 3), (.p, 7), (.p, 9), (.t, 2), (.p, 4), (.p, 5), (.t, 6), (.t, 8), (.p, 10), (.p, 11), (.t, 12), (.o, 13), (.l, 14), (.p, 15)] [14] (by kernel_rfl) rfl ?_
    | refine zdq (id := 15) rfl (by kernel_rfl) [(.p, 0), (.p, 1), (.p, 3), (.p, 7), (.p, 9), (.p, 13), (.p, 15), (.t, 2), (.p, 4), (.p, 5), (.t, 6), (.t, 8), (.p, 10), (.p, 11), (.t, 12), (.t, 14), (.p, 16), (.p, 17), (.t, 18), (.p, 19), (.o, 20), (.l, 21), (.p, 22)] [21] (by kernel_rfl) rfl ?_
    | fail)
  refine wlp (X := Int × List Int) [1] [0, 1, 2, 3, 4, 5, 8] (fun y => [(9, I y.1), (3, .c (.row 6 0 y.2.length))]) (fun y => [(6, ow 3 y.2)]) (fun y => (0 ≤ y.1 ∧ y.1 ≤ bt.length) ∧ y.2 = [(ba.length : Int)] ++ ba.flatMap encA ++ [(bi.length : Int)] ++ bi.flatMap encN ++ [(bb.length : Int)] ++ bb.flatMap encB ++ [(bl.length : Int)] ++ bl.flatMap encL ++ [(bt.length : Int)] ++ (pf bt y.1).flatMap encT) (fun y => (bt.length - y.1).toNat) (0, [(ba.length : Int)] ++ ba.flatMap encA ++ [(bi.length : Int)] ++ bi.flatMap encN ++ [(bb.length : Int)] ++ bb.flatMap encB ++ [(bl.length : Int)] ++ bl.flatMap encL ++ [(bt.length : Int)]) ⟨by dsimp only; omega, by simp [pf]⟩ rfl rfl (fun _ => rfl) (fun _ => rfl) ⟨rfl, rfl, rfl, rfl, rfl, rfl, rfl, rfl⟩ (fun y hy => ?_)
  obtain ⟨i, n⟩ := y
  obtain ⟨h0, he⟩ := hy
  dsimp only at h0 he ⊢
  have hpl := pf_len h0
  have hnl : n.length ≤ 2000 := by
    rw [he]
    simp only [List.length_append, List.length_cons, List.length_nil, fx_len 2 (fun x => rfl : ∀ x, (encA x).length = 2), fx_len 2 (fun x => rfl : ∀ x, (encN x).length = 2), fx_len 3 (fun x => rfl : ∀ x, (encB x).length = 3), fx_len 5 (fun x => rfl : ∀ x, (encL x).length = 5), fx_len 8 (fun x => rfl : ∀ x, (encT x).length = 8)]
    omega
  repeat' (first
    | (with_reducible apply zds); exact tk; rfl; rfl; rfl; rfl; rfl
    | (with_reducible apply zd); rfl; exact tk; rfl
    | (with_reducible first | intro _ | apply wseq | apply zreg | apply thenQ_n | apply thenQ_r | apply thenQ_e | apply znil | apply wret | apply bodyQ_r | apply wblk | apply blkQ_n | apply blkQ_r | apply wskip | apply wexit)
    | apply wct rfl
    | apply wcf rfl
    | (with_reducible apply blkQ_x rfl)
    | (with_reducible apply blkQ_y rfl)
    | (with_reducible apply zcmp); rfl; exact tk; rfl; rfl; rfl
    | (with_reducible apply zar); rfl; rfl; rfl; rfl; (first | omega | ((try simp only [List.length_append, List.length_cons, List.length_nil, List.length_map]); (try dsimp only); omega)); rfl; rfl
    | (with_reducible apply zix); rfl; exact tk; rfl; rfl; rfl; rfl; rfl; rfl; rfl; (first | omega | ((try simp only [List.length_append, List.length_cons, List.length_nil, List.length_map]); (try dsimp only); omega)); rfl; rfl
    | (with_reducible apply zle); rfl; exact tk; rfl; rfl; rfl; rfl; (first | omega | ((try simp only [List.length_append, List.length_cons, List.length_nil, List.length_map]); (try dsimp only); omega)); rfl; rfl; rfl; rfl
    | (with_reducible apply zse); rfl; exact tk; rfl; rfl; rfl; rfl; rfl; rfl; (first | omega | ((try simp only [List.length_append, List.length_cons, List.length_nil, List.length_map]); (try dsimp only); omega)); rfl; rfl; rfl; rfl; rfl
    | (with_reducible apply zlit (α := Int) (e := 3)); rfl; exact tk; rfl; rfl; rfl; rfl; rfl; rfl; rfl; rfl; rfl; rfl; rfl; rfl; rfl
    | (with_reducible apply zap); rfl; exact tk; rfl; rfl; rfl; rfl; rfl; rfl; rfl; rfl; rfl; rfl; (first | omega | ((try simp only [List.length_append, List.length_cons, List.length_nil, List.length_map]); (try dsimp only); omega)); rfl; rfl; rfl; rfl; rfl
    | refine zdq (id := 5) rfl (by kernel_rfl) [(.p, 0), (.p, 1), (.p, 3), (.p, 7), (.p, 9), (.t, 2), (.p, 4), (.p, 5), (.t, 6), (.t, 8), (.p, 10), (.p, 11), (.t, 12), (.o, 13), (.l, 14), (.p, 15)] [14] (by kernel_rfl) rfl ?_
    | refine zdq (id := 10) rfl (by kernel_rfl) [(.p, 0), (.p, 1), (.p, 3), (.p, 7), (.p, 9), (.t, 2), (.p, 4), (.p, 5), (.t, 6), (.t, 8), (.p, 10), (.p, 11), (.t, 12), (.o, 13), (.l, 14), (.p, 15)] [14] (by kernel_rfl) rfl ?_
    | refine zdq (id := 15) rfl (by kernel_rfl) [(.p, 0), (.p, 1), (.p, 3), (.p, 7), (.p, 9), (.p, 13), (.p, 15), (.t, 2), (.p, 4), (.p, 5), (.t, 6), (.t, 8), (.p, 10), (.p, 11), (.t, 12), (.t, 14), (.p, 16), (.p, 17), (.t, 18), (.p, 19), (.o, 20), (.l, 21), (.p, 22)] [21] (by kernel_rfl) rfl ?_
    | fail)
  · rename_i h
    exact endR (i + 1, n ++ encT (rd bt i)) [0, 1, 2, 3, 4, 5, 9] ⟨rfl, rfl, rfl, rfl, rfl, rfl, rfl, rfl⟩ ⟨by dsimp only; omega, by dsimp only; rw [he, fx_succ ⟨h0.1, h⟩, List.append_assoc]⟩ (by first | omega | (dsimp only; omega))
  rename_i h
  rw [pf_all h] at he
  subst he
  clear h h0 hpl hnl
  repeat' (first
    | (with_reducible apply zds); exact tk; rfl; rfl; rfl; rfl; rfl
    | (with_reducible apply zd); rfl; exact tk; rfl
    | (with_reducible first | intro _ | apply wseq | apply zreg | apply thenQ_n | apply thenQ_r | apply thenQ_e | apply znil | apply wret | apply bodyQ_r | apply wblk | apply blkQ_n | apply blkQ_r | apply wskip | apply wexit)
    | apply wct rfl
    | apply wcf rfl
    | (with_reducible apply blkQ_x rfl)
    | (with_reducible apply blkQ_y rfl)
    | (with_reducible apply zcmp); rfl; exact tk; rfl; rfl; rfl
    | (with_reducible apply zar); rfl; rfl; rfl; rfl; (first | omega | ((try simp only [List.length_append, List.length_cons, List.length_nil, List.length_map]); (try dsimp only); omega)); rfl; rfl
    | (with_reducible apply zix); rfl; exact tk; rfl; rfl; rfl; rfl; rfl; rfl; rfl; (first | omega | ((try simp only [List.length_append, List.length_cons, List.length_nil, List.length_map]); (try dsimp only); omega)); rfl; rfl
    | (with_reducible apply zle); rfl; exact tk; rfl; rfl; rfl; rfl; (first | omega | ((try simp only [List.length_append, List.length_cons, List.length_nil, List.length_map]); (try dsimp only); omega)); rfl; rfl; rfl; rfl
    | (with_reducible apply zse); rfl; exact tk; rfl; rfl; rfl; rfl; rfl; rfl; (first | omega | ((try simp only [List.length_append, List.length_cons, List.length_nil, List.length_map]); (try dsimp only); omega)); rfl; rfl; rfl; rfl; rfl
    | (with_reducible apply zlit (α := Int) (e := 3)); rfl; exact tk; rfl; rfl; rfl; rfl; rfl; rfl; rfl; rfl; rfl; rfl; rfl; rfl; rfl
    | (with_reducible apply zap); rfl; exact tk; rfl; rfl; rfl; rfl; rfl; rfl; rfl; rfl; rfl; rfl; (first | omega | ((try simp only [List.length_append, List.length_cons, List.length_nil, List.length_map]); (try dsimp only); omega)); rfl; rfl; rfl; rfl; rfl
    | refine zdq (id := 5) rfl (by kernel_rfl) [(.p, 0), (.p, 1), (.p, 3), (.p, 7), (.p, 9), (.t, 2), (.p, 4), (.p, 5), (.t, 6), (.t, 8), (.p, 10), (.p, 11), (.t, 12), (.o, 13), (.l, 14), (.p, 15)] [14] (by kernel_rfl) rfl ?_
    | refine zdq (id := 10) rfl (by kernel_rfl) [(.p, 0), (.p, 1), (.p, 3), (.p, 7), (.p, 9), (.t, 2), (.p, 4), (.p, 5), (.t, 6), (.t, 8), (.p, 10), (.p, 11), (.t, 12), (.o, 13), (.l, 14), (.p, 15)] [14] (by kernel_rfl) rfl ?_
    | refine zdq (id := 15) rfl (by kernel_rfl) [(.p, 0), (.p, 1), (.p, 3), (.p, 7), (.p, 9), (.p, 13), (.p, 15), (.t, 2), (.p, 4), (.p, 5), (.t, 6), (.t, 8), (.p, 10), (.p, 11), (.t, 12), (.t, 14), (.p, 16), (.p, 17), (.t, 18), (.p, 19), (.o, 20), (.l, 21), (.p, 22)] [21] (by kernel_rfl) rfl ?_
    | fail)
  exact endV [0, 1, 2, 3, 4, 8] rfl rfl rfl rfl rfl rfl
set_option maxHeartbeats 4000000 in
theorem spec_BooksPack {ba : List Account} {bi : List Instr} {bb : List Bal} {bl : List Lot} {bt : List Trade} {bn : Int} : FC Try.prog 28 [bkV 0 ⟨ba, bi, bb, bl, bt, bn⟩] (bkR ⟨ba, bi, bb, bl, bt, bn⟩) (sel (BooksOk ⟨ba, bi, bb, bl, bt, bn⟩) (.tup [.c (.row 5 0 (putNums (bookNums ⟨ba, bi, bb, bl, bt, bn⟩)).length), B true]) (.tup [.c (.row 5 0 ([] : List By).length), B false])) (sel (BooksOk ⟨ba, bi, bb, bl, bt, bn⟩) (bkR ⟨ba, bi, bb, bl, bt, bn⟩ ++ [ow 5 (putNums (bookNums ⟨ba, bi, bb, bl, bt, bn⟩))]) (bkR ⟨ba, bi, bb, bl, bt, bn⟩ ++ [ow 5 ([] : List By)])) := by
  refine fent tk 11 [.tmp 2, .tmp 3] Try.func28 (by kernel_rfl) rfl rfl rfl rfl rfl rfl rfl ?_
  have hle := fun h => nums_le (b := ⟨ba, bi, bb, bl, bt, bn⟩) h
  have hln := fun h => nums_len (b := ⟨ba, bi, bb, bl, bt, bn⟩) h
  repeat' (first
    | (with_reducible apply zds); exact tk; rfl; rfl; rfl; rfl; rfl
    | (with_reducible apply zd); rfl; exact tk; rfl
    | (with_reducible apply zcf); rfl; rfl; rfl; rfl; rfl; rfl; rfl; rfl; rfl; rfl; exact spec_PutNums (hle (by assumption)) (by have h1 := hln (by assumption); omega); rfl; rfl; rfl; rfl; rfl
    | (with_reducible first | intro _ | apply wseq | apply zreg | apply thenQ_n | apply thenQ_r | apply thenQ_e | apply znil | apply wret | apply bodyQ_r | apply wblk | apply blkQ_n | apply blkQ_r | apply wskip | apply wexit)
    | apply wct rfl
    | apply wcf rfl
    | (with_reducible apply zlit (α := By) (e := 5)); rfl; exact tk; rfl; rfl; rfl; rfl; rfl; rfl; rfl; rfl; rfl; rfl; rfl; rfl; rfl
    | (with_reducible apply zcp); rfl; rfl; rfl; rfl; rfl; rfl; rfl; rfl; rfl; rfl; exact spec_BooksOk; rfl; rfl
    | (with_reducible apply zcf); rfl; rfl; rfl; rfl; rfl; rfl; rfl; rfl; rfl; rfl; (first | exact spec_l13Nums (by assumption) | exact spec_PutNums (by first | assumption | omega) (by first | assumption | omega)); rfl; rfl; rfl; rfl; rfl
    | fail)
  all_goals first
    | exact endT (by assumption) [0, 1, 2, 3, 4, 7] rfl rfl rfl rfl rfl rfl
    | exact endF (by assumption) [0, 1, 2, 3, 4, 6] rfl rfl rfl rfl rfl rfl
set_option maxHeartbeats 4000000 in
theorem impl_BooksPack {ba : List Account} {bi : List Instr} {bb : List Bal} {bl : List Lot} {bt : List Trade} {bn : Int} : FC Try.prog 34 [bkV 0 ⟨ba, bi, bb, bl, bt, bn⟩] (bkR ⟨ba, bi, bb, bl, bt, bn⟩) (sel (BooksOk ⟨ba, bi, bb, bl, bt, bn⟩) (.tup [.c (.row 5 0 (putNums (bookNums ⟨ba, bi, bb, bl, bt, bn⟩)).length), B true]) (.tup [.c (.row 5 0 ([] : List By).length), B false])) (sel (BooksOk ⟨ba, bi, bb, bl, bt, bn⟩) (bkR ⟨ba, bi, bb, bl, bt, bn⟩ ++ [ow 5 (putNums (bookNums ⟨ba, bi, bb, bl, bt, bn⟩))]) (bkR ⟨ba, bi, bb, bl, bt, bn⟩ ++ [ow 5 ([] : List By)])) := by
  refine fent tk 148 [.tmp 2, .tmp 3] Try.func34 (by kernel_rfl) rfl rfl rfl rfl rfl rfl rfl ?_
  repeat' (first
    | (with_reducible apply zds); exact tk; rfl; rfl; rfl; rfl; rfl
    | (with_reducible apply zd); rfl; exact tk; rfl
    | (with_reducible apply znila (d := 2) 5 1); rfl; rfl; rfl
    | (with_reducible first | intro _ | apply wseq | apply zreg | apply thenQ_n | apply thenQ_r | apply thenQ_e | apply znil | apply wret | apply bodyQ_r | apply wblk | apply blkQ_n | apply blkQ_r | apply wskip | apply wexit)
    | apply wct rfl
    | apply wcf rfl
    | (with_reducible apply blkQ_x rfl)
    | (with_reducible apply blkQ_y rfl)
    | (with_reducible apply zcmp); rfl; exact tk; rfl; rfl; rfl
    | (with_reducible apply zar); rfl; rfl; rfl; rfl; (first | omega | ((try simp only [List.length_append, List.length_cons, List.length_nil, List.length_map]); (try dsimp only); omega)); rfl; rfl
    | (with_reducible apply zix); rfl; exact tk; rfl; rfl; rfl; rfl; rfl; rfl; rfl; (first | omega | ((try simp only [List.length_append, List.length_cons, List.length_nil, List.length_map]); (try dsimp only); omega)); rfl; rfl
    | (with_reducible apply zle); rfl; exact tk; rfl; rfl; rfl; rfl; (first | omega | ((try simp only [List.length_append, List.length_cons, List.length_nil, List.length_map]); (try dsimp only); omega)); rfl; rfl; rfl; rfl
    | (with_reducible apply zse); rfl; exact tk; rfl; rfl; rfl; rfl; rfl; rfl; (first | omega | ((try simp only [List.length_append, List.length_cons, List.length_nil, List.length_map]); (try dsimp only); omega)); rfl; rfl; rfl; rfl; rfl
    | (with_reducible apply zlit (α := Int) (e := 3)); rfl; exact tk; rfl; rfl; rfl; rfl; rfl; rfl; rfl; rfl; rfl; rfl; rfl; rfl; rfl
    | (with_reducible apply zap); rfl; exact tk; rfl; rfl; rfl; rfl; rfl; rfl; rfl; rfl; rfl; rfl; (first | omega | ((try simp only [List.length_append, List.length_cons, List.length_nil, List.length_map]); (try dsimp only); omega)); rfl; rfl; rfl; rfl; rfl
    | (with_reducible apply zcp); rfl; rfl; rfl; rfl; rfl; rfl; rfl; rfl; rfl; rfl; exact impl_BooksOk; rfl; rfl
    | (with_reducible apply zcf); rfl; rfl; rfl; rfl; rfl; rfl; rfl; rfl; rfl; rfl; exact impl_PutNums (by first | assumption | omega) (by first | assumption | omega); rfl; rfl; rfl; rfl; rfl
    | fail)
  rotate_left
  · exact endF (by assumption) [0, 1, 2, 3, 4, 7] rfl rfl rfl rfl rfl rfl
  rename_i hok
  have hle := nums_le hok
  have hln2 := Nat.le_trans (nums_len hok) (by decide : 2000 ≤ 1000000)
  obtain ⟨l1, l2, l3, l4, l5⟩ := books_len hok
  dsimp only at l1 l2 l3 l4 l5
  have kb : ∀ x ∈ bb, -1000000000000000 ≤ x.Amount ∧ x.Amount ≤ 1000000000000000 := fun x hx => by obtain ⟨i, hi, rfl⟩ := mem_rd hx; exact (hok.bals.1 i hi.1 hi.2).2.2.1
  refine wlp (X := Int × List Int) [1, 23, 24] [0, 1, 2, 3, 4, 5, 7] (fun y => [(25, I y.1), (4, .c (.row 6 0 y.2.length))]) (fun y => [(6, ow 3 y.2)]) (fun y => (0 ≤ y.1 ∧ y.1 ≤ ba.length) ∧ y.2 = [(ba.length : Int)] ++ (pf ba y.1).flatMap encA) (fun y => (ba.length - y.1).toNat) (0, [(ba.length : Int)]) ⟨by dsimp only; omega, by simp [pf]⟩ rfl rfl (fun _ => rfl) (fun _ => rfl) ⟨rfl, rfl, rfl, rfl, rfl, rfl, rfl, rfl⟩ (fun y hy => ?_)
  obtain ⟨i, n⟩ := y
  obtain ⟨h0, he⟩ := hy
  dsimp only at h0 he ⊢
  have hpl := pf_len h0
  have hnl : n.length ≤ 2000 := by
    rw [he]
    simp only [List.length_append, List.length_cons, List.length_nil, fx_len 2 (fun x => rfl : ∀ x, (encA x).length = 2), fx_len 2 (fun x => rfl : ∀ x, (encN x).length = 2), fx_len 3 (fun x => rfl : ∀ x, (encB x).length = 3), fx_len 5 (fun x => rfl : ∀ x, (encL x).length = 5), fx_len 8 (fun x => rfl : ∀ x, (encT x).length = 8)]
    omega
  repeat' (first
    | (with_reducible apply zds); exact tk; rfl; rfl; rfl; rfl; rfl
    | (with_reducible apply zd); rfl; exact tk; rfl
    | (with_reducible first | intro _ | apply wseq | apply zreg | apply thenQ_n | apply thenQ_r | apply thenQ_e | apply znil | apply wret | apply bodyQ_r | apply wblk | apply blkQ_n | apply blkQ_r | apply wskip | apply wexit)
    | apply wct rfl
    | apply wcf rfl
    | (with_reducible apply blkQ_x rfl)
    | (with_reducible apply blkQ_y rfl)
    | (with_reducible apply zcmp); rfl; exact tk; rfl; rfl; rfl
    | (with_reducible apply zar); rfl; rfl; rfl; rfl; (first | omega | ((try simp only [List.length_append, List.length_cons, List.length_nil, List.length_map]); (try dsimp only); omega)); rfl; rfl
    | (with_reducible apply zix); rfl; exact tk; rfl; rfl; rfl; rfl; rfl; rfl; rfl; (first | omega | ((try simp only [List.length_append, List.length_cons, List.length_nil, List.length_map]); (try dsimp only); omega)); rfl; rfl
    | (with_reducible apply zle); rfl; exact tk; rfl; rfl; rfl; rfl; (first | omega | ((try simp only [List.length_append, List.length_cons, List.length_nil, List.length_map]); (try dsimp only); omega)); rfl; rfl; rfl; rfl
    | (with_reducible apply zse); rfl; exact tk; rfl; rfl; rfl; rfl; rfl; rfl; (first | omega | ((try simp only [List.length_append, List.length_cons, List.length_nil, List.length_map]); (try dsimp only); omega)); rfl; rfl; rfl; rfl; rfl
    | (with_reducible apply zlit (α := Int) (e := 3)); rfl; exact tk; rfl; rfl; rfl; rfl; rfl; rfl; rfl; rfl; rfl; rfl; rfl; rfl; rfl
    | (with_reducible apply zap); rfl; exact tk; rfl; rfl; rfl; rfl; rfl; rfl; rfl; rfl; rfl; rfl; (first | omega | ((try simp only [List.length_append, List.length_cons, List.length_nil, List.length_map]); (try dsimp only); omega)); rfl; rfl; rfl; rfl; rfl
    | (with_reducible apply zcp); rfl; rfl; rfl; rfl; rfl; rfl; rfl; rfl; rfl; rfl; exact impl_BooksOk; rfl; rfl
    | (with_reducible apply zcf); rfl; rfl; rfl; rfl; rfl; rfl; rfl; rfl; rfl; rfl; exact impl_PutNums (by first | assumption | omega) (by first | assumption | omega); rfl; rfl; rfl; rfl; rfl
    | fail)
  · rename_i h
    exact endR (i + 1, n ++ encA (rd ba i)) [0, 1, 2, 3, 4, 5, 9] ⟨rfl, rfl, rfl, rfl, rfl, rfl, rfl, rfl⟩ ⟨by dsimp only; omega, by dsimp only; rw [he, fx_succ ⟨h0.1, h⟩, List.append_assoc]⟩ (by first | omega | (dsimp only; omega))
  rename_i h
  rw [pf_all h] at he
  subst he
  clear h h0 hpl hnl
  repeat' (first
    | (with_reducible apply zds); exact tk; rfl; rfl; rfl; rfl; rfl
    | (with_reducible apply zd); rfl; exact tk; rfl
    | (with_reducible apply zcf); rfl; rfl; rfl; rfl; rfl; rfl; rfl; rfl; rfl; rfl; exact impl_PutNums hle hln2; rfl; rfl; rfl; rfl; rfl
    | (with_reducible first | intro _ | apply wseq | apply zreg | apply thenQ_n | apply thenQ_r | apply thenQ_e | apply znil | apply wret | apply bodyQ_r | apply wblk | apply blkQ_n | apply blkQ_r | apply wskip | apply wexit)
    | apply wct rfl
    | apply wcf rfl
    | (with_reducible apply blkQ_x rfl)
    | (with_reducible apply blkQ_y rfl)
    | (with_reducible apply zcmp); rfl; exact tk; rfl; rfl; rfl
    | (with_reducible apply zar); rfl; rfl; rfl; rfl; (first | omega | ((try simp only [List.length_append, List.length_cons, List.length_nil, List.length_map]); (try dsimp only); omega)); rfl; rfl
    | (with_reducible apply zix); rfl; exact tk; rfl; rfl; rfl; rfl; rfl; rfl; rfl; (first | omega | ((try simp only [List.length_append, List.length_cons, List.length_nil, List.length_map]); (try dsimp only); omega)); rfl; rfl
    | (with_reducible apply zle); rfl; exact tk; rfl; rfl; rfl; rfl; (first | omega | ((try simp only [List.length_append, List.length_cons, List.length_nil, List.length_map]); (try dsimp only); omega)); rfl; rfl; rfl; rfl
    | (with_reducible apply zse); rfl; exact tk; rfl; rfl; rfl; rfl; rfl; rfl; (first | omega | ((try simp only [List.length_append, List.length_cons, List.length_nil, List.length_map]); (try dsimp only); omega)); rfl; rfl; rfl; rfl; rfl
    | (with_reducible apply zlit (α := Int) (e := 3)); rfl; exact tk; rfl; rfl; rfl; rfl; rfl; rfl; rfl; rfl; rfl; rfl; rfl; rfl; rfl
    | (with_reducible apply zap); rfl; exact tk; rfl; rfl; rfl; rfl; rfl; rfl; rfl; rfl; rfl; rfl; (first | omega | ((try simp only [List.length_append, List.length_cons, List.length_nil, List.length_map]); (try dsimp only); omega)); rfl; rfl; rfl; rfl; rfl
    | (with_reducible apply zcp); rfl; rfl; rfl; rfl; rfl; rfl; rfl; rfl; rfl; rfl; exact impl_BooksOk; rfl; rfl
    | (with_reducible apply zcf); rfl; rfl; rfl; rfl; rfl; rfl; rfl; rfl; rfl; rfl; exact impl_PutNums (by first | assumption | omega) (by first | assumption | omega); rfl; rfl; rfl; rfl; rfl
    | fail)
  refine wlp (X := Int × List Int) [1, 44, 45] [0, 1, 2, 3, 4, 5, 8] (fun y => [(46, I y.1), (4, .c (.row 6 0 y.2.length))]) (fun y => [(6, ow 3 y.2)]) (fun y => (0 ≤ y.1 ∧ y.1 ≤ bi.length) ∧ y.2 = [(ba.length : Int)] ++ ba.flatMap encA ++ [(bi.length : Int)] ++ (pf bi y.1).flatMap encN) (fun y => (bi.length - y.1).toNat) (0, [(ba.length : Int)] ++ ba.flatMap encA ++ [(bi.length : Int)]) ⟨by dsimp only; omega, by simp [pf]⟩ rfl rfl (fun _ => rfl) (fun _ => rfl) ⟨rfl, rfl, rfl, rfl, rfl, rfl, rfl, rfl⟩ (fun y hy => ?_)
  obtain ⟨i, n⟩ := y
  obtain ⟨h0, he⟩ := hy
  dsimp only at h0 he ⊢
  have hpl := pf_len h0
  have hnl : n.length ≤ 2000 := by
    rw [he]
    simp only [List.length_append, List.length_cons, List.length_nil, fx_len 2 (fun x => rfl : ∀ x, (encA x).length = 2), fx_len 2 (fun x => rfl : ∀ x, (encN x).length = 2), fx_len 3 (fun x => rfl : ∀ x, (encB x).length = 3), fx_len 5 (fun x => rfl : ∀ x, (encL x).length = 5), fx_len 8 (fun x => rfl : ∀ x, (encT x).length = 8)]
    omega
  repeat' (first
    | (with_reducible apply zds); exact tk; rfl; rfl; rfl; rfl; rfl
    | (with_reducible apply zd); rfl; exact tk; rfl
    | (with_reducible first | intro _ | apply wseq | apply zreg | apply thenQ_n | apply thenQ_r | apply thenQ_e | apply znil | apply wret | apply bodyQ_r | apply wblk | apply blkQ_n | apply blkQ_r | apply wskip | apply wexit)
    | apply wct rfl
    | apply wcf rfl
    | (with_reducible apply blkQ_x rfl)
    | (with_reducible apply blkQ_y rfl)
    | (with_reducible apply zcmp); rfl; exact tk; rfl; rfl; rfl
    | (with_reducible apply zar); rfl; rfl; rfl; rfl; (first | omega | ((try simp only [List.length_append, List.length_cons, List.length_nil, List.length_map]); (try dsimp only); omega)); rfl; rfl
    | (with_reducible apply zix); rfl; exact tk; rfl; rfl; rfl; rfl; rfl; rfl; rfl; (first | omega | ((try simp only [List.length_append, List.length_cons, List.length_nil, List.length_map]); (try dsimp only); omega)); rfl; rfl
    | (with_reducible apply zle); rfl; exact tk; rfl; rfl; rfl; rfl; (first | omega | ((try simp only [List.length_append, List.length_cons, List.length_nil, List.length_map]); (try dsimp only); omega)); rfl; rfl; rfl; rfl
    | (with_reducible apply zse); rfl; exact tk; rfl; rfl; rfl; rfl; rfl; rfl; (first | omega | ((try simp only [List.length_append, List.length_cons, List.length_nil, List.length_map]); (try dsimp only); omega)); rfl; rfl; rfl; rfl; rfl
    | (with_reducible apply zlit (α := Int) (e := 3)); rfl; exact tk; rfl; rfl; rfl; rfl; rfl; rfl; rfl; rfl; rfl; rfl; rfl; rfl; rfl
    | (with_reducible apply zap); rfl; exact tk; rfl; rfl; rfl; rfl; rfl; rfl; rfl; rfl; rfl; rfl; (first | omega | ((try simp only [List.length_append, List.length_cons, List.length_nil, List.length_map]); (try dsimp only); omega)); rfl; rfl; rfl; rfl; rfl
    | (with_reducible apply zcp); rfl; rfl; rfl; rfl; rfl; rfl; rfl; rfl; rfl; rfl; exact impl_BooksOk; rfl; rfl
    | (with_reducible apply zcf); rfl; rfl; rfl; rfl; rfl; rfl; rfl; rfl; rfl; rfl; exact impl_PutNums (by first | assumption | omega) (by first | assumption | omega); rfl; rfl; rfl; rfl; rfl
    | fail)
  · rename_i h
    exact endR (i + 1, n ++ encN (rd bi i)) [0, 1, 2, 3, 4, 5, 9] ⟨rfl, rfl, rfl, rfl, rfl, rfl, rfl, rfl⟩ ⟨by dsimp only; omega, by dsimp only; rw [he, fx_succ ⟨h0.1, h⟩, List.append_assoc]⟩ (by first | omega | (dsimp only; omega))
  rename_i h
  rw [pf_all h] at he
  subst he
  clear h h0 hpl hnl
  repeat' (first
    | (with_reducible apply zds); exact tk; rfl; rfl; rfl; rfl; rfl
    | (with_reducible apply zd); rfl; exact tk; rfl
    | (with_reducible apply zcf); rfl; rfl; rfl; rfl; rfl; rfl; rfl; rfl; rfl; rfl; exact impl_PutNums hle hln2; rfl; rfl; rfl; rfl; rfl
    | (with_reducible first | intro _ | apply wseq | apply zreg | apply thenQ_n | apply thenQ_r | apply thenQ_e | apply znil | apply wret | apply bodyQ_r | apply wblk | apply blkQ_n | apply blkQ_r | apply wskip | apply wexit)
    | apply wct rfl
    | apply wcf rfl
    | (with_reducible apply blkQ_x rfl)
    | (with_reducible apply blkQ_y rfl)
    | (with_reducible apply zcmp); rfl; exact tk; rfl; rfl; rfl
    | (with_reducible apply zar); rfl; rfl; rfl; rfl; (first | omega | ((try simp only [List.length_append, List.length_cons, List.length_nil, List.length_map]); (try dsimp only); omega)); rfl; rfl
    | (with_reducible apply zix); rfl; exact tk; rfl; rfl; rfl; rfl; rfl; rfl; rfl; (first | omega | ((try simp only [List.length_append, List.length_cons, List.length_nil, List.length_map]); (try dsimp only); omega)); rfl; rfl
    | (with_reducible apply zle); rfl; exact tk; rfl; rfl; rfl; rfl; (first | omega | ((try simp only [List.length_append, List.length_cons, List.length_nil, List.length_map]); (try dsimp only); omega)); rfl; rfl; rfl; rfl
    | (with_reducible apply zse); rfl; exact tk; rfl; rfl; rfl; rfl; rfl; rfl; (first | omega | ((try simp only [List.length_append, List.length_cons, List.length_nil, List.length_map]); (try dsimp only); omega)); rfl; rfl; rfl; rfl; rfl
    | (with_reducible apply zlit (α := Int) (e := 3)); rfl; exact tk; rfl; rfl; rfl; rfl; rfl; rfl; rfl; rfl; rfl; rfl; rfl; rfl; rfl
    | (with_reducible apply zap); rfl; exact tk; rfl; rfl; rfl; rfl; rfl; rfl; rfl; rfl; rfl; rfl; (first | omega | ((try simp only [List.length_append, List.length_cons, List.length_nil, List.length_map]); (try dsimp only); omega)); rfl; rfl; rfl; rfl; rfl
    | (with_reducible apply zcp); rfl; rfl; rfl; rfl; rfl; rfl; rfl; rfl; rfl; rfl; exact impl_BooksOk; rfl; rfl
    | (with_reducible apply zcf); rfl; rfl; rfl; rfl; rfl; rfl; rfl; rfl; rfl; rfl; exact impl_PutNums (by first | assumption | omega) (by first | assumption | omega); rfl; rfl; rfl; rfl; rfl
    | fail)
  refine wlp (X := Int × List Int) [1, 65, 66] [0, 1, 2, 3, 4, 5, 8] (fun y => [(67, I y.1), (4, .c (.row 6 0 y.2.length))]) (fun y => [(6, ow 3 y.2)]) (fun y => (0 ≤ y.1 ∧ y.1 ≤ bb.length) ∧ y.2 = [(ba.length : Int)] ++ ba.flatMap encA ++ [(bi.length : Int)] ++ bi.flatMap encN ++ [(bb.length : Int)] ++ (pf bb y.1).flatMap encB) (fun y => (bb.length - y.1).toNat) (0, [(ba.length : Int)] ++ ba.flatMap encA ++ [(bi.length : Int)] ++ bi.flatMap encN ++ [(bb.length : Int)]) ⟨by dsimp only; omega, by simp [pf]⟩ rfl rfl (fun _ => rfl) (fun _ => rfl) ⟨rfl, rfl, rfl, rfl, rfl, rfl, rfl, rfl⟩ (fun y hy => ?_)
  obtain ⟨i, n⟩ := y
  obtain ⟨h0, he⟩ := hy
  dsimp only at h0 he ⊢
  have hpl := pf_len h0
  have hnl : n.length ≤ 2000 := by
    rw [he]
    simp only [List.length_append, List.length_cons, List.length_nil, fx_len 2 (fun x => rfl : ∀ x, (encA x).length = 2), fx_len 2 (fun x => rfl : ∀ x, (encN x).length = 2), fx_len 3 (fun x => rfl : ∀ x, (encB x).length = 3), fx_len 5 (fun x => rfl : ∀ x, (encL x).length = 5), fx_len 8 (fun x => rfl : ∀ x, (encT x).length = 8)]
    omega
  repeat' (first
    | (with_reducible apply zds); exact tk; rfl; rfl; rfl; rfl; rfl
    | (with_reducible apply zd); rfl; exact tk; rfl
    | (with_reducible apply zar); rfl; rfl; rfl; rfl; (have h1 := kb _ (rd_mem ⟨h0.1, by assumption⟩); omega); rfl; rfl
    | (with_reducible first | intro _ | apply wseq | apply zreg | apply thenQ_n | apply thenQ_r | apply thenQ_e | apply znil | apply wret | apply bodyQ_r | apply wblk | apply blkQ_n | apply blkQ_r | apply wskip | apply wexit)
    | apply wct rfl
    | apply wcf rfl
    | (with_reducible apply blkQ_x rfl)
    | (with_reducible apply blkQ_y rfl)
    | (with_reducible apply zcmp); rfl; exact tk; rfl; rfl; rfl
    | (with_reducible apply zar); rfl; rfl; rfl; rfl; (first | omega | ((try simp only [List.length_append, List.length_cons, List.length_nil, List.length_map]); (try dsimp only); omega)); rfl; rfl
    | (with_reducible apply zix); rfl; exact tk; rfl; rfl; rfl; rfl; rfl; rfl; rfl; (first | omega | ((try simp only [List.length_append, List.length_cons, List.length_nil, List.length_map]); (try dsimp only); omega)); rfl; rfl
    | (with_reducible apply zle); rfl; exact tk; rfl; rfl; rfl; rfl; (first | omega | ((try simp only [List.length_append, List.length_cons, List.length_nil, List.length_map]); (try dsimp only); omega)); rfl; rfl; rfl; rfl
    | (with_reducible apply zse); rfl; exact tk; rfl; rfl; rfl; rfl; rfl; rfl; (first | omega | ((try simp only [List.length_append, List.length_cons, List.length_nil, List.length_map]); (try dsimp only); omega)); rfl; rfl; rfl; rfl; rfl
    | (with_reducible apply zlit (α := Int) (e := 3)); rfl; exact tk; rfl; rfl; rfl; rfl; rfl; rfl; rfl; rfl; rfl; rfl; rfl; rfl; rfl
    | (with_reducible apply zap); rfl; exact tk; rfl; rfl; rfl; rfl; rfl; rfl; rfl; rfl; rfl; rfl; (first | omega | ((try simp only [List.length_append, List.length_cons, List.length_nil, List.length_map]); (try dsimp only); omega)); rfl; rfl; rfl; rfl; rfl
    | (with_reducible apply zcp); rfl; rfl; rfl; rfl; rfl; rfl; rfl; rfl; rfl; rfl; exact impl_BooksOk; rfl; rfl
    | (with_reducible apply zcf); rfl; rfl; rfl; rfl; rfl; rfl; rfl; rfl; rfl; rfl; exact impl_PutNums (by first | assumption | omega) (by first | assumption | omega); rfl; rfl; rfl; rfl; rfl
    | fail)
  · rename_i h
    exact endR (i + 1, n ++ encB (rd bb i)) [0, 1, 2, 3, 4, 5, 9] ⟨rfl, rfl, rfl, rfl, rfl, rfl, rfl, rfl⟩ ⟨by dsimp only; omega, by dsimp only; rw [he, fx_succ ⟨h0.1, h⟩, List.append_assoc]⟩ (by first | omega | (dsimp only; omega))
  rename_i h
  rw [pf_all h] at he
  subst he
  clear h h0 hpl hnl
  repeat' (first
    | (with_reducible apply zds); exact tk; rfl; rfl; rfl; rfl; rfl
    | (with_reducible apply zd); rfl; exact tk; rfl
    | (with_reducible apply zcf); rfl; rfl; rfl; rfl; rfl; rfl; rfl; rfl; rfl; rfl; exact impl_PutNums hle hln2; rfl; rfl; rfl; rfl; rfl
    | (with_reducible first | intro _ | apply wseq | apply zreg | apply thenQ_n | apply thenQ_r | apply thenQ_e | apply znil | apply wret | apply bodyQ_r | apply wblk | apply blkQ_n | apply blkQ_r | apply wskip | apply wexit)
    | apply wct rfl
    | apply wcf rfl
    | (with_reducible apply blkQ_x rfl)
    | (with_reducible apply blkQ_y rfl)
    | (with_reducible apply zcmp); rfl; exact tk; rfl; rfl; rfl
    | (with_reducible apply zar); rfl; rfl; rfl; rfl; (first | omega | ((try simp only [List.length_append, List.length_cons, List.length_nil, List.length_map]); (try dsimp only); omega)); rfl; rfl
    | (with_reducible apply zix); rfl; exact tk; rfl; rfl; rfl; rfl; rfl; rfl; rfl; (first | omega | ((try simp only [List.length_append, List.length_cons, List.length_nil, List.length_map]); (try dsimp only); omega)); rfl; rfl
    | (with_reducible apply zle); rfl; exact tk; rfl; rfl; rfl; rfl; (first | omega | ((try simp only [List.length_append, List.length_cons, List.length_nil, List.length_map]); (try dsimp only); omega)); rfl; rfl; rfl; rfl
    | (with_reducible apply zse); rfl; exact tk; rfl; rfl; rfl; rfl; rfl; rfl; (first | omega | ((try simp only [List.length_append, List.length_cons, List.length_nil, List.length_map]); (try dsimp only); omega)); rfl; rfl; rfl; rfl; rfl
    | (with_reducible apply zlit (α := Int) (e := 3)); rfl; exact tk; rfl; rfl; rfl; rfl; rfl; rfl; rfl; rfl; rfl; rfl; rfl; rfl; rfl
    | (with_reducible apply zap); rfl; exact tk; rfl; rfl; rfl; rfl; rfl; rfl; rfl; rfl; rfl; rfl; (first | omega | ((try simp only [List.length_append, List.length_cons, List.length_nil, List.length_map]); (try dsimp only); omega)); rfl; rfl; rfl; rfl; rfl
    | (with_reducible apply zcp); rfl; rfl; rfl; rfl; rfl; rfl; rfl; rfl; rfl; rfl; exact impl_BooksOk; rfl; rfl
    | (with_reducible apply zcf); rfl; rfl; rfl; rfl; rfl; rfl; rfl; rfl; rfl; rfl; exact impl_PutNums (by first | assumption | omega) (by first | assumption | omega); rfl; rfl; rfl; rfl; rfl
    | fail)
  refine wlp (X := Int × List Int) [1, 89, 90] [0, 1, 2, 3, 4, 5, 8] (fun y => [(91, I y.1), (4, .c (.row 6 0 y.2.length))]) (fun y => [(6, ow 3 y.2)]) (fun y => (0 ≤ y.1 ∧ y.1 ≤ bl.length) ∧ y.2 = [(ba.length : Int)] ++ ba.flatMap encA ++ [(bi.length : Int)] ++ bi.flatMap encN ++ [(bb.length : Int)] ++ bb.flatMap encB ++ [(bl.length : Int)] ++ (pf bl y.1).flatMap encL) (fun y => (bl.length - y.1).toNat) (0, [(ba.length : Int)] ++ ba.flatMap encA ++ [(bi.length : Int)] ++ bi.flatMap encN ++ [(bb.length : Int)] ++ bb.flatMap encB ++ [(bl.length : Int)]) ⟨by dsimp only; omega, by simp [pf]⟩ rfl rfl (fun _ => rfl) (fun _ => rfl) ⟨rfl, rfl, rfl, rfl, rfl, rfl, rfl, rfl⟩ (fun y hy => ?_)
  obtain ⟨i, n⟩ := y
  obtain ⟨h0, he⟩ := hy
  dsimp only at h0 he ⊢
  have hpl := pf_len h0
  have hnl : n.length ≤ 2000 := by
    rw [he]
    simp only [List.length_append, List.length_cons, List.length_nil, fx_len 2 (fun x => rfl : ∀ x, (encA x).length = 2), fx_len 2 (fun x => rfl : ∀ x, (encN x).length = 2), fx_len 3 (fun x => rfl : ∀ x, (encB x).length = 3), fx_len 5 (fun x => rfl : ∀ x, (encL x).length = 5), fx_len 8 (fun x => rfl : ∀ x, (encT x).length = 8)]
    omega
  repeat' (first
    | (with_reducible apply zds); exact tk; rfl; rfl; rfl; rfl; rfl
    | (with_reducible apply zd); rfl; exact tk; rfl
    | (with_reducible first | intro _ | apply wseq | apply zreg | apply thenQ_n | apply thenQ_r | apply thenQ_e | apply znil | apply wret | apply bodyQ_r | apply wblk | apply blkQ_n | apply blkQ_r | apply wskip | apply wexit)
    | apply wct rfl
    | apply wcf rfl
    | (with_reducible apply blkQ_x rfl)
    | (with_reducible apply blkQ_y rfl)
    | (with_reducible apply zcmp); rfl; exact tk; rfl; rfl; rfl
    | (with_reducible apply zar); rfl; rfl; rfl; rfl; (first | omega | ((try simp only [List.length_append, List.length_cons, List.length_nil, List.length_map]); (try dsimp only); omega)); rfl; rfl
    | (with_reducible apply zix); rfl; exact tk; rfl; rfl; rfl; rfl; rfl; rfl; rfl; (first | omega | ((try simp only [List.length_append, List.length_cons, List.length_nil, List.length_map]); (try dsimp only); omega)); rfl; rfl
    | (with_reducible apply zle); rfl; exact tk; rfl; rfl; rfl; rfl; (first | omega | ((try simp only [List.length_append, List.length_cons, List.length_nil, List.length_map]); (try dsimp only); omega)); rfl; rfl; rfl; rfl
    | (with_reducible apply zse); rfl; exact tk; rfl; rfl; rfl; rfl; rfl; rfl; (first | omega | ((try simp only [List.length_append, List.length_cons, List.length_nil, List.length_map]); (try dsimp only); omega)); rfl; rfl; rfl; rfl; rfl
    | (with_reducible apply zlit (α := Int) (e := 3)); rfl; exact tk; rfl; rfl; rfl; rfl; rfl; rfl; rfl; rfl; rfl; rfl; rfl; rfl; rfl
    | (with_reducible apply zap); rfl; exact tk; rfl; rfl; rfl; rfl; rfl; rfl; rfl; rfl; rfl; rfl; (first | omega | ((try simp only [List.length_append, List.length_cons, List.length_nil, List.length_map]); (try dsimp only); omega)); rfl; rfl; rfl; rfl; rfl
    | (with_reducible apply zcp); rfl; rfl; rfl; rfl; rfl; rfl; rfl; rfl; rfl; rfl; exact impl_BooksOk; rfl; rfl
    | (with_reducible apply zcf); rfl; rfl; rfl; rfl; rfl; rfl; rfl; rfl; rfl; rfl; exact impl_PutNums (by first | assumption | omega) (by first | assumption | omega); rfl; rfl; rfl; rfl; rfl
    | fail)
  · rename_i h
    exact endR (i + 1, n ++ encL (rd bl i)) [0, 1, 2, 3, 4, 5, 9] ⟨rfl, rfl, rfl, rfl, rfl, rfl, rfl, rfl⟩ ⟨by dsimp only; omega, by dsimp only; rw [he, fx_succ ⟨h0.1, h⟩, List.append_assoc]⟩ (by first | omega | (dsimp only; omega))
  rename_i h
  rw [pf_all h] at he
  subst he
  clear h h0 hpl hnl
  repeat' (first
    | (with_reducible apply zds); exact tk; rfl; rfl; rfl; rfl; rfl
    | (with_reducible apply zd); rfl; exact tk; rfl
    | (with_reducible apply zcf); rfl; rfl; rfl; rfl; rfl; rfl; rfl; rfl; rfl; rfl; exact impl_PutNums hle hln2; rfl; rfl; rfl; rfl; rfl
    | (with_reducible first | intro _ | apply wseq | apply zreg | apply thenQ_n | apply thenQ_r | apply thenQ_e | apply znil | apply wret | apply bodyQ_r | apply wblk | apply blkQ_n | apply blkQ_r | apply wskip | apply wexit)
    | apply wct rfl
    | apply wcf rfl
    | (with_reducible apply blkQ_x rfl)
    | (with_reducible apply blkQ_y rfl)
    | (with_reducible apply zcmp); rfl; exact tk; rfl; rfl; rfl
    | (with_reducible apply zar); rfl; rfl; rfl; rfl; (first | omega | ((try simp only [List.length_append, List.length_cons, List.length_nil, List.length_map]); (try dsimp only); omega)); rfl; rfl
    | (with_reducible apply zix); rfl; exact tk; rfl; rfl; rfl; rfl; rfl; rfl; rfl; (first | omega | ((try simp only [List.length_append, List.length_cons, List.length_nil, List.length_map]); (try dsimp only); omega)); rfl; rfl
    | (with_reducible apply zle); rfl; exact tk; rfl; rfl; rfl; rfl; (first | omega | ((try simp only [List.length_append, List.length_cons, List.length_nil, List.length_map]); (try dsimp only); omega)); rfl; rfl; rfl; rfl
    | (with_reducible apply zse); rfl; exact tk; rfl; rfl; rfl; rfl; rfl; rfl; (first | omega | ((try simp only [List.length_append, List.length_cons, List.length_nil, List.length_map]); (try dsimp only); omega)); rfl; rfl; rfl; rfl; rfl
    | (with_reducible apply zlit (α := Int) (e := 3)); rfl; exact tk; rfl; rfl; rfl; rfl; rfl; rfl; rfl; rfl; rfl; rfl; rfl; rfl; rfl
    | (with_reducible apply zap); rfl; exact tk; rfl; rfl; rfl; rfl; rfl; rfl; rfl; rfl; rfl; rfl; (first | omega | ((try simp only [List.length_append, List.length_cons, List.length_nil, List.length_map]); (try dsimp only); omega)); rfl; rfl; rfl; rfl; rfl
    | (with_reducible apply zcp); rfl; rfl; rfl; rfl; rfl; rfl; rfl; rfl; rfl; rfl; exact impl_BooksOk; rfl; rfl
    | (with_reducible apply zcf); rfl; rfl; rfl; rfl; rfl; rfl; rfl; rfl; rfl; rfl; exact impl_PutNums (by first | assumption | omega) (by first | assumption | omega); rfl; rfl; rfl; rfl; rfl
    | fail)
  refine wlp (X := Int × List Int) [1, 116, 117] [0, 1, 2, 3, 4, 5, 8] (fun y => [(118, I y.1), (4, .c (.row 6 0 y.2.length))]) (fun y => [(6, ow 3 y.2)]) (fun y => (0 ≤ y.1 ∧ y.1 ≤ bt.length) ∧ y.2 = [(ba.length : Int)] ++ ba.flatMap encA ++ [(bi.length : Int)] ++ bi.flatMap encN ++ [(bb.length : Int)] ++ bb.flatMap encB ++ [(bl.length : Int)] ++ bl.flatMap encL ++ [(bt.length : Int)] ++ (pf bt y.1).flatMap encT) (fun y => (bt.length - y.1).toNat) (0, [(ba.length : Int)] ++ ba.flatMap encA ++ [(bi.length : Int)] ++ bi.flatMap encN ++ [(bb.length : Int)] ++ bb.flatMap encB ++ [(bl.length : Int)] ++ bl.flatMap encL ++ [(bt.length : Int)]) ⟨by dsimp only; omega, by simp [pf]⟩ rfl rfl (fun _ => rfl) (fun _ => rfl) ⟨rfl, rfl, rfl, rfl, rfl, rfl, rfl, rfl⟩ (fun y hy => ?_)
  obtain ⟨i, n⟩ := y
  obtain ⟨h0, he⟩ := hy
  dsimp only at h0 he ⊢
  have hpl := pf_len h0
  have hnl : n.length ≤ 2000 := by
    rw [he]
    simp only [List.length_append, List.length_cons, List.length_nil, fx_len 2 (fun x => rfl : ∀ x, (encA x).length = 2), fx_len 2 (fun x => rfl : ∀ x, (encN x).length = 2), fx_len 3 (fun x => rfl : ∀ x, (encB x).length = 3), fx_len 5 (fun x => rfl : ∀ x, (encL x).length = 5), fx_len 8 (fun x => rfl : ∀ x, (encT x).length = 8)]
    omega
  repeat' (first
    | (with_reducible apply zds); exact tk; rfl; rfl; rfl; rfl; rfl
    | (with_reducible apply zd); rfl; exact tk; rfl
    | (with_reducible first | intro _ | apply wseq | apply zreg | apply thenQ_n | apply thenQ_r | apply thenQ_e | apply znil | apply wret | apply bodyQ_r | apply wblk | apply blkQ_n | apply blkQ_r | apply wskip | apply wexit)
    | apply wct rfl
    | apply wcf rfl
    | (with_reducible apply blkQ_x rfl)
    | (with_reducible apply blkQ_y rfl)
    | (with_reducible apply zcmp); rfl; exact tk; rfl; rfl; rfl
    | (with_reducible apply zar); rfl; rfl; rfl; rfl; (first | omega | ((try simp only [List.length_append, List.length_cons, List.length_nil, List.length_map]); (try dsimp only); omega)); rfl; rfl
    | (with_reducible apply zix); rfl; exact tk; rfl; rfl; rfl; rfl; rfl; rfl; rfl; (first | omega | ((try simp only [List.length_append, List.length_cons, List.length_nil, List.length_map]); (try dsimp only); omega)); rfl; rfl
    | (with_reducible apply zle); rfl; exact tk; rfl; rfl; rfl; rfl; (first | omega | ((try simp only [List.length_append, List.length_cons, List.length_nil, List.length_map]); (try dsimp only); omega)); rfl; rfl; rfl; rfl
    | (with_reducible apply zse); rfl; exact tk; rfl; rfl; rfl; rfl; rfl; rfl; (first | omega | ((try simp only [List.length_append, List.length_cons, List.length_nil, List.length_map]); (try dsimp only); omega)); rfl; rfl; rfl; rfl; rfl
    | (with_reducible apply zlit (α := Int) (e := 3)); rfl; exact tk; rfl; rfl; rfl; rfl; rfl; rfl; rfl; rfl; rfl; rfl; rfl; rfl; rfl
    | (with_reducible apply zap); rfl; exact tk; rfl; rfl; rfl; rfl; rfl; rfl; rfl; rfl; rfl; rfl; (first | omega | ((try simp only [List.length_append, List.length_cons, List.length_nil, List.length_map]); (try dsimp only); omega)); rfl; rfl; rfl; rfl; rfl
    | (with_reducible apply zcp); rfl; rfl; rfl; rfl; rfl; rfl; rfl; rfl; rfl; rfl; exact impl_BooksOk; rfl; rfl
    | (with_reducible apply zcf); rfl; rfl; rfl; rfl; rfl; rfl; rfl; rfl; rfl; rfl; exact impl_PutNums (by first | assumption | omega) (by first | assumption | omega); rfl; rfl; rfl; rfl; rfl
    | fail)
  · rename_i h
    exact endR (i + 1, n ++ encT (rd bt i)) [0, 1, 2, 3, 4, 5, 9] ⟨rfl, rfl, rfl, rfl, rfl, rfl, rfl, rfl⟩ ⟨by dsimp only; omega, by dsimp only; rw [he, fx_succ ⟨h0.1, h⟩, List.append_assoc]⟩ (by first | omega | (dsimp only; omega))
  rename_i h
  rw [pf_all h] at he
  subst he
  clear h h0 hpl hnl
  repeat' (first
    | (with_reducible apply zds); exact tk; rfl; rfl; rfl; rfl; rfl
    | (with_reducible apply zd); rfl; exact tk; rfl
    | (with_reducible apply zcf); rfl; rfl; rfl; rfl; rfl; rfl; rfl; rfl; rfl; rfl; exact impl_PutNums hle hln2; rfl; rfl; rfl; rfl; rfl
    | (with_reducible first | intro _ | apply wseq | apply zreg | apply thenQ_n | apply thenQ_r | apply thenQ_e | apply znil | apply wret | apply bodyQ_r | apply wblk | apply blkQ_n | apply blkQ_r | apply wskip | apply wexit)
    | apply wct rfl
    | apply wcf rfl
    | (with_reducible apply blkQ_x rfl)
    | (with_reducible apply blkQ_y rfl)
    | (with_reducible apply zcmp); rfl; exact tk; rfl; rfl; rfl
    | (with_reducible apply zar); rfl; rfl; rfl; rfl; (first | omega | ((try simp only [List.length_append, List.length_cons, List.length_nil, List.length_map]); (try dsimp only); omega)); rfl; rfl
    | (with_reducible apply zix); rfl; exact tk; rfl; rfl; rfl; rfl; rfl; rfl; rfl; (first | omega | ((try simp only [List.length_append, List.length_cons, List.length_nil, List.length_map]); (try dsimp only); omega)); rfl; rfl
    | (with_reducible apply zle); rfl; exact tk; rfl; rfl; rfl; rfl; (first | omega | ((try simp only [List.length_append, List.length_cons, List.length_nil, List.length_map]); (try dsimp only); omega)); rfl; rfl; rfl; rfl
    | (with_reducible apply zse); rfl; exact tk; rfl; rfl; rfl; rfl; rfl; rfl; (first | omega | ((try simp only [List.length_append, List.length_cons, List.length_nil, List.length_map]); (try dsimp only); omega)); rfl; rfl; rfl; rfl; rfl
    | (with_reducible apply zlit (α := Int) (e := 3)); rfl; exact tk; rfl; rfl; rfl; rfl; rfl; rfl; rfl; rfl; rfl; rfl; rfl; rfl; rfl
    | (with_reducible apply zap); rfl; exact tk; rfl; rfl; rfl; rfl; rfl; rfl; rfl; rfl; rfl; rfl; (first | omega | ((try simp only [List.length_append, List.length_cons, List.length_nil, List.length_map]); (try dsimp only); omega)); rfl; rfl; rfl; rfl; rfl
    | (with_reducible apply zcp); rfl; rfl; rfl; rfl; rfl; rfl; rfl; rfl; rfl; rfl; exact impl_BooksOk; rfl; rfl
    | (with_reducible apply zcf); rfl; rfl; rfl; rfl; rfl; rfl; rfl; rfl; rfl; rfl; exact impl_PutNums (by first | assumption | omega) (by first | assumption | omega); rfl; rfl; rfl; rfl; rfl
    | fail)
  exact endT hok [0, 1, 2, 3, 4, 9] rfl rfl rfl rfl rfl rfl
set_option maxHeartbeats 4000000 in
theorem impl_BooksSize {ba : List Account} {bi : List Instr} {bb : List Bal} {bl : List Lot} {bt : List Trade} {bn : Int} : FC Try.prog 9 [bkV 0 ⟨ba, bi, bb, bl, bt, bn⟩] (bkR ⟨ba, bi, bb, bl, bt, bn⟩) (I (pick (BooksOk ⟨ba, bi, bb, bl, bt, bn⟩) (putNums (bookNums ⟨ba, bi, bb, bl, bt, bn⟩)).length (-1))) (bkR ⟨ba, bi, bb, bl, bt, bn⟩) := by
  refine fent tk 14 [.tmp 2] Try.func9 (by kernel_rfl) rfl rfl rfl rfl rfl rfl rfl ?_
  repeat' (first
    | (with_reducible apply zds); exact tk; rfl; rfl; rfl; rfl; rfl
    | (with_reducible apply zd); rfl; exact tk; rfl
    | (with_reducible first | intro _ | apply wseq | apply zreg | apply thenQ_n | apply thenQ_r | apply thenQ_e | apply znil | apply wret | apply bodyQ_r | apply wblk | apply blkQ_n | apply blkQ_r | apply wskip | apply wexit)
    | apply wct rfl
    | apply wcf rfl
    | (with_reducible apply zcsf); rfl; rfl; rfl; rfl; rfl; rfl; rfl; rfl; rfl; rfl; exact impl_BooksPack; rfl; rfl; rfl; rfl; rfl; rfl; rfl; rfl
    | fail)
  all_goals first
    | exact endI [0, 1, 2, 3, 4] rfl rfl rfl rfl rfl rfl (pick_t (by assumption))
    | exact endI [0, 1, 2, 3, 4] rfl rfl rfl rfl rfl rfl (pick_f (by assumption))
set_option maxHeartbeats 4000000 in
theorem spec_BooksSize {ba : List Account} {bi : List Instr} {bb : List Bal} {bl : List Lot} {bt : List Trade} {bn : Int} : FC Try.prog 7 [bkV 0 ⟨ba, bi, bb, bl, bt, bn⟩] (bkR ⟨ba, bi, bb, bl, bt, bn⟩) (I (pick (BooksOk ⟨ba, bi, bb, bl, bt, bn⟩) (putNums (bookNums ⟨ba, bi, bb, bl, bt, bn⟩)).length (-1))) (bkR ⟨ba, bi, bb, bl, bt, bn⟩) := by
  refine fent tk 14 [.tmp 2] Try.func7 (by kernel_rfl) rfl rfl rfl rfl rfl rfl rfl ?_
  repeat' (first
    | (with_reducible apply zds); exact tk; rfl; rfl; rfl; rfl; rfl
    | (with_reducible apply zd); rfl; exact tk; rfl
    | (with_reducible first | intro _ | apply wseq | apply zreg | apply thenQ_n | apply thenQ_r | apply thenQ_e | apply znil | apply wret | apply bodyQ_r | apply wblk | apply blkQ_n | apply blkQ_r | apply wskip | apply wexit)
    | apply wct rfl
    | apply wcf rfl
    | (with_reducible apply zcsf); rfl; rfl; rfl; rfl; rfl; rfl; rfl; rfl; rfl; rfl; exact spec_BooksPack; rfl; rfl; rfl; rfl; rfl; rfl; rfl; rfl
    | fail)
  all_goals first
    | exact endI [0, 1, 2, 3, 4] rfl rfl rfl rfl rfl rfl (pick_t (by assumption))
    | exact endI [0, 1, 2, 3, 4] rfl rfl rfl rfl rfl rfl (pick_f (by assumption))
end Go.Proofs.Ytnlajjoheegbiaa.Sh
