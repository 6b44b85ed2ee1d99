/- What is found in the chart and in balances. No condition. -/
import Derived.Test.YtgehbhkfehmdkaaGreatKSpShSl
namespace Go.Proofs.YtgehbhkfehmdkaaGreat.Sh
open Go.RowKit
set_option linter.unusedVariables false
set_option linter.unusedSimpArgs false
set_option maxHeartbeats 4000000 in
theorem impl_accountKind {l : List Account} {no : Int} : FC Tryz.prog 138 [.c (.row 0 0 l.length), I no] ([ro 42 l]) (I (accKind l no)) ([ro 42 l]) := by
  refine fent tk 20 [.tmp 4] Tryz.func138 (by kernel_rfl) rfl rfl rfl rfl rfl rfl rfl ?_
  refine wlen l 0 rfl (fun hl => ?_)
  repeat' (first
 | (with_reducible apply zds); exact tk; rfl; rfl; rfl; rfl; rfl
 | (with_reducible apply zd); rfl; exact tk; rfl
 | (with_reducible first | intro _ | apply wseq | apply zreg | apply thenQ_n | apply thenQ_r | apply thenQ_e | apply znil | apply wret | apply bodyQ_r | apply wblk | apply blkQ_n | apply blkQ_r | apply wskip | apply wexit)
 | fail)
  refine wlp (X := Int) [1, 7, 8] [0] (fun i => [(9, I i)]) (fun _ => []) (fun i => 0 ≤ i ∧ i ≤ l.length ∧ ∀ j : Int, 0 ≤ j → j < i → (rd l j).No ≠ no) (fun i => (l.length - i).toNat) 0 ⟨by omega, by omega, fun j h0 h1 => by omega⟩ rfl rfl (fun _ => rfl) (fun _ => rfl) ⟨rfl, rfl, rfl, rfl, rfl, rfl, rfl, rfl⟩ (fun i hi => ?_)
  obtain ⟨h0, hi, hall⟩ := hi
  repeat' (first
 | (with_reducible apply zds); exact tk; rfl; rfl; rfl; rfl; rfl
 | (with_reducible apply zd); rfl; exact tk; rfl
 | (with_reducible first | intro _ | apply wseq | apply zreg | apply thenQ_n | apply thenQ_r | apply thenQ_e | apply znil | apply wret | apply bodyQ_r | apply wblk | apply blkQ_n | apply blkQ_r | apply wskip | apply wexit)
 | apply wct rfl
 | apply wcf rfl
 | (with_reducible apply blkQ_x rfl)
 | (with_reducible apply zcmp); rfl; exact tk; rfl; rfl; rfl
 | (with_reducible apply zar); rfl; rfl; rfl; rfl; (first | omega | ((try simp only [List.length_append, List.length_cons, List.length_nil, List.length_map]); (try dsimp only); omega)); rfl; rfl
 | (with_reducible apply zix); rfl; exact tk; (iterate 7 rfl); (first | omega | ((try simp only [List.length_append, List.length_cons, List.length_nil, List.length_map]); (try dsimp only); omega)); rfl; rfl
 | (with_reducible apply zle); rfl; exact tk; rfl; rfl; rfl; rfl; (first | omega | ((try simp only [List.length_append, List.length_cons, List.length_nil, List.length_map]); (try dsimp only); omega)); rfl; rfl; rfl; rfl
 | fail)
  all_goals first
    | exact endI [0] rfl rfl rfl rfl rfl rfl (accKind_at ⟨by omega, by omega⟩ hall (by assumption))
    | exact endI [0] rfl rfl rfl rfl rfl rfl (accKind_no (by assumption) hall)
    | exact endR (i + 1) [0] ⟨rfl, rfl, rfl, rfl, rfl, rfl, rfl, rfl⟩ ⟨by omega, by omega, all_step hall (by assumption)⟩ (by first | omega | (dsimp only; omega))
set_option maxHeartbeats 4000000 in
theorem impl_instrKind {l : List Instr} {no : Int} : FC Tryz.prog 235 [.c (.row 0 0 l.length), I no] ([ro 74 l]) (I (insKind l no)) ([ro 74 l]) := by
  refine fent tk 20 [.tmp 4] Tryz.func235 (by kernel_rfl) rfl rfl rfl rfl rfl rfl rfl ?_
  refine wlen l 0 rfl (fun hl => ?_)
  repeat' (first
 | (with_reducible apply zds); exact tk; rfl; rfl; rfl; rfl; rfl
 | (with_reducible apply zd); rfl; exact tk; rfl
 | (with_reducible first | intro _ | apply wseq | apply zreg | apply thenQ_n | apply thenQ_r | apply thenQ_e | apply znil | apply wret | apply bodyQ_r | apply wblk | apply blkQ_n | apply blkQ_r | apply wskip | apply wexit)
 | fail)
  refine wlp (X := Int) [1, 7, 8] [0] (fun i => [(9, I i)]) (fun _ => []) (fun i => 0 ≤ i ∧ i ≤ l.length ∧ ∀ j : Int, 0 ≤ j → j < i → (rd l j).No ≠ no) (fun i => (l.length - i).toNat) 0 ⟨by omega, by omega, fun j h0 h1 => by omega⟩ rfl rfl (fun _ => rfl) (fun _ => rfl) ⟨rfl, rfl, rfl, rfl, rfl, rfl, rfl, rfl⟩ (fun i hi => ?_)
  obtain ⟨h0, hi, hall⟩ := hi
  repeat' (first
 | (with_reducible apply zds); exact tk; rfl; rfl; rfl; rfl; rfl
 | (with_reducible apply zd); rfl; exact tk; rfl
 | (with_reducible first | intro _ | apply wseq | apply zreg | apply thenQ_n | apply thenQ_r | apply thenQ_e | apply znil | apply wret | apply bodyQ_r | apply wblk | apply blkQ_n | apply blkQ_r | apply wskip | apply wexit)
 | apply wct rfl
 | apply wcf rfl
 | (with_reducible apply blkQ_x rfl)
 | (with_reducible apply zcmp); rfl; exact tk; rfl; rfl; rfl
 | (with_reducible apply zar); rfl; rfl; rfl; rfl; (first | omega | ((try simp only [List.length_append, List.length_cons, List.length_nil, List.length_map]); (try dsimp only); omega)); rfl; rfl
 | (with_reducible apply zix); rfl; exact tk; (iterate 7 rfl); (first | omega | ((try simp only [List.length_append, List.length_cons, List.length_nil, List.length_map]); (try dsimp only); omega)); rfl; rfl
 | (with_reducible apply zle); rfl; exact tk; rfl; rfl; rfl; rfl; (first | omega | ((try simp only [List.length_append, List.length_cons, List.length_nil, List.length_map]); (try dsimp only); omega)); rfl; rfl; rfl; rfl
 | fail)
  all_goals first
    | exact endI [0] rfl rfl rfl rfl rfl rfl (insKind_at ⟨by omega, by omega⟩ hall (by assumption))
    | exact endI [0] rfl rfl rfl rfl rfl rfl (insKind_no (by assumption) hall)
    | exact endR (i + 1) [0] ⟨rfl, rfl, rfl, rfl, rfl, rfl, rfl, rfl⟩ ⟨by omega, by omega, all_step hall (by assumption)⟩ (by first | omega | (dsimp only; omega))
set_option maxHeartbeats 4000000 in
theorem spec_AccountKind {l : List Account} {no : Int} : FC Tryz.prog 133 [.c (.row 0 0 l.length), I no] ([ro 42 l]) (I (pick (AccountsOk l) (accKind l no) 0)) ([ro 42 l]) := by
  refine fent tk 28 [.tmp 4] Tryz.func133 (by kernel_rfl) rfl rfl rfl rfl rfl rfl rfl ?_
  refine wlen l 0 rfl (fun hl => ?_)
  repeat' (first
 | (with_reducible apply zd); rfl; exact tk; rfl
 | (with_reducible first | intro _ | apply wseq | apply zreg | apply thenQ_n | apply thenQ_r | apply thenQ_e | apply znil | apply wret | apply bodyQ_r | apply wblk | apply blkQ_n | apply blkQ_r | apply wskip | apply wexit)
 | fail)
  refine wlp (X := Int) [0, 1] [0] (fun i => [(5, I i)]) (fun _ => []) (fun i => 0 ≤ i ∧ i ≤ l.length ∧ ∀ j : Int, 0 ≤ j → j < i → (rd l j).No ≠ no) (fun i => (l.length - i).toNat) 0 ⟨by omega, by omega, fun j h0 h1 => by omega⟩ rfl rfl (fun _ => rfl) (fun _ => rfl) ⟨rfl, rfl, rfl, rfl, rfl, rfl, rfl, rfl⟩ (fun i hi => ?_)
  obtain ⟨h0, hi, hall⟩ := hi
  repeat' (first
 | (with_reducible apply zds); exact tk; rfl; rfl; rfl; rfl; rfl
 | (with_reducible apply zd); rfl; exact tk; rfl
 | (with_reducible first | intro _ | apply wseq | apply zreg | apply thenQ_n | apply thenQ_r | apply thenQ_e | apply znil | apply wret | apply bodyQ_r | apply wblk | apply blkQ_n | apply blkQ_r | apply wskip | apply wexit)
 | apply wct rfl
 | apply wcf rfl
 | (with_reducible apply blkQ_x rfl)
 | (with_reducible apply zcmp); rfl; exact tk; rfl; rfl; rfl
 | (with_reducible apply zar); rfl; rfl; rfl; rfl; (first | omega | ((try simp only [List.length_append, List.length_cons, List.length_nil, List.length_map]); (try dsimp only); omega)); rfl; rfl
 | (with_reducible apply zix); rfl; exact tk; (iterate 7 rfl); (first | omega | ((try simp only [List.length_append, List.length_cons, List.length_nil, List.length_map]); (try dsimp only); omega)); rfl; rfl
 | (with_reducible apply zle); rfl; exact tk; rfl; rfl; rfl; rfl; (first | omega | ((try simp only [List.length_append, List.length_cons, List.length_nil, List.length_map]); (try dsimp only); omega)); rfl; rfl; rfl; rfl
 | (with_reducible apply zcp); (iterate 10 rfl); exact spec_AccountsOk; rfl; rfl
 | fail)
  all_goals first
    | exact endI [0] rfl rfl rfl rfl rfl rfl (by rw [pick_t (by assumption)]; exact accKind_at ⟨by omega, by omega⟩ hall (by assumption))
    | exact endI [0] rfl rfl rfl rfl rfl rfl (by rw [pick_f (by assumption)])
    | exact endI [0] rfl rfl rfl rfl rfl rfl (by rw [accKind_no (by assumption) hall]; unfold pick; split <;> rfl)
    | exact endR (i + 1) [0] ⟨rfl, rfl, rfl, rfl, rfl, rfl, rfl, rfl⟩ ⟨by omega, by omega, all_step hall (by assumption)⟩ (by first | omega | (dsimp only; omega))
set_option maxHeartbeats 4000000 in
theorem spec_InstrKind {l : List Instr} {no : Int} : FC Tryz.prog 52 [.c (.row 0 0 l.length), I no] ([ro 74 l]) (I (pick (InstrsOk l) (insKind l no) 0)) ([ro 74 l]) := by
  refine fent tk 28 [.tmp 4] Tryz.func52 (by kernel_rfl) rfl rfl rfl rfl rfl rfl rfl ?_
  refine wlen l 0 rfl (fun hl => ?_)
  repeat' (first
 | (with_reducible apply zd); rfl; exact tk; rfl
 | (with_reducible first | intro _ | apply wseq | apply zreg | apply thenQ_n | apply thenQ_r | apply thenQ_e | apply znil | apply wret | apply bodyQ_r | apply wblk | apply blkQ_n | apply blkQ_r | apply wskip | apply wexit)
 | fail)
  refine wlp (X := Int) [0, 1] [0] (fun i => [(5, I i)]) (fun _ => []) (fun i => 0 ≤ i ∧ i ≤ l.length ∧ ∀ j : Int, 0 ≤ j → j < i → (rd l j).No ≠ no) (fun i => (l.length - i).toNat) 0 ⟨by omega, by omega, fun j h0 h1 => by omega⟩ rfl rfl (fun _ => rfl) (fun _ => rfl) ⟨rfl, rfl, rfl, rfl, rfl, rfl, rfl, rfl⟩ (fun i hi => ?_)
  obtain ⟨h0, hi, hall⟩ := hi
  repeat' (first
 | (with_reducible apply zds); exact tk; rfl; rfl; rfl; rfl; rfl
 | (with_reducible apply zd); rfl; exact tk; rfl
 | (with_reducible first | intro _ | apply wseq | apply zreg | apply thenQ_n | apply thenQ_r | apply thenQ_e | apply znil | apply wret | apply bodyQ_r | apply wblk | apply blkQ_n | apply blkQ_r | apply wskip | apply wexit)
 | apply wct rfl
 | apply wcf rfl
 | (with_reducible apply blkQ_x rfl)
 | (with_reducible apply zcmp); rfl; exact tk; rfl; rfl; rfl
 | (with_reducible apply zar); rfl; rfl; rfl; rfl; (first | omega | ((try simp only [List.length_append, List.length_cons, List.length_nil, List.length_map]); (try dsimp only); omega)); rfl; rfl
 | (with_reducible apply zix); rfl; exact tk; (iterate 7 rfl); (first | omega | ((try simp only [List.length_append, List.length_cons, List.length_nil, List.length_map]); (try dsimp only); omega)); rfl; rfl
 | (with_reducible apply zle); rfl; exact tk; rfl; rfl; rfl; rfl; (first | omega | ((try simp only [List.length_append, List.length_cons, List.length_nil, List.length_map]); (try dsimp only); omega)); rfl; rfl; rfl; rfl
 | (with_reducible apply zcp); (iterate 10 rfl); exact spec_InstrsOk; rfl; rfl
 | fail)
  all_goals first
    | exact endI [0] rfl rfl rfl rfl rfl rfl (by rw [pick_t (by assumption)]; exact insKind_at ⟨by omega, by omega⟩ hall (by assumption))
    | exact endI [0] rfl rfl rfl rfl rfl rfl (by rw [pick_f (by assumption)])
    | exact endI [0] rfl rfl rfl rfl rfl rfl (by rw [insKind_no (by assumption) hall]; unfold pick; split <;> rfl)
    | exact endR (i + 1) [0] ⟨rfl, rfl, rfl, rfl, rfl, rfl, rfl, rfl⟩ ⟨by omega, by omega, all_step hall (by assumption)⟩ (by first | omega | (dsimp only; omega))
set_option maxHeartbeats 4000000 in
theorem impl_balsSum {l : List Bal} {c : Int} (hok : BalsOk l) : FC Tryz.prog 164 [.c (.row 0 0 l.length), I c] ([ro 135 l]) (I (balsSum l c)) ([ro 135 l]) := by
  refine fent tk 24 [.tmp 4] Tryz.func164 (by kernel_rfl) rfl rfl rfl rfl rfl rfl rfl ?_
  have hl := hok.2
  repeat' (first
 | (with_reducible apply zds); exact tk; rfl; rfl; rfl; rfl; rfl
 | (with_reducible apply zd); rfl; exact tk; rfl
 | (with_reducible first | intro _ | apply wseq | apply zreg | apply thenQ_n | apply thenQ_r | apply thenQ_e | apply znil | apply wret | apply bodyQ_r | apply wblk | apply blkQ_n | apply blkQ_r | apply wskip | apply wexit)
 | fail)
  refine wlp (X := Int × Int) [1, 8, 9] [0] (fun x => [(10, I x.1), (5, I x.2)]) (fun _ => []) (fun x => 0 ≤ x.1 ∧ x.1 ≤ l.length ∧ x.2 = balsSum (pf l x.1) c) (fun x => (l.length - x.1).toNat) (0, 0) ⟨by dsimp only; omega, by dsimp only; omega, rfl⟩ rfl rfl (fun _ => rfl) (fun _ => rfl) ⟨rfl, rfl, rfl, rfl, rfl, rfl, rfl, rfl⟩ (fun x hx => ?_)
  obtain ⟨i, n⟩ := x
  obtain ⟨h0, hi, hn⟩ := hx
  dsimp only at h0 hi hn ⊢
  have hb := sumF_bnd (balF_bnd hok c) ⟨h0, hi⟩
  have hs := fun h => balsSum_step (l := l) (c := c) (i := i) ⟨h0, h⟩
  have hb2 := fun (h : i < l.length) => balF_bnd hok c _ (rd_mem ⟨h0, h⟩)
  rw [show sumF (balF c) (pf l i) = n from hn.symm] at hb
  have hb3 := fun (h : i < l.length) (e : (rd l i).Instr = c) => (balF_y e ▸ hb2 h : -1000000000000000 ≤ (rd l i).Amount ∧ (rd l i).Amount ≤ 1000000000000000)
  repeat' (first
 | (with_reducible apply zds); exact tk; rfl; rfl; rfl; rfl; rfl
 | (with_reducible apply zd); rfl; exact tk; rfl
 | (with_reducible first | intro _ | apply wseq | apply zreg | apply thenQ_n | apply thenQ_r | apply thenQ_e | apply znil | apply wret | apply bodyQ_r | apply wblk | apply blkQ_n | apply blkQ_r | apply wskip | apply wexit)
 | apply wct rfl
 | apply wcf rfl
 | (with_reducible apply blkQ_x rfl)
 | (with_reducible apply zcmp); rfl; exact tk; rfl; rfl; rfl
 | (with_reducible apply zar); rfl; rfl; rfl; rfl; (first | omega | ((try simp only [List.length_append, List.length_cons, List.length_nil, List.length_map]); (try dsimp only); omega)); rfl; rfl
 | (with_reducible apply zix); rfl; exact tk; (iterate 7 rfl); (first | omega | ((try simp only [List.length_append, List.length_cons, List.length_nil, List.length_map]); (try dsimp only); omega)); rfl; rfl
 | (with_reducible apply zle); rfl; exact tk; rfl; rfl; rfl; rfl; (first | omega | ((try simp only [List.length_append, List.length_cons, List.length_nil, List.length_map]); (try dsimp only); omega)); rfl; rfl; rfl; rfl
 | fail)
  · rename_i h e
    have := hb3 h e
    repeat' (first
 | fail)
    exact endR (i + 1, _) [0] ⟨rfl, rfl, rfl, rfl, rfl, rfl, rfl, rfl⟩ ⟨by dsimp only; omega, by dsimp only; omega, by dsimp only; rw [hs h, balF_y e, hn]⟩ (by first | omega | (dsimp only; omega))
  · rename_i h e
    exact endR (i + 1, _) [0] ⟨rfl, rfl, rfl, rfl, rfl, rfl, rfl, rfl⟩ ⟨by dsimp only; omega, by dsimp only; omega, by dsimp only; rw [hs h, balF_n e, hn, Int.add_zero]⟩ (by first | omega | (dsimp only; omega))
  · rename_i h
    exact endI [0] rfl rfl rfl rfl rfl rfl (by rw [hn, pf_all h])
set_option maxHeartbeats 4000000 in
theorem spec_l1Told_y {x : Int} : FC Tryz.prog 321 [I x, B true] ([]) (sel (amountOk x) (.tup [I x, B true]) (.tup [I 0, B false])) (sel (amountOk x) [] []) := by
  refine fent tk 14 [.tmp 4, .tmp 5] Tryz.func321 (by kernel_rfl) rfl rfl rfl rfl rfl rfl rfl ?_
  repeat' (first
 | (with_reducible apply zds); exact tk; rfl; rfl; rfl; rfl; rfl
 | (with_reducible first | intro _ | apply wseq | apply zreg | apply thenQ_n | apply thenQ_r | apply thenQ_e | apply znil | apply wret | apply bodyQ_r | apply wblk | apply blkQ_n | apply blkQ_r | apply wskip | apply wexit)
 | apply wct rfl
 | apply wcf rfl
 | (with_reducible apply zcp); (iterate 10 rfl); exact spec_AmountOk; rfl; rfl
 | fail)
  all_goals first | exact endT (by assumption) [] rfl rfl rfl rfl rfl rfl | exact endF (by assumption) [] rfl rfl rfl rfl rfl rfl
set_option maxHeartbeats 4000000 in
theorem spec_l1Told_n {x : Int} : FC Tryz.prog 321 [I x, B false] ([]) (.tup [I 0, B false]) ([]) := by
  refine fent tk 14 [.tmp 4, .tmp 5] Tryz.func321 (by kernel_rfl) rfl rfl rfl rfl rfl rfl rfl ?_
  repeat' (first
 | (with_reducible apply zds); exact tk; rfl; rfl; rfl; rfl; rfl
 | (with_reducible first | intro _ | apply wseq | apply zreg | apply thenQ_n | apply thenQ_r | apply thenQ_e | apply znil | apply wret | apply bodyQ_r | apply wblk | apply blkQ_n | apply blkQ_r | apply wskip | apply wexit)
 | apply wct rfl
 | fail)
  all_goals exact endV [] rfl rfl rfl rfl rfl rfl
set_option maxHeartbeats 4000000 in
theorem spec_l4Of {l : List Bal} {a c : Int} : FC Tryz.prog 170 [.c (.row 0 0 l.length), I a, I c] ([ro 135 l]) (I (balOf l a c)) ([ro 135 l]) := by
  refine fent tk 35 [.tmp 6] Tryz.func170 (by kernel_rfl) rfl rfl rfl rfl rfl rfl rfl ?_
  refine wlen l 0 rfl (fun hl => ?_)
  repeat' (first
 | (with_reducible apply zd); rfl; exact tk; rfl
 | (with_reducible first | intro _ | apply wseq | apply zreg | apply thenQ_n | apply thenQ_r | apply thenQ_e | apply znil | apply wret | apply bodyQ_r | apply wblk | apply blkQ_n | apply blkQ_r | apply wskip | apply wexit)
 | fail)
  refine wlp (X := Int) [0, 1, 2] [0] (fun i => [(7, I i)]) (fun _ => []) (fun i => 0 ≤ i ∧ i ≤ l.length ∧ ∀ j : Int, 0 ≤ j → j < i → ¬ ((rd l j).Account = a ∧ (rd l j).Instr = c)) (fun i => (l.length - i).toNat) 0 ⟨by omega, by omega, fun j h0 h1 => by omega⟩ rfl rfl (fun _ => rfl) (fun _ => rfl) ⟨rfl, rfl, rfl, rfl, rfl, rfl, rfl, rfl⟩ (fun i hi => ?_)
  obtain ⟨h0, hi, hall⟩ := hi
  repeat' (first
 | (with_reducible apply zds); exact tk; rfl; rfl; rfl; rfl; rfl
 | (with_reducible apply zd); rfl; exact tk; rfl
 | (with_reducible first | intro _ | apply wseq | apply zreg | apply thenQ_n | apply thenQ_r | apply thenQ_e | apply znil | apply wret | apply bodyQ_r | apply wblk | apply blkQ_n | apply blkQ_r | apply wskip | apply wexit)
 | apply wct rfl
 | apply wcf rfl
 | (with_reducible apply blkQ_x rfl)
 | (with_reducible apply zcmp); rfl; exact tk; rfl; rfl; rfl
 | (with_reducible apply zar); rfl; rfl; rfl; rfl; (first | omega | ((try simp only [List.length_append, List.length_cons, List.length_nil, List.length_map]); (try dsimp only); omega)); rfl; rfl
 | (with_reducible apply zix); rfl; exact tk; (iterate 7 rfl); (first | omega | ((try simp only [List.length_append, List.length_cons, List.length_nil, List.length_map]); (try dsimp only); omega)); rfl; rfl
 | (with_reducible apply zle); rfl; exact tk; rfl; rfl; rfl; rfl; (first | omega | ((try simp only [List.length_append, List.length_cons, List.length_nil, List.length_map]); (try dsimp only); omega)); rfl; rfl; rfl; rfl
 | fail)
  all_goals first
    | exact endI [0] rfl rfl rfl rfl rfl rfl (balOf_at ⟨by omega, by omega⟩ hall ⟨by assumption, by assumption⟩)
    | exact endI [0] rfl rfl rfl rfl rfl rfl (balOf_no (by assumption) hall)
    | exact endR (i + 1) [0] ⟨rfl, rfl, rfl, rfl, rfl, rfl, rfl, rfl⟩ ⟨by omega, by omega, all_step hall (fun e => by first | exact absurd e.1 (by assumption) | exact absurd e.2 (by assumption))⟩ (by first | omega | (dsimp only; omega))
theorem byBoth_ge {a b c d : Int} (h : byBoth a b c d ≥ 0) : ¬ bef a b c d := fun k => by have := byBoth_lt.2 k; omega
theorem byBoth_eq {a b c d : Int} : byBoth a b c d = 0 ↔ a = c ∧ b = d := by
  unfold byBoth
  by_cases h : bef a b c d
  · rw [pick_t h]
    unfold bef at h
    constructor
    · intro h1; omega
    · intro h1; omega
  · rw [pick_f h]
    by_cases h2 : a = c ∧ b = d
    · rw [pick_t h2]; simp [h2]
    · rw [pick_f h2]
      constructor
      · intro h1; omega
      · intro h1; exact absurd h1 h2
set_option maxHeartbeats 4000000 in
theorem impl_balAt {l : List Bal} {a c : Int} (hs : BSd l) : FC Tryz.prog 229 [.c (.row 0 0 l.length), I a, I c] ([ro 135 l]) (sel (bHas l a c) (.tup [I (bIx l a c), B true]) (.tup [I (bIx l a c), B false])) (sel (bHas l a c) [ro 135 l] [ro 135 l]) := by
  refine fent tk 33 [.tmp 6, .tmp 7] Tryz.func229 (by kernel_rfl) rfl rfl rfl rfl rfl rfl rfl ?_
  refine wlen l 0 rfl (fun hl => ?_)
  repeat' (first
 | (with_reducible apply zds); exact tk; rfl; rfl; rfl; rfl; rfl
 | (with_reducible first | intro _ | apply wseq | apply zreg | apply thenQ_n | apply thenQ_r | apply thenQ_e | apply znil | apply wret | apply bodyQ_r | apply wblk | apply blkQ_n | apply blkQ_r | apply wskip | apply wexit)
 | fail)
  refine wlp (X := Int) [0, 1, 2, 11, 12] [0] (fun i => [(13, I i)]) (fun _ => []) (fun i => 0 ≤ i ∧ i ≤ l.length ∧ ∀ j : Int, 0 ≤ j → j < i → bef (rd l j).Account (rd l j).Instr a c) (fun i => (l.length - i).toNat) 0 ⟨by omega, by omega, fun j h0 h1 => by omega⟩ rfl rfl (fun _ => rfl) (fun _ => rfl) ⟨rfl, rfl, rfl, rfl, rfl, rfl, rfl, rfl⟩ (fun i hi => ?_)
  obtain ⟨h0, hi, hall⟩ := hi
  repeat' (first
 | (with_reducible apply zds); exact tk; rfl; rfl; rfl; rfl; rfl
 | (with_reducible apply zd); rfl; exact tk; rfl
 | (with_reducible first | intro _ | apply wseq | apply zreg | apply thenQ_n | apply thenQ_r | apply thenQ_e | apply znil | apply wret | apply bodyQ_r | apply wblk | apply blkQ_n | apply blkQ_r | apply wskip | apply wexit)
 | apply wct rfl
 | apply wcf rfl
 | (with_reducible apply blkQ_x rfl)
 | (with_reducible apply zcmp); rfl; exact tk; rfl; rfl; rfl
 | (with_reducible apply zar); rfl; rfl; rfl; rfl; (first | omega | ((try simp only [List.length_append, List.length_cons, List.length_nil, List.length_map]); (try dsimp only); omega)); rfl; rfl
 | (with_reducible apply zix); rfl; exact tk; (iterate 7 rfl); (first | omega | ((try simp only [List.length_append, List.length_cons, List.length_nil, List.length_map]); (try dsimp only); omega)); rfl; rfl
 | (with_reducible apply zle); rfl; exact tk; rfl; rfl; rfl; rfl; (first | omega | ((try simp only [List.length_append, List.length_cons, List.length_nil, List.length_map]); (try dsimp only); omega)); rfl; rfl; rfl; rfl
 | (with_reducible apply zc); (iterate 10 rfl); exact impl_byBoth; exact fun _ => rfl; rfl; rfl; rfl
 | fail)
  · rename_i h1 h2 h3
    rw [bIx_eq ⟨by omega, by omega⟩ hall (fun _ => byBoth_ge h2)]
    exact endT ((bHas_at hs ⟨h0, h1⟩ hall (byBoth_ge h2)).2 (byBoth_eq.1 h3)) [0] rfl rfl rfl rfl rfl rfl
  · rename_i h1 h2 h3
    rw [bIx_eq ⟨by omega, by omega⟩ hall (fun _ => byBoth_ge h2)]
    exact endF (fun k => h3 (byBoth_eq.2 ((bHas_at hs ⟨h0, h1⟩ hall (byBoth_ge h2)).1 k))) [0] rfl rfl rfl rfl rfl rfl
  · rename_i h1 h2
    exact endR (i + 1) [0] ⟨rfl, rfl, rfl, rfl, rfl, rfl, rfl, rfl⟩ ⟨by omega, by omega, all_step hall (byBoth_lt.1 (by omega))⟩ (by first | omega | (dsimp only; omega))
  · rename_i h1
    rw [bIx_eq (i := l.length) ⟨by omega, by omega⟩ (fun j h2 h3 => hall j h2 (by omega)) (fun h => by omega)]
    exact endF (bHas_no h1 hall) [0] rfl rfl rfl rfl rfl rfl
set_option maxHeartbeats 4000000 in
theorem impl_balOf {l : List Bal} {a c : Int} (hs : BSd l) : FC Tryz.prog 118 [.c (.row 0 0 l.length), I a, I c] ([ro 135 l]) (I (balOf l a c)) ([ro 135 l]) := by
  refine fent tk 23 [.tmp 6] Tryz.func118 (by kernel_rfl) rfl rfl rfl rfl rfl rfl rfl ?_
  have hb := bIx_nn l a c
  repeat' (first
 | (with_reducible apply zds); exact tk; rfl; rfl; rfl; rfl; rfl
 | (with_reducible apply zd); rfl; exact tk; rfl
 | (with_reducible first | intro _ | apply wseq | apply zreg | apply thenQ_n | apply thenQ_r | apply thenQ_e | apply znil | apply wret | apply bodyQ_r | apply wblk | apply blkQ_n | apply blkQ_r | apply wskip | apply wexit)
 | apply wct rfl
 | apply wcf rfl
 | (with_reducible apply zcs); (iterate 10 rfl); exact impl_balAt (by assumption); exact fun _ => rfl; exact fun _ => rfl; rfl; rfl; rfl; rfl
 | fail)
  · rename_i h
    have h1 := (bHas_ix hs h).1
    repeat' (first
 | (with_reducible apply zd); rfl; exact tk; rfl
 | (with_reducible first | intro _ | apply wseq | apply zreg | apply thenQ_n | apply thenQ_r | apply thenQ_e | apply znil | apply wret | apply bodyQ_r | apply wblk | apply blkQ_n | apply blkQ_r | apply wskip | apply wexit)
 | (with_reducible apply zix); rfl; exact tk; (iterate 7 rfl); (first | omega | ((try simp only [List.length_append, List.length_cons, List.length_nil, List.length_map]); (try dsimp only); omega)); rfl; rfl
 | (with_reducible apply zle); rfl; exact tk; rfl; rfl; rfl; rfl; (first | omega | ((try simp only [List.length_append, List.length_cons, List.length_nil, List.length_map]); (try dsimp only); omega)); rfl; rfl; rfl; rfl
 | fail)
    exact endI [0] rfl rfl rfl rfl rfl rfl (balOf_has hs h)
  · rename_i h
    exact endI [0] rfl rfl rfl rfl rfl rfl (balOf_not h)
end Go.Proofs.YtgehbhkfehmdkaaGreat.Sh
namespace Go.Proofs.YtgehbhkfehmdkaaGreat.Sh
open Go.RowKit
set_option linter.unusedVariables false
set_option linter.unusedSimpArgs false
set_option linter.unusedSectionVars false
noncomputable def flt {α : Type} (p : α → Prop) (l : List α) : List α := l.filter (fun x => dB (p x))
noncomputable def fIx {α : Type} (l : List α) (q : α → Prop) : Int := (l.findIdx (fun x => dB (q x)) : Nat)
section
variable {α : Type} [Enc α] {l : List α} {p q : α → Prop}
theorem dB_iff {p : Prop} : dB p = true ↔ p := ⟨dB_of, dB_t⟩
theorem fIx_nn (l : List α) (q : α → Prop) : 0 ≤ fIx l q ∧ fIx l q ≤ l.length := ⟨by unfold fIx; omega, by unfold fIx; have := List.findIdx_le_length (xs := l) (p := fun x => dB (q x)); omega⟩
theorem fIx_eq {i : Int} (h0 : 0 ≤ i ∧ i < l.length) (hb : ∀ j : Int, 0 ≤ j → j < i → ¬ q (rd l j)) (hi : q (rd l i)) : fIx l q = i := idx_eq ⟨h0.1, by omega⟩ (fun j h1 h2 => by rw [dB_iff]; exact hb j h1 h2) (fun _ => dB_t hi)
theorem fIx_lt (h : ∃ x ∈ l, q x) : fIx l q < l.length := by
  obtain ⟨x, hx, hq⟩ := h
  have : l.findIdx (fun x => dB (q x)) < l.length := List.findIdx_lt_length_of_exists ⟨x, hx, dB_t hq⟩
  unfold fIx
  omega
theorem fIx_at (h : ∃ x ∈ l, q x) : q (rd l (fIx l q)) := by
  have h1 := fIx_lt h
  have h1' : l.findIdx (fun x => dB (q x)) < l.length := by unfold fIx at h1; omega
  have h2 := List.findIdx_getElem (w := h1')
  have e : l[l.findIdx (fun x => dB (q x))] = rd l (fIx l q) := by
    show _ = l.getD ((l.findIdx (fun x => dB (q x)) : Nat) : Int).toNat _
    rw [Int.toNat_natCast, List.getD_eq_getElem?_getD, List.getElem?_eq_getElem h1']
    rfl
  rw [e] at h2
  exact dB_of h2
theorem fIx_bef {j : Int} (h0 : 0 ≤ j) (h : j < fIx l q) : ¬ q (rd l j) := by
  have h1 : j.toNat < l.findIdx (fun x => dB (q x)) := by unfold fIx at h; omega
  have h2 := List.not_of_lt_findIdx h1
  have hl : j.toNat < l.length := by have := List.findIdx_le_length (xs := l) (p := fun x => dB (q x)); omega
  have e : l[j.toNat] = rd l j := by simp [rd, List.getD_eq_getElem?_getD, hl]
  rw [e] at h2
  exact dB_not (by simpa using h2)
theorem no_rd {i : Int} (hi : ¬ i < l.length) (h : ∀ j : Int, 0 ≤ j → j < i → ¬ q (rd l j)) : ¬ ∃ x ∈ l, q x := by
  rintro ⟨x, hx, hq⟩
  obtain ⟨j, hj, rfl⟩ := mem_rd hx
  exact h j hj.1 (by omega) hq
theorem flt_append (a b : List α) : flt p (a ++ b) = flt p a ++ flt p b := List.filter_append _ _
theorem flt_y {x : α} (h : p x) : flt p [x] = [x] := by simp [flt, dB_t h]
theorem flt_n {x : α} (h : ¬ p x) : flt p [x] = [] := by simp [flt, dB_f h]
theorem flt_le (p : α → Prop) (l : List α) : (flt p l).length ≤ l.length := List.length_filter_le _ _
theorem flt_all (h : ∀ x ∈ l, ¬ q x) : flt (fun x => ¬ q x) l = l := List.filter_eq_self.2 fun x hx => dB_t (h x hx)
theorem flt_mem {x : α} : x ∈ flt p l ↔ x ∈ l ∧ p x := by simp [flt, dB_iff]
theorem flt_succ {i : Int} (h : 0 ≤ i ∧ i < l.length) : flt p (pf l (i + 1)) = flt p (pf l i) ++ flt p [rd l i] := by rw [pf_succ h, flt_append]
structure DfI (l : List α) (q : α → Prop) (i j : Int) (xs : List α) : Prop where
  bnd : 0 ≤ i ∧ i < j ∧ j ≤ l.length
  len : xs.length = l.length
  pre : xs.take i.toNat = flt (fun x => ¬ q x) (pf l j)
  suf : xs.drop j.toNat = l.drop j.toNat
theorem DfI.init (h : ∃ x ∈ l, q x) : DfI l q (fIx l q) (fIx l q + 1) l := by
  have h1 := fIx_lt h
  have h2 := fIx_nn l q
  refine ⟨⟨h2.1, by omega, by omega⟩, rfl, ?_, rfl⟩
  rw [flt_succ ⟨h2.1, h1⟩, flt_n (fun k => k (fIx_at h)), List.append_nil]
  refine (flt_all fun x hx => ?_).symm
  obtain ⟨j, hj, rfl⟩ := mem_rd (l := pf l (fIx l q)) hx
  rw [pf_len ⟨h2.1, by omega⟩] at hj
  rw [rd_pf hj]
  exact fIx_bef hj.1 hj.2
theorem DfI.rd {i j : Int} {xs : List α} (h : DfI l q i j xs) (hj : j < l.length) : Sh.rd xs j = Sh.rd l j := by
  have h1 := h.suf
  have h2 := h.bnd
  have e1 := drop_at (l := xs) (i := j) ⟨by omega, by rw [h.len]; exact hj⟩
  have e2 := drop_at (l := l) (i := j) ⟨by omega, hj⟩
  rw [e1, e2] at h1
  exact (List.cons.inj h1).1
theorem DfI.skip {i j : Int} {xs : List α} (h : DfI l q i j xs) (hj : j < l.length) (hq : q (Sh.rd xs j)) : DfI l q i (j + 1) xs := by
  have h2 := h.bnd
  refine ⟨⟨h2.1, by omega, by omega⟩, h.len, ?_, ?_⟩
  · rw [flt_succ ⟨by omega, hj⟩, flt_n (fun k => k (by rw [← h.rd hj]; exact hq)), List.append_nil]
    exact h.pre
  · have e1 := drop_at (l := xs) (i := j) ⟨by omega, by rw [h.len]; exact hj⟩
    have e2 := drop_at (l := l) (i := j) ⟨by omega, hj⟩
    have h1 := h.suf
    rw [e1, e2] at h1
    exact (List.cons.inj h1).2
theorem DfI.keep {i j : Int} {xs : List α} (h : DfI l q i j xs) (hj : j < l.length) (hq : ¬ q (Sh.rd xs j)) : DfI l q (i + 1) (j + 1) (upd xs i (Sh.rd xs j)) := by
  have h2 := h.bnd
  have hlen := h.len
  refine ⟨⟨by omega, by omega, by omega⟩, by rw [upd_len]; exact h.len, ?_, ?_⟩
  · rw [flt_succ ⟨by omega, hj⟩, flt_y (p := fun x => ¬ q x) (by rw [← h.rd hj]; exact hq), ← h.pre, show (i + 1).toNat = i.toNat + 1 from by omega, List.take_add_one, upd, List.take_set_of_le (Nat.le_refl _), List.getElem?_set_self (by omega), h.rd hj]
    rfl
  · have e1 := drop_at (l := xs) (i := j) ⟨by omega, by rw [h.len]; exact hj⟩
    have e2 := drop_at (l := l) (i := j) ⟨by omega, hj⟩
    have h1 := h.suf
    rw [e1, e2] at h1
    rw [← (List.cons.inj h1).2, upd, List.drop_set_of_lt (by omega)]
theorem DfI.fin {i j : Int} {xs : List α} (h : DfI l q i j xs) (hj : ¬ j < l.length) : xs.take i.toNat = flt (fun x => ¬ q x) l := by rw [h.pre, pf_all hj]
theorem DfI.len2 {i j : Int} {xs : List α} (h : DfI l q i j xs) (hj : ¬ j < l.length) : i.toNat = (flt (fun x => ¬ q x) l).length := by
  rw [← h.fin hj, List.length_take]
  have := h.bnd
  have := h.len
  omega
end
end Go.Proofs.YtgehbhkfehmdkaaGreat.Sh
