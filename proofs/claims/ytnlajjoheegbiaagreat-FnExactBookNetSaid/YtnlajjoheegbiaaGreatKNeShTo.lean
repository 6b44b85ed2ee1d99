/- A lot is opened: both sides. No condition. -/
import Derived.Test.YtnlajjoheegbiaaGreatKNeShTn
import Derived.Test.YtnlajjoheegbiaaGreatKNeShDr
namespace Go.Proofs.YtnlajjoheegbiaaGreat.Sh
open Go.RowKit
set_option linter.unusedVariables false
set_option linter.unusedSimpArgs false
theorem fIx_none {α : Type} {l : List α} {q : α → Prop} (h : ∀ x ∈ l, ¬ q x) : fIx l q = l.length := by
  unfold fIx
  rw [List.findIdx_eq_length.2 (fun x hx => dB_f (h x hx))]
noncomputable def lotOpen (l : List Lot) (x : Lot) : List Lot × Int :=
  sel (¬ (LotsOk l ∧ lotF x.Account x.Instr x.No x.Qty x.Cost)) ([], 1) (sel (¬ LotsOk (mrg l [x])) (l, 3) (mrg l [x], 0))
section
variable {l : List Lot} {x : Lot}
theorem lo_1 (h : ¬ (LotsOk l ∧ lotF x.Account x.Instr x.No x.Qty x.Cost)) : lotOpen l x = ([], 1) := by rw [lotOpen, sel_t h]
theorem lo_3 (h : LotsOk l ∧ lotF x.Account x.Instr x.No x.Qty x.Cost) (h2 : ¬ LotsOk (mrg l [x])) : lotOpen l x = (l, 3) := by rw [lotOpen, sel_f (fun k => k h), sel_t h2]
theorem lo_0 (h : LotsOk l ∧ lotF x.Account x.Instr x.No x.Qty x.Cost) (h2 : LotsOk (mrg l [x])) : lotOpen l x = (mrg l [x], 0) := by rw [lotOpen, sel_f (fun k => k h), sel_f (fun k => k h2)]
theorem lots_one : LotsOk [x] ↔ lotF x.Account x.Instr x.No x.Qty x.Cost := by
  constructor
  · intro h
    exact (h.1.1 0 (by omega) (by simp)).1
  · intro h
    refine ⟨⟨fun i h0 h1 => ?_, by simp⟩, fun y hy => ?_⟩
    · have e : i = 0 := by simp only [List.length_cons, List.length_nil] at h1; omega
      subst e
      exact ⟨h, fun k => by omega⟩
    · rw [List.mem_singleton] at hy
      subst hy
      rw [lotsOf_one]
      have h' := h
      unfold lotF inP at h'
      unfold sQ sC
      rw [sumF_one, sumF_one]
      unfold amountOk inP
      omega
end
set_option maxHeartbeats 4000000 in
theorem impl_LotOpen {l : List Lot} {a c n q k : Int} : FC Tryz.prog 198 [.c (.row 0 0 l.length), .agg [.sc (.int .i64 a), .sc (.int .i64 c), .sc (.int .i64 n), .sc (.int .i64 q), .sc (.int .i64 k)]] ([ro 99 l]) (.tup [.c (.row 1 0 (lotOpen l ⟨a, c, n, q, k⟩).1.length), I (lotOpen l ⟨a, c, n, q, k⟩).2]) ([ro 99 l, ow 99 (lotOpen l ⟨a, c, n, q, k⟩).1]) := by
  refine fent tk 44 [.tmp 4, .tmp 5] Tryz.func198 (by kernel_rfl) rfl rfl rfl rfl rfl rfl rfl ?_
  have hone := lots_one (x := ⟨a, c, n, q, k⟩)
  dsimp only at hone
  by_cases hok : LotsOk l ∧ lotF a c n q k
  rotate_left
  ·
    rw [lo_1 hok]
    repeat' (first
 | (intro h9; exact absurd ⟨by assumption, hone.1 (by assumption)⟩ hok)
 | (with_reducible apply znila (d := 4) 99 5); rfl; rfl; rfl
 | (with_reducible apply zd); rfl; exact tk; rfl
 | (with_reducible first | intro _ | apply wseq | apply zreg | apply thenQ_n | apply thenQ_r | apply thenQ_e | apply znil | apply wret | apply bodyQ_r | apply wblk | apply blkQ_n | apply blkQ_r | apply wskip | apply wexit)
 | apply wct rfl
 | (with_reducible apply zlit (α := Lot) (e := 99)); rfl; exact tk; (iterate 13 rfl)
 | (with_reducible apply zcp); (iterate 10 rfl); exact impl_LotsOk; rfl; rfl
 | fail)
    all_goals first | exact endV [0, 2] rfl rfl rfl rfl rfl rfl | exact endV [0, 3] rfl rfl rfl rfl rfl rfl | exact endV [0, 4] rfl rfl rfl rfl rfl rfl | trace_state
  have hx := hone.2 hok.2
  obtain ⟨h1, h2⟩ := id hok
  have hll := h1.1.2
  have hnn := fIx_nn l (fun y => ¬ lb2 y ⟨a, c, n, q, k⟩)
  repeat' (first
 | (intro h9; exfalso; first | contradiction | omega)
 | (with_reducible apply zds); exact tk; rfl; rfl; rfl; rfl; rfl
 | (with_reducible apply zd); rfl; exact tk; rfl
 | (with_reducible first | intro _ | apply wseq | apply zreg | apply thenQ_n | apply thenQ_r | apply thenQ_e | apply znil | apply wret | apply bodyQ_r | apply wblk | apply blkQ_n | apply blkQ_r | apply wskip | apply wexit)
 | apply wcf rfl
 | (with_reducible apply zlit (α := Lot) (e := 99)); rfl; exact tk; (iterate 13 rfl)
 | (with_reducible apply zcp); (iterate 10 rfl); exact impl_LotsOk; rfl; rfl
 | fail)
  refine wlp (X := Int) [0, 3] [0, 1] (fun i => [(6, I i)]) (fun _ => []) (fun i => (0 ≤ i ∧ i ≤ l.length) ∧ ∀ j : Int, 0 ≤ j → j < i → ¬ (fun y => ¬ lb2 y ⟨a, c, n, q, k⟩) (rd l j)) (fun i => (l.length - i).toNat) 0 ⟨⟨by omega, by omega⟩, fun j h0 h1 => by omega⟩ rfl rfl (fun _ => rfl) (fun _ => rfl) ⟨rfl, rfl, rfl, rfl, rfl, rfl, rfl, rfl⟩ (fun i hi => ?_)
  obtain ⟨h0, hall⟩ := hi
  by_cases hil : i < l.length ∧ lb2 (rd l i) ⟨a, c, n, q, k⟩
  · have hcm : lotCmp (rd l i).Account (rd l i).Instr (rd l i).No a c n < 0 := lotCmp_lt.2 hil.2
    repeat' (first
 | (intro h9; exfalso; first | contradiction | omega)
 | (with_reducible apply zds); exact tk; rfl; rfl; rfl; rfl; rfl
 | (with_reducible apply zd); rfl; exact tk; rfl
 | (with_reducible first | intro _ | apply wseq | apply zreg | apply thenQ_n | apply thenQ_r | apply thenQ_e | apply znil | apply wret | apply bodyQ_r | apply wblk | apply blkQ_n | apply blkQ_r | apply wskip | apply wexit)
 | apply wct rfl
 | (with_reducible apply zcmp); rfl; exact tk; rfl; rfl; rfl
 | (with_reducible apply zar); rfl; rfl; rfl; rfl; (first | omega | ((try simp only [List.length_append, List.length_cons, List.length_nil, List.length_map]); (try dsimp only); omega)); rfl; rfl
 | (with_reducible apply zix); rfl; exact tk; (iterate 7 rfl); (first | omega | ((try simp only [List.length_append, List.length_cons, List.length_nil, List.length_map]); (try dsimp only); omega)); rfl; rfl
 | (with_reducible apply zle); rfl; exact tk; rfl; rfl; rfl; rfl; (first | omega | ((try simp only [List.length_append, List.length_cons, List.length_nil, List.length_map]); (try dsimp only); omega)); rfl; rfl; rfl; rfl
 | refine zdq (id := 4) rfl (by kernel_rfl) [(.p, 0), (.p, 1), (.p, 2), (.p, 3), (.p, 4), (.p, 5), (.p, 6), (.p, 7), (.t, 8), (.t, 9), (.o, 10), (.p, 11), (.p, 12)] [] (by kernel_rfl) rfl ?_
 | (with_reducible apply zc); (iterate 10 rfl); exact impl_lotBefore; exact fun _ => rfl; rfl; rfl; rfl
 | fail)
    all_goals first
      | exact endR (i + 1) [0, 1] ⟨rfl, rfl, rfl, rfl, rfl, rfl, rfl, rfl⟩ ⟨⟨by omega, by omega⟩, all_step hall (fun k => k hil.2)⟩ (by first | omega | (dsimp only; omega))
      | trace_state
  have hcm : ¬ i < l.length ∨ ¬ lotCmp (rd l i).Account (rd l i).Instr (rd l i).No a c n < 0 := by
    by_cases e : i < l.length
    · exact .inr (fun k => hil ⟨e, lotCmp_lt.1 k⟩)
    · exact .inl e
  have e : fIx l (fun y => ¬ lb2 y ⟨a, c, n, q, k⟩) = i := by
    by_cases e : i < l.length
    · exact fIx_eq ⟨h0.1, e⟩ hall (fun k => hil ⟨e, k⟩)
    · have hno := no_rd (q := fun y => ¬ lb2 y ⟨a, c, n, q, k⟩) e hall
      rw [fIx_none (fun y hy k => hno ⟨y, hy, k⟩)]
      omega
  have hm : mrg l [⟨a, c, n, q, k⟩] = ins l i ⟨a, c, n, q, k⟩ := by rw [mrg_one, e]
  by_cases hok2 : LotsOk (mrg l [⟨a, c, n, q, k⟩])
  · rw [lo_0 hok hok2]
    rw [hm] at hok2 ⊢
    repeat' (first
 | (intro h9; exfalso; first | contradiction | omega)
 | (with_reducible apply zds); exact tk; rfl; rfl; rfl; rfl; rfl
 | (with_reducible apply zd); rfl; exact tk; rfl
 | (with_reducible first | intro _ | apply wseq | apply zreg | apply thenQ_n | apply thenQ_r | apply thenQ_e | apply znil | apply wret | apply bodyQ_r | apply wblk | apply blkQ_n | apply blkQ_r | apply wskip | apply wexit)
 | apply wcf rfl
 | (with_reducible apply blkQ_x rfl)
 | (with_reducible apply zcmp); rfl; exact tk; rfl; rfl; rfl
 | (with_reducible apply zix); rfl; exact tk; (iterate 7 rfl); (first | omega | ((try simp only [List.length_append, List.length_cons, List.length_nil, List.length_map]); (try dsimp only); omega)); rfl; rfl
 | (with_reducible apply zle); rfl; exact tk; rfl; rfl; rfl; rfl; (first | omega | ((try simp only [List.length_append, List.length_cons, List.length_nil, List.length_map]); (try dsimp only); omega)); rfl; rfl; rfl; rfl
 | (with_reducible apply zlit (α := Lot) (e := 99)); rfl; exact tk; (iterate 13 rfl)
 | refine zdq (id := 4) rfl (by kernel_rfl) [(.p, 0), (.p, 1), (.p, 2), (.p, 3), (.p, 4), (.p, 5), (.p, 6), (.p, 7), (.t, 8), (.t, 9), (.o, 10), (.p, 11), (.p, 12)] [] (by kernel_rfl) rfl ?_
 | refine zdq2 (id := 6) rfl (by kernel_rfl) [(.p, 0), (.p, 2), (.t, 3)] 1 4 [(.o, 4), (.l, 5), (.p, 6)] [(.o, 1), (.l, 5), (.p, 6)] [5] (by kernel_rfl) rfl rfl rfl ?_
 | (with_reducible apply bothQ_n)
 | (with_reducible apply zcp); (iterate 10 rfl); exact impl_LotsOk; rfl; rfl
 | (with_reducible apply zc); (iterate 10 rfl); exact impl_lotBefore; exact fun _ => rfl; rfl; rfl; rfl
 | (with_reducible apply zcf); (iterate 10 rfl); exact slices_Clone_Lot (by omega); rfl; rfl; rfl; rfl; rfl
 | (with_reducible apply zcw  [true,true]); (iterate 10 rfl); exact slices_Insert_Lot (by omega) (by omega); rfl; rfl; rfl; rfl
 | fail)
    all_goals first | exact endV [0, 4] rfl rfl rfl rfl rfl rfl | trace_state
  · rw [lo_3 hok hok2]
    rw [hm] at hok2
    repeat' (first
 | (intro h9; exfalso; first | contradiction | omega)
 | (with_reducible apply zds); exact tk; rfl; rfl; rfl; rfl; rfl
 | (with_reducible apply zd); rfl; exact tk; rfl
 | (with_reducible first | intro _ | apply wseq | apply zreg | apply thenQ_n | apply thenQ_r | apply thenQ_e | apply znil | apply wret | apply bodyQ_r | apply wblk | apply blkQ_n | apply blkQ_r | apply wskip | apply wexit)
 | apply wct rfl
 | apply wcf rfl
 | (with_reducible apply blkQ_x rfl)
 | (with_reducible apply zcmp); rfl; exact tk; rfl; rfl; rfl
 | (with_reducible apply zix); rfl; exact tk; (iterate 7 rfl); (first | omega | ((try simp only [List.length_append, List.length_cons, List.length_nil, List.length_map]); (try dsimp only); omega)); rfl; rfl
 | (with_reducible apply zle); rfl; exact tk; rfl; rfl; rfl; rfl; (first | omega | ((try simp only [List.length_append, List.length_cons, List.length_nil, List.length_map]); (try dsimp only); omega)); rfl; rfl; rfl; rfl
 | (with_reducible apply zlit (α := Lot) (e := 99)); rfl; exact tk; (iterate 13 rfl)
 | refine zdq (id := 4) rfl (by kernel_rfl) [(.p, 0), (.p, 1), (.p, 2), (.p, 3), (.p, 4), (.p, 5), (.p, 6), (.p, 7), (.t, 8), (.t, 9), (.o, 10), (.p, 11), (.p, 12)] [] (by kernel_rfl) rfl ?_
 | refine zdq2 (id := 6) rfl (by kernel_rfl) [(.p, 0), (.p, 2), (.t, 3)] 1 4 [(.o, 4), (.l, 5), (.p, 6)] [(.o, 1), (.l, 5), (.p, 6)] [5] (by kernel_rfl) rfl rfl rfl ?_
 | (with_reducible apply bothQ_n)
 | (with_reducible apply zcp); (iterate 10 rfl); exact impl_LotsOk; rfl; rfl
 | (with_reducible apply zc); (iterate 10 rfl); exact impl_lotBefore; exact fun _ => rfl; rfl; rfl; rfl
 | (with_reducible apply zcf); (iterate 10 rfl); exact slices_Clone_Lot (by omega); rfl; rfl; rfl; rfl; rfl
 | (with_reducible apply zcw  [true,true]); (iterate 10 rfl); exact slices_Insert_Lot (by omega) (by omega); rfl; rfl; rfl; rfl
 | fail)
    all_goals first | exact endV [0, 5] rfl rfl rfl rfl rfl rfl | trace_state
set_option maxHeartbeats 4000000 in
theorem spec_LotOpen {l : List Lot} {a c n q k : Int} : FC Tryz.prog 242 [.c (.row 0 0 l.length), .agg [.sc (.int .i64 a), .sc (.int .i64 c), .sc (.int .i64 n), .sc (.int .i64 q), .sc (.int .i64 k)]] ([ro 99 l]) (.tup [.c (.row 1 0 (lotOpen l ⟨a, c, n, q, k⟩).1.length), I (lotOpen l ⟨a, c, n, q, k⟩).2]) ([ro 99 l, ow 99 (lotOpen l ⟨a, c, n, q, k⟩).1]) := by
  refine fent tk 27 [.tmp 4, .tmp 5] Tryz.func242 (by kernel_rfl) rfl rfl rfl rfl rfl rfl rfl ?_
  by_cases hok : LotsOk l ∧ lotF a c n q k
  rotate_left
  ·
    rw [lo_1 hok]
    repeat' (first
 | (intro h9; exact absurd ⟨by assumption, by assumption⟩ hok)
 | (with_reducible apply zd); rfl; exact tk; rfl
 | (with_reducible first | intro _ | apply wseq | apply zreg | apply thenQ_n | apply thenQ_r | apply thenQ_e | apply znil | apply wret | apply bodyQ_r | apply wblk | apply blkQ_n | apply blkQ_r | apply wskip | apply wexit)
 | apply wct rfl
 | (with_reducible apply zlit (α := Lot) (e := 99)); rfl; exact tk; (iterate 13 rfl)
 | (with_reducible apply zcp); (iterate 10 rfl); (first | exact spec_LotsOk | exact spec_l5Right); rfl; rfl
 | fail)
    all_goals first | exact endV [0, 2] rfl rfl rfl rfl rfl rfl | trace_state
  obtain ⟨h1, h2⟩ := id hok
  have hll := h1.1.2
  have hml := mrg_len l [⟨a, c, n, q, k⟩]
  by_cases hok2 : LotsOk (mrg l [⟨a, c, n, q, k⟩])
  · rw [lo_0 hok hok2]
    repeat' (first
 | (intro h9; exfalso; first | contradiction | omega)
 | (with_reducible apply zds); exact tk; rfl; rfl; rfl; rfl; rfl
 | (with_reducible apply zd); rfl; exact tk; rfl
 | (with_reducible first | intro _ | apply wseq | apply zreg | apply thenQ_n | apply thenQ_r | apply thenQ_e | apply znil | apply wret | apply bodyQ_r | apply wblk | apply blkQ_n | apply blkQ_r | apply wskip | apply wexit)
 | apply wcf rfl
 | (with_reducible apply zlit (α := Lot) (e := 99)); rfl; exact tk; (iterate 13 rfl)
 | (with_reducible apply zcp); (iterate 10 rfl); (first | exact spec_LotsOk | exact spec_l5Right); rfl; rfl
 | (with_reducible apply zcf); (iterate 10 rfl); exact spec_l5Merge (by omega) (by first | omega | (simp only [List.length_cons,List.length_nil]; omega)); rfl; rfl; rfl; rfl; rfl
 | fail)
    all_goals first | exact endV [0, 3] rfl rfl rfl rfl rfl rfl | trace_state
  · rw [lo_3 hok hok2]
    repeat' (first
 | (intro h9; exfalso; first | contradiction | omega)
 | (with_reducible apply zds); exact tk; rfl; rfl; rfl; rfl; rfl
 | (with_reducible apply zd); rfl; exact tk; rfl
 | (with_reducible first | intro _ | apply wseq | apply zreg | apply thenQ_n | apply thenQ_r | apply thenQ_e | apply znil | apply wret | apply bodyQ_r | apply wblk | apply blkQ_n | apply blkQ_r | apply wskip | apply wexit)
 | apply wct rfl
 | apply wcf rfl
 | (with_reducible apply zlit (α := Lot) (e := 99)); rfl; exact tk; (iterate 13 rfl)
 | (with_reducible apply zap); rfl; exact tk; (iterate 10 rfl); (first | omega | ((try simp only [List.length_append, List.length_cons, List.length_nil, List.length_map]); (try dsimp only); omega)); rfl; rfl; rfl; rfl; rfl
 | (with_reducible apply zcp); (iterate 10 rfl); (first | exact spec_LotsOk | exact spec_l5Right); rfl; rfl
 | (with_reducible apply zcf); (iterate 10 rfl); exact spec_l5Merge (by omega) (by first | omega | (simp only [List.length_cons,List.length_nil]; omega)); rfl; rfl; rfl; rfl; rfl
 | fail)
    all_goals first | exact endV [0, 5] rfl rfl rfl rfl rfl rfl | trace_state
end Go.Proofs.YtnlajjoheegbiaaGreat.Sh
