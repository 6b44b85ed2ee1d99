/- Balances behind legs: what stays right. No condition. -/
import Derived.Test.YtgehbhkfehmdkaaGreatKSpShBp
import Derived.Test.YtgehbhkfehmdkaaGreatKSpShTr
namespace Go.Proofs.YtgehbhkfehmdkaaGreat.Sh
open Go.RowKit
set_option linter.unusedVariables false
set_option linter.unusedSimpArgs false
def befB (x y : Bal) : Prop := bef x.Account x.Instr y.Account y.Instr
theorem rd_get {α : Type} [Enc α] {l : List α} {i : Int} (h : i.toNat < l.length) : rd l i = l[i.toNat] := by simp [rd, List.getD_eq_getElem?_getD, h]
theorem BSd_iff {l : List Bal} : BSd l ↔ l.Pairwise befB := by
  constructor
  · intro h
    rw [List.pairwise_iff_getElem]
    intro i j hi hj hij
    have := h.lt (i := i) (j := j) (by omega) (by omega) (by omega)
    rw [rd_get (l := l) (i := i) (by omega), rd_get (l := l) (i := j) (by omega)] at this
    exact this
  · intro h i h0 h1
    rw [List.pairwise_iff_getElem] at h
    have := h (i - 1).toNat i.toNat (by omega) (by omega) (by omega)
    rw [rd_get (l := l) (i := i - 1) (by omega), rd_get (l := l) (i := i) (by omega)]
    exact this
theorem putB_split {l : List Bal} (hs : BSd l) (a c n : Int) : putB l a c n = pf l (bIx l a c) ++ (if n = 0 then [] else [⟨a, c, n⟩]) ++ flt (neB a c) (l.drop (bIx l a c).toNat) := by
  have hK := bIx_nn l a c
  have e : flt (neB a c) l = pf l (bIx l a c) ++ flt (neB a c) (l.drop (bIx l a c).toNat) := by
    have e1 : l = pf l (bIx l a c) ++ l.drop (bIx l a c).toNat := (List.take_append_drop _ _).symm
    conv => lhs; rw [e1]
    rw [flt_append, flt_id pf_neB]
  unfold putB
  rw [← flt_woB hs, e]
  by_cases hz : n = 0
  · rw [sel_t hz, if_pos hz, List.append_nil]
  · rw [sel_f hz, if_neg hz, ins_pf hK]
    simp
theorem drop_nb {l : List Bal} (hs : BSd l) (a c : Int) : ∀ y ∈ l.drop (bIx l a c).toNat, ¬ bef y.Account y.Instr a c := by
  intro y hy
  have hK := bIx_nn l a c
  obtain ⟨m, hm, rfl⟩ := List.getElem_of_mem hy
  rw [List.length_drop] at hm
  have e3 : (l.drop (bIx l a c).toNat)[m] = rd l (bIx l a c + m) := by
    have : (bIx l a c + (m : Int)).toNat = (bIx l a c).toNat + m := by omega
    rw [List.getElem_drop, rd_get (by omega)]
    simp only [this]
  rw [e3]
  have ha := bIx_at (l := l) (a := a) (c := c) (by omega)
  by_cases h0 : m = 0
  · subst h0
    simpa using ha
  · have := hs.lt (i := bIx l a c) (j := bIx l a c + m) hK.1 (by omega) (by omega)
    intro k
    exact ha (bef_trans this k)
theorem putB_sd {l : List Bal} (hs : BSd l) (a c n : Int) : BSd (putB l a c n) := by
  have hp := BSd_iff.1 hs
  rw [BSd_iff, putB_split hs]
  have h1 : (pf l (bIx l a c)).Pairwise befB := hp.sublist (List.take_sublist _ _)
  have h2 : (flt (neB a c) (l.drop (bIx l a c).toNat)).Pairwise befB := hp.sublist (List.filter_sublist.trans (List.drop_sublist _ _))
  have h3 : ∀ y ∈ pf l (bIx l a c), bef y.Account y.Instr a c := fun y hy => by
    obtain ⟨j, hj, rfl⟩ := mem_rd hy
    have hn := bIx_nn l a c
    rw [pf_len hn] at hj
    rw [rd_pf ⟨hj.1, hj.2⟩]
    exact bIx_lt hj.1 hj.2
  have h4 : ∀ y ∈ flt (neB a c) (l.drop (bIx l a c).toNat), bef a c y.Account y.Instr := fun y hy => by
    obtain ⟨hy1, hy2⟩ := flt_mem.1 hy
    have hy3 := drop_nb hs a c y hy1
    unfold neB at hy2
    unfold bef at *
    omega
  have h5 : ∀ x ∈ pf l (bIx l a c), ∀ y ∈ flt (neB a c) (l.drop (bIx l a c).toNat), befB x y := fun x hx y hy => bef_trans (h3 x hx) (h4 y hy)
  split
  · rw [List.append_nil, List.pairwise_append]
    exact ⟨h1, h2, h5⟩
  · rw [List.append_assoc, List.pairwise_append]
    refine ⟨h1, List.pairwise_cons.2 ⟨fun y hy => h4 y hy, h2⟩, fun x hx y hy => ?_⟩
    rcases List.mem_cons.1 hy with rfl | hy
    · exact h3 x hx
    · exact h5 x hx y hy
theorem putB_mem {l : List Bal} (hs : BSd l) {a c n : Int} {x : Bal} (h : x ∈ putB l a c n) : x ∈ l ∨ x = ⟨a, c, n⟩ := by
  rw [putB_split hs] at h
  simp only [List.mem_append] at h
  rcases h with (h | h) | h
  · exact .inl (List.mem_of_mem_take h)
  · split at h
    · cases h
    · exact .inr (List.mem_singleton.1 h)
  · exact .inl (List.mem_of_mem_drop (flt_mem.1 h).1)
theorem putB_len {l : List Bal} (hs : BSd l) (a c n : Int) : (putB l a c n).length ≤ l.length + 1 := by
  rw [putB_split hs]
  have h1 := flt_le (neB a c) (l.drop (bIx l a c).toNat)
  have h2 := pf_len (bIx_nn l a c)
  have hK := bIx_nn l a c
  rw [List.length_drop] at h1
  simp only [List.length_append]
  split
  · simp only [List.length_nil]; omega
  · simp only [List.length_cons, List.length_nil]; omega
noncomputable def stepB (o : List Bal) (g : Leg) : List Bal := putB o g.Account g.Instr (balOf o g.Account g.Instr + g.Amount)
noncomputable def pO (l : List Bal) (g : List Leg) : List Bal := g.foldl stepB l
theorem pO_succ {l : List Bal} {g : List Leg} {i : Int} (h : 0 ≤ i ∧ i < g.length) : pO l (pf g (i + 1)) = stepB (pO l (pf g i)) (rd g i) := by
  rw [pf_succ h, pO, List.foldl_append]
  rfl
def amtB (l : List Bal) : Prop := ∀ x ∈ l, amountOk x.Amount
theorem BalsOk.amt {l : List Bal} (h : BalsOk l) : amtB l := fun x hx => by
  obtain ⟨i, hi, rfl⟩ := mem_rd hx
  exact (h.1 i hi.1 hi.2).2.2.1
theorem balOf_ex1 {l : List Bal} {a c : Int} (h : balOf l a c ≠ 0) : ∃ x ∈ l, x.Account = a ∧ x.Instr = c ∧ x.Amount = balOf l a c := by
  unfold balOf at *
  cases hf : l.find? (fun x => decide (x.Account = a ∧ x.Instr = c)) with
  | none => rw [hf] at h; exact absurd rfl h
  | some x =>
    rw [hf] at h
    have := List.find?_some hf
    simp only [decide_eq_true_eq] at this
    exact ⟨x, List.mem_of_find?_eq_some hf, this.1, this.2, rfl⟩
theorem balOf_amt {l : List Bal} (h : amtB l) (a c : Int) : amountOk (balOf l a c) := by
  by_cases e : balOf l a c = 0
  · rw [e]; unfold amountOk inP; omega
  · obtain ⟨x, hx, _, _, e2⟩ := balOf_ex1 e
    rw [← e2]
    exact h x hx
theorem putB_amt {l : List Bal} (hs : BSd l) (h : amtB l) {a c n : Int} (hn : amountOk n) : amtB (putB l a c n) := fun x hx => by
  rcases putB_mem hs hx with h1 | rfl
  · exact h x h1
  · exact hn
end Go.Proofs.YtgehbhkfehmdkaaGreat.Sh
namespace Go.Proofs.YtgehbhkfehmdkaaGreat.Sh
open Go.RowKit
set_option linter.unusedVariables false
set_option linter.unusedSimpArgs false
set_option maxHeartbeats 4000000 in
theorem slices_Index_int {l : List Int} {x : Int} : FC Tryz.prog 232 [.c (.row 0 0 l.length), I x] ([ro 3 l]) (sel (x ∈ l) (I (fIx l (fun y => x = y))) (I (-1))) (sel (x ∈ l) [ro 3 l] [ro 3 l]) := by
  refine fent tk 19 [.tmp 4] Tryz.func232 (by kernel_rfl) rfl rfl rfl rfl rfl rfl rfl ?_
  refine wlen l 0 rfl (fun hl => ?_)
  repeat' (first
 | (with_reducible apply zds); exact tk; rfl; rfl; rfl; rfl; rfl
 | (with_reducible apply zd); rfl; exact tk; rfl
 | (with_reducible first | intro _ | apply wseq | apply zreg | apply thenQ_n | apply thenQ_r | apply thenQ_e | apply znil | apply wret | apply bodyQ_r | apply wblk | apply blkQ_n | apply blkQ_r | apply wskip | apply wexit)
 | fail)
  refine wlp (X := Int) [0, 1, 7] [0] (fun i => [(8, I i)]) (fun _ => []) (fun i => 0 ≤ i ∧ i ≤ l.length ∧ ∀ j : Int, 0 ≤ j → j < i → ¬ (fun y => x = y) (rd l j)) (fun i => (l.length - i).toNat) 0 ⟨by omega, by omega, fun j h0 h1 => by omega⟩ rfl rfl (fun _ => rfl) (fun _ => rfl) ⟨rfl, rfl, rfl, rfl, rfl, rfl, rfl, rfl⟩ (fun i hi => ?_)
  obtain ⟨h0, hi, hall⟩ := hi
  repeat' (first
 | (with_reducible apply zds); exact tk; rfl; rfl; rfl; rfl; rfl
 | (with_reducible apply zd); rfl; exact tk; rfl
 | (with_reducible first | intro _ | apply wseq | apply zreg | apply thenQ_n | apply thenQ_r | apply thenQ_e | apply znil | apply wret | apply bodyQ_r | apply wblk | apply blkQ_n | apply blkQ_r | apply wskip | apply wexit)
 | apply wct rfl
 | apply wcf rfl
 | (with_reducible apply blkQ_x rfl)
 | (with_reducible apply zcmp); rfl; exact tk; rfl; rfl; rfl
 | (with_reducible apply zar); rfl; rfl; rfl; rfl; (first | omega | ((try simp only [List.length_append, List.length_cons, List.length_nil, List.length_map]); (try dsimp only); omega)); rfl; rfl
 | (with_reducible apply zix); rfl; exact tk; (iterate 7 rfl); (first | omega | ((try simp only [List.length_append, List.length_cons, List.length_nil, List.length_map]); (try dsimp only); omega)); rfl; rfl
 | (with_reducible apply zle); rfl; exact tk; rfl; rfl; rfl; rfl; (first | omega | ((try simp only [List.length_append, List.length_cons, List.length_nil, List.length_map]); (try dsimp only); omega)); rfl; rfl; rfl; rfl
 | fail)
  all_goals first
    | (rename_i h1 h2
       have hm : x ∈ l := h2 ▸ rd_mem ⟨h0, h1⟩
       refine endG (X' := I i) (hs' := [ro 3 l]) [0] rfl rfl rfl rfl rfl rfl ?_ ?_
       · rw [sel_t hm, fIx_eq ⟨h0, h1⟩ hall h2]
       · rw [sel_t hm])
    | exact endF (fun hm => no_rd (q := fun y => x = y) (by assumption) hall ⟨x, hm, rfl⟩) [0] rfl rfl rfl rfl rfl rfl
    | exact endR (i + 1) [0] ⟨rfl, rfl, rfl, rfl, rfl, rfl, rfl, rfl⟩ ⟨by omega, by omega, all_step hall (by assumption)⟩ (by first | omega | (dsimp only; omega))
set_option maxHeartbeats 4000000 in
theorem slices_Contains_int {l : List Int} {x : Int} : FC Tryz.prog 120 [.c (.row 0 0 l.length), I x] ([ro 3 l]) (B (dB (x ∈ l))) ([ro 3 l]) := by
  refine fent tk 9 [.tmp 4] Tryz.func120 (by kernel_rfl) rfl rfl rfl rfl rfl rfl rfl ?_
  have hn := fIx_nn l (fun y => x = y)
  repeat' (first
 | (intro h9; exfalso; first | contradiction | omega)
 | (with_reducible apply zds); exact tk; rfl; rfl; rfl; rfl; rfl
 | (with_reducible apply zd); rfl; exact tk; rfl
 | (with_reducible first | intro _ | apply wseq | apply zreg | apply thenQ_n | apply thenQ_r | apply thenQ_e | apply znil | apply wret | apply bodyQ_r | apply wblk | apply blkQ_n | apply blkQ_r | apply wskip | apply wexit)
 | (with_reducible apply zcmp); rfl; exact tk; rfl; rfl; rfl
 | (with_reducible apply zcs); (iterate 10 rfl); exact slices_Index_int; exact fun _ => rfl; exact fun _ => rfl; rfl; rfl; rfl; rfl
 | fail)
  all_goals first
    | exact endY [0] rfl rfl rfl rfl rfl rfl (by assumption)
    | exact endN [0] rfl rfl rfl rfl rfl rfl (by assumption)
    | (exfalso; omega)
set_option maxHeartbeats 4000000 in
theorem spec_l4Has {l : List Int} {x : Int} : FC Tryz.prog 167 [.c (.row 0 0 l.length), I x] ([ro 3 l]) (B (dB (x ∈ l))) ([ro 3 l]) := by
  refine fent tk 18 [.tmp 4] Tryz.func167 (by kernel_rfl) rfl rfl rfl rfl rfl rfl rfl ?_
  refine wlen l 0 rfl (fun hl => ?_)
  repeat' (first
 | (with_reducible apply zd); rfl; exact tk; rfl
 | (with_reducible first | intro _ | apply wseq | apply zreg | apply thenQ_n | apply thenQ_r | apply thenQ_e | apply znil | apply wret | apply bodyQ_r | apply wblk | apply blkQ_n | apply blkQ_r | apply wskip | apply wexit)
 | fail)
  refine wlp (X := Int) [0, 1] [0] (fun i => [(5, I i)]) (fun _ => []) (fun i => 0 ≤ i ∧ i ≤ l.length ∧ ∀ j : Int, 0 ≤ j → j < i → ¬ (fun y => y = x) (rd l j)) (fun i => (l.length - i).toNat) 0 ⟨by omega, by omega, fun j h0 h1 => by omega⟩ rfl rfl (fun _ => rfl) (fun _ => rfl) ⟨rfl, rfl, rfl, rfl, rfl, rfl, rfl, rfl⟩ (fun i hi => ?_)
  obtain ⟨h0, hi, hall⟩ := hi
  repeat' (first
 | (with_reducible apply zds); exact tk; rfl; rfl; rfl; rfl; rfl
 | (with_reducible apply zd); rfl; exact tk; rfl
 | (with_reducible first | intro _ | apply wseq | apply zreg | apply thenQ_n | apply thenQ_r | apply thenQ_e | apply znil | apply wret | apply bodyQ_r | apply wblk | apply blkQ_n | apply blkQ_r | apply wskip | apply wexit)
 | apply wct rfl
 | apply wcf rfl
 | (with_reducible apply blkQ_x rfl)
 | (with_reducible apply zcmp); rfl; exact tk; rfl; rfl; rfl
 | (with_reducible apply zar); rfl; rfl; rfl; rfl; (first | omega | ((try simp only [List.length_append, List.length_cons, List.length_nil, List.length_map]); (try dsimp only); omega)); rfl; rfl
 | (with_reducible apply zix); rfl; exact tk; (iterate 7 rfl); (first | omega | ((try simp only [List.length_append, List.length_cons, List.length_nil, List.length_map]); (try dsimp only); omega)); rfl; rfl
 | (with_reducible apply zle); rfl; exact tk; rfl; rfl; rfl; rfl; (first | omega | ((try simp only [List.length_append, List.length_cons, List.length_nil, List.length_map]); (try dsimp only); omega)); rfl; rfl; rfl; rfl
 | fail)
  all_goals first
    | (rename_i h1 h2
       exact endY [0] rfl rfl rfl rfl rfl rfl (h2 ▸ rd_mem ⟨h0, h1⟩))
    | exact endN [0] rfl rfl rfl rfl rfl rfl (fun hm => no_rd (q := fun y => y = x) (by assumption) hall ⟨x, hm, rfl⟩)
    | exact endR (i + 1) [0] ⟨rfl, rfl, rfl, rfl, rfl, rfl, rfl, rfl⟩ ⟨by omega, by omega, all_step hall (by assumption)⟩ (by first | omega | (dsimp only; omega))
def postAt (l : List Bal) (g : List Leg) (i : Int) : Prop := amountOk (balOf (pO l (pf g i)) (rd g i).Account (rd g i).Instr + (rd g i).Amount)
def postFit (l : List Bal) (g : List Leg) : Prop := ∀ i : Int, 0 ≤ i → i < g.length → postAt l g i
def postLow (o : List Bal) (g : List Leg) (sh : List Int) : Prop := ∃ x ∈ g, ¬ (x.Account ∈ sh) ∧ balOf o x.Account x.Instr < 0
noncomputable def balsPost (l : List Bal) (g : List Leg) (sh : List Int) : List Bal × Int :=
  sel (¬ (BalsOk l ∧ legsForm g ∧ sh.length ≤ 20)) ([], 1) (sel (¬ LegsOk g) (l, 2) (sel (¬ postFit l g) (l, 4) (sel (postLow (pO l g) g sh) (l, 3) (sel (160 < (pO l g).length) (l, 5) (pO l g, 0)))))
section
variable {l : List Bal} {g : List Leg} {sh : List Int}
theorem bp_1 (h : ¬ (BalsOk l ∧ legsForm g ∧ sh.length ≤ 20)) : balsPost l g sh = ([], 1) := by rw [balsPost, sel_t h]
theorem bp_2 (h : BalsOk l ∧ legsForm g ∧ sh.length ≤ 20) (h2 : ¬ LegsOk g) : balsPost l g sh = (l, 2) := by rw [balsPost, sel_f (fun k => k h), sel_t h2]
theorem bp_4 (h : BalsOk l ∧ legsForm g ∧ sh.length ≤ 20) (h2 : LegsOk g) (h3 : ¬ postFit l g) : balsPost l g sh = (l, 4) := by rw [balsPost, sel_f (fun k => k h), sel_f (fun k => k h2), sel_t h3]
theorem bp_3 (h : BalsOk l ∧ legsForm g ∧ sh.length ≤ 20) (h2 : LegsOk g) (h3 : postFit l g) (h4 : postLow (pO l g) g sh) : balsPost l g sh = (l, 3) := by rw [balsPost, sel_f (fun k => k h), sel_f (fun k => k h2), sel_f (fun k => k h3), sel_t h4]
theorem bp_5 (h : BalsOk l ∧ legsForm g ∧ sh.length ≤ 20) (h2 : LegsOk g) (h3 : postFit l g) (h4 : ¬ postLow (pO l g) g sh) (h5 : 160 < (pO l g).length) : balsPost l g sh = (l, 5) := by rw [balsPost, sel_f (fun k => k h), sel_f (fun k => k h2), sel_f (fun k => k h3), sel_f h4, sel_t h5]
theorem bp_0 (h : BalsOk l ∧ legsForm g ∧ sh.length ≤ 20) (h2 : LegsOk g) (h3 : postFit l g) (h4 : ¬ postLow (pO l g) g sh) (h5 : ¬ 160 < (pO l g).length) : balsPost l g sh = (pO l g, 0) := by rw [balsPost, sel_f (fun k => k h), sel_f (fun k => k h2), sel_f (fun k => k h3), sel_f h4, sel_f h5]
end
set_option maxHeartbeats 4000000 in
theorem impl_BalsPost {l : List Bal} {g : List Leg} {sh : List Int} : FC Tryz.prog 24 [.c (.row 0 0 l.length), .c (.row 1 0 g.length), .c (.row 2 0 sh.length)] ([ro 135 l, ro 46 g, ro 3 sh]) (.tup [.c (.row 3 0 (balsPost l g sh).1.length), I (balsPost l g sh).2]) ([ro 135 l, ro 46 g, ro 3 sh, ow 135 (balsPost l g sh).1]) := by
  refine fent tk 90 [.tmp 6, .tmp 7] Tryz.func24 (by kernel_rfl) rfl rfl rfl rfl rfl rfl rfl ?_
  by_cases hok : BalsOk l ∧ legsForm g ∧ sh.length ≤ 20
  rotate_left
  · rw [bp_1 hok]
    repeat' (first
 | (intro h9; exact absurd ⟨by assumption, by assumption, by omega⟩ hok)
 | (with_reducible apply znila (d := 6) 135 3); rfl; rfl; rfl
 | (with_reducible apply zd); rfl; exact tk; rfl
 | (with_reducible first | intro _ | apply wseq | apply zreg | apply thenQ_n | apply thenQ_r | apply thenQ_e | apply znil | apply wret | apply bodyQ_r | apply wblk | apply blkQ_n | apply blkQ_r | apply wskip | apply wexit)
 | apply wct rfl
 | (with_reducible apply zcmp); rfl; exact tk; rfl; rfl; rfl
 | (with_reducible apply zcp); (iterate 10 rfl); (first | exact impl_BalsOk | exact impl_legsForm | exact impl_LegsOk | exact impl_AmountOk | exact slices_Contains_int); rfl; rfl
 | fail)
    all_goals first | exact endV [0, 1, 2, 4] rfl rfl rfl rfl rfl rfl | exact endV [0, 1, 2, 3] rfl rfl rfl rfl rfl rfl
  obtain ⟨hb, hf, hsh⟩ := id hok
  by_cases hlo : LegsOk g
  rotate_left
  · rw [bp_2 hok hlo]
    have hbl := hb.2
    repeat' (first
 | (intro h9; exfalso; first | contradiction | omega)
 | (with_reducible apply zds); exact tk; rfl; rfl; rfl; rfl; rfl
 | (with_reducible apply zd); rfl; exact tk; rfl
 | (with_reducible first | intro _ | apply wseq | apply zreg | apply thenQ_n | apply thenQ_r | apply thenQ_e | apply znil | apply wret | apply bodyQ_r | apply wblk | apply blkQ_n | apply blkQ_r | apply wskip | apply wexit)
 | apply wct rfl
 | apply wcf rfl
 | (with_reducible apply zcmp); rfl; exact tk; rfl; rfl; rfl
 | (with_reducible apply zcp); (iterate 10 rfl); (first | exact impl_BalsOk | exact impl_legsForm | exact impl_LegsOk | exact impl_AmountOk | exact slices_Contains_int); rfl; rfl
 | (with_reducible apply zcf); (iterate 10 rfl); (first | exact slices_Clone_Bal (by omega) | exact impl_withBal (by assumption) (by omega)); rfl; rfl; rfl; rfl; rfl
 | fail)
    all_goals first | exact endV [0, 1, 2, 3] rfl rfl rfl rfl rfl rfl | exact endV [0, 1, 2, 4] rfl rfl rfl rfl rfl rfl
  have hbl := hb.2
  have hgl := hf.1
  repeat' (first
 | (intro h9; exfalso; first | contradiction | omega)
 | (with_reducible apply zds); exact tk; rfl; rfl; rfl; rfl; rfl
 | (with_reducible apply zd); rfl; exact tk; rfl
 | (with_reducible first | intro _ | apply wseq | apply zreg | apply thenQ_n | apply thenQ_r | apply thenQ_e | apply znil | apply wret | apply bodyQ_r | apply wblk | apply blkQ_n | apply blkQ_r | apply wskip | apply wexit)
 | apply wcf rfl
 | (with_reducible apply zcmp); rfl; exact tk; rfl; rfl; rfl
 | (with_reducible apply zcp); (iterate 10 rfl); (first | exact impl_BalsOk | exact impl_legsForm | exact impl_LegsOk | exact impl_AmountOk | exact slices_Contains_int); rfl; rfl
 | (with_reducible apply zcf); (iterate 10 rfl); (first | exact slices_Clone_Bal (by omega) | exact impl_withBal (by assumption) (by omega)); rfl; rfl; rfl; rfl; rfl
 | fail)
  refine wlp (X := Int × List Bal) [1, 2, 8, 36, 37] [0, 1, 2, 3, 4] (fun x => [(38, I x.1), (9, .c (.row 4 0 x.2.length))]) (fun x => [(4, ow 135 x.2)]) (fun x => (0 ≤ x.1 ∧ x.1 ≤ g.length) ∧ x.2 = pO l (pf g x.1) ∧ (BSd x.2 ∧ amtB x.2) ∧ x.2.length ≤ l.length + x.1 ∧ ∀ j : Int, 0 ≤ j → j < x.1 → postAt l g j) (fun x => (g.length - x.1).toNat) (0, l) ⟨⟨by dsimp only; omega, by dsimp only; omega⟩, rfl, ⟨hb.sd, hb.amt⟩, by dsimp only; omega, fun j h0 h1 => by dsimp only at h1; omega⟩ rfl rfl (fun _ => rfl) (fun _ => rfl) ⟨rfl, rfl, rfl, rfl, rfl, rfl, rfl, rfl⟩ (fun x hx => ?_)
  obtain ⟨i, xs⟩ := x
  obtain ⟨h0, hxs, ⟨hsd, hamt⟩, hxl, hall⟩ := hx
  dsimp only at h0 hxs hsd hamt hxl hall ⊢
  have hba := balOf_amt hamt (rd g i).Account (rd g i).Instr
  have hga : i < g.length → amountOk (rd g i).Amount := fun h => (hf.2 _ (rd_mem ⟨h0.1, h⟩)).2.2
  unfold amountOk inP at hba hga
  repeat' (first
 | (with_reducible apply zds); exact tk; rfl; rfl; rfl; rfl; rfl
 | (with_reducible apply zd); rfl; exact tk; rfl
 | (with_reducible apply zar); rfl; rfl; rfl; rfl; (have h1 := hga (by assumption); omega); rfl; rfl
 | (with_reducible first | intro _ | apply wseq | apply zreg | apply thenQ_n | apply thenQ_r | apply thenQ_e | apply znil | apply wret | apply bodyQ_r | apply wblk | apply blkQ_n | apply blkQ_r | apply wskip | apply wexit)
 | apply wct rfl
 | apply wcf rfl
 | (with_reducible apply blkQ_x rfl)
 | (with_reducible apply zcmp); rfl; exact tk; rfl; rfl; rfl
 | (with_reducible apply zix); rfl; exact tk; (iterate 7 rfl); (first | omega | ((try simp only [List.length_append, List.length_cons, List.length_nil, List.length_map]); (try dsimp only); omega)); rfl; rfl
 | (with_reducible apply zle); rfl; exact tk; rfl; rfl; rfl; rfl; (first | omega | ((try simp only [List.length_append, List.length_cons, List.length_nil, List.length_map]); (try dsimp only); omega)); rfl; rfl; rfl; rfl
 | refine zdq (id := 10) rfl (by kernel_rfl) [(.p, 0), (.p, 1), (.p, 3), (.p, 6), (.t, 2), (.t, 4), (.t, 7), (.o, 5), (.p, 8), (.p, 9)] [] (by kernel_rfl) rfl ?_
 | (with_reducible apply zcp); (iterate 10 rfl); (first | exact impl_BalsOk | exact impl_legsForm | exact impl_LegsOk | exact impl_AmountOk | exact slices_Contains_int); rfl; rfl
 | (with_reducible apply zcf); (iterate 10 rfl); (first | exact slices_Clone_Bal (by omega) | exact impl_withBal (by assumption) (by omega)); rfl; rfl; rfl; rfl; rfl
 | (with_reducible apply zc); (iterate 10 rfl); exact impl_balOf (by assumption); exact fun _ => rfl; rfl; rfl; rfl
 | fail)
  all_goals first
    | exact endR (i + 1, putB xs (rd g i).Account (rd g i).Instr (balOf xs (rd g i).Account (rd g i).Instr + (rd g i).Amount)) [0, 1, 2, 3, 6] ⟨rfl, rfl, rfl, rfl, rfl, rfl, rfl, rfl⟩ ⟨⟨by dsimp only; omega, by dsimp only; omega⟩, by dsimp only; rw [pO_succ ⟨h0.1, by assumption⟩, ← hxs]; rfl, ⟨putB_sd hsd _ _ _, putB_amt hsd hamt (by assumption)⟩, (by dsimp only; have := putB_len hsd (rd g i).Account (rd g i).Instr (balOf xs (rd g i).Account (rd g i).Instr + (rd g i).Amount); omega), all_step hall (by unfold postAt; rw [← hxs]; assumption)⟩ (by first | omega | (dsimp only; omega))
    | (rw [bp_4 hok hlo (fun k => absurd (k i h0.1 (by assumption)) (by unfold postAt; rw [← hxs]; assumption))]
       exact endV [0, 1, 2, 3] rfl rfl rfl rfl rfl rfl)
    | skip
  rename_i hil
  have e : xs = pO l g := hxs.trans (by rw [pf_all hil])
  have hfit : postFit l g := fun j h0 h1 => hall j h0 (by omega)
  clear hxs hba hga
  subst e
  refine wlp (X := Int) [2, 8, 9, 63, 64] [0, 1, 2, 3, 4] (fun k => [(65, I k)]) (fun _ => []) (fun k => 0 ≤ k ∧ k ≤ g.length ∧ ∀ j : Int, 0 ≤ j → j < k → ¬ (fun x : Leg => ¬ (x.Account ∈ sh) ∧ balOf (pO l g) x.Account x.Instr < 0) (rd g j)) (fun k => (g.length - k).toNat) 0 ⟨by omega, by omega, fun j h0 h1 => by omega⟩ rfl rfl (fun _ => rfl) (fun _ => rfl) ⟨rfl, rfl, rfl, rfl, rfl, rfl, rfl, rfl⟩ (fun k hk => ?_)
  obtain ⟨k0, hk, hall2⟩ := hk
  repeat' (first
 | (with_reducible apply zds); exact tk; rfl; rfl; rfl; rfl; rfl
 | (with_reducible apply zd); rfl; exact tk; rfl
 | (with_reducible first | intro _ | apply wseq | apply zreg | apply thenQ_n | apply thenQ_r | apply thenQ_e | apply znil | apply wret | apply bodyQ_r | apply wblk | apply blkQ_n | apply blkQ_r | apply wskip | apply wexit)
 | apply wct rfl
 | apply wcf rfl
 | (with_reducible apply blkQ_x rfl)
 | (with_reducible apply zcmp); rfl; exact tk; rfl; rfl; rfl
 | (with_reducible apply zar); rfl; rfl; rfl; rfl; (first | omega | ((try simp only [List.length_append, List.length_cons, List.length_nil, List.length_map]); (try dsimp only); omega)); rfl; rfl
 | (with_reducible apply zix); rfl; exact tk; (iterate 7 rfl); (first | omega | ((try simp only [List.length_append, List.length_cons, List.length_nil, List.length_map]); (try dsimp only); omega)); rfl; rfl
 | (with_reducible apply zle); rfl; exact tk; rfl; rfl; rfl; rfl; (first | omega | ((try simp only [List.length_append, List.length_cons, List.length_nil, List.length_map]); (try dsimp only); omega)); rfl; rfl; rfl; rfl
 | (with_reducible apply zcp); (iterate 10 rfl); (first | exact impl_BalsOk | exact impl_legsForm | exact impl_LegsOk | exact impl_AmountOk | exact slices_Contains_int); rfl; rfl
 | (with_reducible apply zc); (iterate 10 rfl); exact impl_balOf (by assumption); exact fun _ => rfl; rfl; rfl; rfl
 | fail)
  all_goals first
    | (rw [bp_3 hok hlo hfit ⟨rd g k, rd_mem ⟨k0, by assumption⟩, by assumption, by assumption⟩]
       exact endV [0, 1, 2, 3] rfl rfl rfl rfl rfl rfl)
    | exact endR (k + 1) [0, 1, 2, 3, 4] ⟨rfl, rfl, rfl, rfl, rfl, rfl, rfl, rfl⟩ ⟨by omega, by omega, all_step hall2 (fun e => by first | exact e.1 (by assumption) | exact absurd e.2 (by assumption))⟩ (by first | omega | (dsimp only; omega))
    | (have hno := no_rd (q := fun x : Leg => ¬ (x.Account ∈ sh) ∧ balOf (pO l g) x.Account x.Instr < 0) (by assumption) hall2
       first
       | (rw [bp_5 hok hlo hfit hno (by omega)]
          exact endV [0, 1, 2, 3] rfl rfl rfl rfl rfl rfl)
       | (rw [bp_0 hok hlo hfit hno (by omega)]
          exact endV [0, 1, 2, 4] rfl rfl rfl rfl rfl rfl))
set_option maxHeartbeats 4000000 in
theorem spec_BalsPost {l : List Bal} {g : List Leg} {sh : List Int} : FC Tryz.prog 245 [.c (.row 0 0 l.length), .c (.row 1 0 g.length), .c (.row 2 0 sh.length)] ([ro 135 l, ro 46 g, ro 3 sh]) (.tup [.c (.row 3 0 (balsPost l g sh).1.length), I (balsPost l g sh).2]) ([ro 135 l, ro 46 g, ro 3 sh, ow 135 (balsPost l g sh).1]) := by
  refine fent tk 120 [.tmp 6, .tmp 7] Tryz.func245 (by kernel_rfl) rfl rfl rfl rfl rfl rfl rfl ?_
  by_cases hok : BalsOk l ∧ legsForm g ∧ sh.length ≤ 20
  rotate_left
  · rw [bp_1 hok]
    repeat' (first
 | (with_reducible apply zds); exact tk; rfl; rfl; rfl; rfl; rfl
 | (with_reducible apply zd); rfl; exact tk; rfl
 | (intro h9; exact absurd ⟨by assumption, by assumption, by omega⟩ hok)
 | (with_reducible first | intro _ | apply wseq | apply zreg | apply thenQ_n | apply thenQ_r | apply thenQ_e | apply znil | apply wret | apply bodyQ_r | apply wblk | apply blkQ_n | apply blkQ_r | apply wskip | apply wexit)
 | apply wct rfl
 | (with_reducible apply zcmp); rfl; exact tk; rfl; rfl; rfl
 | (with_reducible apply zlit (α := Bal) (e := 135)); rfl; exact tk; (iterate 13 rfl)
 | (with_reducible apply zcp); (iterate 10 rfl); (first | exact spec_BalsOk | exact spec_l4LegsRight | exact spec_LegsOk | exact spec_l4Has); rfl; rfl
 | fail)
    all_goals first | exact endV [0, 1, 2, 3] rfl rfl rfl rfl rfl rfl | exact endV [0, 1, 2, 4] rfl rfl rfl rfl rfl rfl
  obtain ⟨hb, hf, hsh⟩ := id hok
  have hbl := hb.2
  have hgl := hf.1
  by_cases hlo : LegsOk g
  rotate_left
  · rw [bp_2 hok hlo]
    repeat' (first
 | (intro h9; exfalso; first | contradiction | omega)
 | (with_reducible apply zds); exact tk; rfl; rfl; rfl; rfl; rfl
 | (with_reducible apply zd); rfl; exact tk; rfl
 | (with_reducible first | intro _ | apply wseq | apply zreg | apply thenQ_n | apply thenQ_r | apply thenQ_e | apply znil | apply wret | apply bodyQ_r | apply wblk | apply blkQ_n | apply blkQ_r | apply wskip | apply wexit)
 | apply wct rfl
 | apply wcf rfl
 | (with_reducible apply zcmp); rfl; exact tk; rfl; rfl; rfl
 | (with_reducible apply zlit (α := Bal) (e := 135)); rfl; exact tk; (iterate 13 rfl)
 | (with_reducible apply zap); rfl; exact tk; (iterate 10 rfl); (first | omega | ((try simp only [List.length_append, List.length_cons, List.length_nil, List.length_map]); (try dsimp only); omega)); rfl; rfl; rfl; rfl; rfl
 | (with_reducible apply zcp); (iterate 10 rfl); (first | exact spec_BalsOk | exact spec_l4LegsRight | exact spec_LegsOk | exact spec_l4Has); rfl; rfl
 | fail)
    all_goals first | exact endV [0, 1, 2, 4] rfl rfl rfl rfl rfl rfl | exact endV [0, 1, 2, 5] rfl rfl rfl rfl rfl rfl
  repeat' (first
 | (intro h9; exfalso; first | contradiction | omega)
 | (with_reducible apply zds); exact tk; rfl; rfl; rfl; rfl; rfl
 | (with_reducible apply zd); rfl; exact tk; rfl
 | (with_reducible first | intro _ | apply wseq | apply zreg | apply thenQ_n | apply thenQ_r | apply thenQ_e | apply znil | apply wret | apply bodyQ_r | apply wblk | apply blkQ_n | apply blkQ_r | apply wskip | apply wexit)
 | apply wcf rfl
 | (with_reducible apply zcmp); rfl; exact tk; rfl; rfl; rfl
 | (with_reducible apply zlit (α := Bal) (e := 135)); rfl; exact tk; (iterate 13 rfl)
 | (with_reducible apply zap); rfl; exact tk; (iterate 10 rfl); (first | omega | ((try simp only [List.length_append, List.length_cons, List.length_nil, List.length_map]); (try dsimp only); omega)); rfl; rfl; rfl; rfl; rfl
 | (with_reducible apply zcp); (iterate 10 rfl); (first | exact spec_BalsOk | exact spec_l4LegsRight | exact spec_LegsOk | exact spec_l4Has); rfl; rfl
 | fail)
  refine wlp (X := Int × List Bal) [0, 1, 2] [0, 1, 2, 4] (fun x => [(10, I x.1), (9, .c (.row 3 0 x.2.length))]) (fun x => [(3, ow 135 x.2)]) (fun x => (0 ≤ x.1 ∧ x.1 ≤ g.length) ∧ x.2 = pO l (pf g x.1) ∧ (BSd x.2 ∧ amtB x.2) ∧ x.2.length ≤ l.length + x.1 ∧ ∀ j : Int, 0 ≤ j → j < x.1 → postAt l g j) (fun x => (g.length - x.1).toNat) (0, l) ⟨⟨by dsimp only; omega, by dsimp only; omega⟩, rfl, ⟨hb.sd, hb.amt⟩, by dsimp only; omega, fun j h0 h1 => by dsimp only at h1; omega⟩ rfl rfl (fun _ => rfl) (fun _ => rfl) ⟨rfl, rfl, rfl, rfl, rfl, rfl, rfl, rfl⟩ (fun x hx => ?_)
  obtain ⟨i, xs⟩ := x
  obtain ⟨h0, hxs, ⟨hsd, hamt⟩, hxl, hall⟩ := hx
  dsimp only at h0 hxs hsd hamt hxl hall ⊢
  have hba := balOf_amt hamt (rd g i).Account (rd g i).Instr
  have hga : i < g.length → amountOk (rd g i).Amount := fun h => (hf.2 _ (rd_mem ⟨h0.1, h⟩)).2.2
  by_cases hil2 : i < g.length
  · have hga2 := hga hil2
    repeat' (first
 | (intro h9; exfalso; first | contradiction | omega)
 | (with_reducible apply zds); exact tk; rfl; rfl; rfl; rfl; rfl
 | (with_reducible apply zd); rfl; exact tk; rfl
 | (with_reducible first | intro _ | apply wseq | apply zreg | apply thenQ_n | apply thenQ_r | apply thenQ_e | apply znil | apply wret | apply bodyQ_r | apply wblk | apply blkQ_n | apply blkQ_r | apply wskip | apply wexit)
 | apply wct rfl
 | apply wcf rfl
 | (with_reducible apply zcmp); rfl; exact tk; rfl; rfl; rfl
 | (with_reducible apply zar); rfl; rfl; rfl; rfl; (first | omega | ((try simp only [List.length_append, List.length_cons, List.length_nil, List.length_map]); (try dsimp only); omega)); rfl; rfl
 | (with_reducible apply zix); rfl; exact tk; (iterate 7 rfl); (first | omega | ((try simp only [List.length_append, List.length_cons, List.length_nil, List.length_map]); (try dsimp only); omega)); rfl; rfl
 | (with_reducible apply zle); rfl; exact tk; rfl; rfl; rfl; rfl; (first | omega | ((try simp only [List.length_append, List.length_cons, List.length_nil, List.length_map]); (try dsimp only); omega)); rfl; rfl; rfl; rfl
 | (with_reducible apply zlit (α := Bal) (e := 135)); rfl; exact tk; (iterate 13 rfl)
 | (with_reducible apply zap); rfl; exact tk; (iterate 10 rfl); (first | omega | ((try simp only [List.length_append, List.length_cons, List.length_nil, List.length_map]); (try dsimp only); omega)); rfl; rfl; rfl; rfl; rfl
 | refine zdq (id := 10) rfl (by kernel_rfl) [(.p, 0), (.p, 1), (.p, 2), (.p, 3), (.p, 4), (.p, 6), (.p, 7), (.p, 8), (.p, 9), (.p, 12), (.p, 13), (.p, 14), (.p, 15), (.t, 5), (.t, 10), (.t, 16), (.o, 11), (.o, 17), (.p, 18), (.p, 19), (.p, 20), (.p, 21), (.p, 22)] [] (by kernel_rfl) rfl ?_
 | refine zdq (id := 13) rfl (by kernel_rfl) [(.p, 0), (.p, 1), (.p, 2), (.p, 3), (.p, 4), (.p, 6), (.p, 7), (.p, 8), (.p, 9), (.p, 11), (.t, 5), (.t, 10), (.o, 12), (.p, 13)] [] (by kernel_rfl) rfl ?_
 | (with_reducible apply zc); (iterate 10 rfl); exact spec_l4Of; exact fun _ => rfl; rfl; rfl; rfl
 | (with_reducible apply zcs); (iterate 10 rfl); exact spec_AddIn (by assumption) (by assumption); exact fun _ => rfl; exact fun _ => rfl; rfl; rfl; rfl; rfl
 | (with_reducible apply zcf); (iterate 10 rfl); exact spec_l4Put (by assumption) (by omega); rfl; rfl; rfl; rfl; rfl
 | fail)
    all_goals first
      | exact endR (i + 1, putB xs (rd g i).Account (rd g i).Instr (balOf xs (rd g i).Account (rd g i).Instr + (rd g i).Amount)) [0, 1, 2, 4] ⟨rfl, rfl, rfl, rfl, rfl, rfl, rfl, rfl⟩ ⟨⟨by dsimp only; omega, by dsimp only; omega⟩, by dsimp only; rw [pO_succ ⟨h0.1, by assumption⟩, ← hxs]; rfl, ⟨putB_sd hsd _ _ _, putB_amt hsd hamt (by assumption)⟩, (by dsimp only; have := putB_len hsd (rd g i).Account (rd g i).Instr (balOf xs (rd g i).Account (rd g i).Instr + (rd g i).Amount); omega), all_step hall (by unfold postAt; rw [← hxs]; assumption)⟩ (by first | omega | (dsimp only; omega))
      | (rw [bp_4 hok hlo (fun k => absurd (k i h0.1 (by assumption)) (by unfold postAt; rw [← hxs]; assumption))]
         exact endV [0, 1, 2, 5] rfl rfl rfl rfl rfl rfl)
  repeat' (first
 | (intro h9; exfalso; first | contradiction | omega)
 | (with_reducible apply zds); exact tk; rfl; rfl; rfl; rfl; rfl
 | (with_reducible apply zd); rfl; exact tk; rfl
 | (with_reducible first | intro _ | apply wseq | apply zreg | apply thenQ_n | apply thenQ_r | apply thenQ_e | apply znil | apply wret | apply bodyQ_r | apply wblk | apply blkQ_n | apply blkQ_r | apply wskip | apply wexit)
 | apply wcf rfl
 | (with_reducible apply blkQ_x rfl)
 | (with_reducible apply zcmp); rfl; exact tk; rfl; rfl; rfl
 | fail)
  rename_i hil
  have e : xs = pO l g := hxs.trans (by rw [pf_all hil])
  have hfit : postFit l g := fun j h0 h1 => hall j h0 (by omega)
  clear hxs hba hga
  subst e
  refine wlp (X := Int) [0, 1, 2, 9] [0, 1, 2, 3] (fun k => [(13, I k)]) (fun _ => []) (fun k => 0 ≤ k ∧ k ≤ g.length ∧ ∀ j : Int, 0 ≤ j → j < k → ¬ (fun x : Leg => ¬ (x.Account ∈ sh) ∧ balOf (pO l g) x.Account x.Instr < 0) (rd g j)) (fun k => (g.length - k).toNat) 0 ⟨by omega, by omega, fun j h0 h1 => by omega⟩ rfl rfl (fun _ => rfl) (fun _ => rfl) ⟨rfl, rfl, rfl, rfl, rfl, rfl, rfl, rfl⟩ (fun k hk => ?_)
  obtain ⟨k0, hk, hall2⟩ := hk
  repeat' (first
 | (with_reducible apply zds); exact tk; rfl; rfl; rfl; rfl; rfl
 | (with_reducible apply zd); rfl; exact tk; rfl
 | (with_reducible first | intro _ | apply wseq | apply zreg | apply thenQ_n | apply thenQ_r | apply thenQ_e | apply znil | apply wret | apply bodyQ_r | apply wblk | apply blkQ_n | apply blkQ_r | apply wskip | apply wexit)
 | apply wct rfl
 | apply wcf rfl
 | (with_reducible apply blkQ_x rfl)
 | (with_reducible apply zcmp); rfl; exact tk; rfl; rfl; rfl
 | (with_reducible apply zar); rfl; rfl; rfl; rfl; (first | omega | ((try simp only [List.length_append, List.length_cons, List.length_nil, List.length_map]); (try dsimp only); omega)); rfl; rfl
 | (with_reducible apply zix); rfl; exact tk; (iterate 7 rfl); (first | omega | ((try simp only [List.length_append, List.length_cons, List.length_nil, List.length_map]); (try dsimp only); omega)); rfl; rfl
 | (with_reducible apply zle); rfl; exact tk; rfl; rfl; rfl; rfl; (first | omega | ((try simp only [List.length_append, List.length_cons, List.length_nil, List.length_map]); (try dsimp only); omega)); rfl; rfl; rfl; rfl
 | (with_reducible apply zlit (α := Bal) (e := 135)); rfl; exact tk; (iterate 13 rfl)
 | (with_reducible apply zap); rfl; exact tk; (iterate 10 rfl); (first | omega | ((try simp only [List.length_append, List.length_cons, List.length_nil, List.length_map]); (try dsimp only); omega)); rfl; rfl; rfl; rfl; rfl
 | refine zdq (id := 17) rfl (by kernel_rfl) [(.p, 0), (.p, 1), (.p, 2), (.p, 3), (.p, 4), (.p, 6), (.p, 7), (.p, 8), (.p, 9), (.t, 5), (.t, 10), (.o, 11), (.p, 12), (.p, 13), (.p, 14), (.p, 15), (.p, 16), (.p, 17), (.p, 18), (.t, 19), (.o, 20), (.p, 21), (.p, 22)] [] (by kernel_rfl) rfl ?_
 | (with_reducible apply zcp); (iterate 10 rfl); (first | exact spec_BalsOk | exact spec_l4LegsRight | exact spec_LegsOk | exact spec_l4Has); rfl; rfl
 | (with_reducible apply zc); (iterate 10 rfl); exact spec_l4Of; exact fun _ => rfl; rfl; rfl; rfl
 | fail)
  all_goals first
    | (rw [bp_3 hok hlo hfit ⟨rd g k, rd_mem ⟨k0, by assumption⟩, by assumption, by assumption⟩]
       exact endV [0, 1, 2, 5] rfl rfl rfl rfl rfl rfl)
    | exact endR (k + 1) [0, 1, 2, 3] ⟨rfl, rfl, rfl, rfl, rfl, rfl, rfl, rfl⟩ ⟨by omega, by omega, all_step hall2 (fun e => by first | exact e.1 (by assumption) | exact absurd e.2 (by assumption))⟩ (by first | omega | (dsimp only; omega))
    | (have hno := no_rd (q := fun x : Leg => ¬ (x.Account ∈ sh) ∧ balOf (pO l g) x.Account x.Instr < 0) (by assumption) hall2
       first
       | (rw [bp_5 hok hlo hfit hno (by omega)]
          exact endV [0, 1, 2, 5] rfl rfl rfl rfl rfl rfl)
       | (rw [bp_0 hok hlo hfit hno (by omega)]
          exact endV [0, 1, 2, 3] rfl rfl rfl rfl rfl rfl))
end Go.Proofs.YtgehbhkfehmdkaaGreat.Sh
namespace Go.Proofs.YtgehbhkfehmdkaaGreat.Sh
open Go.RowKit
set_option linter.unusedVariables false
set_option linter.unusedSimpArgs false
noncomputable def pCode (n : Int) : Int := pick (n = 0) 0 (pick (n = 3) 5 (pick (n = 4) 8 (pick (n = 5) 7 1)))
set_option maxHeartbeats 4000000 in
theorem impl_postCode {n : Int} : FC Tryz.prog 224 [I n] ([]) (I (pCode n)) ([]) := by
  refine fent tk 12 [.tmp 2] Tryz.func224 (by kernel_rfl) rfl rfl rfl rfl rfl rfl rfl ?_
  repeat' (first
 | (with_reducible apply zd); rfl; exact tk; rfl
 | (with_reducible first | intro _ | apply wseq | apply zreg | apply thenQ_n | apply thenQ_r | apply thenQ_e | apply znil | apply wret | apply bodyQ_r | apply wblk | apply blkQ_n | apply blkQ_r | apply wskip | apply wexit)
 | apply wct rfl
 | apply wcf rfl
 | (with_reducible apply zeq); rfl; exact tk; rfl; rfl; rfl; rfl
 | fail)
  all_goals first
    | exact endI [] rfl rfl rfl rfl rfl rfl (by rw [pCode, pick_t (by assumption)])
    | exact endI [] rfl rfl rfl rfl rfl rfl (by rw [pCode, pick_f (by assumption), pick_t (by assumption)])
    | exact endI [] rfl rfl rfl rfl rfl rfl (by rw [pCode, pick_f (by assumption), pick_f (by assumption), pick_t (by assumption)])
    | exact endI [] rfl rfl rfl rfl rfl rfl (by rw [pCode, pick_f (by assumption), pick_f (by assumption), pick_f (by assumption), pick_t (by assumption)])
    | exact endI [] rfl rfl rfl rfl rfl rfl (by rw [pCode, pick_f (by assumption), pick_f (by assumption), pick_f (by assumption), pick_f (by assumption)])
noncomputable def shA (ba : List Account) : List Int := (flt (fun a => ¬ a.Kind = 1) ba).map Account.No
theorem shA_len (ba : List Account) : (shA ba).length ≤ ba.length := by
  unfold shA
  rw [List.length_map]
  exact flt_le _ _
theorem shA_y {ba : List Account} {i : Int} (h : 0 ≤ i ∧ i < ba.length) (k : ¬ (rd ba i).Kind = 1) : shA (pf ba (i + 1)) = shA (pf ba i) ++ [(rd ba i).No] := by
  unfold shA
  rw [flt_succ h, flt_y (p := fun a : Account => ¬ a.Kind = 1) k, List.map_append]
  rfl
theorem shA_n {ba : List Account} {i : Int} (h : 0 ≤ i ∧ i < ba.length) (k : (rd ba i).Kind = 1) : shA (pf ba (i + 1)) = shA (pf ba i) := by
  unfold shA
  rw [flt_succ h, flt_n (p := fun a : Account => ¬ a.Kind = 1) (fun q => q k), List.append_nil]
set_option maxHeartbeats 4000000 in
theorem spec_l6Short {ba : List Account} {bi : List Instr} {bb : List Bal} {bl : List Lot} {bt : List Trade} {bn : Int} (hl : ba.length ≤ 1000000) : FC Tryz.prog 246 [bkV 0 ⟨ba, bi, bb, bl, bt, bn⟩] (bkR ⟨ba, bi, bb, bl, bt, bn⟩) (.c (.row 5 0 (shA ba).length)) (bkR ⟨ba, bi, bb, bl, bt, bn⟩ ++ [ow 3 (shA ba)]) := by
  refine fent tk 30 [.tmp 2] Tryz.func246 (by kernel_rfl) rfl rfl rfl rfl rfl rfl rfl ?_
  repeat' (first
 | (with_reducible apply zds); exact tk; rfl; rfl; rfl; rfl; rfl
 | (with_reducible apply zd); rfl; exact tk; rfl
 | (with_reducible first | intro _ | apply wseq | apply zreg | apply thenQ_n | apply thenQ_r | apply thenQ_e | apply znil | apply wret | apply bodyQ_r | apply wblk | apply blkQ_n | apply blkQ_r | apply wskip | apply wexit)
 | (with_reducible apply zlit (α := Int) (e := 3)); rfl; exact tk; (iterate 13 rfl)
 | fail)
  refine wlp (X := Int × List Int) [1] [0, 1, 2, 3, 4, 5, 6] (fun x => [(4, I x.1), (3, .c (.row 6 0 x.2.length))]) (fun x => [(6, ow 3 x.2)]) (fun x => (0 ≤ x.1 ∧ x.1 ≤ ba.length) ∧ x.2 = shA (pf ba x.1)) (fun x => (ba.length - x.1).toNat) (0, []) ⟨⟨by dsimp only; omega, by dsimp only; omega⟩, rfl⟩ rfl rfl (fun _ => rfl) (fun _ => rfl) ⟨rfl, rfl, rfl, rfl, rfl, rfl, rfl, rfl⟩ (fun x hx => ?_)
  obtain ⟨i, u⟩ := x
  obtain ⟨h0, hu⟩ := hx
  dsimp only at h0 hu ⊢
  have hul : u.length ≤ 1000000 := by rw [hu]; have := shA_len (pf ba i); have := pf_len h0; omega
  repeat' (first
 | (with_reducible apply zds); exact tk; rfl; rfl; rfl; rfl; rfl
 | (with_reducible apply zd); rfl; exact tk; rfl
 | (with_reducible first | intro _ | apply wseq | apply zreg | apply thenQ_n | apply thenQ_r | apply thenQ_e | apply znil | apply wret | apply bodyQ_r | apply wblk | apply blkQ_n | apply blkQ_r | apply wskip | apply wexit)
 | apply wct rfl
 | apply wcf rfl
 | (with_reducible apply blkQ_x rfl)
 | (with_reducible apply zcmp); rfl; exact tk; rfl; rfl; rfl
 | (with_reducible apply zne); rfl; exact tk; rfl; rfl; rfl; rfl
 | (with_reducible apply zar); rfl; rfl; rfl; rfl; (first | omega | ((try simp only [List.length_append, List.length_cons, List.length_nil, List.length_map]); (try dsimp only); omega)); rfl; rfl
 | (with_reducible apply zix); rfl; exact tk; (iterate 7 rfl); (first | omega | ((try simp only [List.length_append, List.length_cons, List.length_nil, List.length_map]); (try dsimp only); omega)); rfl; rfl
 | (with_reducible apply zle); rfl; exact tk; rfl; rfl; rfl; rfl; (first | omega | ((try simp only [List.length_append, List.length_cons, List.length_nil, List.length_map]); (try dsimp only); omega)); rfl; rfl; rfl; rfl
 | (with_reducible apply zlit (α := Int) (e := 3)); rfl; exact tk; (iterate 13 rfl)
 | (with_reducible apply zap); rfl; exact tk; (iterate 10 rfl); (first | omega | ((try simp only [List.length_append, List.length_cons, List.length_nil, List.length_map]); (try dsimp only); omega)); rfl; rfl; rfl; rfl; rfl
 | fail)
  all_goals first
    | exact endR (i + 1, u ++ [(rd ba i).No]) [0, 1, 2, 3, 4, 5, 8] ⟨rfl, rfl, rfl, rfl, rfl, rfl, rfl, rfl⟩ ⟨⟨by dsimp only; omega, by dsimp only; omega⟩, by dsimp only; rw [shA_y ⟨h0.1, by assumption⟩ (by assumption), hu]⟩ (by first | omega | (dsimp only; omega))
    | exact endR (i + 1, u) [0, 1, 2, 3, 4, 5, 6] ⟨rfl, rfl, rfl, rfl, rfl, rfl, rfl, rfl⟩ ⟨⟨by dsimp only; omega, by dsimp only; omega⟩, by dsimp only; rw [shA_n ⟨h0.1, by assumption⟩ (by assumption), hu]⟩ (by first | omega | (dsimp only; omega))
    | (rw [show shA ba = u from by rw [hu, pf_all (by assumption)]]
       exact endV [0, 1, 2, 3, 4, 6] rfl rfl rfl rfl rfl rfl)
end Go.Proofs.YtgehbhkfehmdkaaGreat.Sh
