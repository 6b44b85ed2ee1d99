/- Balances behind legs: what stays right. No condition. -/
import Derived.Test.YtnlajjoheegbiaaGreatShLg
namespace Go.Proofs.YtnlajjoheegbiaaGreat.Sh
open Go.RowKit
set_option linter.unusedVariables false
set_option linter.unusedSimpArgs false
def befB (x y : Bal) : Prop := bef x.Account x.Instr y.Account y.Instr
theorem rd_get {α : Type} [Enc α] {l : List α} {i : Int} (h : i.toNat < l.length) : rd l i = l[i.toNat] := by simp [rd, List.getD_eq_getElem?_getD, h]
theorem BSd_iff {l : List Bal} : BSd l ↔ l.Pairwise befB := by
  constructor
  · intro h
    rw [List.pairwise_iff_getElem]
    intro i j hi hj hij
    have := h.lt (i := i) (j := j) (by omega) (by omega) (by omega)
    rw [rd_get (l := l) (i := i) (by omega), rd_get (l := l) (i := j) (by omega)] at this
    exact this
  · intro h i h0 h1
    rw [List.pairwise_iff_getElem] at h
    have := h (i - 1).toNat i.toNat (by omega) (by omega) (by omega)
    rw [rd_get (l := l) (i := i - 1) (by omega), rd_get (l := l) (i := i) (by omega)]
    exact this
theorem putB_split {l : List Bal} (hs : BSd l) (a c n : Int) : putB l a c n = pf l (bIx l a c) ++ (if n = 0 then [] else [⟨a, c, n⟩]) ++ flt (neB a c) (l.drop (bIx l a c).toNat) := by
  have hK := bIx_nn l a c
  have e : flt (neB a c) l = pf l (bIx l a c) ++ flt (neB a c) (l.drop (bIx l a c).toNat) := by
    have e1 : l = pf l (bIx l a c) ++ l.drop (bIx l a c).toNat := (List.take_append_drop _ _).symm
    conv => lhs; rw [e1]
    rw [flt_append, flt_id pf_neB]
  unfold putB
  rw [← flt_woB hs, e]
  by_cases hz : n = 0
  · rw [sel_t hz, if_pos hz, List.append_nil]
  · rw [sel_f hz, if_neg hz, ins_pf hK]
    simp
theorem drop_nb {l : List Bal} (hs : BSd l) (a c : Int) : ∀ y ∈ l.drop (bIx l a c).toNat, ¬ bef y.Account y.Instr a c := by
  intro y hy
  have hK := bIx_nn l a c
  obtain ⟨m, hm, rfl⟩ := List.getElem_of_mem hy
  rw [List.length_drop] at hm
  have e3 : (l.drop (bIx l a c).toNat)[m] = rd l (bIx l a c + m) := by
    have : (bIx l a c + (m : Int)).toNat = (bIx l a c).toNat + m := by omega
    rw [List.getElem_drop, rd_get (by omega)]
    simp only [this]
  rw [e3]
  have ha := bIx_at (l := l) (a := a) (c := c) (by omega)
  by_cases h0 : m = 0
  · subst h0
    simpa using ha
  · have := hs.lt (i := bIx l a c) (j := bIx l a c + m) hK.1 (by omega) (by omega)
    intro k
    exact ha (bef_trans this k)
theorem putB_sd {l : List Bal} (hs : BSd l) (a c n : Int) : BSd (putB l a c n) := by
  have hp := BSd_iff.1 hs
  rw [BSd_iff, putB_split hs]
  have h1 : (pf l (bIx l a c)).Pairwise befB := hp.sublist (List.take_sublist _ _)
  have h2 : (flt (neB a c) (l.drop (bIx l a c).toNat)).Pairwise befB := hp.sublist (List.filter_sublist.trans (List.drop_sublist _ _))
  have h3 : ∀ y ∈ pf l (bIx l a c), bef y.Account y.Instr a c := fun y hy => by
    obtain ⟨j, hj, rfl⟩ := mem_rd hy
    have hn := bIx_nn l a c
    rw [pf_len hn] at hj
    rw [rd_pf ⟨hj.1, hj.2⟩]
    exact bIx_lt hj.1 hj.2
  have h4 : ∀ y ∈ flt (neB a c) (l.drop (bIx l a c).toNat), bef a c y.Account y.Instr := fun y hy => by
    obtain ⟨hy1, hy2⟩ := flt_mem.1 hy
    have hy3 := drop_nb hs a c y hy1
    unfold neB at hy2
    unfold bef at *
    omega
  have h5 : ∀ x ∈ pf l (bIx l a c), ∀ y ∈ flt (neB a c) (l.drop (bIx l a c).toNat), befB x y := fun x hx y hy => bef_trans (h3 x hx) (h4 y hy)
  split
  · rw [List.append_nil, List.pairwise_append]
    exact ⟨h1, h2, h5⟩
  · rw [List.append_assoc, List.pairwise_append]
    refine ⟨h1, List.pairwise_cons.2 ⟨fun y hy => h4 y hy, h2⟩, fun x hx y hy => ?_⟩
    rcases List.mem_cons.1 hy with rfl | hy
    · exact h3 x hx
    · exact h5 x hx y hy
theorem putB_mem {l : List Bal} (hs : BSd l) {a c n : Int} {x : Bal} (h : x ∈ putB l a c n) : x ∈ l ∨ x = ⟨a, c, n⟩ := by
  rw [putB_split hs] at h
  simp only [List.mem_append] at h
  rcases h with (h | h) | h
  · exact .inl (List.mem_of_mem_take h)
  · split at h
    · cases h
    · exact .inr (List.mem_singleton.1 h)
  · exact .inl (List.mem_of_mem_drop (flt_mem.1 h).1)
theorem putB_len {l : List Bal} (hs : BSd l) (a c n : Int) : (putB l a c n).length ≤ l.length + 1 := by
  rw [putB_split hs]
  have h1 := flt_le (neB a c) (l.drop (bIx l a c).toNat)
  have h2 := pf_len (bIx_nn l a c)
  have hK := bIx_nn l a c
  rw [List.length_drop] at h1
  simp only [List.length_append]
  split
  · simp only [List.length_nil]; omega
  · simp only [List.length_cons, List.length_nil]; omega
noncomputable def stepB (o : List Bal) (g : Leg) : List Bal := putB o g.Account g.Instr (balOf o g.Account g.Instr + g.Amount)
noncomputable def pO (l : List Bal) (g : List Leg) : List Bal := g.foldl stepB l
theorem pO_zero (l : List Bal) (g : List Leg) : pO l (pf g 0) = l := rfl
theorem pO_succ {l : List Bal} {g : List Leg} {i : Int} (h : 0 ≤ i ∧ i < g.length) : pO l (pf g (i + 1)) = stepB (pO l (pf g i)) (rd g i) := by
  rw [pf_succ h, pO, List.foldl_append]
  rfl
def amtB (l : List Bal) : Prop := ∀ x ∈ l, amountOk x.Amount
theorem BalsOk.amt {l : List Bal} (h : BalsOk l) : amtB l := fun x hx => by
  obtain ⟨i, hi, rfl⟩ := mem_rd hx
  exact (h.1 i hi.1 hi.2).2.2.1
theorem balOf_ex1 {l : List Bal} {a c : Int} (h : balOf l a c ≠ 0) : ∃ x ∈ l, x.Account = a ∧ x.Instr = c ∧ x.Amount = balOf l a c := by
  unfold balOf at *
  cases hf : l.find? (fun x => decide (x.Account = a ∧ x.Instr = c)) with
  | none => rw [hf] at h; exact absurd rfl h
  | some x =>
    rw [hf] at h
    have := List.find?_some hf
    simp only [decide_eq_true_eq] at this
    exact ⟨x, List.mem_of_find?_eq_some hf, this.1, this.2, rfl⟩
theorem balOf_amt {l : List Bal} (h : amtB l) (a c : Int) : amountOk (balOf l a c) := by
  by_cases e : balOf l a c = 0
  · rw [e]; unfold amountOk inP; omega
  · obtain ⟨x, hx, _, _, e2⟩ := balOf_ex1 e
    rw [← e2]
    exact h x hx
theorem putB_amt {l : List Bal} (hs : BSd l) (h : amtB l) {a c n : Int} (hn : amountOk n) : amtB (putB l a c n) := fun x hx => by
  rcases putB_mem hs hx with h1 | rfl
  · exact h x h1
  · exact hn
end Go.Proofs.YtnlajjoheegbiaaGreat.Sh
