/- Netted legs are just what balances they post. No condition. -/
import Derived.Test.YtnlajjoheegbiaaGreatKNeShNt
namespace Go.Proofs.YtnlajjoheegbiaaGreat.Sh
open Go.RowKit
set_option linter.unusedVariables false
set_option linter.unusedSimpArgs false
theorem balOf_iff {l : List Bal} (hs : BSd l) {a c n : Int} (hn : n ≠ 0) : balOf l a c = n ↔ (⟨a, c, n⟩ : Bal) ∈ l := by
  constructor
  · intro h
    obtain ⟨x, hx, h1, h2, h3⟩ := balOf_ex1 (l := l) (a := a) (c := c) (by omega)
    have : x = ⟨a, c, n⟩ := by
      cases x
      simp only at h1 h2 h3
      subst h1; subst h2; rw [h3, h]
    rw [← this]
    exact hx
  · intro h
    obtain ⟨i, hi, e⟩ := mem_rd h
    have := balOf_at (l := l) (a := a) (c := c) (i := i) hi (fun j h0 h1 k => by
      have := hs.lt h0 h1 hi.2
      rw [e, k.1, k.2] at this
      dsimp only at this
      unfold bef at this
      omega) (by rw [e]; exact ⟨rfl, rfl⟩)
    rw [this, e]
theorem sorted_eq {l m : List Bal} (hl : l.Pairwise befB) (hm : m.Pairwise befB) (h : ∀ x, x ∈ l ↔ x ∈ m) : l = m := by
  induction l generalizing m with
  | nil =>
    cases m with
    | nil => rfl
    | cons y m => exact absurd ((h y).2 (by simp)) (by simp)
  | cons x l ih =>
    cases m with
    | nil => exact absurd ((h x).1 (by simp)) (by simp)
    | cons y m =>
      rw [List.pairwise_cons] at hl hm
      have e : x = y := by
        have h1 := (h x).1 (by simp)
        have h2 := (h y).2 (by simp)
        rcases List.mem_cons.1 h1 with h1 | h1
        · exact h1
        · rcases List.mem_cons.1 h2 with h2 | h2
          · exact h2.symm
          · have a := hm.1 x h1
            have b := hl.1 y h2
            unfold befB bef at a b
            omega
      subst e
      rw [ih hl.2 hm.2 (fun z => ?_)]
      have hz := h z
      simp only [List.mem_cons] at hz
      constructor
      · intro k
        rcases hz.1 (.inr k) with rfl | q
        · have := hl.1 z k
          unfold befB bef at this
          omega
        · exact q
      · intro k
        rcases hz.2 (.inr k) with rfl | q
        · have := hm.1 z k
          unfold befB bef at this
          omega
        · exact q
theorem bals_ext {l m : List Bal} (hl : BSd l) (hm : BSd m) (h0 : ∀ x ∈ l, x.Amount ≠ 0) (h1 : ∀ x ∈ m, x.Amount ≠ 0) (h : ∀ a c, balOf l a c = balOf m a c) : l = m := by
  refine sorted_eq (BSd_iff.1 hl) (BSd_iff.1 hm) (fun x => ?_)
  constructor
  · intro k
    have := (balOf_iff hl (h0 x k)).2 k
    rw [h] at this
    exact (balOf_iff hm (h0 x k)).1 this
  · intro k
    have := (balOf_iff hm (h1 x k)).2 k
    rw [← h] at this
    exact (balOf_iff hl (h1 x k)).1 this
theorem balOf_put {l : List Bal} (hs : BSd l) (a c n a' c' : Int) : balOf (putB l a c n) a' c' = if a' = a ∧ c' = c then n else balOf l a' c' := by
  have hp := putB_sd hs a c n
  have hmem : ∀ m : Int, m ≠ 0 → ((⟨a', c', m⟩ : Bal) ∈ putB l a c n ↔ (a' = a ∧ c' = c ∧ m = n) ∨ ((⟨a', c', m⟩ : Bal) ∈ l ∧ ¬ (a' = a ∧ c' = c))) := by
    intro m hm
    rw [putB_split hs]
    have hd := drop_nb hs a c
    have hl2 : (⟨a', c', m⟩ : Bal) ∈ l ↔ (⟨a', c', m⟩ : Bal) ∈ pf l (bIx l a c) ∨ (⟨a', c', m⟩ : Bal) ∈ l.drop (bIx l a c).toNat := by
      conv => lhs; rw [← List.take_append_drop (bIx l a c).toNat l]
      rw [List.mem_append]
      rfl
    have hpn : (⟨a', c', m⟩ : Bal) ∈ pf l (bIx l a c) → ¬ (a' = a ∧ c' = c) := fun h => pf_neB _ h
    simp only [List.mem_append, flt_mem, hl2, neB]
    constructor
    · rintro ((h | h) | ⟨h, h2⟩)
      · exact .inr ⟨.inl h, hpn h⟩
      · split at h
        · cases h
        · simp only [List.mem_singleton, Bal.mk.injEq] at h
          exact .inl h
      · exact .inr ⟨.inr h, h2⟩
    · rintro (⟨h1, h2, h3⟩ | ⟨h | h, h2⟩)
      · subst h1; subst h2; subst h3
        exact .inl (.inr (by rw [if_neg hm]; simp))
      · exact .inl (.inl h)
      · exact .inr ⟨h, h2⟩
  by_cases e : balOf (putB l a c n) a' c' = 0
  · rw [e]
    split
    · rename_i h
      by_cases hn : n = 0
      · exact hn.symm
      · have := (balOf_iff hp hn).2 ((hmem n hn).2 (.inl ⟨h.1, h.2, rfl⟩))
        omega
    · rename_i h
      by_cases hb : balOf l a' c' = 0
      · exact hb.symm
      · have := (balOf_iff hp hb).2 ((hmem _ hb).2 (.inr ⟨(balOf_iff hs hb).1 rfl, h⟩))
        omega
  · have := (hmem _ e).1 ((balOf_iff hp e).1 rfl)
    rcases this with ⟨h1, h2, h3⟩ | ⟨h1, h2⟩
    · rw [if_pos ⟨h1, h2⟩, h3]
    · rw [if_neg h2]
      exact ((balOf_iff hs e).2 h1).symm
theorem putB_nz {l : List Bal} (hs : BSd l) (h : ∀ x ∈ l, x.Amount ≠ 0) (a c n : Int) : ∀ x ∈ putB l a c n, x.Amount ≠ 0 := by
  intro x hx
  rw [putB_split hs] at hx
  simp only [List.mem_append] at hx
  rcases hx with (k | k) | k
  · exact h x (List.mem_of_mem_take k)
  · split at k
    · cases k
    · rename_i hn
      simp only [List.mem_singleton] at k
      rw [k]
      exact hn
  · exact h x (List.mem_of_mem_drop (flt_mem.1 k).1)
def toB (x : Leg) : Bal := ⟨x.Account, x.Instr, x.Amount⟩
def lb (L : List Leg) : List Bal := L.map toB
def nz (x : Bal) : Prop := ¬ x.Amount = 0
theorem lb_len (L : List Leg) : (lb L).length = L.length := by simp [lb]
theorem rd_lb {L : List Leg} {j : Int} (h : 0 ≤ j ∧ j < L.length) : rd (lb L) j = toB (rd L j) := by
  rw [rd_get (l := lb L) (by rw [lb_len]; omega), rd_get (l := L) (by omega)]
  simp [lb]
theorem nIx_bIx (L : List Leg) (a c : Int) : bIx (lb L) a c = nIx L a c := by
  have hn := nIx_nn L a c
  refine bIx_eq ⟨hn.1, by rw [lb_len]; exact hn.2⟩ (fun j h0 h1 => ?_) (fun h => ?_)
  · rw [rd_lb ⟨h0, by omega⟩]
    exact nIx_bef h0 h1
  · rw [lb_len] at h
    rw [rd_lb ⟨hn.1, h⟩]
    exact nIx_at h
noncomputable def zB (l : List Bal) (a c m : Int) : List Bal := pf l (bIx l a c) ++ [⟨a, c, m⟩] ++ flt (neB a c) (l.drop (bIx l a c).toNat)
theorem zB_put {l : List Bal} (hs : BSd l) (a c : Int) {m : Int} (h : m ≠ 0) : zB l a c m = putB l a c m := by rw [putB_split hs, if_neg h]; rfl
theorem zB_sd {l : List Bal} (hs : BSd l) (a c m : Int) : BSd (zB l a c m) := by
  have h1 := putB_sd hs a c 1
  rw [← zB_put hs a c (by decide)] at h1
  rw [BSd_iff] at *
  have e : (zB l a c m).map (fun x => (x.Account, x.Instr)) = (zB l a c 1).map (fun x => (x.Account, x.Instr)) := by simp [zB]
  have k : ∀ t : List Bal, t.Pairwise befB ↔ (t.map (fun x => (x.Account, x.Instr))).Pairwise (fun p q => bef p.1 p.2 q.1 q.2) := fun t => by
    rw [List.pairwise_map]
    rfl
  rw [k, e, ← k]
  exact h1
theorem flt_zB {l : List Bal} (hs : BSd l) (a c m : Int) : flt nz (zB l a c m) = flt nz (putB l a c m) := by
  rw [putB_split hs, zB]
  by_cases h : m = 0
  · rw [if_pos h, flt_append, flt_append, flt_append, flt_append, flt_n (p := nz) (x := (⟨a, c, m⟩ : Bal)) (fun k => k h)]
    rfl
  · rw [if_neg h]
theorem flt_sd {l : List Bal} (hs : BSd l) (p : Bal → Prop) : BSd (flt p l) := BSd_iff.2 ((BSd_iff.1 hs).sublist List.filter_sublist)
theorem balOf_flt {l : List Bal} (hs : BSd l) (a c : Int) : balOf (flt nz l) a c = balOf l a c := by
  have hf := flt_sd hs nz
  by_cases e : balOf l a c = 0
  · by_cases e2 : balOf (flt nz l) a c = 0
    · rw [e, e2]
    · have := (balOf_iff hs e2).2 (flt_mem.1 ((balOf_iff hf e2).1 rfl)).1
      exact this.symm
  · exact (balOf_iff hf e).2 (flt_mem.2 ⟨(balOf_iff hs e).1 rfl, e⟩)
theorem flt_put {l : List Bal} (hs : BSd l) (a c m : Int) : flt nz (putB l a c m) = putB (flt nz l) a c m := by
  refine bals_ext (flt_sd (putB_sd hs a c m) _) (putB_sd (flt_sd hs _) a c m) (fun x hx => (flt_mem.1 hx).2) (putB_nz (flt_sd hs _) (fun x hx => (flt_mem.1 hx).2) a c m) (fun a' c' => ?_)
  rw [balOf_flt (putB_sd hs a c m), balOf_put hs, balOf_put (flt_sd hs _), balOf_flt hs]
theorem drop_has {l : List Bal} (hs : BSd l) {a c : Int} (h : bHas l a c) : flt (neB a c) (l.drop (bIx l a c).toNat) = l.drop ((bIx l a c).toNat + 1) := by
  have e1 : flt (neB a c) l = pf l (bIx l a c) ++ flt (neB a c) (l.drop (bIx l a c).toNat) := by
    have e1 : l = pf l (bIx l a c) ++ l.drop (bIx l a c).toNat := (List.take_append_drop _ _).symm
    conv => lhs; rw [e1]
    rw [flt_append, flt_id pf_neB]
  have e2 : flt (neB a c) l = pf l (bIx l a c) ++ l.drop ((bIx l a c).toNat + 1) := (flt_woB hs a c).trans (sel_t h)
  exact List.append_cancel_left (e1.symm.trans e2)
theorem lb_nt {L : List Leg} (hs : BSd (lb L)) (a c n : Int) : lb (nt L ⟨a, c, n⟩) = zB (lb L) a c (balOf (lb L) a c + n) := by
  have hn := nIx_nn L a c
  by_cases h : nIx L a c < L.length ∧ (rd L (nIx L a c)).Account = a ∧ (rd L (nIx L a c)).Instr = c
  · rw [nt_upd rfl h.1 h.2.1 h.2.2]
    have hh : bHas (lb L) a c := ⟨toB (rd L (nIx L a c)), List.mem_map.2 ⟨_, rd_mem ⟨hn.1, h.1⟩, rfl⟩, h.2.1, h.2.2⟩
    have eb : balOf (lb L) a c = (rd L (nIx L a c)).Amount := by
      rw [balOf_has hs hh, nIx_bIx, rd_lb ⟨hn.1, h.1⟩]
      rfl
    rw [zB, drop_has hs hh, nIx_bIx, eb]
    have h3 : (nIx L a c).toNat < L.length := by omega
    simp only [lb, upd, pf, h.2.1, h.2.2]
    rw [List.set_eq_take_append_cons_drop, if_pos h3]
    simp [toB, List.map_take, List.map_drop]
  · rw [nt_ins rfl h]
    have hh : ¬ bHas (lb L) a c := fun k => by
      obtain ⟨k1, k2, k3⟩ := bHas_ix hs k
      rw [nIx_bIx, lb_len] at k1
      rw [nIx_bIx, rd_lb ⟨hn.1, k1⟩] at k2 k3
      exact h ⟨k1, k2, k3⟩
    rw [zB, flt_id (p := neB a c) (l := List.drop (bIx (lb L) a c).toNat (lb L)) (fun y hy k => hh ⟨y, List.mem_of_mem_drop hy, k⟩), nIx_bIx, balOf_not hh, Int.zero_add]
    simp [lb, ins, pf, toB, List.map_take, List.map_drop]
theorem nt_step {L : List Leg} (hs : BSd (lb L)) (x : Leg) : BSd (lb (nt L x)) ∧ flt nz (lb (nt L x)) = stepB (flt nz (lb L)) x := by
  have e := lb_nt hs x.Account x.Instr x.Amount
  rw [show nt L x = nt L ⟨x.Account, x.Instr, x.Amount⟩ from rfl, e]
  refine ⟨zB_sd hs _ _ _, ?_⟩
  rw [flt_zB hs, flt_put hs, stepB, balOf_flt hs]
theorem nt_all {G L : List Leg} (hs : BSd (lb L)) : BSd (lb (G.foldl nt L)) ∧ flt nz (lb (G.foldl nt L)) = G.foldl stepB (flt nz (lb L)) := by
  induction G generalizing L with
  | nil => exact ⟨hs, rfl⟩
  | cons x G ih =>
    obtain ⟨h1, h2⟩ := nt_step hs x
    obtain ⟨h3, h4⟩ := ih h1
    exact ⟨h3, by rw [List.foldl_cons, List.foldl_cons, h4, h2]⟩
end Go.Proofs.YtnlajjoheegbiaaGreat.Sh
