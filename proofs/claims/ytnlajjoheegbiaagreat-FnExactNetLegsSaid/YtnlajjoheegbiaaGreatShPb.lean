/- Lists: filters, first places, what a row holds while things are taken out of it. No condition. -/
import Derived.Test.YtnlajjoheegbiaaGreatShX2
namespace Go.Proofs.YtnlajjoheegbiaaGreat.Sh
open Go.RowKit
set_option linter.unusedVariables false
set_option linter.unusedSimpArgs false
set_option linter.unusedSectionVars false
noncomputable def flt {α : Type} (p : α → Prop) (l : List α) : List α := l.filter (fun x => dB (p x))
noncomputable def fIx {α : Type} (l : List α) (q : α → Prop) : Int := (l.findIdx (fun x => dB (q x)) : Nat)
section
variable {α : Type} [Enc α] {l : List α} {p q : α → Prop}
theorem dB_iff {p : Prop} : dB p = true ↔ p := ⟨dB_of, dB_t⟩
theorem fIx_nn (l : List α) (q : α → Prop) : 0 ≤ fIx l q ∧ fIx l q ≤ l.length := ⟨by unfold fIx; omega, by unfold fIx; have := List.findIdx_le_length (xs := l) (p := fun x => dB (q x)); omega⟩
theorem fIx_eq {i : Int} (h0 : 0 ≤ i ∧ i < l.length) (hb : ∀ j : Int, 0 ≤ j → j < i → ¬ q (rd l j)) (hi : q (rd l i)) : fIx l q = i := idx_eq ⟨h0.1, by omega⟩ (fun j h1 h2 => by rw [dB_iff]; exact hb j h1 h2) (fun _ => dB_t hi)
theorem fIx_lt (h : ∃ x ∈ l, q x) : fIx l q < l.length := by
  obtain ⟨x, hx, hq⟩ := h
  have : l.findIdx (fun x => dB (q x)) < l.length := List.findIdx_lt_length_of_exists ⟨x, hx, dB_t hq⟩
  unfold fIx
  omega
theorem fIx_at (h : ∃ x ∈ l, q x) : q (rd l (fIx l q)) := by
  have h1 := fIx_lt h
  have h1' : l.findIdx (fun x => dB (q x)) < l.length := by unfold fIx at h1; omega
  have h2 := List.findIdx_getElem (w := h1')
  have e : l[l.findIdx (fun x => dB (q x))] = rd l (fIx l q) := by
    show _ = l.getD ((l.findIdx (fun x => dB (q x)) : Nat) : Int).toNat _
    rw [Int.toNat_natCast, List.getD_eq_getElem?_getD, List.getElem?_eq_getElem h1']
    rfl
  rw [e] at h2
  exact dB_of h2
theorem fIx_bef {j : Int} (h0 : 0 ≤ j) (h : j < fIx l q) : ¬ q (rd l j) := by
  have h1 : j.toNat < l.findIdx (fun x => dB (q x)) := by unfold fIx at h; omega
  have h2 := List.not_of_lt_findIdx h1
  have hl : j.toNat < l.length := by have := List.findIdx_le_length (xs := l) (p := fun x => dB (q x)); omega
  have e : l[j.toNat] = rd l j := by simp [rd, List.getD_eq_getElem?_getD, hl]
  rw [e] at h2
  exact dB_not (by simpa using h2)
theorem no_rd {i : Int} (hi : ¬ i < l.length) (h : ∀ j : Int, 0 ≤ j → j < i → ¬ q (rd l j)) : ¬ ∃ x ∈ l, q x := by
  rintro ⟨x, hx, hq⟩
  obtain ⟨j, hj, rfl⟩ := mem_rd hx
  exact h j hj.1 (by omega) hq
theorem flt_nil (p : α → Prop) : flt p [] = [] := rfl
theorem flt_append (a b : List α) : flt p (a ++ b) = flt p a ++ flt p b := List.filter_append _ _
theorem flt_y {x : α} (h : p x) : flt p [x] = [x] := by simp [flt, dB_t h]
theorem flt_n {x : α} (h : ¬ p x) : flt p [x] = [] := by simp [flt, dB_f h]
theorem flt_cy {x : α} {a : List α} (h : p x) : flt p (x :: a) = x :: flt p a := by simp [flt, dB_t h]
theorem flt_cn {x : α} {a : List α} (h : ¬ p x) : flt p (x :: a) = flt p a := by simp [flt, dB_f h]
theorem flt_le (p : α → Prop) (l : List α) : (flt p l).length ≤ l.length := List.length_filter_le _ _
theorem flt_all (h : ∀ x ∈ l, ¬ q x) : flt (fun x => ¬ q x) l = l := List.filter_eq_self.2 fun x hx => dB_t (h x hx)
theorem flt_mem {x : α} : x ∈ flt p l ↔ x ∈ l ∧ p x := by simp [flt, dB_iff]
theorem flt_congr {p' : α → Prop} (h : ∀ x ∈ l, (p x ↔ p' x)) : flt p l = flt p' l := List.filter_congr fun x hx => by
  by_cases e : p x
  · rw [dB_t e, dB_t ((h x hx).1 e)]
  · rw [dB_f e, dB_f (fun k => e ((h x hx).2 k))]
theorem flt_succ {i : Int} (h : 0 ≤ i ∧ i < l.length) : flt p (pf l (i + 1)) = flt p (pf l i) ++ flt p [rd l i] := by rw [pf_succ h, flt_append]
/-- What a row holds while things are taken out of it. -/
structure DfI (l : List α) (q : α → Prop) (i j : Int) (xs : List α) : Prop where
  bnd : 0 ≤ i ∧ i < j ∧ j ≤ l.length
  len : xs.length = l.length
  pre : xs.take i.toNat = flt (fun x => ¬ q x) (pf l j)
  suf : xs.drop j.toNat = l.drop j.toNat
theorem DfI.init (h : ∃ x ∈ l, q x) : DfI l q (fIx l q) (fIx l q + 1) l := by
  have h1 := fIx_lt h
  have h2 := fIx_nn l q
  refine ⟨⟨h2.1, by omega, by omega⟩, rfl, ?_, rfl⟩
  rw [flt_succ ⟨h2.1, h1⟩, flt_n (fun k => k (fIx_at h)), List.append_nil]
  refine (flt_all fun x hx => ?_).symm
  obtain ⟨j, hj, rfl⟩ := mem_rd (l := pf l (fIx l q)) hx
  rw [pf_len ⟨h2.1, by omega⟩] at hj
  rw [rd_pf hj]
  exact fIx_bef hj.1 hj.2
theorem DfI.rd {i j : Int} {xs : List α} (h : DfI l q i j xs) (hj : j < l.length) : Sh.rd xs j = Sh.rd l j := by
  have h1 := h.suf
  have h2 := h.bnd
  have e1 := drop_at (l := xs) (i := j) ⟨by omega, by rw [h.len]; exact hj⟩
  have e2 := drop_at (l := l) (i := j) ⟨by omega, hj⟩
  rw [e1, e2] at h1
  exact (List.cons.inj h1).1
theorem DfI.skip {i j : Int} {xs : List α} (h : DfI l q i j xs) (hj : j < l.length) (hq : q (Sh.rd xs j)) : DfI l q i (j + 1) xs := by
  have h2 := h.bnd
  refine ⟨⟨h2.1, by omega, by omega⟩, h.len, ?_, ?_⟩
  · rw [flt_succ ⟨by omega, hj⟩, flt_n (fun k => k (by rw [← h.rd hj]; exact hq)), List.append_nil]
    exact h.pre
  · have e1 := drop_at (l := xs) (i := j) ⟨by omega, by rw [h.len]; exact hj⟩
    have e2 := drop_at (l := l) (i := j) ⟨by omega, hj⟩
    have h1 := h.suf
    rw [e1, e2] at h1
    exact (List.cons.inj h1).2
theorem DfI.keep {i j : Int} {xs : List α} (h : DfI l q i j xs) (hj : j < l.length) (hq : ¬ q (Sh.rd xs j)) : DfI l q (i + 1) (j + 1) (upd xs i (Sh.rd xs j)) := by
  have h2 := h.bnd
  have hlen := h.len
  refine ⟨⟨by omega, by omega, by omega⟩, by rw [upd_len]; exact h.len, ?_, ?_⟩
  · rw [flt_succ ⟨by omega, hj⟩, flt_y (p := fun x => ¬ q x) (by rw [← h.rd hj]; exact hq), ← h.pre, show (i + 1).toNat = i.toNat + 1 from by omega, List.take_add_one, upd, List.take_set_of_le (Nat.le_refl _), List.getElem?_set_self (by omega), h.rd hj]
    rfl
  · have e1 := drop_at (l := xs) (i := j) ⟨by omega, by rw [h.len]; exact hj⟩
    have e2 := drop_at (l := l) (i := j) ⟨by omega, hj⟩
    have h1 := h.suf
    rw [e1, e2] at h1
    rw [← (List.cons.inj h1).2, upd, List.drop_set_of_lt (by omega)]
theorem DfI.fin {i j : Int} {xs : List α} (h : DfI l q i j xs) (hj : ¬ j < l.length) : xs.take i.toNat = flt (fun x => ¬ q x) l := by rw [h.pre, pf_all hj]
theorem DfI.len2 {i j : Int} {xs : List α} (h : DfI l q i j xs) (hj : ¬ j < l.length) : i.toNat = (flt (fun x => ¬ q x) l).length := by
  rw [← h.fin hj, List.length_take]
  have := h.bnd
  have := h.len
  omega
end
end Go.Proofs.YtnlajjoheegbiaaGreat.Sh
