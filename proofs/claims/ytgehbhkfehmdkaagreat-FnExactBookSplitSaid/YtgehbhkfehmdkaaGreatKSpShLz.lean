/- Lots told anew. No condition. -/
import Derived.Test.YtgehbhkfehmdkaaGreatKSpShPv
import Derived.Test.YtgehbhkfehmdkaaGreatKSpShTk
namespace Go.Proofs.YtgehbhkfehmdkaaGreat.Sh
open Go.RowKit
set_option linter.unusedVariables false
set_option linter.unusedSimpArgs false
def scX (own : List Lot) (sh : List Int) (k : Int) : Lot := ⟨(rd own k).Account, (rd own k).Instr, (rd own k).No, rd sh k, (rd own k).Cost⟩
def scA (own : List Lot) (sh : List Int) (i : Int) : List Lot := mkl i.toNat (scX own sh)
noncomputable def scL (own : List Lot) (sh : List Int) (i : Int) : List Lot := flt (fun x : Lot => ¬ x.Qty = 0) (scA own sh i)
def scZ (x : Lot) : Int := if x.Qty = 0 then x.Cost else 0
def scC (own : List Lot) (sh : List Int) (i : Int) : Int := sumF scZ (scA own sh i)
section
variable {own : List Lot} {sh : List Int} {i : Int}
theorem scA_succ (h : 0 ≤ i) : scA own sh (i + 1) = scA own sh i ++ [scX own sh i] := mkl_succ h
theorem scA_len (h : 0 ≤ i) : ((scA own sh i).length : Int) = i := by rw [scA, mkl_len]; omega
theorem scL_y (h : 0 ≤ i) (e : ¬ rd sh i = 0) : scL own sh (i + 1) = scL own sh i ++ [⟨(rd own i).Account, (rd own i).Instr, (rd own i).No, rd sh i, (rd own i).Cost⟩] := by
  rw [scL, scA_succ h, flt_append, flt_y (p := fun x : Lot => ¬ x.Qty = 0) (x := scX own sh i) e]
  rfl
theorem scL_n (h : 0 ≤ i) (e : rd sh i = 0) : scL own sh (i + 1) = scL own sh i := by
  rw [scL, scA_succ h, flt_append, flt_n (p := fun x : Lot => ¬ x.Qty = 0) (x := scX own sh i) (fun k => k e), List.append_nil]
  rfl
theorem scC_y (h : 0 ≤ i) (e : rd sh i = 0) : scC own sh (i + 1) = scC own sh i + (rd own i).Cost := by
  rw [scC, scA_succ h, sumF_append, sumF_one]
  show scC own sh i + (if rd sh i = 0 then (rd own i).Cost else 0) = _
  rw [if_pos e]
theorem scC_n (h : 0 ≤ i) (e : ¬ rd sh i = 0) : scC own sh (i + 1) = scC own sh i := by
  rw [scC, scA_succ h, sumF_append, sumF_one]
  show scC own sh i + (if rd sh i = 0 then (rd own i).Cost else 0) = _
  rw [if_neg e, Int.add_zero]
theorem scL_len (h : 0 ≤ i) : ((scL own sh i).length : Int) ≤ i := by
  have h1 := flt_le (fun x : Lot => ¬ x.Qty = 0) (scA own sh i)
  have h2 := scA_len (own := own) (sh := sh) h
  unfold scL
  omega
theorem scC_bd (hc : ∀ x ∈ own, 0 ≤ x.Cost ∧ x.Cost ≤ 1000000000000000) : ∀ k : Nat, (k : Int) ≤ own.length → 0 ≤ scC own sh k ∧ scC own sh k ≤ 1000000000000000 * k
  | 0, _ => by show 0 ≤ (0 : Int) ∧ (0 : Int) ≤ _; omega
  | k + 1, hk => by
    have ih := scC_bd hc k (by omega)
    have h1 := hc _ (rd_mem (l := own) (i := k) ⟨by omega, by omega⟩)
    have e : ((k + 1 : Nat) : Int) = (k : Int) + 1 := by omega
    rw [e]
    by_cases q : rd sh k = 0
    · rw [scC_y (by omega) q]; omega
    · rw [scC_n (by omega) q]; omega
end
noncomputable def scF (own : List Lot) (sh : List Int) : List Lot := sel (0 < ((scL own sh own.length).length : Int)) (upd (scL own sh own.length) 0 ⟨(rd (scL own sh own.length) 0).Account, (rd (scL own sh own.length) 0).Instr, (rd (scL own sh own.length) 0).No, (rd (scL own sh own.length) 0).Qty, (rd (scL own sh own.length) 0).Cost + scC own sh own.length⟩) (scL own sh own.length)
theorem pw_of {R : Lot → Lot → Prop} {l : List Lot} (h : l.Pairwise R) {i j : Int} (h0 : 0 ≤ i) (h1 : i < j) (h2 : j < l.length) : R (rd l i) (rd l j) := by
  have q := List.pairwise_iff_getElem.1 h i.toNat j.toNat (by omega) (by omega) (by omega)
  unfold rd
  rw [List.getD_eq_getElem?_getD, List.getD_eq_getElem?_getD, List.getElem?_eq_getElem (by omega : i.toNat < l.length), List.getElem?_eq_getElem (by omega : j.toNat < l.length)]
  exact q
theorem scA_pw {own : List Lot} {sh : List Int} (h : own.Pairwise lb2) : (scA own sh own.length).Pairwise lb2 := pw_rd fun i j h0 h1 h2 => by
  rw [scA_len (by omega)] at h2
  unfold scA
  rw [rd_mkl (by omega), rd_mkl (by omega)]
  exact pw_of h h0 h1 h2
theorem scL_pw {own : List Lot} {sh : List Int} (h : own.Pairwise lb2) : (scL own sh own.length).Pairwise lb2 := (scA_pw h).filter _
theorem scL_of {own : List Lot} {sh : List Int} {a c : Int} (h : ∀ x ∈ own, x.Account = a ∧ x.Instr = c) : ∀ x ∈ scL own sh own.length, x.Account = a ∧ x.Instr = c := fun x hx => by
  obtain ⟨k, hk, rfl⟩ := mem_rd (flt_mem.1 hx).1
  rw [scA_len (by omega)] at hk
  unfold scA
  rw [rd_mkl (by omega)]
  exact h (rd own k) (rd_mem hk)
theorem up0_pw {l : List Lot} {x : Lot} (h : l.Pairwise lb2) (hl : 0 < (l.length : Int)) (e : x.Account = (rd l 0).Account ∧ x.Instr = (rd l 0).Instr ∧ x.No = (rd l 0).No) : (upd l 0 x).Pairwise lb2 := pw_rd fun i j h0 h1 h2 => by
  rw [upd_len] at h2
  rw [rd_upd_o (Int.le_refl 0) (by omega) (by omega : j ≠ 0)]
  by_cases c : i = 0
  · subst c
    rw [rd_upd_s ⟨Int.le_refl 0, hl⟩]
    have q := pw_of h (Int.le_refl 0) h1 h2
    unfold lb2 at *
    rw [e.1, e.2.1, e.2.2]
    exact q
  · rw [rd_upd_o (Int.le_refl 0) h0 c]
    exact pw_of h h0 h1 h2
theorem scF_wl {l : List Lot} {sh : List Int} {a c : Int} (h : LotsOk l) : WL l (scF (lotsOf l a c) sh) a c (scF (lotsOf l a c) sh) := by
  have h1 := scL_pw (sh := sh) (lotsOf_pw (a := a) (c := c) h.pw)
  have h2 := scL_of (own := lotsOf l a c) (sh := sh) (fun x hx => (lotsOf_mem.1 hx).2)
  by_cases q : 0 < ((scL (lotsOf l a c) sh (lotsOf l a c).length).length : Int)
  · refine ⟨h.pw, ?_, .refl _, fun x hx => ?_⟩
    · rw [scF, sel_t q]
      exact up0_pw h1 q ⟨rfl, rfl, rfl⟩
    · rw [scF, sel_t q] at hx
      obtain ⟨k, hk, rfl⟩ := mem_rd hx
      rw [upd_len] at hk
      by_cases e : k = 0
      · subst e
        rw [rd_upd_s hk]
        exact h2 (rd (scL (lotsOf l a c) sh (lotsOf l a c).length) 0) (rd_mem hk)
      · rw [rd_upd_o (Int.le_refl 0) hk.1 e]
        exact h2 _ (rd_mem hk)
  · refine ⟨h.pw, ?_, .refl _, fun x hx => ?_⟩
    · rw [scF, sel_f q]
      exact h1
    · rw [scF, sel_f q] at hx
      exact h2 x hx
theorem sum_qty (own : List Lot) : sumF id (own.map Lot.Qty) = sQ own := by
  induction own with
  | nil => rfl
  | cons x own ih =>
    rw [List.map_cons, sumF_cons, ih, sQ, sQ, sumF_cons]
    rfl
theorem own_sh {l : List Lot} {a c q : Int} (h : LotsOk l) (h0 : 0 < ((lotsOf l a c).length : Int)) (h4 : ¬ (lotsOf l a c).length > (40 : Int)) (hq : inP q 0 1000000000000000) : shareable q ((lotsOf l a c).map Lot.Qty) := by
  have hx : ∀ x ∈ lotsOf l a c, 1 ≤ x.Qty ∧ x.Qty ≤ 1000000000000000 := fun x hx => by
    obtain ⟨i, hi, rfl⟩ := mem_rd (lotsOf_mem.1 hx).1
    have := (h.1.1 i hi.1 hi.2).1.2.2.2.1
    unfold inP at this
    exact this
  have ho := h.own a c
  have hm : ∀ x ∈ (lotsOf l a c).map Lot.Qty, 0 ≤ x ∧ x ≤ 1000000000000000 := fun x k => by
    obtain ⟨y, hy, rfl⟩ := List.mem_map.1 k
    have := hx y hy
    omega
  have hf := hx _ (rd_mem ⟨Int.le_refl 0, h0⟩)
  have h5 := sumF_mem (fun x k => (hm x k).1) (List.mem_map.2 ⟨_, rd_mem ⟨Int.le_refl 0, h0⟩, rfl⟩ : (rd (lotsOf l a c) 0).Qty ∈ (lotsOf l a c).map Lot.Qty)
  rw [sum_qty] at h5
  refine ⟨⟨⟨by rw [List.length_map]; omega, by rw [List.length_map]; omega⟩, fun x k => hm x k, ?_⟩, hq⟩
  rw [sum_qty]
  exact ⟨by omega, ho.1.2⟩
noncomputable def lotScale (l : List Lot) (a c q : Int) : List Lot × Int :=
  sel (¬ (LotsOk l ∧ inP q 0 1000000000000000)) ([], 1) (sel (¬ 0 < ((lotsOf l a c).length : Int) ∧ ¬ q = 0) (l, 2) (sel (¬ 0 < ((lotsOf l a c).length : Int)) (l, 0) (sel ((lotsOf l a c).length > (40 : Int)) (l, 3) (mrg (lotsNot l a c) (scF (lotsOf l a c) (shs q ((lotsOf l a c).map Lot.Qty))), 0))))
end Go.Proofs.YtgehbhkfehmdkaaGreat.Sh
