/- Lots: two rows as one, what is taken. No condition. -/
import Derived.Test.YtnlajjoheegbiaaGreatKPyShPc
import Derived.Test.YtnlajjoheegbiaaGreatKPyShSo
import Derived.Test.YtnlajjoheegbiaaGreatKPyShMd
namespace Go.Proofs.YtnlajjoheegbiaaGreat.Sh
open Go.RowKit
set_option linter.unusedVariables false
set_option linter.unusedSimpArgs false
set_option linter.unusedSectionVars false
def LG (l : List Lot) : Prop := ∀ x ∈ l, (1 ≤ x.Qty ∧ x.Qty ≤ 1000000000000000) ∧ 0 ≤ x.Cost ∧ x.Cost ≤ 1000000000000000
theorem part_le {k q n : Int} (hk : 0 ≤ k) (hq : 0 ≤ q) (hn : q ≤ n) (h1 : 1 ≤ n) : 0 ≤ k * q / n ∧ k * q / n ≤ k := by
  refine ⟨Int.ediv_nonneg (Int.mul_nonneg hk hq) (by omega), ?_⟩
  have h2 : k * q ≤ k * n := Int.mul_le_mul_of_nonneg_left hn hk
  have h3 := Int.ediv_le_ediv (c := n) (by omega) h2
  rwa [Int.mul_ediv_cancel _ (by omega)] at h3
theorem LG.cons {x : Lot} {r : List Lot} (h : LG (x :: r)) : ((1 ≤ x.Qty ∧ x.Qty ≤ 1000000000000000) ∧ 0 ≤ x.Cost ∧ x.Cost ≤ 1000000000000000) ∧ LG r := ⟨h x (by simp), fun y hy => h y (by simp [hy])⟩
theorem LG.sC_nn {l : List Lot} (h : LG l) : 0 ≤ sC l := sumF_nn (fun x hx => (h x hx).2.1)
theorem LG.sQ_nn {l : List Lot} (h : LG l) : 0 ≤ sQ l := sumF_nn (fun x hx => by have := (h x hx).1.1; omega)
theorem lotsOf_mem {l : List Lot} {a c : Int} {x : Lot} : x ∈ lotsOf l a c ↔ x ∈ l ∧ x.Account = a ∧ x.Instr = c := flt_mem
theorem LotsOk.LG {l : List Lot} (h : LotsOk l) : LG l := fun x hx => by
  obtain ⟨i, hi, rfl⟩ := mem_rd hx
  have := (h.1.1 i hi.1 hi.2).1
  unfold lotF inP at this
  omega
theorem LG.flt {l : List Lot} (h : LG l) (p : Lot → Prop) : LG (flt p l) := fun x hx => h x (flt_mem.1 hx).1
theorem LotsOk.own {l : List Lot} (h : LotsOk l) (a c : Int) : (0 ≤ sQ (lotsOf l a c) ∧ sQ (lotsOf l a c) ≤ 1000000000000000) ∧ 0 ≤ sC (lotsOf l a c) ∧ sC (lotsOf l a c) ≤ 1000000000000000 := by
  have hg := h.LG.flt (fun x => x.Account = a ∧ x.Instr = c)
  have h1 := hg.sQ_nn
  have h2 := hg.sC_nn
  by_cases e : lotsOf l a c = []
  · rw [e]; decide
  · obtain ⟨x, hx⟩ := List.exists_mem_of_ne_nil _ e
    obtain ⟨hx1, hx2, hx3⟩ := lotsOf_mem.1 hx
    have := h.2 x hx1
    rw [hx2, hx3] at this
    unfold amountOk inP at this
    exact ⟨⟨h1, by omega⟩, h2, by omega⟩
end Go.Proofs.YtnlajjoheegbiaaGreat.Sh
namespace Go.Proofs.YtnlajjoheegbiaaGreat.Sh
open Go.RowKit
set_option linter.unusedVariables false
set_option linter.unusedSimpArgs false
set_option linter.unusedSectionVars false
def iota (n : Nat) : List Int := mkl n (fun i => i)
theorem iota_len (n : Nat) : (iota n).length = n := mkl_len _ _
theorem rd_iota {n : Nat} {i : Int} (h : 0 ≤ i ∧ i < n) : rd (iota n) i = i := rd_mkl h
theorem iota_ds (n : Nat) : DS (iota n) 0 n := fun i j h0 h1 h2 => by rw [rd_iota ⟨h0, by omega⟩, rd_iota ⟨by omega, h2⟩]; omega
theorem iota_ex (g : Int → Int) (n : Nat) : ∃ l, Mv (iota n) l 0 n ∧ RS g l 0 n := so_ex (by omega) (by rw [iota_len]; omega) (iota_ds n)
noncomputable def ordS (g : Int → Int) (n : Nat) : List Int := Classical.choose (iota_ex g n)
theorem ordS_mv (g : Int → Int) (n : Nat) : Mv (iota n) (ordS g n) 0 n := (Classical.choose_spec (iota_ex g n)).1
theorem ordS_rs (g : Int → Int) (n : Nat) : RS g (ordS g n) 0 n := (Classical.choose_spec (iota_ex g n)).2
theorem ordS_len (g : Int → Int) (n : Nat) : (ordS g n).length = n := by rw [(ordS_mv g n).len, iota_len]
theorem ordS_eq {g : Int → Int} {n : Nat} {l : List Int} (h : Mv (iota n) l 0 n) (k : RS g l 0 n) : l = ordS g n := RS.uniq (by omega) (by rw [iota_len]; omega) h (ordS_mv g n) k (ordS_rs g n)
theorem ordS_rng {g : Int → Int} {n : Nat} {i : Int} (h : 0 ≤ i ∧ i < n) : 0 ≤ rd (ordS g n) i ∧ rd (ordS g n) i < n := by
  obtain ⟨j, hj, e⟩ := (ordS_mv g n).to i h.1 h.2
  rw [e, rd_iota hj]
  exact hj
theorem ordS_has {g : Int → Int} {n : Nat} {v : Int} (h : 0 ≤ v ∧ v < n) : ∃ i : Int, (0 ≤ i ∧ i < n) ∧ rd (ordS g n) i = v := by
  obtain ⟨j, hj, e⟩ := (ordS_mv g n).from_ v h.1 h.2
  rw [rd_iota h] at e
  exact ⟨j, hj, e.symm⟩
theorem ordS_congr {g g' : Int → Int} {n : Nat} (h : ∀ i : Int, 0 ≤ i → i < n → g i = g' i) : ordS g n = ordS g' n := by
  refine ordS_eq (ordS_mv g n) (fun i j h0 h1 h2 => ?_)
  have := ordS_rs g n i j h0 h1 h2
  have r1 := ordS_rng (g := g) (n := n) (i := i) ⟨h0, by omega⟩
  have r2 := ordS_rng (g := g) (n := n) (i := j) ⟨by omega, h2⟩
  unfold so at *
  rw [← h _ r1.1 r1.2, ← h _ r2.1 r2.2]
  exact this
theorem rd_ins {α : Type} [Enc α] {l : List α} {k p : Int} {x : α} (h : 0 ≤ k ∧ k ≤ l.length) (hp : 0 ≤ p) : rd (ins l k x) p = if p < k then rd l p else if p = k then x else rd l (p - 1) := by
  unfold rd ins
  rw [List.getD_eq_getElem?_getD, List.getD_eq_getElem?_getD, List.getD_eq_getElem?_getD, List.getElem?_append]
  by_cases h1 : p < k
  · rw [if_pos (by rw [List.length_take]; omega), if_pos h1, List.getElem?_take_of_lt (by omega)]
  · rw [if_neg (by rw [List.length_take]; omega), if_neg h1]
    have e : p.toNat - (List.take k.toNat l).length = (p - k).toNat := by rw [List.length_take]; omega
    rw [e]
    by_cases h2 : p = k
    · subst h2
      rw [if_pos rfl, Int.sub_self]
      rfl
    · rw [if_neg h2, show (p - k).toNat = (p - k - 1).toNat + 1 from by omega, List.getElem?_cons_succ, List.getElem?_drop]
      congr 2
      omega
theorem ordS_succ {g : Int → Int} {n : Nat} {k : Int} (hk : 0 ≤ k ∧ k ≤ n) (h1 : k = 0 ∨ ¬ g (rd (ordS g n) (k - 1)) < g n) (h2 : ∀ p : Int, k ≤ p → p < n → g (rd (ordS g n) p) < g n) : ins (ordS g n) k n = ordS g (n + 1) := by
  have hl := ordS_len g n
  have hil : ((ins (ordS g n) k (n : Int)).length : Int) = n + 1 := by rw [ins_len (by omega)]; omega
  have ev : ∀ p : Int, 0 ≤ p → rd (ins (ordS g n) k (n : Int)) p = if p < k then rd (ordS g n) p else if p = k then (n : Int) else rd (ordS g n) (p - 1) := fun p hp => rd_ins (by omega) hp
  refine ordS_eq ⟨by rw [iota_len]; omega, fun i h0 h1' => ?_, fun i h0 h1' => ?_, fun i h0 h1' => ?_⟩ (fun i j h0 h1' h2' => ?_)
  · unfold rd
    rw [List.getD_eq_getElem?_getD, List.getD_eq_getElem?_getD, List.getElem?_eq_none (by omega), List.getElem?_eq_none (by rw [iota_len]; omega)]
  · rw [ev i h0]
    by_cases c1 : i < k
    · rw [if_pos c1]
      have := ordS_rng (g := g) (n := n) (i := i) ⟨h0, by omega⟩
      exact ⟨rd (ordS g n) i, by omega, (rd_iota ⟨this.1, by omega⟩).symm⟩
    · rw [if_neg c1]
      by_cases c2 : i = k
      · rw [if_pos c2]
        exact ⟨n, by omega, (rd_iota ⟨by omega, by omega⟩).symm⟩
      · rw [if_neg c2]
        have := ordS_rng (g := g) (n := n) (i := i - 1) ⟨by omega, by omega⟩
        exact ⟨rd (ordS g n) (i - 1), by omega, (rd_iota ⟨this.1, by omega⟩).symm⟩
  · rw [rd_iota ⟨h0, by omega⟩]
    by_cases e : i = n
    · exact ⟨k, by omega, by rw [ev k hk.1, if_neg (by omega), if_pos rfl, e]⟩
    · obtain ⟨p, hp, e2⟩ := ordS_has (g := g) (n := n) (v := i) ⟨h0, by omega⟩
      by_cases c : p < k
      · exact ⟨p, by omega, by rw [ev p hp.1, if_pos c, e2]⟩
      · exact ⟨p + 1, by omega, by rw [ev _ (by omega), if_neg (by omega), if_neg (by omega), show p + 1 - 1 = p from by omega, e2]⟩
  · have hbef : ∀ p : Int, 0 ≤ p → p < k → so g (rd (ordS g n) p) n := fun p p0 p1 => by
      have r := ordS_rng (g := g) (n := n) (i := k - 1) ⟨by omega, by omega⟩
      have hk1 : so g (rd (ordS g n) (k - 1)) n := by
        unfold so
        rcases h1 with h | h <;> omega
      by_cases e : p = k - 1
      · rw [e]; exact hk1
      · exact so_tr (ordS_rs g n p (k - 1) p0 (by omega) (by omega)) hk1
    rw [ev i h0, ev j (by omega)]
    by_cases c1 : i < k
    · rw [if_pos c1]
      by_cases d1 : j < k
      · rw [if_pos d1]; exact ordS_rs g n i j h0 h1' (by omega)
      · rw [if_neg d1]
        by_cases d2 : j = k
        · rw [if_pos d2]; exact hbef i h0 c1
        · rw [if_neg d2]; exact ordS_rs g n i (j - 1) h0 (by omega) (by omega)
    · rw [if_neg c1]
      by_cases c2 : i = k
      · rw [if_pos c2, if_neg (by omega), if_neg (by omega)]
        exact .inl (h2 (j - 1) (by omega) (by omega))
      · rw [if_neg c2, if_neg (by omega), if_neg (by omega)]
        exact ordS_rs g n (i - 1) (j - 1) (by omega) (by omega) (by omega)
def weightsOk (ws : List Int) : Prop := inP ws.length 1 40 ∧ (∀ x ∈ ws, inP x 0 1000000000000000) ∧ inP (sumF id ws) 1 1000000000000000
def shareable (t : Int) (ws : List Int) : Prop := weightsOk ws ∧ inP t 0 1000000000000000
def shQ (t : Int) (ws : List Int) (w : Int) : Int := t * w / sumF id ws
def shG (t : Int) (ws : List Int) (i : Int) : Int := t * rd ws i % sumF id ws
def shQs (t : Int) (ws : List Int) : List Int := ws.map (shQ t ws)
def shMore (t : Int) (ws : List Int) : Int := t - sumF id (shQs t ws)
noncomputable def shOrd (t : Int) (ws : List Int) : List Int := ordS (shG t ws) ws.length
def inc (o : List Int) (i : Int) : List Int := upd o i (rd o i + 1)
noncomputable def shs (t : Int) (ws : List Int) : List Int := (pf (shOrd t ws) (shMore t ws)).foldl inc (shQs t ws)
theorem sh_sum (t W : Int) (hW : 0 < W) : ∀ ws : List Int, W * sumF id (ws.map (fun w => t * w / W)) + sumF id (ws.map (fun w => t * w % W)) = t * sumF id ws
  | [] => by simp [sumF]
  | w :: ws => by
    have ih := sh_sum t W hW ws
    have h1 := (dm_of (t * w) W hW).1
    rw [List.map_cons, List.map_cons, sumF_cons, sumF_cons, sumF_cons]
    simp only [id]
    rw [Int.mul_add, Int.mul_add, ← ih]
    have : W * (t * w / W) + t * w % W = t * w := h1.symm
    omega
theorem sumF_mem {ws : List Int} (h : ∀ x ∈ ws, 0 ≤ x) {w : Int} (hw : w ∈ ws) : w ≤ sumF id ws := by
  induction ws with
  | nil => cases hw
  | cons x ws ih =>
    rw [sumF_cons]
    have h1 : 0 ≤ sumF id ws := sumF_nn (fun y hy => h y (by simp [hy]))
    have h2 := h x (by simp)
    rcases List.mem_cons.1 hw with rfl | hw
    · simp only [id]; omega
    · have := ih (fun y hy => h y (by simp [hy])) hw
      simp only [id] at *; omega
section
variable {t : Int} {ws : List Int} (h : shareable t ws)
include h
theorem shareable.W : 1 ≤ sumF id ws ∧ sumF id ws ≤ 1000000000000000 := h.1.2.2
theorem shareable.w {w : Int} (hw : w ∈ ws) : (0 ≤ w ∧ w ≤ sumF id ws) ∧ w ≤ 1000000000000000 := ⟨⟨(h.1.2.1 w hw).1, sumF_mem (fun x hx => (h.1.2.1 x hx).1) hw⟩, (h.1.2.1 w hw).2⟩
theorem shareable.q {w : Int} (hw : w ∈ ws) : 0 ≤ t * w / sumF id ws ∧ t * w / sumF id ws ≤ t := by
  have h1 := h.w hw
  have h2 := h.W
  exact part_le h.2.1 h1.1.1 h1.1.2 h2.1
theorem shareable.more : 0 ≤ shMore t ws ∧ shMore t ws ≤ ws.length := by
  have h2 := h.W
  have h1 := sh_sum t (sumF id ws) (by omega) ws
  have h3 : 0 ≤ sumF id (ws.map (fun w => t * w % sumF id ws)) := sumF_nn (fun x hx => by
    obtain ⟨w, _, rfl⟩ := List.mem_map.1 hx
    exact Int.emod_nonneg _ (by omega))
  have h4 := sumF_le (f := id) (l := ws.map (fun w => t * w % sumF id ws)) (M := sumF id ws) (fun x hx => by
    obtain ⟨w, _, rfl⟩ := List.mem_map.1 hx
    exact Int.le_of_lt (Int.emod_lt_of_pos _ (by omega)))
  rw [List.length_map] at h4
  have e : shMore t ws = t - sumF id (ws.map (fun w => t * w / sumF id ws)) := rfl
  rw [e]
  generalize sumF id (ws.map (fun w => t * w / sumF id ws)) = S at *
  generalize sumF id (ws.map (fun w => t * w % sumF id ws)) = R at *
  generalize sumF id ws = W at *
  have h5 : W * (t - S) = R := by rw [Int.mul_sub, Int.mul_comm W t]; omega
  constructor
  · by_cases k : 0 ≤ t - S
    · exact k
    · exfalso
      have : W * (t - S) ≤ W * (-1) := Int.mul_le_mul_of_nonneg_left (by omega) (by omega)
      omega
  · by_cases k : t - S ≤ ws.length
    · exact k
    · exfalso
      have : W * (ws.length + 1) ≤ W * (t - S) := Int.mul_le_mul_of_nonneg_left (by omega) (by omega)
      rw [Int.mul_add, Int.mul_comm W (ws.length : Int)] at this
      omega
end
theorem shQs_len (t : Int) (ws : List Int) : (shQs t ws).length = ws.length := by simp [shQs]
theorem shOrd_len (t : Int) (ws : List Int) : (shOrd t ws).length = ws.length := ordS_len _ _
theorem inc_len (o : List Int) (i : Int) : (inc o i).length = o.length := upd_len _ _ _
theorem incs_len (q : List Int) : ∀ l : List Int, (l.foldl inc q).length = q.length := fun l => by
  induction l generalizing q with
  | nil => rfl
  | cons x l ih => rw [List.foldl_cons, ih, inc_len]
theorem shs_len (t : Int) (ws : List Int) : (shs t ws).length = ws.length := by rw [shs, incs_len, shQs_len]
theorem incs_succ {q o : List Int} {k : Int} (h : 0 ≤ k ∧ k < o.length) : (pf o (k + 1)).foldl inc q = inc ((pf o k).foldl inc q) (rd o k) := by
  rw [pf_succ h, List.foldl_append]
  rfl
end Go.Proofs.YtnlajjoheegbiaaGreat.Sh
