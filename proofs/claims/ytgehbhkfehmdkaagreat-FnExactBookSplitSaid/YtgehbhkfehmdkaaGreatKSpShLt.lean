/- Lots: two rows as one, what is taken. No condition. -/
import Derived.Test.YtgehbhkfehmdkaaGreatKSpShPc
import Derived.Test.YtgehbhkfehmdkaaGreatKSpShSo
import Derived.Test.YtgehbhkfehmdkaaGreatKSpShMd
namespace Go.Proofs.YtgehbhkfehmdkaaGreat.Sh
open Go.RowKit
set_option linter.unusedVariables false
set_option linter.unusedSimpArgs false
set_option linter.unusedSectionVars false
def lb2 (x y : Lot) : Prop := lbef x.Account x.Instr x.No y.Account y.Instr y.No
theorem lb2_irr (x : Lot) : ¬ lb2 x x := by unfold lb2 lbef bef; omega
theorem lb2_tr {x y z : Lot} (h : lb2 x y) (k : lb2 y z) : lb2 x z := lbef_trans h k
theorem pw_ext {α : Type} {R : α → α → Prop} (hi : ∀ x, ¬ R x x) (ht : ∀ {x y z}, R x y → R y z → R x z) : ∀ {l m : List α}, l.Pairwise R → m.Pairwise R → (∀ x, x ∈ l ↔ x ∈ m) → l = m
  | [], [], _, _, _ => rfl
  | [], y :: m, _, _, h => absurd ((h y).2 (by simp)) (by simp)
  | x :: l, [], _, _, h => absurd ((h x).1 (by simp)) (by simp)
  | x :: l, y :: m, hl, hm, h => by
    rw [List.pairwise_cons] at hl hm
    have hx := (h x).1 (by simp)
    have hy := (h y).2 (by simp)
    rw [List.mem_cons] at hx hy
    have e : x = y := by
      rcases hx with hx | hx
      · exact hx
      · rcases hy with hy | hy
        · exact hy.symm
        · exact absurd (ht (hm.1 x hx) (hl.1 y hy)) (hi y)
    subst e
    congr 1
    refine pw_ext hi ht hl.2 hm.2 (fun z => ⟨fun hz => ?_, fun hz => ?_⟩)
    · have h1 := (h z).1 (by simp [hz])
      rw [List.mem_cons] at h1
      rcases h1 with rfl | h1
      · exact absurd (hl.1 z hz) (hi z)
      · exact h1
    · have h1 := (h z).2 (by simp [hz])
      rw [List.mem_cons] at h1
      rcases h1 with rfl | h1
      · exact absurd (hm.1 z hz) (hi z)
      · exact h1
noncomputable def mrg : List Lot → List Lot → List Lot
  | [], b => b
  | x :: a, [] => x :: a
  | x :: a, y :: b => sel (lb2 x y) (x :: mrg a (y :: b)) (y :: mrg (x :: a) b)
termination_by a b => a.length + b.length
theorem mrg_nil (b : List Lot) : mrg [] b = b := by rw [mrg]
theorem mrg_nil2 (a : List Lot) : mrg a [] = a := by cases a <;> rw [mrg]
theorem mrg_l {x y : Lot} {a b : List Lot} (h : lb2 x y) : mrg (x :: a) (y :: b) = x :: mrg a (y :: b) := by rw [mrg, sel_t h]
theorem mrg_r {x y : Lot} {a b : List Lot} (h : ¬ lb2 x y) : mrg (x :: a) (y :: b) = y :: mrg (x :: a) b := by rw [mrg, sel_f h]
theorem mrg_perm : ∀ (a b : List Lot), (mrg a b).Perm (a ++ b)
  | [], b => by rw [mrg_nil]; exact .refl _
  | x :: a, [] => by rw [mrg_nil2, List.append_nil]
  | x :: a, y :: b => by
    by_cases h : lb2 x y
    · rw [mrg_l h]
      exact (mrg_perm a (y :: b)).cons x
    · rw [mrg_r h]
      exact ((mrg_perm (x :: a) b).cons y).trans List.perm_middle.symm
termination_by a b => a.length + b.length
theorem mrg_len (a b : List Lot) : (mrg a b).length = a.length + b.length := by rw [(mrg_perm a b).length_eq, List.length_append]
theorem mrg_mem {a b : List Lot} {x : Lot} : x ∈ mrg a b ↔ x ∈ a ∨ x ∈ b := by rw [(mrg_perm a b).mem_iff, List.mem_append]
def Apart (a b : List Lot) : Prop := ∀ x ∈ a, ∀ y ∈ b, lb2 x y ∨ lb2 y x
theorem mrg_pw : ∀ {a b : List Lot}, a.Pairwise lb2 → b.Pairwise lb2 → Apart a b → (mrg a b).Pairwise lb2
  | [], b, _, hb, _ => by rw [mrg_nil]; exact hb
  | x :: a, [], ha, _, _ => by rw [mrg_nil2]; exact ha
  | x :: a, y :: b, ha, hb, hd => by
    have ha' := List.pairwise_cons.1 ha
    have hb' := List.pairwise_cons.1 hb
    by_cases h : lb2 x y
    · rw [mrg_l h, List.pairwise_cons]
      refine ⟨fun z hz => ?_, mrg_pw ha'.2 hb (fun u hu v hv => hd u (by simp [hu]) v hv)⟩
      rcases mrg_mem.1 hz with hz | hz
      · exact ha'.1 z hz
      · rcases List.mem_cons.1 hz with rfl | hz
        · exact h
        · exact lb2_tr h (hb'.1 z hz)
    · have h2 : lb2 y x := (hd x (by simp) y (by simp)).resolve_left h
      rw [mrg_r h, List.pairwise_cons]
      refine ⟨fun z hz => ?_, mrg_pw ha hb'.2 (fun u hu v hv => hd u hu v (by simp [hv]))⟩
      rcases mrg_mem.1 hz with hz | hz
      · rcases List.mem_cons.1 hz with rfl | hz
        · exact h2
        · exact lb2_tr h2 (ha'.1 z hz)
      · exact hb'.1 z hz
termination_by a b => a.length + b.length
theorem sort_mrg {a b b' s : List Lot} (hs : s.Perm (a ++ b')) (hb : b'.Perm b) (hp : s.Pairwise (fun x y => ¬ lb2 y x)) (ha : a.Pairwise lb2) (hb2 : b.Pairwise lb2) (hd : Apart a b) : s = mrg a b := by
  have h1 : s.Perm (mrg a b) := (hs.trans (List.Perm.append_left a hb)).trans (mrg_perm a b).symm
  have h2 := mrg_pw ha hb2 hd
  have hsym : s.Pairwise (fun x y => lb2 x y ∨ lb2 y x) := (h1.symm.pairwise (h2.imp fun h => .inl h) (fun h => h.symm))
  refine pw_ext lb2_irr lb2_tr ?_ h2 (fun x => h1.mem_iff)
  have := hsym.and hp
  exact this.imp fun h => h.1.resolve_right h.2
theorem LSd.pw {l : List Lot} (h : LSd l l.length) : l.Pairwise lb2 := by
  rw [List.pairwise_iff_getElem]
  intro i j hi hj hij
  have := h.lt (i := i) (j := j) (by omega) (by omega) (by omega)
  simpa [lb2, rd, List.getD_eq_getElem?_getD, hi, hj] using this
theorem LotsOk.pw {l : List Lot} (h : LotsOk l) : l.Pairwise lb2 := LSd.pw (fun i h0 h1 => (h.1.1 i (by omega) h1).2 h0)
def reL (l : Lot) (q k : Int) : Lot := ⟨l.Account, l.Instr, l.No, q, k⟩
def tkq : List Lot → Int → List Lot × Int
  | [], _ => ([], 0)
  | l :: r, q => if q ≤ 0 then (l :: r, 0) else if l.Qty ≤ q then ((tkq r (q - l.Qty)).1, l.Cost + (tkq r (q - l.Qty)).2) else (reL l (l.Qty - q) (l.Cost - l.Cost * q / l.Qty) :: r, l.Cost * q / l.Qty)
theorem tk_z {l : List Lot} {q : Int} (h : q ≤ 0) : tkq l q = (l, 0) := by
  cases l with
  | nil => rfl
  | cons x r => rw [tkq, if_pos h]
theorem tk_a {l : Lot} {r : List Lot} {q : Int} (h : 0 < q) (h2 : l.Qty ≤ q) : tkq (l :: r) q = ((tkq r (q - l.Qty)).1, l.Cost + (tkq r (q - l.Qty)).2) := by
  rw [tkq, if_neg (by omega), if_pos h2]
theorem tk_p {l : Lot} {r : List Lot} {q : Int} (h : 0 < q) (h2 : ¬ l.Qty ≤ q) : tkq (l :: r) q = (reL l (l.Qty - q) (l.Cost - l.Cost * q / l.Qty) :: r, l.Cost * q / l.Qty) := by
  rw [tkq, if_neg (by omega), if_neg h2]
def LG (l : List Lot) : Prop := ∀ x ∈ l, (1 ≤ x.Qty ∧ x.Qty ≤ 1000000000000000) ∧ 0 ≤ x.Cost ∧ x.Cost ≤ 1000000000000000
theorem part_le {k q n : Int} (hk : 0 ≤ k) (hq : 0 ≤ q) (hn : q ≤ n) (h1 : 1 ≤ n) : 0 ≤ k * q / n ∧ k * q / n ≤ k := by
  refine ⟨Int.ediv_nonneg (Int.mul_nonneg hk hq) (by omega), ?_⟩
  have h2 : k * q ≤ k * n := Int.mul_le_mul_of_nonneg_left hn hk
  have h3 := Int.ediv_le_ediv (c := n) (by omega) h2
  rwa [Int.mul_ediv_cancel _ (by omega)] at h3
theorem part_all {k n : Int} (h1 : 1 ≤ n) : k * n / n = k := Int.mul_ediv_cancel _ (by omega)
theorem LG.cons {x : Lot} {r : List Lot} (h : LG (x :: r)) : ((1 ≤ x.Qty ∧ x.Qty ≤ 1000000000000000) ∧ 0 ≤ x.Cost ∧ x.Cost ≤ 1000000000000000) ∧ LG r := ⟨h x (by simp), fun y hy => h y (by simp [hy])⟩
theorem sQ_cons (x : Lot) (r : List Lot) : sQ (x :: r) = x.Qty + sQ r := sumF_cons _ _ _
theorem LG.sC_nn {l : List Lot} (h : LG l) : 0 ≤ sC l := sumF_nn (fun x hx => (h x hx).2.1)
theorem LG.sQ_nn {l : List Lot} (h : LG l) : 0 ≤ sQ l := sumF_nn (fun x hx => by have := (h x hx).1.1; omega)
theorem lotsOf_mem {l : List Lot} {a c : Int} {x : Lot} : x ∈ lotsOf l a c ↔ x ∈ l ∧ x.Account = a ∧ x.Instr = c := flt_mem
theorem lotsNot_mem {l : List Lot} {a c : Int} {x : Lot} : x ∈ lotsNot l a c ↔ x ∈ l ∧ ¬ (x.Account = a ∧ x.Instr = c) := flt_mem
theorem apart_of {l b : List Lot} {a c : Int} (h : ∀ x ∈ b, x.Account = a ∧ x.Instr = c) : Apart (lotsNot l a c) b := fun x hx y hy => by
  have h1 := (lotsNot_mem.1 hx).2
  have h2 := h y hy
  unfold lb2 lbef bef
  omega
theorem lotsOf_pw {l : List Lot} {a c : Int} (h : l.Pairwise lb2) : (lotsOf l a c).Pairwise lb2 := h.filter _
theorem lotsNot_pw {l : List Lot} {a c : Int} (h : l.Pairwise lb2) : (lotsNot l a c).Pairwise lb2 := h.filter _
theorem LotsOk.LG {l : List Lot} (h : LotsOk l) : LG l := fun x hx => by
  obtain ⟨i, hi, rfl⟩ := mem_rd hx
  have := (h.1.1 i hi.1 hi.2).1
  unfold lotF inP at this
  omega
theorem LG.flt {l : List Lot} (h : LG l) (p : Lot → Prop) : LG (flt p l) := fun x hx => h x (flt_mem.1 hx).1
theorem LotsOk.own {l : List Lot} (h : LotsOk l) (a c : Int) : (0 ≤ sQ (lotsOf l a c) ∧ sQ (lotsOf l a c) ≤ 1000000000000000) ∧ 0 ≤ sC (lotsOf l a c) ∧ sC (lotsOf l a c) ≤ 1000000000000000 := by
  have hg := h.LG.flt (fun x => x.Account = a ∧ x.Instr = c)
  have h1 := hg.sQ_nn
  have h2 := hg.sC_nn
  by_cases e : lotsOf l a c = []
  · rw [e]; decide
  · obtain ⟨x, hx⟩ := List.exists_mem_of_ne_nil _ e
    obtain ⟨hx1, hx2, hx3⟩ := lotsOf_mem.1 hx
    have := h.2 x hx1
    rw [hx2, hx3] at this
    unfold amountOk inP at this
    exact ⟨⟨h1, by omega⟩, h2, by omega⟩
end Go.Proofs.YtgehbhkfehmdkaaGreat.Sh
namespace Go.Proofs.YtgehbhkfehmdkaaGreat.Sh
open Go.RowKit
set_option linter.unusedVariables false
set_option linter.unusedSimpArgs false
set_option linter.unusedSectionVars false
def iota (n : Nat) : List Int := mkl n (fun i => i)
theorem iota_len (n : Nat) : (iota n).length = n := mkl_len _ _
theorem rd_iota {n : Nat} {i : Int} (h : 0 ≤ i ∧ i < n) : rd (iota n) i = i := rd_mkl h
theorem iota_ds (n : Nat) : DS (iota n) 0 n := fun i j h0 h1 h2 => by rw [rd_iota ⟨h0, by omega⟩, rd_iota ⟨by omega, h2⟩]; omega
theorem iota_ex (g : Int → Int) (n : Nat) : ∃ l, Mv (iota n) l 0 n ∧ RS g l 0 n := so_ex (by omega) (by rw [iota_len]; omega) (iota_ds n)
noncomputable def ordS (g : Int → Int) (n : Nat) : List Int := Classical.choose (iota_ex g n)
theorem ordS_mv (g : Int → Int) (n : Nat) : Mv (iota n) (ordS g n) 0 n := (Classical.choose_spec (iota_ex g n)).1
theorem ordS_rs (g : Int → Int) (n : Nat) : RS g (ordS g n) 0 n := (Classical.choose_spec (iota_ex g n)).2
theorem ordS_len (g : Int → Int) (n : Nat) : (ordS g n).length = n := by rw [(ordS_mv g n).len, iota_len]
theorem ordS_eq {g : Int → Int} {n : Nat} {l : List Int} (h : Mv (iota n) l 0 n) (k : RS g l 0 n) : l = ordS g n := RS.uniq (by omega) (by rw [iota_len]; omega) h (ordS_mv g n) k (ordS_rs g n)
theorem ordS_rng {g : Int → Int} {n : Nat} {i : Int} (h : 0 ≤ i ∧ i < n) : 0 ≤ rd (ordS g n) i ∧ rd (ordS g n) i < n := by
  obtain ⟨j, hj, e⟩ := (ordS_mv g n).to i h.1 h.2
  rw [e, rd_iota hj]
  exact hj
theorem ordS_has {g : Int → Int} {n : Nat} {v : Int} (h : 0 ≤ v ∧ v < n) : ∃ i : Int, (0 ≤ i ∧ i < n) ∧ rd (ordS g n) i = v := by
  obtain ⟨j, hj, e⟩ := (ordS_mv g n).from_ v h.1 h.2
  rw [rd_iota h] at e
  exact ⟨j, hj, e.symm⟩
theorem ordS_congr {g g' : Int → Int} {n : Nat} (h : ∀ i : Int, 0 ≤ i → i < n → g i = g' i) : ordS g n = ordS g' n := by
  refine ordS_eq (ordS_mv g n) (fun i j h0 h1 h2 => ?_)
  have := ordS_rs g n i j h0 h1 h2
  have r1 := ordS_rng (g := g) (n := n) (i := i) ⟨h0, by omega⟩
  have r2 := ordS_rng (g := g) (n := n) (i := j) ⟨by omega, h2⟩
  unfold so at *
  rw [← h _ r1.1 r1.2, ← h _ r2.1 r2.2]
  exact this
theorem rd_ins {α : Type} [Enc α] {l : List α} {k p : Int} {x : α} (h : 0 ≤ k ∧ k ≤ l.length) (hp : 0 ≤ p) : rd (ins l k x) p = if p < k then rd l p else if p = k then x else rd l (p - 1) := by
  unfold rd ins
  rw [List.getD_eq_getElem?_getD, List.getD_eq_getElem?_getD, List.getD_eq_getElem?_getD, List.getElem?_append]
  by_cases h1 : p < k
  · rw [if_pos (by rw [List.length_take]; omega), if_pos h1, List.getElem?_take_of_lt (by omega)]
  · rw [if_neg (by rw [List.length_take]; omega), if_neg h1]
    have e : p.toNat - (List.take k.toNat l).length = (p - k).toNat := by rw [List.length_take]; omega
    rw [e]
    by_cases h2 : p = k
    · subst h2
      rw [if_pos rfl, Int.sub_self]
      rfl
    · rw [if_neg h2, show (p - k).toNat = (p - k - 1).toNat + 1 from by omega, List.getElem?_cons_succ, List.getElem?_drop]
      congr 2
      omega
theorem ordS_succ {g : Int → Int} {n : Nat} {k : Int} (hk : 0 ≤ k ∧ k ≤ n) (h1 : k = 0 ∨ ¬ g (rd (ordS g n) (k - 1)) < g n) (h2 : ∀ p : Int, k ≤ p → p < n → g (rd (ordS g n) p) < g n) : ins (ordS g n) k n = ordS g (n + 1) := by
  have hl := ordS_len g n
  have hil : ((ins (ordS g n) k (n : Int)).length : Int) = n + 1 := by rw [ins_len (by omega)]; omega
  have ev : ∀ p : Int, 0 ≤ p → rd (ins (ordS g n) k (n : Int)) p = if p < k then rd (ordS g n) p else if p = k then (n : Int) else rd (ordS g n) (p - 1) := fun p hp => rd_ins (by omega) hp
  refine ordS_eq ⟨by rw [iota_len]; omega, fun i h0 h1' => ?_, fun i h0 h1' => ?_, fun i h0 h1' => ?_⟩ (fun i j h0 h1' h2' => ?_)
  · unfold rd
    rw [List.getD_eq_getElem?_getD, List.getD_eq_getElem?_getD, List.getElem?_eq_none (by omega), List.getElem?_eq_none (by rw [iota_len]; omega)]
  · rw [ev i h0]
    by_cases c1 : i < k
    · rw [if_pos c1]
      have := ordS_rng (g := g) (n := n) (i := i) ⟨h0, by omega⟩
      exact ⟨rd (ordS g n) i, by omega, (rd_iota ⟨this.1, by omega⟩).symm⟩
    · rw [if_neg c1]
      by_cases c2 : i = k
      · rw [if_pos c2]
        exact ⟨n, by omega, (rd_iota ⟨by omega, by omega⟩).symm⟩
      · rw [if_neg c2]
        have := ordS_rng (g := g) (n := n) (i := i - 1) ⟨by omega, by omega⟩
        exact ⟨rd (ordS g n) (i - 1), by omega, (rd_iota ⟨this.1, by omega⟩).symm⟩
  · rw [rd_iota ⟨h0, by omega⟩]
    by_cases e : i = n
    · exact ⟨k, by omega, by rw [ev k hk.1, if_neg (by omega), if_pos rfl, e]⟩
    · obtain ⟨p, hp, e2⟩ := ordS_has (g := g) (n := n) (v := i) ⟨h0, by omega⟩
      by_cases c : p < k
      · exact ⟨p, by omega, by rw [ev p hp.1, if_pos c, e2]⟩
      · exact ⟨p + 1, by omega, by rw [ev _ (by omega), if_neg (by omega), if_neg (by omega), show p + 1 - 1 = p from by omega, e2]⟩
  · have hbef : ∀ p : Int, 0 ≤ p → p < k → so g (rd (ordS g n) p) n := fun p p0 p1 => by
      have r := ordS_rng (g := g) (n := n) (i := k - 1) ⟨by omega, by omega⟩
      have hk1 : so g (rd (ordS g n) (k - 1)) n := by
        unfold so
        rcases h1 with h | h <;> omega
      by_cases e : p = k - 1
      · rw [e]; exact hk1
      · exact so_tr (ordS_rs g n p (k - 1) p0 (by omega) (by omega)) hk1
    rw [ev i h0, ev j (by omega)]
    by_cases c1 : i < k
    · rw [if_pos c1]
      by_cases d1 : j < k
      · rw [if_pos d1]; exact ordS_rs g n i j h0 h1' (by omega)
      · rw [if_neg d1]
        by_cases d2 : j = k
        · rw [if_pos d2]; exact hbef i h0 c1
        · rw [if_neg d2]; exact ordS_rs g n i (j - 1) h0 (by omega) (by omega)
    · rw [if_neg c1]
      by_cases c2 : i = k
      · rw [if_pos c2, if_neg (by omega), if_neg (by omega)]
        exact .inl (h2 (j - 1) (by omega) (by omega))
      · rw [if_neg c2, if_neg (by omega), if_neg (by omega)]
        exact ordS_rs g n (i - 1) (j - 1) (by omega) (by omega) (by omega)
def weightsOk (ws : List Int) : Prop := inP ws.length 1 40 ∧ (∀ x ∈ ws, inP x 0 1000000000000000) ∧ inP (sumF id ws) 1 1000000000000000
def shareable (t : Int) (ws : List Int) : Prop := weightsOk ws ∧ inP t 0 1000000000000000
def shQ (t : Int) (ws : List Int) (w : Int) : Int := t * w / sumF id ws
def shG (t : Int) (ws : List Int) (i : Int) : Int := t * rd ws i % sumF id ws
def shQs (t : Int) (ws : List Int) : List Int := ws.map (shQ t ws)
def shMore (t : Int) (ws : List Int) : Int := t - sumF id (shQs t ws)
noncomputable def shOrd (t : Int) (ws : List Int) : List Int := ordS (shG t ws) ws.length
def inc (o : List Int) (i : Int) : List Int := upd o i (rd o i + 1)
noncomputable def shs (t : Int) (ws : List Int) : List Int := (pf (shOrd t ws) (shMore t ws)).foldl inc (shQs t ws)
theorem sh_sum (t W : Int) (hW : 0 < W) : ∀ ws : List Int, W * sumF id (ws.map (fun w => t * w / W)) + sumF id (ws.map (fun w => t * w % W)) = t * sumF id ws
  | [] => by simp [sumF]
  | w :: ws => by
    have ih := sh_sum t W hW ws
    have h1 := (dm_of (t * w) W hW).1
    rw [List.map_cons, List.map_cons, sumF_cons, sumF_cons, sumF_cons]
    simp only [id]
    rw [Int.mul_add, Int.mul_add, ← ih]
    have : W * (t * w / W) + t * w % W = t * w := h1.symm
    omega
theorem sumF_mem {ws : List Int} (h : ∀ x ∈ ws, 0 ≤ x) {w : Int} (hw : w ∈ ws) : w ≤ sumF id ws := by
  induction ws with
  | nil => cases hw
  | cons x ws ih =>
    rw [sumF_cons]
    have h1 : 0 ≤ sumF id ws := sumF_nn (fun y hy => h y (by simp [hy]))
    have h2 := h x (by simp)
    rcases List.mem_cons.1 hw with rfl | hw
    · simp only [id]; omega
    · have := ih (fun y hy => h y (by simp [hy])) hw
      simp only [id] at *; omega
section
variable {t : Int} {ws : List Int} (h : shareable t ws)
include h
theorem shareable.W : 1 ≤ sumF id ws ∧ sumF id ws ≤ 1000000000000000 := h.1.2.2
theorem shareable.w {w : Int} (hw : w ∈ ws) : (0 ≤ w ∧ w ≤ sumF id ws) ∧ w ≤ 1000000000000000 := ⟨⟨(h.1.2.1 w hw).1, sumF_mem (fun x hx => (h.1.2.1 x hx).1) hw⟩, (h.1.2.1 w hw).2⟩
theorem shareable.q {w : Int} (hw : w ∈ ws) : 0 ≤ t * w / sumF id ws ∧ t * w / sumF id ws ≤ t := by
  have h1 := h.w hw
  have h2 := h.W
  exact part_le h.2.1 h1.1.1 h1.1.2 h2.1
theorem shareable.more : 0 ≤ shMore t ws ∧ shMore t ws ≤ ws.length := by
  have h2 := h.W
  have h1 := sh_sum t (sumF id ws) (by omega) ws
  have h3 : 0 ≤ sumF id (ws.map (fun w => t * w % sumF id ws)) := sumF_nn (fun x hx => by
    obtain ⟨w, _, rfl⟩ := List.mem_map.1 hx
    exact Int.emod_nonneg _ (by omega))
  have h4 := sumF_le (f := id) (l := ws.map (fun w => t * w % sumF id ws)) (M := sumF id ws) (fun x hx => by
    obtain ⟨w, _, rfl⟩ := List.mem_map.1 hx
    exact Int.le_of_lt (Int.emod_lt_of_pos _ (by omega)))
  rw [List.length_map] at h4
  have e : shMore t ws = t - sumF id (ws.map (fun w => t * w / sumF id ws)) := rfl
  rw [e]
  generalize sumF id (ws.map (fun w => t * w / sumF id ws)) = S at *
  generalize sumF id (ws.map (fun w => t * w % sumF id ws)) = R at *
  generalize sumF id ws = W at *
  have h5 : W * (t - S) = R := by rw [Int.mul_sub, Int.mul_comm W t]; omega
  constructor
  · by_cases k : 0 ≤ t - S
    · exact k
    · exfalso
      have : W * (t - S) ≤ W * (-1) := Int.mul_le_mul_of_nonneg_left (by omega) (by omega)
      omega
  · by_cases k : t - S ≤ ws.length
    · exact k
    · exfalso
      have : W * (ws.length + 1) ≤ W * (t - S) := Int.mul_le_mul_of_nonneg_left (by omega) (by omega)
      rw [Int.mul_add, Int.mul_comm W (ws.length : Int)] at this
      omega
end
theorem shQs_len (t : Int) (ws : List Int) : (shQs t ws).length = ws.length := by simp [shQs]
theorem shOrd_len (t : Int) (ws : List Int) : (shOrd t ws).length = ws.length := ordS_len _ _
theorem inc_len (o : List Int) (i : Int) : (inc o i).length = o.length := upd_len _ _ _
theorem incs_len (q : List Int) : ∀ l : List Int, (l.foldl inc q).length = q.length := fun l => by
  induction l generalizing q with
  | nil => rfl
  | cons x l ih => rw [List.foldl_cons, ih, inc_len]
theorem shs_len (t : Int) (ws : List Int) : (shs t ws).length = ws.length := by rw [shs, incs_len, shQs_len]
theorem incs_succ {q o : List Int} {k : Int} (h : 0 ≤ k ∧ k < o.length) : (pf o (k + 1)).foldl inc q = inc ((pf o k).foldl inc q) (rd o k) := by
  rw [pf_succ h, List.foldl_append]
  rfl
end Go.Proofs.YtgehbhkfehmdkaaGreat.Sh
