/- Lists: what is found first, what is added up, what comes ahead. No condition. -/
import Derived.Test.YtnlajjoheegbiaaGreatShX
import Derived.Test.YtnlajjoheegbiaaGreatShSl
namespace Go.Proofs.YtnlajjoheegbiaaGreat.Sh
open Go.RowKit
set_option linter.unusedVariables false
set_option linter.unusedSimpArgs false
set_option linter.unusedSectionVars false
section
variable {α : Type} [Enc α]
/-- The first i. -/
def pf {α : Type} (l : List α) (i : Int) : List α := l.take i.toNat
theorem pf_zero (l : List α) : pf l 0 = [] := rfl
theorem pf_succ {l : List α} {i : Int} (h : 0 ≤ i ∧ i < l.length) : pf l (i + 1) = pf l i ++ [rd l i] := by
  have h1 : i.toNat < l.length := by omega
  unfold pf
  rw [show (i + 1).toNat = i.toNat + 1 from by omega, List.take_add_one]
  simp [rd, List.getD_eq_getElem?_getD, h1]
theorem pf_all {l : List α} {i : Int} (h : ¬ i < l.length) : pf l i = l := List.take_of_length_le (by omega)
theorem pf_len {l : List α} {i : Int} (h : 0 ≤ i ∧ i ≤ l.length) : ((pf l i).length : Int) = i := by
  simp only [pf, List.length_take]
  omega
theorem rd_mem {l : List α} {i : Int} (h : 0 ≤ i ∧ i < l.length) : rd l i ∈ l := by
  have h1 : i.toNat < l.length := by omega
  simp only [rd, List.getD_eq_getElem?_getD, List.getElem?_eq_getElem h1, Option.getD_some]
  exact List.getElem_mem h1
theorem mem_rd {l : List α} {x : α} (h : x ∈ l) : ∃ i : Int, (0 ≤ i ∧ i < l.length) ∧ rd l i = x := by
  obtain ⟨n, hn, rfl⟩ := List.getElem_of_mem h
  exact ⟨n, ⟨by omega, by omega⟩, by simp [rd, List.getD_eq_getElem?_getD, hn]⟩
theorem all_rd {l : List α} {p : α → Prop} : (∀ i : Int, 0 ≤ i → i < l.length → p (rd l i)) ↔ ∀ x ∈ l, p x :=
  ⟨fun h x hx => by obtain ⟨i, hi, rfl⟩ := mem_rd hx; exact h i hi.1 hi.2, fun h i h0 h1 => h _ (rd_mem ⟨h0, h1⟩)⟩
theorem rd_pf {l : List α} {i j : Int} (h : 0 ≤ j ∧ j < i) : rd (pf l i) j = rd l j := by
  unfold rd pf
  rw [List.getD_eq_getElem?_getD, List.getD_eq_getElem?_getD, List.getElem?_take_of_lt (by omega)]
theorem find_at {l : List α} {p : α → Bool} {i : Int} (h0 : 0 ≤ i ∧ i < l.length) (hb : ∀ j : Int, 0 ≤ j → j < i → ¬ p (rd l j) = true) (hp : p (rd l i) = true) : l.find? p = some (rd l i) := by
  have h1 : i.toNat < l.length := by omega
  have e1 : l[i.toNat] = rd l i := by simp [rd, List.getD_eq_getElem?_getD, h1]
  rw [List.find?_eq_some_iff_getElem]
  refine ⟨hp, i.toNat, h1, e1, fun j hj => ?_⟩
  have := hb j (by omega) (by omega)
  have e2 : rd l (j : Int) = l[j] := by simp [rd, List.getD_eq_getElem?_getD, show j < l.length from by omega]
  rw [e2] at this
  simpa using this
theorem find_no {l : List α} {p : α → Bool} {i : Int} (hi : ¬ i < l.length) (hb : ∀ j : Int, 0 ≤ j → j < i → ¬ p (rd l j) = true) : l.find? p = none := by
  rw [List.find?_eq_none]
  intro x hx
  obtain ⟨j, hj, rfl⟩ := mem_rd hx
  exact hb j hj.1 (by omega)
/-- The sum of numbers of things. -/
def sumF {α : Type} (f : α → Int) (l : List α) : Int := (l.map f).sum
theorem sumF_nil (f : α → Int) : sumF f [] = 0 := rfl
theorem sumF_append (f : α → Int) (a b : List α) : sumF f (a ++ b) = sumF f a + sumF f b := by simp [sumF]
theorem sumF_one (f : α → Int) (x : α) : sumF f [x] = f x := by simp [sumF]
theorem sumF_cons (f : α → Int) (x : α) (l : List α) : sumF f (x :: l) = f x + sumF f l := by simp [sumF]
theorem sumF_succ {f : α → Int} {l : List α} {i : Int} (h : 0 ≤ i ∧ i < l.length) : sumF f (pf l (i + 1)) = sumF f (pf l i) + f (rd l i) := by rw [pf_succ h, sumF_append, sumF_one]
theorem sumF_le {f : α → Int} {l : List α} {M : Int} (h : ∀ x ∈ l, f x ≤ M) : sumF f l ≤ l.length * M := by
  induction l with
  | nil => simp [sumF]
  | cons x l ih =>
    rw [sumF_cons, List.length_cons]
    have h1 := h x (by simp)
    have h2 := ih (fun y hy => h y (by simp [hy]))
    have : ((l.length + 1 : Nat) : Int) * M = l.length * M + M := by push_cast; rw [Int.add_mul]; omega
    omega
theorem sumF_ge {f : α → Int} {l : List α} {M : Int} (h : ∀ x ∈ l, M ≤ f x) : l.length * M ≤ sumF f l := by
  induction l with
  | nil => simp [sumF]
  | cons x l ih =>
    rw [sumF_cons, List.length_cons]
    have h1 := h x (by simp)
    have h2 := ih (fun y hy => h y (by simp [hy]))
    have : ((l.length + 1 : Nat) : Int) * M = l.length * M + M := by push_cast; rw [Int.add_mul]; omega
    omega
/-- A sum of amounts, of a row's beginning. -/
theorem sumF_bnd {f : α → Int} {l : List α} {i : Int} (h : ∀ x ∈ l, -1000000000000000 ≤ f x ∧ f x ≤ 1000000000000000) (hi : 0 ≤ i ∧ i ≤ l.length) : -1000000000000000 * i ≤ sumF f (pf l i) ∧ sumF f (pf l i) ≤ 1000000000000000 * i := by
  have hm : ∀ x ∈ pf l i, x ∈ l := fun x hx => List.mem_of_mem_take hx
  have h1 := sumF_le (M := 1000000000000000) (fun x hx => (h x (hm x hx)).2)
  have h2 := sumF_ge (M := -1000000000000000) (fun x hx => (h x (hm x hx)).1)
  rw [pf_len hi] at h1 h2
  omega
theorem sumF_nn {f : α → Int} {l : List α} (h : ∀ x ∈ l, 0 ≤ f x) : 0 ≤ sumF f l := by
  have := sumF_ge (M := 0) h
  simpa using this
end
/-! The chart. -/
def accKind (l : List Account) (no : Int) : Int := match l.find? (fun x => decide (x.No = no)) with
  | some x => x.Kind
  | none => 0
def insKind (l : List Instr) (no : Int) : Int := match l.find? (fun x => decide (x.No = no)) with
  | some x => x.Kind
  | none => 0
theorem accKind_at {l : List Account} {no i : Int} (h0 : 0 ≤ i ∧ i < l.length) (hb : ∀ j : Int, 0 ≤ j → j < i → (rd l j).No ≠ no) (h : (rd l i).No = no) : accKind l no = (rd l i).Kind := by
  rw [accKind, find_at h0 (fun j h1 h2 => by simpa using hb j h1 h2) (by simpa using h)]
theorem accKind_no {l : List Account} {no i : Int} (h0 : ¬ i < l.length) (hb : ∀ j : Int, 0 ≤ j → j < i → (rd l j).No ≠ no) : accKind l no = 0 := by
  rw [accKind, find_no h0 (fun j h1 h2 => by simpa using hb j h1 h2)]
theorem insKind_at {l : List Instr} {no i : Int} (h0 : 0 ≤ i ∧ i < l.length) (hb : ∀ j : Int, 0 ≤ j → j < i → (rd l j).No ≠ no) (h : (rd l i).No = no) : insKind l no = (rd l i).Kind := by
  rw [insKind, find_at h0 (fun j h1 h2 => by simpa using hb j h1 h2) (by simpa using h)]
theorem insKind_no {l : List Instr} {no i : Int} (h0 : ¬ i < l.length) (hb : ∀ j : Int, 0 ≤ j → j < i → (rd l j).No ≠ no) : insKind l no = 0 := by
  rw [insKind, find_no h0 (fun j h1 h2 => by simpa using hb j h1 h2)]
/-! Balances. -/
def balF (c : Int) (x : Bal) : Int := if x.Instr = c then x.Amount else 0
def balsSum (l : List Bal) (c : Int) : Int := sumF (balF c) l
def balOf (l : List Bal) (a c : Int) : Int := match l.find? (fun x => decide (x.Account = a ∧ x.Instr = c)) with
  | some x => x.Amount
  | none => 0
theorem balOf_at {l : List Bal} {a c i : Int} (h0 : 0 ≤ i ∧ i < l.length) (hb : ∀ j : Int, 0 ≤ j → j < i → ¬ ((rd l j).Account = a ∧ (rd l j).Instr = c)) (h : (rd l i).Account = a ∧ (rd l i).Instr = c) : balOf l a c = (rd l i).Amount := by
  rw [balOf, find_at h0 (fun j h1 h2 => by simpa using hb j h1 h2) (by simpa using h)]
theorem balOf_no {l : List Bal} {a c i : Int} (h0 : ¬ i < l.length) (hb : ∀ j : Int, 0 ≤ j → j < i → ¬ ((rd l j).Account = a ∧ (rd l j).Instr = c)) : balOf l a c = 0 := by
  rw [balOf, find_no h0 (fun j h1 h2 => by simpa using hb j h1 h2)]
/-- In order. -/
def BSd (l : List Bal) : Prop := ∀ i : Int, 0 < i → i < l.length → bef (rd l (i - 1)).Account (rd l (i - 1)).Instr (rd l i).Account (rd l i).Instr
theorem BalsOk.sd {l : List Bal} (h : BalsOk l) : BSd l := fun i h0 h1 => (h.1 i (by omega) h1).2.2.2.2 h0
theorem bef_trans {a b c d e f : Int} (h : bef a b c d) (k : bef c d e f) : bef a b e f := by unfold bef at *; omega
theorem BSd.lt {l : List Bal} (h : BSd l) {i j : Int} (h0 : 0 ≤ i) (hij : i < j) (hj : j < l.length) : bef (rd l i).Account (rd l i).Instr (rd l j).Account (rd l j).Instr := by
  obtain ⟨n, rfl⟩ : ∃ n : Nat, j = i + 1 + n := ⟨(j - i - 1).toNat, by omega⟩
  induction n with
  | zero =>
    have := h (i + 1 + (0 : Nat)) (by omega) hj
    rwa [show i + 1 + ((0 : Nat) : Int) - 1 = i from by omega] at this
  | succ n ih =>
    have h1 := h (i + 1 + (n + 1 : Nat)) (by omega) hj
    rw [show i + 1 + ((n + 1 : Nat) : Int) - 1 = i + 1 + (n : Int) from by omega] at h1
    exact bef_trans (ih (by omega) (by omega)) h1
instance (a b c d : Int) : Decidable (bef a b c d) := by unfold bef; infer_instance
theorem idx_eq {α : Type} [Enc α] {l : List α} {p : α → Bool} {i : Int} (h0 : 0 ≤ i ∧ i ≤ l.length) (hb : ∀ j : Int, 0 ≤ j → j < i → ¬ p (rd l j) = true) (hi : i < l.length → p (rd l i) = true) : ((l.findIdx p : Nat) : Int) = i := by
  have hg : ∀ (j : Nat) (hj : j < l.length), rd l (j : Int) = l[j] := fun j hj => by simp [rd, List.getD_eq_getElem?_getD, hj]
  have hle := List.findIdx_le_length (xs := l) (p := p)
  rcases Nat.lt_trichotomy (l.findIdx p) i.toNat with h | h | h
  · have h1 : l.findIdx p < l.length := by omega
    have h2 := List.findIdx_getElem (w := h1)
    rw [← hg _ h1] at h2
    exact absurd h2 (hb _ (by omega) (by omega))
  · omega
  · have h1 : i.toNat < l.length := by omega
    have h2 := List.not_of_lt_findIdx h
    rw [← hg _ h1, show ((i.toNat : Nat) : Int) = i from by omega] at h2
    rw [hi (by omega)] at h2
    simp at h2
/-- Where a pair stands, or would stand. -/
def bIx (l : List Bal) (a c : Int) : Int := (l.findIdx (fun x => decide (¬ bef x.Account x.Instr a c)) : Nat)
def bHas (l : List Bal) (a c : Int) : Prop := ∃ x ∈ l, x.Account = a ∧ x.Instr = c
theorem bIx_eq {l : List Bal} {a c i : Int} (h0 : 0 ≤ i ∧ i ≤ l.length) (hb : ∀ j : Int, 0 ≤ j → j < i → bef (rd l j).Account (rd l j).Instr a c) (hi : i < l.length → ¬ bef (rd l i).Account (rd l i).Instr a c) : bIx l a c = i :=
  idx_eq h0 (fun j h1 h2 => by simpa using hb j h1 h2) (fun h => by simpa using hi h)
theorem bIx_nn (l : List Bal) (a c : Int) : 0 ≤ bIx l a c ∧ bIx l a c ≤ l.length := ⟨by unfold bIx; omega, by unfold bIx; have := List.findIdx_le_length (xs := l) (p := fun x => decide (¬ bef x.Account x.Instr a c)); omega⟩
theorem bIx_lt {l : List Bal} {a c j : Int} (h0 : 0 ≤ j) (h : j < bIx l a c) : bef (rd l j).Account (rd l j).Instr a c := by
  have h1 : j.toNat < l.findIdx (fun x => decide (¬ bef x.Account x.Instr a c)) := by unfold bIx at h; omega
  have h2 := List.not_of_lt_findIdx h1
  have hl : j.toNat < l.length := by have := List.findIdx_le_length (xs := l) (p := fun x => decide (¬ bef x.Account x.Instr a c)); omega
  have e : l[j.toNat] = rd l j := by simp [rd, List.getD_eq_getElem?_getD, hl]
  rw [e] at h2
  simpa using h2
theorem bIx_at {l : List Bal} {a c : Int} (h : bIx l a c < l.length) : ¬ bef (rd l (bIx l a c)).Account (rd l (bIx l a c)).Instr a c := by
  have h1 : l.findIdx (fun x => decide (¬ bef x.Account x.Instr a c)) < l.length := by unfold bIx at h; omega
  have h2 := List.findIdx_getElem (w := h1)
  have e : l[l.findIdx (fun x => decide (¬ bef x.Account x.Instr a c))] = rd l (bIx l a c) := by
    show _ = l.getD ((l.findIdx (fun x => decide (¬ bef x.Account x.Instr a c)) : Nat) : Int).toNat _
    rw [Int.toNat_natCast, List.getD_eq_getElem?_getD, List.getElem?_eq_getElem h1]
    rfl
  rw [e] at h2
  simpa using h2
theorem bHas_ix {l : List Bal} (hs : BSd l) {a c : Int} (h : bHas l a c) : bIx l a c < l.length ∧ (rd l (bIx l a c)).Account = a ∧ (rd l (bIx l a c)).Instr = c := by
  obtain ⟨x, hx, h1, h2⟩ := h
  obtain ⟨j, hj, rfl⟩ := mem_rd hx
  have e : bIx l a c = j := bIx_eq ⟨hj.1, by omega⟩ (fun k h3 h4 => by have := hs.lt h3 h4 hj.2; rwa [h1, h2] at this) (fun _ => by rw [h1, h2]; unfold bef; omega)
  rw [e]
  exact ⟨hj.2, h1, h2⟩
theorem bHas_at {l : List Bal} (hs : BSd l) {a c i : Int} (h0 : 0 ≤ i ∧ i < l.length) (hb : ∀ j : Int, 0 ≤ j → j < i → bef (rd l j).Account (rd l j).Instr a c) (hi : ¬ bef (rd l i).Account (rd l i).Instr a c) : bHas l a c ↔ (rd l i).Account = a ∧ (rd l i).Instr = c := by
  constructor
  · intro h
    obtain ⟨h1, h2⟩ := bHas_ix hs h
    rwa [bIx_eq ⟨h0.1, by omega⟩ hb (fun _ => hi)] at h2
  · intro h
    exact ⟨_, rd_mem h0, h⟩
theorem bHas_no {l : List Bal} {a c i : Int} (h0 : ¬ i < l.length) (hb : ∀ j : Int, 0 ≤ j → j < i → bef (rd l j).Account (rd l j).Instr a c) : ¬ bHas l a c := by
  rintro ⟨x, hx, h1, h2⟩
  obtain ⟨j, hj, rfl⟩ := mem_rd hx
  have := hb j hj.1 (by omega)
  rw [h1, h2] at this
  unfold bef at this
  omega
theorem balOf_has {l : List Bal} (hs : BSd l) {a c : Int} (h : bHas l a c) : balOf l a c = (rd l (bIx l a c)).Amount := by
  obtain ⟨h1, h2⟩ := bHas_ix hs h
  exact balOf_at ⟨(bIx_nn l a c).1, h1⟩ (fun j h3 h4 => by have := bIx_lt h3 h4; unfold bef at this; omega) h2
theorem balOf_not {l : List Bal} {a c : Int} (h : ¬ bHas l a c) : balOf l a c = 0 := by
  rw [balOf_no (i := l.length) (by omega)]
  intro j h1 h2 h3
  exact h ⟨_, rd_mem ⟨h1, h2⟩, h3⟩
theorem balF_bnd {l : List Bal} (h : BalsOk l) (c : Int) : ∀ x ∈ l, -1000000000000000 ≤ balF c x ∧ balF c x ≤ 1000000000000000 := by
  intro x hx
  obtain ⟨i, hi, rfl⟩ := mem_rd hx
  have := (h.1 i hi.1 hi.2).2.2.1
  unfold amountOk inP at this
  unfold balF
  split <;> omega
theorem balsSum_step {l : List Bal} {c i : Int} (h : 0 ≤ i ∧ i < l.length) : balsSum (pf l (i + 1)) c = balsSum (pf l i) c + balF c (rd l i) := sumF_succ h
theorem balF_y {c : Int} {x : Bal} (h : x.Instr = c) : balF c x = x.Amount := if_pos h
theorem balF_n {c : Int} {x : Bal} (h : ¬ x.Instr = c) : balF c x = 0 := if_neg h
end Go.Proofs.YtnlajjoheegbiaaGreat.Sh
