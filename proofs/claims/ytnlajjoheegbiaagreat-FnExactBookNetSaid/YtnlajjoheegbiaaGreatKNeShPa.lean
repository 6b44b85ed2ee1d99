/- Lists: what is found first, what is added up, what comes ahead. No condition. -/
import Derived.Test.YtnlajjoheegbiaaGreatKNeShX
import Derived.Test.YtnlajjoheegbiaaGreatKNeShSl
namespace Go.Proofs.YtnlajjoheegbiaaGreat.Sh
open Go.RowKit
set_option linter.unusedVariables false
set_option linter.unusedSimpArgs false
set_option linter.unusedSectionVars false
section
variable {α : Type} [Enc α]
def pf {α : Type} (l : List α) (i : Int) : List α := l.take i.toNat
theorem pf_zero (l : List α) : pf l 0 = [] := rfl
theorem pf_succ {l : List α} {i : Int} (h : 0 ≤ i ∧ i < l.length) : pf l (i + 1) = pf l i ++ [rd l i] := by
  have h1 : i.toNat < l.length := by omega
  unfold pf
  rw [show (i + 1).toNat = i.toNat + 1 from by omega, List.take_add_one]
  simp [rd, List.getD_eq_getElem?_getD, h1]
theorem pf_all {l : List α} {i : Int} (h : ¬ i < l.length) : pf l i = l := List.take_of_length_le (by omega)
theorem pf_len {l : List α} {i : Int} (h : 0 ≤ i ∧ i ≤ l.length) : ((pf l i).length : Int) = i := by
  simp only [pf, List.length_take]
  omega
theorem rd_mem {l : List α} {i : Int} (h : 0 ≤ i ∧ i < l.length) : rd l i ∈ l := by
  have h1 : i.toNat < l.length := by omega
  simp only [rd, List.getD_eq_getElem?_getD, List.getElem?_eq_getElem h1, Option.getD_some]
  exact List.getElem_mem h1
theorem mem_rd {l : List α} {x : α} (h : x ∈ l) : ∃ i : Int, (0 ≤ i ∧ i < l.length) ∧ rd l i = x := by
  obtain ⟨n, hn, rfl⟩ := List.getElem_of_mem h
  exact ⟨n, ⟨by omega, by omega⟩, by simp [rd, List.getD_eq_getElem?_getD, hn]⟩
theorem all_rd {l : List α} {p : α → Prop} : (∀ i : Int, 0 ≤ i → i < l.length → p (rd l i)) ↔ ∀ x ∈ l, p x :=
  ⟨fun h x hx => by obtain ⟨i, hi, rfl⟩ := mem_rd hx; exact h i hi.1 hi.2, fun h i h0 h1 => h _ (rd_mem ⟨h0, h1⟩)⟩
theorem rd_pf {l : List α} {i j : Int} (h : 0 ≤ j ∧ j < i) : rd (pf l i) j = rd l j := by
  unfold rd pf
  rw [List.getD_eq_getElem?_getD, List.getD_eq_getElem?_getD, List.getElem?_take_of_lt (by omega)]
theorem find_at {l : List α} {p : α → Bool} {i : Int} (h0 : 0 ≤ i ∧ i < l.length) (hb : ∀ j : Int, 0 ≤ j → j < i → ¬ p (rd l j) = true) (hp : p (rd l i) = true) : l.find? p = some (rd l i) := by
  have h1 : i.toNat < l.length := by omega
  have e1 : l[i.toNat] = rd l i := by simp [rd, List.getD_eq_getElem?_getD, h1]
  rw [List.find?_eq_some_iff_getElem]
  refine ⟨hp, i.toNat, h1, e1, fun j hj => ?_⟩
  have := hb j (by omega) (by omega)
  have e2 : rd l (j : Int) = l[j] := by simp [rd, List.getD_eq_getElem?_getD, show j < l.length from by omega]
  rw [e2] at this
  simpa using this
theorem find_no {l : List α} {p : α → Bool} {i : Int} (hi : ¬ i < l.length) (hb : ∀ j : Int, 0 ≤ j → j < i → ¬ p (rd l j) = true) : l.find? p = none := by
  rw [List.find?_eq_none]
  intro x hx
  obtain ⟨j, hj, rfl⟩ := mem_rd hx
  exact hb j hj.1 (by omega)
def sumF {α : Type} (f : α → Int) (l : List α) : Int := (l.map f).sum
theorem sumF_nil (f : α → Int) : sumF f [] = 0 := rfl
theorem sumF_append (f : α → Int) (a b : List α) : sumF f (a ++ b) = sumF f a + sumF f b := by simp [sumF]
theorem sumF_one (f : α → Int) (x : α) : sumF f [x] = f x := by simp [sumF]
theorem sumF_cons (f : α → Int) (x : α) (l : List α) : sumF f (x :: l) = f x + sumF f l := by simp [sumF]
theorem sumF_succ {f : α → Int} {l : List α} {i : Int} (h : 0 ≤ i ∧ i < l.length) : sumF f (pf l (i + 1)) = sumF f (pf l i) + f (rd l i) := by rw [pf_succ h, sumF_append, sumF_one]
theorem sumF_le {f : α → Int} {l : List α} {M : Int} (h : ∀ x ∈ l, f x ≤ M) : sumF f l ≤ l.length * M := by
  induction l with
  | nil => simp [sumF]
  | cons x l ih =>
    rw [sumF_cons, List.length_cons]
    have h1 := h x (by simp)
    have h2 := ih (fun y hy => h y (by simp [hy]))
    have : ((l.length + 1 : Nat) : Int) * M = l.length * M + M := by push_cast; rw [Int.add_mul]; omega
    omega
theorem sumF_ge {f : α → Int} {l : List α} {M : Int} (h : ∀ x ∈ l, M ≤ f x) : l.length * M ≤ sumF f l := by
  induction l with
  | nil => simp [sumF]
  | cons x l ih =>
    rw [sumF_cons, List.length_cons]
    have h1 := h x (by simp)
    have h2 := ih (fun y hy => h y (by simp [hy]))
    have : ((l.length + 1 : Nat) : Int) * M = l.length * M + M := by push_cast; rw [Int.add_mul]; omega
    omega
theorem sumF_bnd {f : α → Int} {l : List α} {i : Int} (h : ∀ x ∈ l, -1000000000000000 ≤ f x ∧ f x ≤ 1000000000000000) (hi : 0 ≤ i ∧ i ≤ l.length) : -1000000000000000 * i ≤ sumF f (pf l i) ∧ sumF f (pf l i) ≤ 1000000000000000 * i := by
  have hm : ∀ x ∈ pf l i, x ∈ l := fun x hx => List.mem_of_mem_take hx
  have h1 := sumF_le (M := 1000000000000000) (fun x hx => (h x (hm x hx)).2)
  have h2 := sumF_ge (M := -1000000000000000) (fun x hx => (h x (hm x hx)).1)
  rw [pf_len hi] at h1 h2
  omega
theorem sumF_nn {f : α → Int} {l : List α} (h : ∀ x ∈ l, 0 ≤ f x) : 0 ≤ sumF f l := by
  have := sumF_ge (M := 0) h
  simpa using this
end
def accKind (l : List Account) (no : Int) : Int := match l.find? (fun x => decide (x.No = no)) with
  | some x => x.Kind
  | none => 0
def insKind (l : List Instr) (no : Int) : Int := match l.find? (fun x => decide (x.No = no)) with
  | some x => x.Kind
  | none => 0
theorem accKind_at {l : List Account} {no i : Int} (h0 : 0 ≤ i ∧ i < l.length) (hb : ∀ j : Int, 0 ≤ j → j < i → (rd l j).No ≠ no) (h : (rd l i).No = no) : accKind l no = (rd l i).Kind := by
  rw [accKind, find_at h0 (fun j h1 h2 => by simpa using hb j h1 h2) (by simpa using h)]
theorem accKind_no {l : List Account} {no i : Int} (h0 : ¬ i < l.length) (hb : ∀ j : Int, 0 ≤ j → j < i → (rd l j).No ≠ no) : accKind l no = 0 := by
  rw [accKind, find_no h0 (fun j h1 h2 => by simpa using hb j h1 h2)]
theorem insKind_at {l : List Instr} {no i : Int} (h0 : 0 ≤ i ∧ i < l.length) (hb : ∀ j : Int, 0 ≤ j → j < i → (rd l j).No ≠ no) (h : (rd l i).No = no) : insKind l no = (rd l i).Kind := by
  rw [insKind, find_at h0 (fun j h1 h2 => by simpa using hb j h1 h2) (by simpa using h)]
theorem insKind_no {l : List Instr} {no i : Int} (h0 : ¬ i < l.length) (hb : ∀ j : Int, 0 ≤ j → j < i → (rd l j).No ≠ no) : insKind l no = 0 := by
  rw [insKind, find_no h0 (fun j h1 h2 => by simpa using hb j h1 h2)]
def balF (c : Int) (x : Bal) : Int := if x.Instr = c then x.Amount else 0
def balsSum (l : List Bal) (c : Int) : Int := sumF (balF c) l
def balOf (l : List Bal) (a c : Int) : Int := match l.find? (fun x => decide (x.Account = a ∧ x.Instr = c)) with
  | some x => x.Amount
  | none => 0
theorem balOf_at {l : List Bal} {a c i : Int} (h0 : 0 ≤ i ∧ i < l.length) (hb : ∀ j : Int, 0 ≤ j → j < i → ¬ ((rd l j).Account = a ∧ (rd l j).Instr = c)) (h : (rd l i).Account = a ∧ (rd l i).Instr = c) : balOf l a c = (rd l i).Amount := by
  rw [balOf, find_at h0 (fun j h1 h2 => by simpa using hb j h1 h2) (by simpa using h)]
theorem balOf_no {l : List Bal} {a c i : Int} (h0 : ¬ i < l.length) (hb : ∀ j : Int, 0 ≤ j → j < i → ¬ ((rd l j).Account = a ∧ (rd l j).Instr = c)) : balOf l a c = 0 := by
  rw [balOf, find_no h0 (fun j h1 h2 => by simpa using hb j h1 h2)]
def BSd (l : List Bal) : Prop := ∀ i : Int, 0 < i → i < l.length → bef (rd l (i - 1)).Account (rd l (i - 1)).Instr (rd l i).Account (rd l i).Instr
theorem BalsOk.sd {l : List Bal} (h : BalsOk l) : BSd l := fun i h0 h1 => (h.1 i (by omega) h1).2.2.2.2 h0
theorem bef_trans {a b c d e f : Int} (h : bef a b c d) (k : bef c d e f) : bef a b e f := by unfold bef at *; omega
theorem BSd.lt {l : List Bal} (h : BSd l) {i j : Int} (h0 : 0 ≤ i) (hij : i < j) (hj : j < l.length) : bef (rd l i).Account (rd l i).Instr (rd l j).Account (rd l j).Instr := by
  obtain ⟨n, rfl⟩ : ∃ n : Nat, j = i + 1 + n := ⟨(j - i - 1).toNat, by omega⟩
  induction n with
  | zero =>
    have := h (i + 1 + (0 : Nat)) (by omega) hj
    rwa [show i + 1 + ((0 : Nat) : Int) - 1 = i from by omega] at this
  | succ n ih =>
    have h1 := h (i + 1 + (n + 1 : Nat)) (by omega) hj
    rw [show i + 1 + ((n + 1 : Nat) : Int) - 1 = i + 1 + (n : Int) from by omega] at h1
    exact bef_trans (ih (by omega) (by omega)) h1
instance (a b c d : Int) : Decidable (bef a b c d) := by unfold bef; infer_instance
theorem idx_eq {α : Type} [Enc α] {l : List α} {p : α → Bool} {i : Int} (h0 : 0 ≤ i ∧ i ≤ l.length) (hb : ∀ j : Int, 0 ≤ j → j < i → ¬ p (rd l j) = true) (hi : i < l.length → p (rd l i) = true) : ((l.findIdx p : Nat) : Int) = i := by
  have hg : ∀ (j : Nat) (hj : j < l.length), rd l (j : Int) = l[j] := fun j hj => by simp [rd, List.getD_eq_getElem?_getD, hj]
  have hle := List.findIdx_le_length (xs := l) (p := p)
  rcases Nat.lt_trichotomy (l.findIdx p) i.toNat with h | h | h
  · have h1 : l.findIdx p < l.length := by omega
    have h2 := List.findIdx_getElem (w := h1)
    rw [← hg _ h1] at h2
    exact absurd h2 (hb _ (by omega) (by omega))
  · omega
  · have h1 : i.toNat < l.length := by omega
    have h2 := List.not_of_lt_findIdx h
    rw [← hg _ h1, show ((i.toNat : Nat) : Int) = i from by omega] at h2
    rw [hi (by omega)] at h2
    simp at h2
def bIx (l : List Bal) (a c : Int) : Int := (l.findIdx (fun x => decide (¬ bef x.Account x.Instr a c)) : Nat)
def bHas (l : List Bal) (a c : Int) : Prop := ∃ x ∈ l, x.Account = a ∧ x.Instr = c
theorem bIx_eq {l : List Bal} {a c i : Int} (h0 : 0 ≤ i ∧ i ≤ l.length) (hb : ∀ j : Int, 0 ≤ j → j < i → bef (rd l j).Account (rd l j).Instr a c) (hi : i < l.length → ¬ bef (rd l i).Account (rd l i).Instr a c) : bIx l a c = i :=
  idx_eq h0 (fun j h1 h2 => by simpa using hb j h1 h2) (fun h => by simpa using hi h)
theorem bIx_nn (l : List Bal) (a c : Int) : 0 ≤ bIx l a c ∧ bIx l a c ≤ l.length := ⟨by unfold bIx; omega, by unfold bIx; have := List.findIdx_le_length (xs := l) (p := fun x => decide (¬ bef x.Account x.Instr a c)); omega⟩
theorem bIx_lt {l : List Bal} {a c j : Int} (h0 : 0 ≤ j) (h : j < bIx l a c) : bef (rd l j).Account (rd l j).Instr a c := by
  have h1 : j.toNat < l.findIdx (fun x => decide (¬ bef x.Account x.Instr a c)) := by unfold bIx at h; omega
  have h2 := List.not_of_lt_findIdx h1
  have hl : j.toNat < l.length := by have := List.findIdx_le_length (xs := l) (p := fun x => decide (¬ bef x.Account x.Instr a c)); omega
  have e : l[j.toNat] = rd l j := by simp [rd, List.getD_eq_getElem?_getD, hl]
  rw [e] at h2
  simpa using h2
theorem bIx_at {l : List Bal} {a c : Int} (h : bIx l a c < l.length) : ¬ bef (rd l (bIx l a c)).Account (rd l (bIx l a c)).Instr a c := by
  have h1 : l.findIdx (fun x => decide (¬ bef x.Account x.Instr a c)) < l.length := by unfold bIx at h; omega
  have h2 := List.findIdx_getElem (w := h1)
  have e : l[l.findIdx (fun x => decide (¬ bef x.Account x.Instr a c))] = rd l (bIx l a c) := by
    show _ = l.getD ((l.findIdx (fun x => decide (¬ bef x.Account x.Instr a c)) : Nat) : Int).toNat _
    rw [Int.toNat_natCast, List.getD_eq_getElem?_getD, List.getElem?_eq_getElem h1]
    rfl
  rw [e] at h2
  simpa using h2
theorem bHas_ix {l : List Bal} (hs : BSd l) {a c : Int} (h : bHas l a c) : bIx l a c < l.length ∧ (rd l (bIx l a c)).Account = a ∧ (rd l (bIx l a c)).Instr = c := by
  obtain ⟨x, hx, h1, h2⟩ := h
  obtain ⟨j, hj, rfl⟩ := mem_rd hx
  have e : bIx l a c = j := bIx_eq ⟨hj.1, by omega⟩ (fun k h3 h4 => by have := hs.lt h3 h4 hj.2; rwa [h1, h2] at this) (fun _ => by rw [h1, h2]; unfold bef; omega)
  rw [e]
  exact ⟨hj.2, h1, h2⟩
theorem bHas_at {l : List Bal} (hs : BSd l) {a c i : Int} (h0 : 0 ≤ i ∧ i < l.length) (hb : ∀ j : Int, 0 ≤ j → j < i → bef (rd l j).Account (rd l j).Instr a c) (hi : ¬ bef (rd l i).Account (rd l i).Instr a c) : bHas l a c ↔ (rd l i).Account = a ∧ (rd l i).Instr = c := by
  constructor
  · intro h
    obtain ⟨h1, h2⟩ := bHas_ix hs h
    rwa [bIx_eq ⟨h0.1, by omega⟩ hb (fun _ => hi)] at h2
  · intro h
    exact ⟨_, rd_mem h0, h⟩
theorem bHas_no {l : List Bal} {a c i : Int} (h0 : ¬ i < l.length) (hb : ∀ j : Int, 0 ≤ j → j < i → bef (rd l j).Account (rd l j).Instr a c) : ¬ bHas l a c := by
  rintro ⟨x, hx, h1, h2⟩
  obtain ⟨j, hj, rfl⟩ := mem_rd hx
  have := hb j hj.1 (by omega)
  rw [h1, h2] at this
  unfold bef at this
  omega
theorem balOf_has {l : List Bal} (hs : BSd l) {a c : Int} (h : bHas l a c) : balOf l a c = (rd l (bIx l a c)).Amount := by
  obtain ⟨h1, h2⟩ := bHas_ix hs h
  exact balOf_at ⟨(bIx_nn l a c).1, h1⟩ (fun j h3 h4 => by have := bIx_lt h3 h4; unfold bef at this; omega) h2
theorem balOf_not {l : List Bal} {a c : Int} (h : ¬ bHas l a c) : balOf l a c = 0 := by
  rw [balOf_no (i := l.length) (by omega)]
  intro j h1 h2 h3
  exact h ⟨_, rd_mem ⟨h1, h2⟩, h3⟩
theorem balF_bnd {l : List Bal} (h : BalsOk l) (c : Int) : ∀ x ∈ l, -1000000000000000 ≤ balF c x ∧ balF c x ≤ 1000000000000000 := by
  intro x hx
  obtain ⟨i, hi, rfl⟩ := mem_rd hx
  have := (h.1 i hi.1 hi.2).2.2.1
  unfold amountOk inP at this
  unfold balF
  split <;> omega
theorem balsSum_step {l : List Bal} {c i : Int} (h : 0 ≤ i ∧ i < l.length) : balsSum (pf l (i + 1)) c = balsSum (pf l i) c + balF c (rd l i) := sumF_succ h
theorem balF_y {c : Int} {x : Bal} (h : x.Instr = c) : balF c x = x.Amount := if_pos h
theorem balF_n {c : Int} {x : Bal} (h : ¬ x.Instr = c) : balF c x = 0 := if_neg h
end Go.Proofs.YtnlajjoheegbiaaGreat.Sh
namespace Go.Proofs.YtnlajjoheegbiaaGreat.Sh
open Go.RowKit
set_option linter.unusedVariables false
set_option linter.unusedSimpArgs false
set_option maxHeartbeats 4000000 in
theorem impl_accountKind {l : List Account} {no : Int} : FC Tryz.prog 178 [.c (.row 0 0 l.length), I no] ([ro 94 l]) (I (accKind l no)) ([ro 94 l]) := by
  refine fent tk 20 [.tmp 4] Tryz.func178 (by kernel_rfl) rfl rfl rfl rfl rfl rfl rfl ?_
  refine wlen l 0 rfl (fun hl => ?_)
  repeat' (first
 | (with_reducible apply zds); exact tk; rfl; rfl; rfl; rfl; rfl
 | (with_reducible apply zd); rfl; exact tk; rfl
 | (with_reducible first | intro _ | apply wseq | apply zreg | apply thenQ_n | apply thenQ_r | apply thenQ_e | apply znil | apply wret | apply bodyQ_r | apply wblk | apply blkQ_n | apply blkQ_r | apply wskip | apply wexit)
 | fail)
  refine wlp (X := Int) [1, 7, 8] [0] (fun i => [(9, I i)]) (fun _ => []) (fun i => 0 ≤ i ∧ i ≤ l.length ∧ ∀ j : Int, 0 ≤ j → j < i → (rd l j).No ≠ no) (fun i => (l.length - i).toNat) 0 ⟨by omega, by omega, fun j h0 h1 => by omega⟩ rfl rfl (fun _ => rfl) (fun _ => rfl) ⟨rfl, rfl, rfl, rfl, rfl, rfl, rfl, rfl⟩ (fun i hi => ?_)
  obtain ⟨h0, hi, hall⟩ := hi
  repeat' (first
 | (with_reducible apply zds); exact tk; rfl; rfl; rfl; rfl; rfl
 | (with_reducible apply zd); rfl; exact tk; rfl
 | (with_reducible first | intro _ | apply wseq | apply zreg | apply thenQ_n | apply thenQ_r | apply thenQ_e | apply znil | apply wret | apply bodyQ_r | apply wblk | apply blkQ_n | apply blkQ_r | apply wskip | apply wexit)
 | apply wct rfl
 | apply wcf rfl
 | (with_reducible apply blkQ_x rfl)
 | (with_reducible apply zcmp); rfl; exact tk; rfl; rfl; rfl
 | (with_reducible apply zar); rfl; rfl; rfl; rfl; (first | omega | ((try simp only [List.length_append, List.length_cons, List.length_nil, List.length_map]); (try dsimp only); omega)); rfl; rfl
 | (with_reducible apply zix); rfl; exact tk; (iterate 7 rfl); (first | omega | ((try simp only [List.length_append, List.length_cons, List.length_nil, List.length_map]); (try dsimp only); omega)); rfl; rfl
 | (with_reducible apply zle); rfl; exact tk; rfl; rfl; rfl; rfl; (first | omega | ((try simp only [List.length_append, List.length_cons, List.length_nil, List.length_map]); (try dsimp only); omega)); rfl; rfl; rfl; rfl
 | fail)
  all_goals first
    | exact endI [0] rfl rfl rfl rfl rfl rfl (accKind_at ⟨by omega, by omega⟩ hall (by assumption))
    | exact endI [0] rfl rfl rfl rfl rfl rfl (accKind_no (by assumption) hall)
    | exact endR (i + 1) [0] ⟨rfl, rfl, rfl, rfl, rfl, rfl, rfl, rfl⟩ ⟨by omega, by omega, all_step hall (by assumption)⟩ (by first | omega | (dsimp only; omega))
set_option maxHeartbeats 4000000 in
theorem impl_instrKind {l : List Instr} {no : Int} : FC Tryz.prog 179 [.c (.row 0 0 l.length), I no] ([ro 95 l]) (I (insKind l no)) ([ro 95 l]) := by
  refine fent tk 20 [.tmp 4] Tryz.func179 (by kernel_rfl) rfl rfl rfl rfl rfl rfl rfl ?_
  refine wlen l 0 rfl (fun hl => ?_)
  repeat' (first
 | (with_reducible apply zds); exact tk; rfl; rfl; rfl; rfl; rfl
 | (with_reducible apply zd); rfl; exact tk; rfl
 | (with_reducible first | intro _ | apply wseq | apply zreg | apply thenQ_n | apply thenQ_r | apply thenQ_e | apply znil | apply wret | apply bodyQ_r | apply wblk | apply blkQ_n | apply blkQ_r | apply wskip | apply wexit)
 | fail)
  refine wlp (X := Int) [1, 7, 8] [0] (fun i => [(9, I i)]) (fun _ => []) (fun i => 0 ≤ i ∧ i ≤ l.length ∧ ∀ j : Int, 0 ≤ j → j < i → (rd l j).No ≠ no) (fun i => (l.length - i).toNat) 0 ⟨by omega, by omega, fun j h0 h1 => by omega⟩ rfl rfl (fun _ => rfl) (fun _ => rfl) ⟨rfl, rfl, rfl, rfl, rfl, rfl, rfl, rfl⟩ (fun i hi => ?_)
  obtain ⟨h0, hi, hall⟩ := hi
  repeat' (first
 | (with_reducible apply zds); exact tk; rfl; rfl; rfl; rfl; rfl
 | (with_reducible apply zd); rfl; exact tk; rfl
 | (with_reducible first | intro _ | apply wseq | apply zreg | apply thenQ_n | apply thenQ_r | apply thenQ_e | apply znil | apply wret | apply bodyQ_r | apply wblk | apply blkQ_n | apply blkQ_r | apply wskip | apply wexit)
 | apply wct rfl
 | apply wcf rfl
 | (with_reducible apply blkQ_x rfl)
 | (with_reducible apply zcmp); rfl; exact tk; rfl; rfl; rfl
 | (with_reducible apply zar); rfl; rfl; rfl; rfl; (first | omega | ((try simp only [List.length_append, List.length_cons, List.length_nil, List.length_map]); (try dsimp only); omega)); rfl; rfl
 | (with_reducible apply zix); rfl; exact tk; (iterate 7 rfl); (first | omega | ((try simp only [List.length_append, List.length_cons, List.length_nil, List.length_map]); (try dsimp only); omega)); rfl; rfl
 | (with_reducible apply zle); rfl; exact tk; rfl; rfl; rfl; rfl; (first | omega | ((try simp only [List.length_append, List.length_cons, List.length_nil, List.length_map]); (try dsimp only); omega)); rfl; rfl; rfl; rfl
 | fail)
  all_goals first
    | exact endI [0] rfl rfl rfl rfl rfl rfl (insKind_at ⟨by omega, by omega⟩ hall (by assumption))
    | exact endI [0] rfl rfl rfl rfl rfl rfl (insKind_no (by assumption) hall)
    | exact endR (i + 1) [0] ⟨rfl, rfl, rfl, rfl, rfl, rfl, rfl, rfl⟩ ⟨by omega, by omega, all_step hall (by assumption)⟩ (by first | omega | (dsimp only; omega))
set_option maxHeartbeats 4000000 in
theorem spec_AccountKind {l : List Account} {no : Int} : FC Tryz.prog 95 [.c (.row 0 0 l.length), I no] ([ro 94 l]) (I (pick (AccountsOk l) (accKind l no) 0)) ([ro 94 l]) := by
  refine fent tk 28 [.tmp 4] Tryz.func95 (by kernel_rfl) rfl rfl rfl rfl rfl rfl rfl ?_
  refine wlen l 0 rfl (fun hl => ?_)
  repeat' (first
 | (with_reducible apply zd); rfl; exact tk; rfl
 | (with_reducible first | intro _ | apply wseq | apply zreg | apply thenQ_n | apply thenQ_r | apply thenQ_e | apply znil | apply wret | apply bodyQ_r | apply wblk | apply blkQ_n | apply blkQ_r | apply wskip | apply wexit)
 | fail)
  refine wlp (X := Int) [0, 1] [0] (fun i => [(5, I i)]) (fun _ => []) (fun i => 0 ≤ i ∧ i ≤ l.length ∧ ∀ j : Int, 0 ≤ j → j < i → (rd l j).No ≠ no) (fun i => (l.length - i).toNat) 0 ⟨by omega, by omega, fun j h0 h1 => by omega⟩ rfl rfl (fun _ => rfl) (fun _ => rfl) ⟨rfl, rfl, rfl, rfl, rfl, rfl, rfl, rfl⟩ (fun i hi => ?_)
  obtain ⟨h0, hi, hall⟩ := hi
  repeat' (first
 | (with_reducible apply zds); exact tk; rfl; rfl; rfl; rfl; rfl
 | (with_reducible apply zd); rfl; exact tk; rfl
 | (with_reducible first | intro _ | apply wseq | apply zreg | apply thenQ_n | apply thenQ_r | apply thenQ_e | apply znil | apply wret | apply bodyQ_r | apply wblk | apply blkQ_n | apply blkQ_r | apply wskip | apply wexit)
 | apply wct rfl
 | apply wcf rfl
 | (with_reducible apply blkQ_x rfl)
 | (with_reducible apply zcmp); rfl; exact tk; rfl; rfl; rfl
 | (with_reducible apply zar); rfl; rfl; rfl; rfl; (first | omega | ((try simp only [List.length_append, List.length_cons, List.length_nil, List.length_map]); (try dsimp only); omega)); rfl; rfl
 | (with_reducible apply zix); rfl; exact tk; (iterate 7 rfl); (first | omega | ((try simp only [List.length_append, List.length_cons, List.length_nil, List.length_map]); (try dsimp only); omega)); rfl; rfl
 | (with_reducible apply zle); rfl; exact tk; rfl; rfl; rfl; rfl; (first | omega | ((try simp only [List.length_append, List.length_cons, List.length_nil, List.length_map]); (try dsimp only); omega)); rfl; rfl; rfl; rfl
 | (with_reducible apply zcp); (iterate 10 rfl); exact spec_AccountsOk; rfl; rfl
 | fail)
  all_goals first
    | exact endI [0] rfl rfl rfl rfl rfl rfl (by rw [pick_t (by assumption)]; exact accKind_at ⟨by omega, by omega⟩ hall (by assumption))
    | exact endI [0] rfl rfl rfl rfl rfl rfl (by rw [pick_f (by assumption)])
    | exact endI [0] rfl rfl rfl rfl rfl rfl (by rw [accKind_no (by assumption) hall]; unfold pick; split <;> rfl)
    | exact endR (i + 1) [0] ⟨rfl, rfl, rfl, rfl, rfl, rfl, rfl, rfl⟩ ⟨by omega, by omega, all_step hall (by assumption)⟩ (by first | omega | (dsimp only; omega))
set_option maxHeartbeats 4000000 in
theorem spec_InstrKind {l : List Instr} {no : Int} : FC Tryz.prog 96 [.c (.row 0 0 l.length), I no] ([ro 95 l]) (I (pick (InstrsOk l) (insKind l no) 0)) ([ro 95 l]) := by
  refine fent tk 28 [.tmp 4] Tryz.func96 (by kernel_rfl) rfl rfl rfl rfl rfl rfl rfl ?_
  refine wlen l 0 rfl (fun hl => ?_)
  repeat' (first
 | (with_reducible apply zd); rfl; exact tk; rfl
 | (with_reducible first | intro _ | apply wseq | apply zreg | apply thenQ_n | apply thenQ_r | apply thenQ_e | apply znil | apply wret | apply bodyQ_r | apply wblk | apply blkQ_n | apply blkQ_r | apply wskip | apply wexit)
 | fail)
  refine wlp (X := Int) [0, 1] [0] (fun i => [(5, I i)]) (fun _ => []) (fun i => 0 ≤ i ∧ i ≤ l.length ∧ ∀ j : Int, 0 ≤ j → j < i → (rd l j).No ≠ no) (fun i => (l.length - i).toNat) 0 ⟨by omega, by omega, fun j h0 h1 => by omega⟩ rfl rfl (fun _ => rfl) (fun _ => rfl) ⟨rfl, rfl, rfl, rfl, rfl, rfl, rfl, rfl⟩ (fun i hi => ?_)
  obtain ⟨h0, hi, hall⟩ := hi
  repeat' (first
 | (with_reducible apply zds); exact tk; rfl; rfl; rfl; rfl; rfl
 | (with_reducible apply zd); rfl; exact tk; rfl
 | (with_reducible first | intro _ | apply wseq | apply zreg | apply thenQ_n | apply thenQ_r | apply thenQ_e | apply znil | apply wret | apply bodyQ_r | apply wblk | apply blkQ_n | apply blkQ_r | apply wskip | apply wexit)
 | apply wct rfl
 | apply wcf rfl
 | (with_reducible apply blkQ_x rfl)
 | (with_reducible apply zcmp); rfl; exact tk; rfl; rfl; rfl
 | (with_reducible apply zar); rfl; rfl; rfl; rfl; (first | omega | ((try simp only [List.length_append, List.length_cons, List.length_nil, List.length_map]); (try dsimp only); omega)); rfl; rfl
 | (with_reducible apply zix); rfl; exact tk; (iterate 7 rfl); (first | omega | ((try simp only [List.length_append, List.length_cons, List.length_nil, List.length_map]); (try dsimp only); omega)); rfl; rfl
 | (with_reducible apply zle); rfl; exact tk; rfl; rfl; rfl; rfl; (first | omega | ((try simp only [List.length_append, List.length_cons, List.length_nil, List.length_map]); (try dsimp only); omega)); rfl; rfl; rfl; rfl
 | (with_reducible apply zcp); (iterate 10 rfl); exact spec_InstrsOk; rfl; rfl
 | fail)
  all_goals first
    | exact endI [0] rfl rfl rfl rfl rfl rfl (by rw [pick_t (by assumption)]; exact insKind_at ⟨by omega, by omega⟩ hall (by assumption))
    | exact endI [0] rfl rfl rfl rfl rfl rfl (by rw [pick_f (by assumption)])
    | exact endI [0] rfl rfl rfl rfl rfl rfl (by rw [insKind_no (by assumption) hall]; unfold pick; split <;> rfl)
    | exact endR (i + 1) [0] ⟨rfl, rfl, rfl, rfl, rfl, rfl, rfl, rfl⟩ ⟨by omega, by omega, all_step hall (by assumption)⟩ (by first | omega | (dsimp only; omega))
set_option maxHeartbeats 4000000 in
theorem impl_balsSum {l : List Bal} {c : Int} (hok : BalsOk l) : FC Tryz.prog 221 [.c (.row 0 0 l.length), I c] ([ro 97 l]) (I (balsSum l c)) ([ro 97 l]) := by
  refine fent tk 24 [.tmp 4] Tryz.func221 (by kernel_rfl) rfl rfl rfl rfl rfl rfl rfl ?_
  have hl := hok.2
  repeat' (first
 | (with_reducible apply zds); exact tk; rfl; rfl; rfl; rfl; rfl
 | (with_reducible apply zd); rfl; exact tk; rfl
 | (with_reducible first | intro _ | apply wseq | apply zreg | apply thenQ_n | apply thenQ_r | apply thenQ_e | apply znil | apply wret | apply bodyQ_r | apply wblk | apply blkQ_n | apply blkQ_r | apply wskip | apply wexit)
 | fail)
  refine wlp (X := Int × Int) [1, 8, 9] [0] (fun x => [(10, I x.1), (5, I x.2)]) (fun _ => []) (fun x => 0 ≤ x.1 ∧ x.1 ≤ l.length ∧ x.2 = balsSum (pf l x.1) c) (fun x => (l.length - x.1).toNat) (0, 0) ⟨by dsimp only; omega, by dsimp only; omega, rfl⟩ rfl rfl (fun _ => rfl) (fun _ => rfl) ⟨rfl, rfl, rfl, rfl, rfl, rfl, rfl, rfl⟩ (fun x hx => ?_)
  obtain ⟨i, n⟩ := x
  obtain ⟨h0, hi, hn⟩ := hx
  dsimp only at h0 hi hn ⊢
  have hb := sumF_bnd (balF_bnd hok c) ⟨h0, hi⟩
  have hs := fun h => balsSum_step (l := l) (c := c) (i := i) ⟨h0, h⟩
  have hb2 := fun (h : i < l.length) => balF_bnd hok c _ (rd_mem ⟨h0, h⟩)
  rw [show sumF (balF c) (pf l i) = n from hn.symm] at hb
  have hb3 := fun (h : i < l.length) (e : (rd l i).Instr = c) => (balF_y e ▸ hb2 h : -1000000000000000 ≤ (rd l i).Amount ∧ (rd l i).Amount ≤ 1000000000000000)
  repeat' (first
 | (with_reducible apply zds); exact tk; rfl; rfl; rfl; rfl; rfl
 | (with_reducible apply zd); rfl; exact tk; rfl
 | (with_reducible first | intro _ | apply wseq | apply zreg | apply thenQ_n | apply thenQ_r | apply thenQ_e | apply znil | apply wret | apply bodyQ_r | apply wblk | apply blkQ_n | apply blkQ_r | apply wskip | apply wexit)
 | apply wct rfl
 | apply wcf rfl
 | (with_reducible apply blkQ_x rfl)
 | (with_reducible apply zcmp); rfl; exact tk; rfl; rfl; rfl
 | (with_reducible apply zar); rfl; rfl; rfl; rfl; (first | omega | ((try simp only [List.length_append, List.length_cons, List.length_nil, List.length_map]); (try dsimp only); omega)); rfl; rfl
 | (with_reducible apply zix); rfl; exact tk; (iterate 7 rfl); (first | omega | ((try simp only [List.length_append, List.length_cons, List.length_nil, List.length_map]); (try dsimp only); omega)); rfl; rfl
 | (with_reducible apply zle); rfl; exact tk; rfl; rfl; rfl; rfl; (first | omega | ((try simp only [List.length_append, List.length_cons, List.length_nil, List.length_map]); (try dsimp only); omega)); rfl; rfl; rfl; rfl
 | fail)
  · rename_i h e
    have := hb3 h e
    repeat' (first
 | fail)
    exact endR (i + 1, _) [0] ⟨rfl, rfl, rfl, rfl, rfl, rfl, rfl, rfl⟩ ⟨by dsimp only; omega, by dsimp only; omega, by dsimp only; rw [hs h, balF_y e, hn]⟩ (by first | omega | (dsimp only; omega))
  · rename_i h e
    exact endR (i + 1, _) [0] ⟨rfl, rfl, rfl, rfl, rfl, rfl, rfl, rfl⟩ ⟨by dsimp only; omega, by dsimp only; omega, by dsimp only; rw [hs h, balF_n e, hn, Int.add_zero]⟩ (by first | omega | (dsimp only; omega))
  · rename_i h
    exact endI [0] rfl rfl rfl rfl rfl rfl (by rw [hn, pf_all h])
set_option maxHeartbeats 4000000 in
theorem spec_l1Told_y {x : Int} : FC Tryz.prog 258 [I x, B true] ([]) (sel (amountOk x) (.tup [I x, B true]) (.tup [I 0, B false])) (sel (amountOk x) [] []) := by
  refine fent tk 14 [.tmp 4, .tmp 5] Tryz.func258 (by kernel_rfl) rfl rfl rfl rfl rfl rfl rfl ?_
  repeat' (first
 | (with_reducible apply zds); exact tk; rfl; rfl; rfl; rfl; rfl
 | (with_reducible first | intro _ | apply wseq | apply zreg | apply thenQ_n | apply thenQ_r | apply thenQ_e | apply znil | apply wret | apply bodyQ_r | apply wblk | apply blkQ_n | apply blkQ_r | apply wskip | apply wexit)
 | apply wct rfl
 | apply wcf rfl
 | (with_reducible apply zcp); (iterate 10 rfl); exact spec_AmountOk; rfl; rfl
 | fail)
  all_goals first | exact endT (by assumption) [] rfl rfl rfl rfl rfl rfl | exact endF (by assumption) [] rfl rfl rfl rfl rfl rfl
set_option maxHeartbeats 4000000 in
theorem spec_l1Told_n {x : Int} : FC Tryz.prog 258 [I x, B false] ([]) (.tup [I 0, B false]) ([]) := by
  refine fent tk 14 [.tmp 4, .tmp 5] Tryz.func258 (by kernel_rfl) rfl rfl rfl rfl rfl rfl rfl ?_
  repeat' (first
 | (with_reducible apply zds); exact tk; rfl; rfl; rfl; rfl; rfl
 | (with_reducible first | intro _ | apply wseq | apply zreg | apply thenQ_n | apply thenQ_r | apply thenQ_e | apply znil | apply wret | apply bodyQ_r | apply wblk | apply blkQ_n | apply blkQ_r | apply wskip | apply wexit)
 | apply wct rfl
 | fail)
  all_goals exact endV [] rfl rfl rfl rfl rfl rfl
set_option maxHeartbeats 4000000 in
theorem spec_l4Of {l : List Bal} {a c : Int} : FC Tryz.prog 80 [.c (.row 0 0 l.length), I a, I c] ([ro 97 l]) (I (balOf l a c)) ([ro 97 l]) := by
  refine fent tk 35 [.tmp 6] Tryz.func80 (by kernel_rfl) rfl rfl rfl rfl rfl rfl rfl ?_
  refine wlen l 0 rfl (fun hl => ?_)
  repeat' (first
 | (with_reducible apply zd); rfl; exact tk; rfl
 | (with_reducible first | intro _ | apply wseq | apply zreg | apply thenQ_n | apply thenQ_r | apply thenQ_e | apply znil | apply wret | apply bodyQ_r | apply wblk | apply blkQ_n | apply blkQ_r | apply wskip | apply wexit)
 | fail)
  refine wlp (X := Int) [0, 1, 2] [0] (fun i => [(7, I i)]) (fun _ => []) (fun i => 0 ≤ i ∧ i ≤ l.length ∧ ∀ j : Int, 0 ≤ j → j < i → ¬ ((rd l j).Account = a ∧ (rd l j).Instr = c)) (fun i => (l.length - i).toNat) 0 ⟨by omega, by omega, fun j h0 h1 => by omega⟩ rfl rfl (fun _ => rfl) (fun _ => rfl) ⟨rfl, rfl, rfl, rfl, rfl, rfl, rfl, rfl⟩ (fun i hi => ?_)
  obtain ⟨h0, hi, hall⟩ := hi
  repeat' (first
 | (with_reducible apply zds); exact tk; rfl; rfl; rfl; rfl; rfl
 | (with_reducible apply zd); rfl; exact tk; rfl
 | (with_reducible first | intro _ | apply wseq | apply zreg | apply thenQ_n | apply thenQ_r | apply thenQ_e | apply znil | apply wret | apply bodyQ_r | apply wblk | apply blkQ_n | apply blkQ_r | apply wskip | apply wexit)
 | apply wct rfl
 | apply wcf rfl
 | (with_reducible apply blkQ_x rfl)
 | (with_reducible apply zcmp); rfl; exact tk; rfl; rfl; rfl
 | (with_reducible apply zar); rfl; rfl; rfl; rfl; (first | omega | ((try simp only [List.length_append, List.length_cons, List.length_nil, List.length_map]); (try dsimp only); omega)); rfl; rfl
 | (with_reducible apply zix); rfl; exact tk; (iterate 7 rfl); (first | omega | ((try simp only [List.length_append, List.length_cons, List.length_nil, List.length_map]); (try dsimp only); omega)); rfl; rfl
 | (with_reducible apply zle); rfl; exact tk; rfl; rfl; rfl; rfl; (first | omega | ((try simp only [List.length_append, List.length_cons, List.length_nil, List.length_map]); (try dsimp only); omega)); rfl; rfl; rfl; rfl
 | fail)
  all_goals first
    | exact endI [0] rfl rfl rfl rfl rfl rfl (balOf_at ⟨by omega, by omega⟩ hall ⟨by assumption, by assumption⟩)
    | exact endI [0] rfl rfl rfl rfl rfl rfl (balOf_no (by assumption) hall)
    | exact endR (i + 1) [0] ⟨rfl, rfl, rfl, rfl, rfl, rfl, rfl, rfl⟩ ⟨by omega, by omega, all_step hall (fun e => by first | exact absurd e.1 (by assumption) | exact absurd e.2 (by assumption))⟩ (by first | omega | (dsimp only; omega))
theorem byBoth_ge {a b c d : Int} (h : byBoth a b c d ≥ 0) : ¬ bef a b c d := fun k => by have := byBoth_lt.2 k; omega
theorem byBoth_eq {a b c d : Int} : byBoth a b c d = 0 ↔ a = c ∧ b = d := by
  unfold byBoth
  by_cases h : bef a b c d
  · rw [pick_t h]
    unfold bef at h
    constructor
    · intro h1; omega
    · intro h1; omega
  · rw [pick_f h]
    by_cases h2 : a = c ∧ b = d
    · rw [pick_t h2]; simp [h2]
    · rw [pick_f h2]
      constructor
      · intro h1; omega
      · intro h1; exact absurd h1 h2
set_option maxHeartbeats 4000000 in
theorem impl_balAt {l : List Bal} {a c : Int} (hs : BSd l) : FC Tryz.prog 263 [.c (.row 0 0 l.length), I a, I c] ([ro 97 l]) (sel (bHas l a c) (.tup [I (bIx l a c), B true]) (.tup [I (bIx l a c), B false])) (sel (bHas l a c) [ro 97 l] [ro 97 l]) := by
  refine fent tk 33 [.tmp 6, .tmp 7] Tryz.func263 (by kernel_rfl) rfl rfl rfl rfl rfl rfl rfl ?_
  refine wlen l 0 rfl (fun hl => ?_)
  repeat' (first
 | (with_reducible apply zds); exact tk; rfl; rfl; rfl; rfl; rfl
 | (with_reducible first | intro _ | apply wseq | apply zreg | apply thenQ_n | apply thenQ_r | apply thenQ_e | apply znil | apply wret | apply bodyQ_r | apply wblk | apply blkQ_n | apply blkQ_r | apply wskip | apply wexit)
 | fail)
  refine wlp (X := Int) [0, 1, 2, 11, 12] [0] (fun i => [(13, I i)]) (fun _ => []) (fun i => 0 ≤ i ∧ i ≤ l.length ∧ ∀ j : Int, 0 ≤ j → j < i → bef (rd l j).Account (rd l j).Instr a c) (fun i => (l.length - i).toNat) 0 ⟨by omega, by omega, fun j h0 h1 => by omega⟩ rfl rfl (fun _ => rfl) (fun _ => rfl) ⟨rfl, rfl, rfl, rfl, rfl, rfl, rfl, rfl⟩ (fun i hi => ?_)
  obtain ⟨h0, hi, hall⟩ := hi
  repeat' (first
 | (with_reducible apply zds); exact tk; rfl; rfl; rfl; rfl; rfl
 | (with_reducible apply zd); rfl; exact tk; rfl
 | (with_reducible first | intro _ | apply wseq | apply zreg | apply thenQ_n | apply thenQ_r | apply thenQ_e | apply znil | apply wret | apply bodyQ_r | apply wblk | apply blkQ_n | apply blkQ_r | apply wskip | apply wexit)
 | apply wct rfl
 | apply wcf rfl
 | (with_reducible apply blkQ_x rfl)
 | (with_reducible apply zcmp); rfl; exact tk; rfl; rfl; rfl
 | (with_reducible apply zar); rfl; rfl; rfl; rfl; (first | omega | ((try simp only [List.length_append, List.length_cons, List.length_nil, List.length_map]); (try dsimp only); omega)); rfl; rfl
 | (with_reducible apply zix); rfl; exact tk; (iterate 7 rfl); (first | omega | ((try simp only [List.length_append, List.length_cons, List.length_nil, List.length_map]); (try dsimp only); omega)); rfl; rfl
 | (with_reducible apply zle); rfl; exact tk; rfl; rfl; rfl; rfl; (first | omega | ((try simp only [List.length_append, List.length_cons, List.length_nil, List.length_map]); (try dsimp only); omega)); rfl; rfl; rfl; rfl
 | (with_reducible apply zc); (iterate 10 rfl); exact impl_byBoth; exact fun _ => rfl; rfl; rfl; rfl
 | fail)
  · rename_i h1 h2 h3
    rw [bIx_eq ⟨by omega, by omega⟩ hall (fun _ => byBoth_ge h2)]
    exact endT ((bHas_at hs ⟨h0, h1⟩ hall (byBoth_ge h2)).2 (byBoth_eq.1 h3)) [0] rfl rfl rfl rfl rfl rfl
  · rename_i h1 h2 h3
    rw [bIx_eq ⟨by omega, by omega⟩ hall (fun _ => byBoth_ge h2)]
    exact endF (fun k => h3 (byBoth_eq.2 ((bHas_at hs ⟨h0, h1⟩ hall (byBoth_ge h2)).1 k))) [0] rfl rfl rfl rfl rfl rfl
  · rename_i h1 h2
    exact endR (i + 1) [0] ⟨rfl, rfl, rfl, rfl, rfl, rfl, rfl, rfl⟩ ⟨by omega, by omega, all_step hall (byBoth_lt.1 (by omega))⟩ (by first | omega | (dsimp only; omega))
  · rename_i h1
    rw [bIx_eq (i := l.length) ⟨by omega, by omega⟩ (fun j h2 h3 => hall j h2 (by omega)) (fun h => by omega)]
    exact endF (bHas_no h1 hall) [0] rfl rfl rfl rfl rfl rfl
set_option maxHeartbeats 4000000 in
theorem impl_balOf {l : List Bal} {a c : Int} (hs : BSd l) : FC Tryz.prog 222 [.c (.row 0 0 l.length), I a, I c] ([ro 97 l]) (I (balOf l a c)) ([ro 97 l]) := by
  refine fent tk 23 [.tmp 6] Tryz.func222 (by kernel_rfl) rfl rfl rfl rfl rfl rfl rfl ?_
  have hb := bIx_nn l a c
  repeat' (first
 | (with_reducible apply zds); exact tk; rfl; rfl; rfl; rfl; rfl
 | (with_reducible apply zd); rfl; exact tk; rfl
 | (with_reducible first | intro _ | apply wseq | apply zreg | apply thenQ_n | apply thenQ_r | apply thenQ_e | apply znil | apply wret | apply bodyQ_r | apply wblk | apply blkQ_n | apply blkQ_r | apply wskip | apply wexit)
 | apply wct rfl
 | apply wcf rfl
 | (with_reducible apply zcs); (iterate 10 rfl); exact impl_balAt (by assumption); exact fun _ => rfl; exact fun _ => rfl; rfl; rfl; rfl; rfl
 | fail)
  · rename_i h
    have h1 := (bHas_ix hs h).1
    repeat' (first
 | (with_reducible apply zd); rfl; exact tk; rfl
 | (with_reducible first | intro _ | apply wseq | apply zreg | apply thenQ_n | apply thenQ_r | apply thenQ_e | apply znil | apply wret | apply bodyQ_r | apply wblk | apply blkQ_n | apply blkQ_r | apply wskip | apply wexit)
 | (with_reducible apply zix); rfl; exact tk; (iterate 7 rfl); (first | omega | ((try simp only [List.length_append, List.length_cons, List.length_nil, List.length_map]); (try dsimp only); omega)); rfl; rfl
 | (with_reducible apply zle); rfl; exact tk; rfl; rfl; rfl; rfl; (first | omega | ((try simp only [List.length_append, List.length_cons, List.length_nil, List.length_map]); (try dsimp only); omega)); rfl; rfl; rfl; rfl
 | fail)
    exact endI [0] rfl rfl rfl rfl rfl rfl (balOf_has hs h)
  · rename_i h
    exact endI [0] rfl rfl rfl rfl rfl rfl (balOf_not h)
end Go.Proofs.YtnlajjoheegbiaaGreat.Sh
namespace Go.Proofs.YtnlajjoheegbiaaGreat.Sh
open Go.RowKit
set_option linter.unusedVariables false
set_option linter.unusedSimpArgs false
set_option linter.unusedSectionVars false
noncomputable def flt {α : Type} (p : α → Prop) (l : List α) : List α := l.filter (fun x => dB (p x))
noncomputable def fIx {α : Type} (l : List α) (q : α → Prop) : Int := (l.findIdx (fun x => dB (q x)) : Nat)
section
variable {α : Type} [Enc α] {l : List α} {p q : α → Prop}
theorem dB_iff {p : Prop} : dB p = true ↔ p := ⟨dB_of, dB_t⟩
theorem fIx_nn (l : List α) (q : α → Prop) : 0 ≤ fIx l q ∧ fIx l q ≤ l.length := ⟨by unfold fIx; omega, by unfold fIx; have := List.findIdx_le_length (xs := l) (p := fun x => dB (q x)); omega⟩
theorem fIx_eq {i : Int} (h0 : 0 ≤ i ∧ i < l.length) (hb : ∀ j : Int, 0 ≤ j → j < i → ¬ q (rd l j)) (hi : q (rd l i)) : fIx l q = i := idx_eq ⟨h0.1, by omega⟩ (fun j h1 h2 => by rw [dB_iff]; exact hb j h1 h2) (fun _ => dB_t hi)
theorem fIx_lt (h : ∃ x ∈ l, q x) : fIx l q < l.length := by
  obtain ⟨x, hx, hq⟩ := h
  have : l.findIdx (fun x => dB (q x)) < l.length := List.findIdx_lt_length_of_exists ⟨x, hx, dB_t hq⟩
  unfold fIx
  omega
theorem fIx_at (h : ∃ x ∈ l, q x) : q (rd l (fIx l q)) := by
  have h1 := fIx_lt h
  have h1' : l.findIdx (fun x => dB (q x)) < l.length := by unfold fIx at h1; omega
  have h2 := List.findIdx_getElem (w := h1')
  have e : l[l.findIdx (fun x => dB (q x))] = rd l (fIx l q) := by
    show _ = l.getD ((l.findIdx (fun x => dB (q x)) : Nat) : Int).toNat _
    rw [Int.toNat_natCast, List.getD_eq_getElem?_getD, List.getElem?_eq_getElem h1']
    rfl
  rw [e] at h2
  exact dB_of h2
theorem fIx_bef {j : Int} (h0 : 0 ≤ j) (h : j < fIx l q) : ¬ q (rd l j) := by
  have h1 : j.toNat < l.findIdx (fun x => dB (q x)) := by unfold fIx at h; omega
  have h2 := List.not_of_lt_findIdx h1
  have hl : j.toNat < l.length := by have := List.findIdx_le_length (xs := l) (p := fun x => dB (q x)); omega
  have e : l[j.toNat] = rd l j := by simp [rd, List.getD_eq_getElem?_getD, hl]
  rw [e] at h2
  exact dB_not (by simpa using h2)
theorem no_rd {i : Int} (hi : ¬ i < l.length) (h : ∀ j : Int, 0 ≤ j → j < i → ¬ q (rd l j)) : ¬ ∃ x ∈ l, q x := by
  rintro ⟨x, hx, hq⟩
  obtain ⟨j, hj, rfl⟩ := mem_rd hx
  exact h j hj.1 (by omega) hq
theorem flt_append (a b : List α) : flt p (a ++ b) = flt p a ++ flt p b := List.filter_append _ _
theorem flt_y {x : α} (h : p x) : flt p [x] = [x] := by simp [flt, dB_t h]
theorem flt_n {x : α} (h : ¬ p x) : flt p [x] = [] := by simp [flt, dB_f h]
theorem flt_le (p : α → Prop) (l : List α) : (flt p l).length ≤ l.length := List.length_filter_le _ _
theorem flt_all (h : ∀ x ∈ l, ¬ q x) : flt (fun x => ¬ q x) l = l := List.filter_eq_self.2 fun x hx => dB_t (h x hx)
theorem flt_mem {x : α} : x ∈ flt p l ↔ x ∈ l ∧ p x := by simp [flt, dB_iff]
theorem flt_succ {i : Int} (h : 0 ≤ i ∧ i < l.length) : flt p (pf l (i + 1)) = flt p (pf l i) ++ flt p [rd l i] := by rw [pf_succ h, flt_append]
structure DfI (l : List α) (q : α → Prop) (i j : Int) (xs : List α) : Prop where
  bnd : 0 ≤ i ∧ i < j ∧ j ≤ l.length
  len : xs.length = l.length
  pre : xs.take i.toNat = flt (fun x => ¬ q x) (pf l j)
  suf : xs.drop j.toNat = l.drop j.toNat
theorem DfI.init (h : ∃ x ∈ l, q x) : DfI l q (fIx l q) (fIx l q + 1) l := by
  have h1 := fIx_lt h
  have h2 := fIx_nn l q
  refine ⟨⟨h2.1, by omega, by omega⟩, rfl, ?_, rfl⟩
  rw [flt_succ ⟨h2.1, h1⟩, flt_n (fun k => k (fIx_at h)), List.append_nil]
  refine (flt_all fun x hx => ?_).symm
  obtain ⟨j, hj, rfl⟩ := mem_rd (l := pf l (fIx l q)) hx
  rw [pf_len ⟨h2.1, by omega⟩] at hj
  rw [rd_pf hj]
  exact fIx_bef hj.1 hj.2
theorem DfI.rd {i j : Int} {xs : List α} (h : DfI l q i j xs) (hj : j < l.length) : Sh.rd xs j = Sh.rd l j := by
  have h1 := h.suf
  have h2 := h.bnd
  have e1 := drop_at (l := xs) (i := j) ⟨by omega, by rw [h.len]; exact hj⟩
  have e2 := drop_at (l := l) (i := j) ⟨by omega, hj⟩
  rw [e1, e2] at h1
  exact (List.cons.inj h1).1
theorem DfI.skip {i j : Int} {xs : List α} (h : DfI l q i j xs) (hj : j < l.length) (hq : q (Sh.rd xs j)) : DfI l q i (j + 1) xs := by
  have h2 := h.bnd
  refine ⟨⟨h2.1, by omega, by omega⟩, h.len, ?_, ?_⟩
  · rw [flt_succ ⟨by omega, hj⟩, flt_n (fun k => k (by rw [← h.rd hj]; exact hq)), List.append_nil]
    exact h.pre
  · have e1 := drop_at (l := xs) (i := j) ⟨by omega, by rw [h.len]; exact hj⟩
    have e2 := drop_at (l := l) (i := j) ⟨by omega, hj⟩
    have h1 := h.suf
    rw [e1, e2] at h1
    exact (List.cons.inj h1).2
theorem DfI.keep {i j : Int} {xs : List α} (h : DfI l q i j xs) (hj : j < l.length) (hq : ¬ q (Sh.rd xs j)) : DfI l q (i + 1) (j + 1) (upd xs i (Sh.rd xs j)) := by
  have h2 := h.bnd
  have hlen := h.len
  refine ⟨⟨by omega, by omega, by omega⟩, by rw [upd_len]; exact h.len, ?_, ?_⟩
  · rw [flt_succ ⟨by omega, hj⟩, flt_y (p := fun x => ¬ q x) (by rw [← h.rd hj]; exact hq), ← h.pre, show (i + 1).toNat = i.toNat + 1 from by omega, List.take_add_one, upd, List.take_set_of_le (Nat.le_refl _), List.getElem?_set_self (by omega), h.rd hj]
    rfl
  · have e1 := drop_at (l := xs) (i := j) ⟨by omega, by rw [h.len]; exact hj⟩
    have e2 := drop_at (l := l) (i := j) ⟨by omega, hj⟩
    have h1 := h.suf
    rw [e1, e2] at h1
    rw [← (List.cons.inj h1).2, upd, List.drop_set_of_lt (by omega)]
theorem DfI.fin {i j : Int} {xs : List α} (h : DfI l q i j xs) (hj : ¬ j < l.length) : xs.take i.toNat = flt (fun x => ¬ q x) l := by rw [h.pre, pf_all hj]
theorem DfI.len2 {i j : Int} {xs : List α} (h : DfI l q i j xs) (hj : ¬ j < l.length) : i.toNat = (flt (fun x => ¬ q x) l).length := by
  rw [← h.fin hj, List.length_take]
  have := h.bnd
  have := h.len
  omega
end
end Go.Proofs.YtnlajjoheegbiaaGreat.Sh
