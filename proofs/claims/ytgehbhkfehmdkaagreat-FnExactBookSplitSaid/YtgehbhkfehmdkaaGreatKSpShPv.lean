/- What is paid: legs. No condition. -/
import Derived.Test.YtgehbhkfehmdkaaGreatKSpShSw
import Derived.Test.YtgehbhkfehmdkaaGreatKSpShPn
import Derived.Test.YtgehbhkfehmdkaaGreatKSpShPq
import Derived.Test.YtgehbhkfehmdkaaGreatKSpShMw
namespace Go.Proofs.YtgehbhkfehmdkaaGreat.Sh
open Go.RowKit
set_option linter.unusedVariables false
set_option linter.unusedSimpArgs false
theorem set_sum : ∀ (l : List Int) (k : Nat) (x : Int), k < l.length → sumF id (l.set k x) = sumF id l - l.getD k 0 + x
  | [], _, _, h => absurd h (Nat.not_lt_zero _)
  | a :: l, 0, x, _ => by
    rw [List.set_cons_zero, sumF_cons, sumF_cons, List.getD_cons_zero]
    simp only [id]
    omega
  | a :: l, k + 1, x, h => by
    have ih := set_sum l k x (by simpa using h)
    rw [List.set_cons_succ, sumF_cons, sumF_cons, List.getD_cons_succ, ih]
    simp only [id]
    omega
theorem rd_nat {l : List Int} {i : Int} (h : 0 ≤ i ∧ i < l.length) : rd l i = l.getD i.toNat 0 := by
  unfold rd
  rw [List.getD_eq_getElem?_getD, List.getD_eq_getElem?_getD, List.getElem?_eq_getElem (by omega : i.toNat < l.length)]
  rfl
theorem inc_sum {o : List Int} {i : Int} (h : 0 ≤ i ∧ i < o.length) : sumF id (inc o i) = sumF id o + 1 := by
  unfold inc upd
  rw [set_sum _ _ _ (by omega), rd_nat h]
  omega
theorem incd_sum {t : Int} {ws : List Int} : ∀ k : Nat, (k : Int) ≤ ws.length → sumF id (incd t ws k) = sumF id (shQs t ws) + k
  | 0, _ => by show sumF id (shQs t ws) = _; omega
  | k + 1, hk => by
    have ih := incd_sum (t := t) (ws := ws) k (by omega)
    have hr := shOrd_rng (t := t) (ws := ws) (k := k) ⟨by omega, by omega⟩
    have e : ((k + 1 : Nat) : Int) = (k : Int) + 1 := by omega
    have e2 : incd t ws ((k : Int) + 1) = inc (incd t ws k) (rd (shOrd t ws) k) := incd_succ ⟨by omega, by omega⟩
    rw [e, e2, inc_sum (by rw [incd_len]; exact hr), ih]
    omega
theorem shs_sum {t : Int} {ws : List Int} (h : shareable t ws) : sumF id (shs t ws) = t := by
  have hm := h.more
  have e := incd_sum (t := t) (ws := ws) (shMore t ws).toNat (by omega)
  rw [show (((shMore t ws).toNat : Nat) : Int) = shMore t ws from by omega] at e
  have e2 : incd t ws (shMore t ws) = shs t ws := rfl
  rw [e2] at e
  have e3 : shMore t ws = t - sumF id (shQs t ws) := rfl
  omega
theorem shs_nn {t : Int} {ws : List Int} (h : shareable t ws) : ∀ x ∈ shs t ws, 0 ≤ x := fun x hx => by
  obtain ⟨j, hj, rfl⟩ := mem_rd hx
  rw [shs_len] at hj
  have hm := h.more
  have := incd_bd h (shMore t ws).toNat (by omega) j hj.1 hj.2
  rw [show (((shMore t ws).toNat : Nat) : Int) = shMore t ws from by omega] at this
  exact this.1
theorem shs_le {t : Int} {ws : List Int} (h : shareable t ws) : ∀ x ∈ shs t ws, 0 ≤ x ∧ x ≤ t := fun x hx => ⟨shs_nn h x hx, by have := sumF_mem (shs_nn h) hx; rw [shs_sum h] at this; exact this⟩
theorem who_no {ba : List Account} {bb : List Bal} {p : Int} (ha : AccountsOk ba) : ∀ x ∈ who ba bb p, isNo x := fun x hx => by
  unfold who at hx
  obtain ⟨a, h1, rfl⟩ := List.mem_map.1 hx
  obtain ⟨i, hi, rfl⟩ := mem_rd (flt_mem.1 h1).1
  exact (ha.1 i hi.1 hi.2).1
theorem held_sh {b : Books} {p t : Int} (h : HeldOk b p) (hw : 0 < ((who b.Accounts b.Bals p).length : Int)) (ht : inP t 0 1000000000000000) : shareable t (much b.Accounts b.Bals p) := by
  have hr := much_rng (ba := b.Accounts) (p := p) h.1.bals
  have hl := much_len b.Accounts b.Bals p
  have h1 := who_len b.Accounts b.Bals p
  have h2 := h.1.acc.2
  have hm : rd (much b.Accounts b.Bals p) 0 ∈ much b.Accounts b.Bals p := rd_mem ⟨Int.le_refl 0, by omega⟩
  have h3 := (hr _ hm).1
  have h4 := sumF_mem (fun x hx => Int.le_of_lt (hr x hx).1) hm
  have h5 := h.2
  unfold amountOk inP at h5
  exact ⟨⟨⟨by omega, by omega⟩, fun x hx => ⟨Int.le_of_lt (hr x hx).1, (hr x hx).2⟩, ⟨by omega, h5.2⟩⟩, ht⟩
end Go.Proofs.YtgehbhkfehmdkaaGreat.Sh
