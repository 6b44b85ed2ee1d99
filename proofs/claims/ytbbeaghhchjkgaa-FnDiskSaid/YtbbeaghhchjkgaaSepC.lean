/- A draw's cursor as a part of the memory, ahead of all others. No condition. -/
import Derived.Test.YtbbeaghhchjkgaaSepZ
namespace Go.Proofs.Ytbbeaghhchjkgaa.Sp
open Go.RowKit Go.Proofs.YtbbeaghhchjkgaaW.PrintWords
set_option linter.unusedVariables false
/-- A cursor over the bytes A: where it stands and what it has mixed are left open. -/
def Ob.cur (g : Nat) (A : Option Addr) (n cp : Nat) : Ob where
  P := fun w base F => ∃ i h : Int, 0 ≤ i ∧ (Ob.box g #[.slice A n cp, .int .i64 i, .int .i64 h] 118).P w base F
  mono := fun h ⟨i, k, a, b⟩ => ⟨i, k, a, (Ob.box g _ 118).mono h b⟩
  bound := fun ⟨i, k, a, b⟩ => ⟨i, k, a, (Ob.box g _ 118).bound b⟩
  move := fun h ⟨i, k, a, b⟩ => ⟨i, k, a, (Ob.box g _ 118).move h b⟩
  lower := fun h ⟨i, k, a, b⟩ => ⟨i, k, a, (Ob.box g _ 118).lower h b⟩
  fact := fun _ => True
  sound := fun _ => trivial
theorem fact_cur (g : Nat) (A : Option Addr) (n cp : Nat) (w : World) : (Ob.cur g A n cp).fact w = True := rfl
section
variable {w0 w : World} {L M : List Ob} {g n cp : Nat} {A : Option Addr} {c q p : Ob}
theorem Sep.openCur (h : Sep w0 w (Ob.cur g A n cp :: M)) : ∃ i k : Int, 0 ≤ i ∧ Sep w0 w (Ob.box g #[.slice A n cp, .int .i64 i, .int .i64 k] 118 :: M) := by
  obtain ⟨h1, ow, h2⟩ := h
  obtain ⟨i, k, a, b⟩ := h2 0 _ rfl
  refine ⟨i, k, a, h1, ow, fun j o ho => ?_⟩
  cases j with
  | zero => obtain rfl := Option.some.inj ho; exact b
  | succ j => exact h2 (j + 1) o ho
theorem Sep.closeCur {i k : Int} (h : Sep w0 w (Ob.box g #[.slice A n cp, .int .i64 i, .int .i64 k] 118 :: M)) (h0 : 0 ≤ i) : Sep w0 w (Ob.cur g A n cp :: M) := by
  obtain ⟨h1, ow, h2⟩ := h
  refine ⟨h1, ow, fun j o ho => ?_⟩
  cases j with
  | zero => obtain rfl := Option.some.inj ho; exact ⟨i, k, h0, h2 0 _ rfl⟩
  | succ j => exact h2 (j + 1) o ho
/-- Some of the parts, by numbers there and back. -/
theorem Sep.sub {L' : List Ob} (h : Sep w0 w L) (f b : Nat → Nat) (hf : ∀ (j : Nat) o, L'[j]? = some o → L[f j]? = some o ∧ b (f j) = j) : Sep w0 w L' := by
  obtain ⟨h1, ow, h2⟩ := h
  refine ⟨h1, fun k => b (ow k), fun j o ho => ?_⟩
  obtain ⟨a1, a2⟩ := hf j o ho
  exact o.mono (fun k hk => ⟨hk.1, hk.2.1, by show b (ow k) = j; rw [hk.2.2]; exact a2⟩) (h2 _ o a1)
/-- The last part comes behind the first. -/
theorem Sep.ins1 (h : Sep w0 w (c :: (L ++ [q]))) : Sep w0 w (c :: q :: L) := by
  refine h.sub (fun j => if j = 0 then 0 else if j = 1 then L.length + 1 else j - 1) (fun i => if i = 0 then 0 else if i = L.length + 1 then 1 else i + 1) (fun j o ho => ?_)
  match j with
  | 0 => exact ⟨ho, rfl⟩
  | 1 =>
    refine ⟨?_, ?_⟩
    · show (c :: (L ++ [q]))[L.length + 1]? = some o
      rw [List.getElem?_cons_succ, List.getElem?_append_right (Nat.le_refl _), Nat.sub_self]; exact ho
    · show (if L.length + 1 = 0 then 0 else if L.length + 1 = L.length + 1 then 1 else L.length + 1 + 1) = 1
      rw [if_neg (by omega), if_pos rfl]
  | j + 2 =>
    have ho' : L[j]? = some o := ho
    have hl := (List.getElem?_eq_some_iff.1 ho').1
    refine ⟨?_, ?_⟩
    · show (c :: (L ++ [q]))[j + 1]? = some o
      rw [List.getElem?_cons_succ, List.getElem?_append_left hl]; exact ho'
    · show (if j + 1 = 0 then 0 else if j + 1 = L.length + 1 then 1 else j + 1 + 1) = j + 2
      rw [if_neg (by omega), if_neg (by omega)]
theorem Sep.del1 (h : Sep w0 w (c :: q :: L)) : Sep w0 w (c :: L) := by
  refine h.sub (fun j => if j = 0 then 0 else j + 1) (fun i => if i = 0 then 0 else i - 1) (fun j o ho => ?_)
  cases j with
  | zero => exact ⟨ho, rfl⟩
  | succ j => exact ⟨ho, rfl⟩
theorem Sep.swap1 (h : Sep w0 w (c :: p :: q :: L)) : Sep w0 w (c :: q :: p :: L) := by
  refine h.sub (fun j => if j = 1 then 2 else if j = 2 then 1 else j) (fun j => if j = 1 then 2 else if j = 2 then 1 else j) (fun j o ho => ?_)
  match j with
  | 0 => exact ⟨ho, rfl⟩
  | 1 => exact ⟨ho, rfl⟩
  | 2 => exact ⟨ho, rfl⟩
  | j + 3 => exact ⟨ho, by show (if j + 3 = 1 then 2 else if j + 3 = 2 then 1 else j + 3) = j + 3; rw [if_neg (by omega), if_neg (by omega)]⟩
end
end Go.Proofs.Ytbbeaghhchjkgaa.Sp
