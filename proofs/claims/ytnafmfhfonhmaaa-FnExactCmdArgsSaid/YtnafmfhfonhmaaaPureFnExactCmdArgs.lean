/- At every kind the program's CmdArgs tells what the reference's tells (the pure side). No condition. -/
import Derived.Test.YtnafmfhfonhmaaaPFnExactCmdArgsx1
import Derived.Test.YtnafmfhfonhmaaaU0
namespace Go.Proofs.Ytnafmfhfonhmaaa.Pure
open Go.RowKit Go.Proofs.Ytnafmfhfonhmaaa.PFnExactCmdArgs Go.Proofs.YtnafmfhfonhmaaaW.PrintWords Go.Proofs.YtnafmfhfonhmaaaW.PrintLast

theorem FnExactCmdArgs : laws_FnExactCmdArgs.Pure := by
  intro a0 _
  by_cases h : 1 ≤ a0 ∧ a0 ≤ 11
  · have : a0 = 1 ∨ a0 = 2 ∨ a0 = 3 ∨ a0 = 4 ∨ a0 = 5 ∨ a0 = 6 ∨ a0 = 7 ∨ a0 = 8 ∨ a0 = 9 ∨ a0 = 10 ∨ a0 = 11 := by omega
    rcases this with rfl | rfl | rfl | rfl | rfl | rfl | rfl | rfl | rfl | rfl | rfl <;> exact ⟨5, by decide⟩
  · refine ⟨5, ?_⟩
    have hs : spec_CmdArgs.f a0 = some (-1) := by
      unfold spec_CmdArgs.f spec_l1In.f
      by_cases h1 : a0 ≥ 1
      · rw [if_pos h1, decide_eq_false (by omega)]; rfl
      · rw [if_neg h1]; rfl
    have b : ∀ c : Int, 1 ≤ c → c ≤ 11 → (a0 == c) = false := fun c h1 h2 => by rw [beq_eq_false_iff_ne]; omega
    have hi : impl_CmdArgs.f 5 a0 = some (-1) := by
      unfold impl_CmdArgs.f
      rw [if_neg (by omega), if_neg (by omega), b 7 (by omega) (by omega)]
      simp only [impl_CmdArgs.j0]
      rw [if_neg (by decide), if_neg (by omega), if_neg (by omega), if_neg (by omega), b 11 (by omega) (by omega)]
      simp only [impl_CmdArgs.j1]
      rw [if_neg (by decide), if_neg (by omega), b 4 (by omega) (by omega)]
      simp only [impl_CmdArgs.j2]
      rw [if_neg (by decide), if_neg (by omega), if_neg (by omega)]
    unfold laws_FnExactCmdArgs.f
    rw [hs, hi]
    rfl
end Go.Proofs.Ytnafmfhfonhmaaa.Pure
