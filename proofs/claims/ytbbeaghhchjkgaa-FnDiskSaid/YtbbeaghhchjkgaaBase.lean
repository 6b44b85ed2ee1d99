/- Small functions of numbers. No condition. -/
import Derived.Test.YtbbeaghhchjkgaaKit
import Derived.Deep.DrawnRows
namespace Go.Proofs.Ytbbeaghhchjkgaa.Im
open Go.RowKit Go.Proofs.YtbbeaghhchjkgaaW.PrintWords Go.Proofs.Ytbbeaghhchjkgaa.Sp Go.Proofs.Ytbbeaghhchjkgaa.Ty
set_option linter.unusedVariables false
set_option linter.unusedSimpArgs false
/-- Whether n is from lo to hi. -/
def inB (n lo hi : Int) : Bool := decide (lo ≤ n) && decide (n ≤ hi)
theorem inB_iff {n lo hi : Int} : inB n lo hi = true ↔ lo ≤ n ∧ n ≤ hi := by simp [inB]
theorem inB_false {n lo hi : Int} : inB n lo hi = false ↔ ¬ (lo ≤ n ∧ n ≤ hi) := by rw [← inB_iff]; simp
theorem impl_in (a b c : Int) (w : World) : Calls Try.prog 47 #[.int .i64 a, .int .i64 b, .int .i64 c] w fun e w' => e = .returned (.bool (inB a b c)) ∧ Drawn0 w w' := by
  by_cases h : b ≤ a
  all_goals
    (first | have h1 : decide (b ≤ a) = true := decide_eq_true h | have h1 : decide (b ≤ a) = false := decide_eq_false h)
    clear h
    go_enter Try.func47, Try.ntmps47
    go_wp2
    repeat (go_quiet (fail); try go_wp2)
    go_ret
    exact ⟨by simp [inB, h1], by repeat (first | exact Drawn0.refl _ | apply Drawn0.step)⟩
theorem spec_in (a b c : Int) (w : World) : Calls Try.prog 42 #[.int .i64 a, .int .i64 b, .int .i64 c] w fun e w' => e = .returned (.bool (inB a b c)) ∧ Drawn0 w w' := by
  by_cases h : b ≤ a
  all_goals
    (first | have h1 : decide (b ≤ a) = true := decide_eq_true h | have h1 : decide (b ≤ a) = false := decide_eq_false h)
    clear h
    go_enter Try.func42, Try.ntmps42
    go_wp2
    repeat (go_quiet (fail); try go_wp2)
    go_ret
    exact ⟨by simp [inB, h1], by repeat (first | exact Drawn0.refl _ | apply Drawn0.step)⟩
end Go.Proofs.Ytbbeaghhchjkgaa.Im
