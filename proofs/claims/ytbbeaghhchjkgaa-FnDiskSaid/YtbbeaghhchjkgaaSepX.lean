/- Events in regions that draw their order. No condition. -/
import Derived.Test.YtbbeaghhchjkgaaSep
import Derived.Test.YtbbeaghhchjkgaaWLast
namespace Go.Proofs.Ytbbeaghhchjkgaa.Sp
open Go.RowKit Go.Proofs.YtbbeaghhchjkgaaW.PrintWords
set_option linter.unusedVariables false
def OnlyK (Kc : Act → World → Prop) : Exit → Act → World → Prop
  | .normal, a, w => Kc a w
  | _, _, _ => False
section
variable {P : Program} {ops : Array Oper} {o : Oper} {a : Act} {Q : Exit → Act → World → Prop} {Kc : Act → World → Prop} {W : World}
/-- An event's law, said of a list of operations, as one step of a region that draws. -/
theorem wp_of_list (hg : o.guard = none) (h : wpList P #[] (OnlyK Kc) [o] a W) : Oper.wp P o a W Kc Q := by
  unfold wpList at h
  rw [if_pos (by simp [Region.wanted, hg])] at h
  rcases h with h | ⟨_, h⟩
  · unfold Oper.wp at *
    have e : wpList P #[] (OnlyK Kc) [] = Kc := rfl
    rw [e] at h
    generalize (execOp a.eval o).run P W = r at *
    cases r with
    | ok n w' =>
      cases n <;> simp only [Oper.upon] at h ⊢ <;>
        first
          | exact h
          | exact Calls.mono h (fun e w'' he => by cases e <;> first | exact he | exact (he : False).elim | (obtain ⟨_, _, h1⟩ := he; exact (h1 : False).elim))
    | halt x w' => cases x <;> simp only [Oper.upon] at h ⊢ <;> first | exact h | exact (h : False).elim
  · obtain ⟨_, _, h1⟩ := h
    exact (h1 : False).elim
end
end Go.Proofs.Ytbbeaghhchjkgaa.Sp
