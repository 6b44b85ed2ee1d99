/- The law FnExactNetLegs, walked. No condition. -/
import Derived.Test.YtnlajjoheegbiaaGreatKNeShNn
import Derived.Test.YtnlajjoheegbiaaGreatKNeShY
import Derived.Test.YtnlajjoheegbiaaGreatKNeShU
namespace Go.Proofs.YtnlajjoheegbiaaGreat.Sh
open Go.RowKit
set_option linter.unusedVariables false
set_option linter.unusedSimpArgs false
theorem fold_len (G L : List Leg) : (G.foldl nt L).length ≤ L.length + G.length := by
  induction G generalizing L with
  | nil => simp
  | cons x G ih =>
    have h1 := ih (nt L x)
    have h2 := nt_len L x
    rw [List.foldl_cons, List.length_cons]
    omega
theorem lgs_len (bt : List Trade) (nos : List Int) : (lgs bt nos).length = 4 * nos.length := by
  induction nos with
  | nil => rfl
  | cons x nos ih =>
    have e : lgs bt (x :: nos) = legT bt x ++ lgs bt nos := rfl
    have e2 : (legT bt x).length = 4 := rfl
    rw [e, List.length_append, ih, e2, List.length_cons]
    omega
theorem netR_len {b : Books} {nos : List Int} (h : NetOk b nos) : (netR b nos).length ≤ 120 := by
  have h1 := flt_le (fun x : Leg => ¬ (x.Amount = 0)) (ntA (lgs b.Trades nos))
  have h2 := fold_len (lgs b.Trades nos) []
  have h3 := lgs_len b.Trades nos
  have h4 := h.2.1
  have h5 : ([] : List Leg).length = 0 := rfl
  unfold netR
  unfold ntA at *
  omega
end Go.Proofs.YtnlajjoheegbiaaGreat.Sh
