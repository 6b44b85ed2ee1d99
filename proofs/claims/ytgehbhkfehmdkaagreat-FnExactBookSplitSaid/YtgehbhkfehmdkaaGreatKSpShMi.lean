/- How long books' rows may become. No condition. -/
import Derived.Test.YtgehbhkfehmdkaaGreatKSpShPq
import Derived.Test.YtgehbhkfehmdkaaGreatKSpShB1
namespace Go.Proofs.YtgehbhkfehmdkaaGreat.Sh
open Go.RowKit
set_option linter.unusedVariables false
set_option linter.unusedSimpArgs false
theorem sel_ind {β : Type} {P : β → Prop} {p : Prop} {a b : β} (h1 : p → P a) (h2 : ¬ p → P b) : P (sel p a b) := by
  by_cases h : p
  · rw [sel_t h]; exact h1 h
  · rw [sel_f h]; exact h2 h
def MidR (b : Books) : Prop := MidL b.Accounts.length b.Instrs.length b.Bals.length b.Lots.length b.Trades.length
theorem mid0 : MidR ⟨[], [], [], [], [], 0⟩ := ⟨by simp, by simp, by simp, by simp, by simp⟩
theorem post_len {l : List Bal} {g : List Leg} {sh : List Int} (h : (balsPost l g sh).2 = 0) : (balsPost l g sh).1.length ≤ 160 := by
  by_cases h1 : BalsOk l ∧ legsForm g ∧ sh.length ≤ 20
  rotate_left
  · rw [bp_1 h1] at h; exact absurd (show (1 : Int) = 0 from h) (by decide)
  by_cases h2 : LegsOk g
  rotate_left
  · rw [bp_2 h1 h2] at h; exact absurd (show (2 : Int) = 0 from h) (by decide)
  by_cases h3 : postFit l g
  rotate_left
  · rw [bp_4 h1 h2 h3] at h; exact absurd (show (4 : Int) = 0 from h) (by decide)
  by_cases h4 : postLow (pO l g) g sh
  · rw [bp_3 h1 h2 h3 h4] at h; exact absurd (show (3 : Int) = 0 from h) (by decide)
  by_cases h5 : 160 < (pO l g).length
  · rw [bp_5 h1 h2 h3 h4 h5] at h; exact absurd (show (5 : Int) = 0 from h) (by decide)
  · rw [bp_0 h1 h2 h3 h4 h5]; exact Nat.le_of_not_lt h5
theorem Small.post {b : Books} (s : Small b) {g : List Leg} (h : (poR b g).2 = 0) {n : Int} : MidR ⟨b.Accounts, b.Instrs, (poR b g).1, b.Lots, b.Trades, n⟩ := by
  have m := s.mid
  have := post_len h
  exact ⟨m.a1, m.a2, by show (balsPost b.Bals g (shA b.Accounts)).1.length ≤ 4294967296; omega, m.a4, m.a5⟩
end Go.Proofs.YtgehbhkfehmdkaaGreat.Sh
