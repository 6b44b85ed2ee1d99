-- Filled by wip/printx.py out of wip/ext: functions proved by hand
import Derived.Test.YtnafmfhfonhmaaaPFnSealx0
import Derived.Shelf.Spec.SlicesGrow
namespace Go.Proofs.Ytnafmfhfonhmaaa.PFnSeal
open Go.RowKit Go.Proofs.YtnafmfhfonhmaaaW.PrintWords Go.Proofs.YtnafmfhfonhmaaaW.PrintLast Go.Proofs.YtnafmfhfonhmaaaW.PrintMore
set_option linter.unusedVariables false
set_option linter.unusedSimpArgs false
-- import Shelf.Spec.SlicesGrow
/-! ### slices_Grow_byte_byte: slices.Grow of no row, by more than nothing -/
open Go.Shelf in
shelf_lay_g Lays8.n4 Nm8 4 at Try 89 as slices_Grow_byte_byte.lay
def slices_Grow_byte_byte.f (l0 : List Int) (a1 : Int) : Option (List Int) := if l0.length = 0 ∧ 0 < a1 ∧ a1 ≤ 140737488351232 then some [] else none
theorem slices_Grow_byte_byte.calls (A0 : Option Addr) (c0 : Nat) (l0 : List Int) (a1 : Int) (r : List Int) (w : World) (hr0 : Kd.C (Kd.int .u8) w A0 l0.length l0) (hc0 : c0 ≤ l0.length) (h : slices_Grow_byte_byte.f l0 a1 = some r) :
    Calls Try.prog 89 #[.slice A0 l0.length c0, .int .i64 a1] w fun e w' => ∃ v0_ : Value, e = .returned (v0_) ∧ Kd.R (Kd.int .u8) 5 w' w.heap.size (fun _ => True) v0_ r ∧ Below w.heap.size w w' := by
  have hl : (l0.length = 0 ∧ 0 < a1 ∧ a1 ≤ 140737488351232) ∧ [] = r := by
    unfold slices_Grow_byte_byte.f at h
    split at h
    · exact ⟨by assumption, Option.some.inj h⟩
    · cases h
  obtain ⟨⟨hl, h0, h1⟩, rfl⟩ := hl
  obtain rfl : l0 = [] := List.length_eq_zero_iff.1 hl
  obtain rfl : c0 = 0 := by simpa using hc0
  obtain ⟨n, rfl⟩ : ∃ n : Nat, a1 = n := ⟨a1.toNat, by omega⟩
  obtain ⟨i0, hi, hz, hsz, hb⟩ := info_parts info5
  have hG := grownCap_ge w (0 + n) 0 5
  have hM := grownCap_le_maxLen w (0 + n) 0 5 (by unfold maxLen; omega)
  refine (Any8.slices_Grow_grow slices_Grow_byte_byte.lay i0 _ hi hz (by rw [hsz]; decide) A0 0 0 n [] w (by omega) (by omega) (by rw [hb]; omega) (by omega) (by simp) (fun _ => rfl) (fun _ _ j v hj => by simp at hj)).mono ?_
  rintro e w' ⟨rfl, rfl⟩
  refine ⟨_, rfl, ⟨fun _ _ => trivial, [], ?_, Reps.none _ _⟩, below_alloc (below_drew1 (Below.refl _ _)) _⟩
  have h2 := own_take (m := 0) (World.ownsRow_lit (base := w.heap.size) (e := 5) (size := 1) w.drew (([] : List Value).toArray ++ Builtin.zeroCells ((.int .u8 0) : Value).cells (0 + n - 0) ++ Builtin.zeroCells ((.int .u8 0) : Value).cells (grownCap w (0 + n) 0 5 - (0 + n))) (grownCap w (0 + n) 0 5) (Nat.le_refl _) hM (by
    have hc : ((.int .u8 0) : Value).cells.size = 1 := rfl
    rw [Array.size_append, Array.size_append, size_zeroCells, size_zeroCells, hc]
    simp only [List.size_toArray, List.length_nil]
    omega)) (Nat.zero_le _)
  rw [Nat.zero_mul, List.take_zero] at h2
  exact h2

end Go.Proofs.Ytnafmfhfonhmaaa.PFnSeal
