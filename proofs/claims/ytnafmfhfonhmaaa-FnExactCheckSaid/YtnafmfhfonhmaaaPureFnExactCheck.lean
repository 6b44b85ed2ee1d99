/- At every row of bytes the program's Check tells what the reference's tells (the pure side). No condition. -/
import Derived.Test.YtnafmfhfonhmaaaPFnExactCheckx1
import Derived.Test.YtnafmfhfonhmaaaU0
namespace Go.Proofs.Ytnafmfhfonhmaaa.Pure
open Go.RowKit Go.Proofs.Ytnafmfhfonhmaaa.PFnExactCheck Go.Proofs.YtnafmfhfonhmaaaW.PrintWords Go.Proofs.YtnafmfhfonhmaaaW.PrintLast Go.Proofs.Ytnafmfhfonhmaaa.U0

theorem toByte_same (l : List Int) (h : l.length ≤ 1048576) (k : Nat) (hk : l.length < k) : laws_toByteS.f k l = some l := by
  unfold laws_toByteS.f
  rw [if_pos (by omega), if_pos (by omega), Int.toNat_natCast]
  exact copy_all (fun _ _ _ _ => by rw [laws_toByteS.l0]) (fun _ _ h => rd_lt h) l (by omega) 0 k hk
theorem eqByte_same (l : List Int) (h : l.length ≤ 1048576) (k : Nat) (hk : l.length < k) : laws_eqByteS.f k l l = some true := by
  unfold laws_eqByteS.f
  rw [if_pos rfl]
  exact same_loop (c := fun x y i => rd x i = rd y i) (fun _ _ _ _ => by rw [laws_eqByteS.l0]) l (fun _ _ _ => rfl) (by omega) l.length 0 (by omega) k hk

theorem check_both (l : List Int) (h : l.length ≤ 1048576) (d : Nat) : ∀ (i : Nat) (x y : Int), i + d = l.length → ∀ k, d < k → ∃ r, spec_Check.l0 k l x y i = some r ∧ impl_Check.l0 k x y l l.length i = some r := by
  induction d with
  | zero =>
    intro i x y hi k hk
    obtain ⟨k, rfl⟩ : ∃ m, k = m + 1 := ⟨k - 1, by omega⟩
    simp only [spec_Check.l0, impl_Check.l0]
    rw [if_neg (by omega), if_neg (by omega)]
    exact ⟨_, rfl, rfl⟩
  | succ d ih =>
    intro i x y hi k hk
    obtain ⟨k, rfl⟩ : ∃ m, k = m + 1 := ⟨k - 1, by omega⟩
    simp only [spec_Check.l0, impl_Check.l0]
    rw [if_pos (by omega), if_pos (by omega), if_pos (by omega), if_pos (by omega), if_pos (by omega), w_in (n := (i : Int) + 1) (by omega) (by omega)]
    exact ih (i + 1) _ _ (by omega) k (by omega)

theorem FnExactCheck : laws_FnExactCheck.Pure := by
  intro l _ _ _
  by_cases h : (l.length : Int) > 1048576
  · exact ⟨0, by unfold laws_FnExactCheck.f; rw [if_pos h]⟩
  · refine ⟨l.length + 1, ?_⟩
    obtain ⟨r, h1, h2⟩ := check_both l (by omega) l.length 0 0 0 (by omega) (l.length + 1) (by omega)
    have ht := toByte_same l (by omega) (l.length + 1) (by omega)
    have he := eqByte_same l (by omega) (l.length + 1) (by omega)
    unfold laws_FnExactCheck.f spec_Check.f impl_Check.f
    rw [if_neg h, ht]
    simp only [Option.bind_some]
    rw [show spec_Check.l0 (l.length + 1) l 0 0 0 = some r from h1, show impl_Check.l0 (l.length + 1) 0 0 l l.length 0 = some r from h2]
    simp only [Option.bind_some, he, if_true]
end Go.Proofs.Ytnafmfhfonhmaaa.Pure
