-- Filled by wip/printx.py out of wip/ext: functions proved by hand
import Derived.Test.YtnafmfhfonhmaaaPFnExactCmdOkx0
import Derived.Test.YtnafmfhfonhmaaaPFnExactCmdOkx2
import Derived.Test.YtnafmfhfonhmaaaEFnExactCmdOkhofint
namespace Go.Proofs.Ytnafmfhfonhmaaa.PFnExactCmdOk
open Go.RowKit Go.Proofs.YtnafmfhfonhmaaaW.PrintWords Go.Proofs.YtnafmfhfonhmaaaW.PrintLast Go.Proofs.YtnafmfhfonhmaaaW.PrintMore
set_option linter.unusedVariables false
set_option linter.unusedSimpArgs false
/-! ### impl_CmdOk -/
def impl_CmdOk.p (n : Int) : Bool := !decide (0 ≤ n ∧ n ≤ 1000000000000000)
def impl_CmdOk.f (k : Nat) (a0_0 : Int) (l0_1 : List Int) : Option (Bool) := (impl_CmdArgs.f k a0_0).bind fun n => some ((l0_1.length : Int) == n && !l0_1.any impl_CmdOk.p)
theorem impl_CmdOk.mono : ∀ a0 a1 k, LeO (impl_CmdOk.f k a0 a1) (impl_CmdOk.f (k + 1) a0 a1) := by
  intro a0 a1 k
  unfold impl_CmdOk.f
  exact LeO.bind (impl_CmdArgs.mono _ _) (fun _ => LeO.refl _)
theorem impl_CmdOk.one (x : Int) (w : World) : Calls Try.prog 74 (#[.int .i64 x] ++ #[]) w fun e w' => e = .returned (.bool (impl_CmdOk.p x)) ∧ Drawn0 w w' := by
  have h : impl_CmdOk_1.f x = some (impl_CmdOk.p x) := by
    unfold impl_CmdOk_1.f impl_in.f impl_CmdOk.p
    by_cases c : 0 ≤ x
    · rw [if_pos (show x ≥ 0 from c)]; simp [c]
    · rw [if_neg (show ¬ x ≥ 0 from c)]; simp [c]
  exact impl_CmdOk_1.calls x _ w h
set_option maxHeartbeats 8000000 in
set_option maxRecDepth 100000 in
theorem impl_CmdOk.calls (k : Nat) (a0_0 : Int) (A0_1 : Option Addr) (c0_1 : Nat) (l0_1 : List Int) (r : Bool) (w : World) (hr0_1 : Kd.C (Kd.int .i64) w A0_1 l0_1.length l0_1) (hc0_1 : l0_1.length ≤ c0_1) (h : impl_CmdOk.f k a0_0 l0_1 = some r) :
    Calls Try.prog 37 #[.agg #[.int .i64 a0_0, .slice A0_1 l0_1.length c0_1]] w fun e w' => e = .returned (.bool r) ∧ Below w.heap.size w w' := by
  obtain ⟨n, hn, h⟩ := Option.bind_eq_some_iff.1 h
  have hr := Option.some.inj h
  clear h
  have hu := Try.underlying46
  have eg := enters_of Try.func74 (by kernel_rfl) rfl
  have hW : Below w.heap.size w (w.alloc (.cells #[.int .i64 a0_0, .slice A0_1 l0_1.length c0_1] 46)) := (Below.refl _ _).alloc (Nat.le_refl _) _
  have hc := fun q => hof_has_int (fun W => Drawn0 ((w.alloc (.cells #[.int .i64 a0_0, .slice A0_1 l0_1.length c0_1] 46)).drewN q) W) 74 #[] impl_CmdOk.p eg A0_1 c0_1 l0_1 _ (Drawn0.refl _)
    (fun W ⟨⟨m, e⟩⟩ => by subst e; exact Kd.C_drewN (Kd.C_drewN (Kd.C_alloc hr0_1 _) _) _) (fun W x _ hd => (impl_CmdOk.one x W).mono fun e w' ⟨h1, h2⟩ => ⟨h1, by obtain ⟨⟨m, rfl⟩⟩ := hd; obtain ⟨⟨m', rfl⟩⟩ := h2; exact ⟨⟨m + m', World.drewN_drewN _ _ _⟩⟩⟩)
  have HC := Aside0.mk hc
  have HN := Aside0.mk hn
  have HW := Aside0.mk hW
  have HR := Aside0.mk hr
  clear hc hn hW hr hr0_1 eg
  by_cases c : (l0_1.length : Int) = n
  · have c1 : ((l0_1.length : Int) == n) = true := by simpa using c
    clear c
    generalize hv : l0_1.any impl_CmdOk.p = v at HC HR
    clear hv
    go_enter Try.func37, Try.ntmps37
    go_wp2
    repeat (go_quiet (first | (go_at_call 20; (with_reducible refine (impl_CmdArgs.calls k a0_0 n _ HN.out).mono ?_); rintro e w' ⟨rfl, ⟨nd, rfl⟩⟩; exact ⟨rfl, _, World.drewN_drewN _ _ _⟩) | (go_at_call 73; refine (HC.out _).mono ?_; rintro e w' ⟨rfl, ⟨nd, rfl⟩⟩; exact ⟨rfl, _, World.drewN_drewN _ _ _⟩)); try go_wp2)
    go_ret
    exact ⟨by rw [← HR.out, c1]; rfl, pw_below_drewN HW.out _⟩
  · have c1 : ((l0_1.length : Int) == n) = false := by simpa using c
    clear c
    go_enter Try.func37, Try.ntmps37
    go_wp2
    repeat (go_quiet (first | (go_at_call 20; (with_reducible refine (impl_CmdArgs.calls k a0_0 n _ HN.out).mono ?_); rintro e w' ⟨rfl, ⟨nd, rfl⟩⟩; exact ⟨rfl, _, World.drewN_drewN _ _ _⟩)); try go_wp2)
    go_ret
    exact ⟨by rw [← HR.out, c1]; rfl, pw_below_drewN HW.out _⟩

end Go.Proofs.Ytnafmfhfonhmaaa.PFnExactCmdOk
