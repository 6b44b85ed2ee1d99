-- Filled by wip/printx.py out of wip/ext: functions proved by hand
import Derived.Test.YtnafmfhfonhmaaaPFnReplyBytesx0
import Derived.Test.YtnafmfhfonhmaaaPFnReplyBytesx3
import Derived.Test.YtnafmfhfonhmaaaEFnReplyByteshofint
namespace Go.Proofs.Ytnafmfhfonhmaaa.PFnReplyBytes
open Go.RowKit Go.Proofs.YtnafmfhfonhmaaaW.PrintWords Go.Proofs.YtnafmfhfonhmaaaW.PrintLast Go.Proofs.YtnafmfhfonhmaaaW.PrintMore
set_option linter.unusedVariables false
set_option linter.unusedSimpArgs false
/-! ### has_impl_PutNums_1: ContainsFunc at a function -/
def has_impl_PutNums_1.f (l0 : List Int) : Option (Bool) := hasO (fun x => impl_PutNums_1.f x) l0
theorem has_impl_PutNums_1.calls (A0 : Option Addr) (c0 : Nat) (l0 : List Int) (r : Bool) (w : World) (hr0 : Kd.C (Kd.int .i64) w A0 l0.length l0) (hc0 : l0.length ≤ c0) (h : has_impl_PutNums_1.f l0 = some r) :
    Calls Try.prog 73 #[.slice A0 l0.length c0, .func (.func 75) #[] #[]] w fun e w' => e = .returned (.bool r) ∧ Drawn0 w w' :=
  hof_has_int (fun W => Drawn0 w W) 75 #[] (fun x => impl_PutNums_1.f x) (enters_of Try.func75 (by kernel_rfl) rfl) A0 c0 l0 r w (Drawn0.refl _) (fun W ⟨⟨m, e⟩⟩ => by subst e; exact Kd.C_drewN hr0 _)
    (fun W x b _ hb hd => (impl_PutNums_1.calls x b W hb).mono fun e w' ⟨h1, h2⟩ => ⟨h1, by obtain ⟨⟨m, rfl⟩⟩ := hd; obtain ⟨⟨m', rfl⟩⟩ := h2; exact ⟨⟨m + m', World.drewN_drewN _ _ _⟩⟩⟩) h

end Go.Proofs.Ytnafmfhfonhmaaa.PFnReplyBytes
