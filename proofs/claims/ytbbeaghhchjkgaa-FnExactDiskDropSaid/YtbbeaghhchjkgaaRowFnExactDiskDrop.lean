/- The row of FnExactDiskDrop, out of its walk. No condition. -/
import Derived.Test.YtbbeaghhchjkgaaRows
import Derived.Test.YtbbeaghhchjkgaaRd
import Derived.Test.YtbbeaghhchjkgaaLDiskDrop
import Derived.WalkKit
import Derived.ProofKit
import Derived.OpenShut
import Derived.ShutString
import Derived.ChangeOld
import Derived.Below
import Derived.SizedLaws
namespace Go.Proofs.Ytbbeaghhchjkgaa.fnExactDiskDrop
open Go.ChangeShapes Go.WideShapes Go.ChangeAt Go.RowKit Go.Proofs.Ytbbeaghhchjkgaa.Rd Go.Proofs.YtbbeaghhchjkgaaW.PrintWords Go.Proofs.Ytbbeaghhchjkgaa.Ty
open Go.ChangeMaps (open_string shut_string)
set_option linter.unusedVariables false
theorem own : ownKnob Try.prog.godebug = none := by kernel_rfl
theorem laidOut : laidOutB Try.prog = true := by kernel_rfl
theorem rd3 : Reads Try.prog 3 (Kd.int .i64) (fun x => (Lit.int .i64 x).wf = true) := Reads_int Try.underlying3 (by kernel_rfl)
theorem rd9 : Reads Try.prog 9 Kd.string (fun x => x.size ≤ maxLen) := Reads_string Try.underlying9 (by kernel_rfl)
theorem rd110 : Reads Try.prog 110 kFile (fun x => File.good x) := by
  have h2 := Tail_last (i := 2) Try.underlying110 (by kernel_rfl) rfl rfl rd9
  have h1 := Tail_cons (i := 1) Try.underlying110 (by kernel_rfl) rfl rd9 h2
  have h0 := Tail_cons (i := 0) Try.underlying110 (by kernel_rfl) rfl rd3 h1
  exact Reads_iso (fun x : File => (x.Name, x.Safe, x.Late)) (fun p => ⟨p.1, p.2.1, p.2.2⟩) (fun _ => rfl) (Reads_struct Try.underlying110 (by kernel_rfl) h0)
theorem rd22 : Reads Try.prog 22 (Kd.slice 110 kFile) (fun xs => ∀ y ∈ xs, File.good y) := Reads_slice Try.underlying22 (by kernel_rfl) rd110
theorem rp24 : Reads Try.prog 24 (Kd.pair (Kd.int .i64) (Kd.slice 110 kFile)) (fun x => ((Lit.int .i64 x.1).wf = true) ∧ (∀ y ∈ x.2, File.good y)) := by
  have h1 := Tail_last (i := 1) Try.underlying24 (by kernel_rfl) rfl rfl rd22
  have h0 := Tail_cons (i := 0) Try.underlying24 (by kernel_rfl) rfl rd3 h1
  exact Reads_struct Try.underlying24 (by kernel_rfl) h0
set_option maxRecDepth 100000 in
theorem lifted (os : Os) (started : os.Started) (H : Type) (enc : TypeId × Value → H) :
    ReturnsInHanded {} Try.checked os 8 .any (Rows.fnExactDiskDropSpec.pre6 enc Try.prog Try.f8 Rows.fnExactDiskDropRow.domain false) (Rows.fnExactDiskDropSpec.post enc Try.prog Try.f8 false true false false) := by
  refine returnsInHanded_of_change_sized (C := Try.checked) own started (by kernel_rfl) Try.func8
    (ChangeSpec.witness6 (enc := enc) (C := Try.checked) false ⟨#[], #[.agg #[.int .i64 0, .slice none 0 0], .int .i64 0], []⟩ 8 (by kernel_rfl) (by kernel_rfl) (by kernel_rfl) (by kernel_rfl)) ?_
  intro W base args ds gs before hval0 hW hcnd hsz0 _
  have hval : ∀ (j : Nat) t v, Try.f8.params[j]? = some t → args[j]? = some v → Value.okWide Try.prog W .any base t v := hval0
  have hW' := hW
  obtain ⟨p, q, hA0, hV, rfl, hfz, hnd⟩ := hW
  have hA : DataW.TrodAll enc Try.prog W 0 (fun _ => true) true Try.f8.params.toList args.toList ds p := hA0
  rw [Try.params8] at hA hval
  obtain ⟨v0, vs0, d0, ds0, p0, q0, hargs, rfl, rfl, h0, r0⟩ := trodAll_cons hA
  obtain ⟨v1, vs1, d1, ds1, p1, q1, rfl, rfl, rfl, h1, r1⟩ := trodAll_cons r0
  obtain ⟨rfl, rfl, rfl⟩ := trodAll_nil r1
  obtain rfl : args = #[v0, v1] := by cases args; simp_all
  obtain ⟨rfl, rfl⟩ := trodVars_none hV
  have k0 := h0
  have lt0 : ∀ x ∈ p0, x.block < W.heap.size := by obtain ⟨m, hm⟩ := k0; exact DataW.trod_lt m _ _ _ hm
  obtain ⟨cs0, rfl, hz0⟩ := okWide_struct Try.underlying24 (hval 0 24 v0 rfl rfl)
  obtain ⟨fuel0, hf0⟩ := h0
  obtain ⟨⟨a0_0, l0_1⟩, ⟨e0_0, f0_0, hc0_0, rfl, ⟨A0_1, c0_1, rfl, hl0_1, hC0_1⟩⟩, g0_0, g0_1⟩ := rp24.2 hf0
  obtain rfl : cs0 = #[.int .i64 a0_0, .slice A0_1 l0_1.length c0_1] := by cases cs0; simpa [Value.cells] using hc0_0
  obtain ⟨a1, rfl, rfl, rfl, w1⟩ := open_int Try.underlying3 (hval 1 3 v1 rfl rfl) h1
  clear hA0 hval0 hsz0
  refine (Law.FnExactDiskDrop a0_0 A0_1 c0_1 l0_1 a1 W hC0_1 g0_0 g0_1 w1).mono fun e W' ⟨he, bel⟩ => ?_
  subst he
  exact ⟨_, rfl, _, _, _, [], _, [], hW', trodAll_mk1 (shut_bool Try.underlying4 _), (trodAll_cons_mk (Below.trod laidOut (by kernel_rfl) (of_decide_eq_true (by kernel_rfl)) k0 bel lt0) (trodAll_cons_mk (shut_int Try.underlying3 w1) trodAll_mk0)), rfl, bel.frame _, fun h => by cases h⟩
theorem over : Rows.fnExactDiskDropRow.holds Try.pinned (OpenSpec.ofChange Rows.fnExactDiskDropSpec) :=
  OpenClaim.holds_of_wide 8 Try.f8 rfl rfl rfl rfl rfl rfl rfl ⟨rfl, rfl, rfl, rfl, rfl⟩ rfl rfl rfl rfl rfl (by kernel_rfl) Try.func8 (by kernel_rfl)
    (of_decide_eq_true (by kernel_rfl)) (by unfold Func.isWrapper; first | (rw [if_pos (by decide +kernel)]; kernel_rfl) | (rw [if_neg (by decide +kernel)]; exact ⟨rfl, rfl⟩))
    (fun os started H enc _ => lifted os started H enc)
theorem proved : Rows.FnExactDiskDropSaid := over
#print axioms proved
end Go.Proofs.Ytbbeaghhchjkgaa.fnExactDiskDrop
namespace Go.Proofs.Ytbbeaghhchjkgaa
/-- The row, under a short name, for the claim. -/
theorem fnExactDiskDrop_holds : Rows.FnExactDiskDropSaid := fnExactDiskDrop.proved
end Go.Proofs.Ytbbeaghhchjkgaa
