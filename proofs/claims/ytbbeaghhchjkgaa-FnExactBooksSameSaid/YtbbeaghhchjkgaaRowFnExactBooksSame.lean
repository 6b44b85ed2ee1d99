/- The row of FnExactBooksSame, out of its walk. No condition. -/
import Derived.Test.YtbbeaghhchjkgaaRows
import Derived.Test.YtbbeaghhchjkgaaRd
import Derived.Test.YtbbeaghhchjkgaaLBooksSame
import Derived.WalkKit
import Derived.ProofKit
import Derived.OpenShut
import Derived.ShutString
import Derived.ChangeOld
import Derived.Below
import Derived.SizedLaws
namespace Go.Proofs.Ytbbeaghhchjkgaa.fnExactBooksSame
open Go.ChangeShapes Go.WideShapes Go.ChangeAt Go.RowKit Go.Proofs.Ytbbeaghhchjkgaa.Rd Go.Proofs.YtbbeaghhchjkgaaW.PrintWords Go.Proofs.Ytbbeaghhchjkgaa.Ty
open Go.ChangeMaps (open_string shut_string)
set_option linter.unusedVariables false
theorem own : ownKnob Try.prog.godebug = none := by kernel_rfl
theorem laidOut : laidOutB Try.prog = true := by kernel_rfl
theorem rd3 : Reads Try.prog 3 (Kd.int .i64) (fun x => (Lit.int .i64 x).wf = true) := Reads_int Try.underlying3 (by kernel_rfl)
theorem rd126 : Reads Try.prog 126 kAccount (fun x => Account.good x) := by
  have h1 := Tail_last (i := 1) Try.underlying126 (by kernel_rfl) rfl rfl rd3
  have h0 := Tail_cons (i := 0) Try.underlying126 (by kernel_rfl) rfl rd3 h1
  exact Reads_iso (fun x : Account => (x.No, x.Kind)) (fun p => ⟨p.1, p.2⟩) (fun _ => rfl) (Reads_struct Try.underlying126 (by kernel_rfl) h0)
theorem rd49 : Reads Try.prog 49 (Kd.slice 126 kAccount) (fun xs => ∀ y ∈ xs, Account.good y) := Reads_slice Try.underlying49 (by kernel_rfl) rd126
theorem rd128 : Reads Try.prog 128 kInstr (fun x => Instr.good x) := by
  have h1 := Tail_last (i := 1) Try.underlying128 (by kernel_rfl) rfl rfl rd3
  have h0 := Tail_cons (i := 0) Try.underlying128 (by kernel_rfl) rfl rd3 h1
  exact Reads_iso (fun x : Instr => (x.No, x.Kind)) (fun p => ⟨p.1, p.2⟩) (fun _ => rfl) (Reads_struct Try.underlying128 (by kernel_rfl) h0)
theorem rd50 : Reads Try.prog 50 (Kd.slice 128 kInstr) (fun xs => ∀ y ∈ xs, Instr.good y) := Reads_slice Try.underlying50 (by kernel_rfl) rd128
theorem rd130 : Reads Try.prog 130 kBal (fun x => Bal.good x) := by
  have h2 := Tail_last (i := 2) Try.underlying130 (by kernel_rfl) rfl rfl rd3
  have h1 := Tail_cons (i := 1) Try.underlying130 (by kernel_rfl) rfl rd3 h2
  have h0 := Tail_cons (i := 0) Try.underlying130 (by kernel_rfl) rfl rd3 h1
  exact Reads_iso (fun x : Bal => (x.Account, x.Instr, x.Amount)) (fun p => ⟨p.1, p.2.1, p.2.2⟩) (fun _ => rfl) (Reads_struct Try.underlying130 (by kernel_rfl) h0)
theorem rd51 : Reads Try.prog 51 (Kd.slice 130 kBal) (fun xs => ∀ y ∈ xs, Bal.good y) := Reads_slice Try.underlying51 (by kernel_rfl) rd130
theorem rd132 : Reads Try.prog 132 kLot (fun x => Lot.good x) := by
  have h4 := Tail_last (i := 4) Try.underlying132 (by kernel_rfl) rfl rfl rd3
  have h3 := Tail_cons (i := 3) Try.underlying132 (by kernel_rfl) rfl rd3 h4
  have h2 := Tail_cons (i := 2) Try.underlying132 (by kernel_rfl) rfl rd3 h3
  have h1 := Tail_cons (i := 1) Try.underlying132 (by kernel_rfl) rfl rd3 h2
  have h0 := Tail_cons (i := 0) Try.underlying132 (by kernel_rfl) rfl rd3 h1
  exact Reads_iso (fun x : Lot => (x.Account, x.Instr, x.No, x.Qty, x.Cost)) (fun p => ⟨p.1, p.2.1, p.2.2.1, p.2.2.2.1, p.2.2.2.2⟩) (fun _ => rfl) (Reads_struct Try.underlying132 (by kernel_rfl) h0)
theorem rd52 : Reads Try.prog 52 (Kd.slice 132 kLot) (fun xs => ∀ y ∈ xs, Lot.good y) := Reads_slice Try.underlying52 (by kernel_rfl) rd132
theorem rd134 : Reads Try.prog 134 kTrade (fun x => Trade.good x) := by
  have h7 := Tail_last (i := 7) Try.underlying134 (by kernel_rfl) rfl rfl rd3
  have h6 := Tail_cons (i := 6) Try.underlying134 (by kernel_rfl) rfl rd3 h7
  have h5 := Tail_cons (i := 5) Try.underlying134 (by kernel_rfl) rfl rd3 h6
  have h4 := Tail_cons (i := 4) Try.underlying134 (by kernel_rfl) rfl rd3 h5
  have h3 := Tail_cons (i := 3) Try.underlying134 (by kernel_rfl) rfl rd3 h4
  have h2 := Tail_cons (i := 2) Try.underlying134 (by kernel_rfl) rfl rd3 h3
  have h1 := Tail_cons (i := 1) Try.underlying134 (by kernel_rfl) rfl rd3 h2
  have h0 := Tail_cons (i := 0) Try.underlying134 (by kernel_rfl) rfl rd3 h1
  exact Reads_iso (fun x : Trade => (x.No, x.Buyer, x.Seller, x.Paper, x.Qty, x.Cash, x.Price, x.State)) (fun p => ⟨p.1, p.2.1, p.2.2.1, p.2.2.2.1, p.2.2.2.2.1, p.2.2.2.2.2.1, p.2.2.2.2.2.2.1, p.2.2.2.2.2.2.2⟩) (fun _ => rfl) (Reads_struct Try.underlying134 (by kernel_rfl) h0)
theorem rd53 : Reads Try.prog 53 (Kd.slice 134 kTrade) (fun xs => ∀ y ∈ xs, Trade.good y) := Reads_slice Try.underlying53 (by kernel_rfl) rd134
theorem rp55 : Reads Try.prog 55 (Kd.pair (Kd.slice 126 kAccount) (Kd.pair (Kd.slice 128 kInstr) (Kd.pair (Kd.slice 130 kBal) (Kd.pair (Kd.slice 132 kLot) (Kd.pair (Kd.slice 134 kTrade) (Kd.int .i64)))))) (fun x => (∀ y ∈ x.1, Account.good y) ∧ (∀ y ∈ x.2.1, Instr.good y) ∧ (∀ y ∈ x.2.2.1, Bal.good y) ∧ (∀ y ∈ x.2.2.2.1, Lot.good y) ∧ (∀ y ∈ x.2.2.2.2.1, Trade.good y) ∧ ((Lit.int .i64 x.2.2.2.2.2).wf = true)) := by
  have h5 := Tail_last (i := 5) Try.underlying55 (by kernel_rfl) rfl rfl rd3
  have h4 := Tail_cons (i := 4) Try.underlying55 (by kernel_rfl) rfl rd53 h5
  have h3 := Tail_cons (i := 3) Try.underlying55 (by kernel_rfl) rfl rd52 h4
  have h2 := Tail_cons (i := 2) Try.underlying55 (by kernel_rfl) rfl rd51 h3
  have h1 := Tail_cons (i := 1) Try.underlying55 (by kernel_rfl) rfl rd50 h2
  have h0 := Tail_cons (i := 0) Try.underlying55 (by kernel_rfl) rfl rd49 h1
  exact Reads_struct Try.underlying55 (by kernel_rfl) h0
set_option maxRecDepth 100000 in
theorem lifted (os : Os) (started : os.Started) (H : Type) (enc : TypeId × Value → H) :
    ReturnsInHanded {} Try.checked os 12 .any (Rows.fnExactBooksSameSpec.pre6 enc Try.prog Try.f12 Rows.fnExactBooksSameRow.domain false) (Rows.fnExactBooksSameSpec.post enc Try.prog Try.f12 false true false false) := by
  refine returnsInHanded_of_change_sized (C := Try.checked) own started (by kernel_rfl) Try.func12
    (ChangeSpec.witness6 (enc := enc) (C := Try.checked) false ⟨#[], #[.agg #[.slice none 0 0, .slice none 0 0, .slice none 0 0, .slice none 0 0, .slice none 0 0, .int .i64 0], .agg #[.slice none 0 0, .slice none 0 0, .slice none 0 0, .slice none 0 0, .slice none 0 0, .int .i64 0]], []⟩ 8 (by kernel_rfl) (by kernel_rfl) (by kernel_rfl) (by kernel_rfl)) ?_
  intro W base args ds gs before hval0 hW hcnd hsz0 _
  have hval : ∀ (j : Nat) t v, Try.f12.params[j]? = some t → args[j]? = some v → Value.okWide Try.prog W .any base t v := hval0
  have hW' := hW
  obtain ⟨p, q, hA0, hV, rfl, hfz, hnd⟩ := hW
  have hA : DataW.TrodAll enc Try.prog W 0 (fun _ => true) true Try.f12.params.toList args.toList ds p := hA0
  rw [Try.params12] at hA hval
  obtain ⟨v0, vs0, d0, ds0, p0, q0, hargs, rfl, rfl, h0, r0⟩ := trodAll_cons hA
  obtain ⟨v1, vs1, d1, ds1, p1, q1, rfl, rfl, rfl, h1, r1⟩ := trodAll_cons r0
  obtain ⟨rfl, rfl, rfl⟩ := trodAll_nil r1
  obtain rfl : args = #[v0, v1] := by cases args; simp_all
  obtain ⟨rfl, rfl⟩ := trodVars_none hV
  have k0 := h0
  have lt0 : ∀ x ∈ p0, x.block < W.heap.size := by obtain ⟨m, hm⟩ := k0; exact DataW.trod_lt m _ _ _ hm
  obtain ⟨cs0, rfl, hz0⟩ := okWide_struct Try.underlying55 (hval 0 55 v0 rfl rfl)
  obtain ⟨fuel0, hf0⟩ := h0
  obtain ⟨⟨l0_0, ⟨l0_1, ⟨l0_2, ⟨l0_3, ⟨l0_4, a0_5⟩⟩⟩⟩⟩, ⟨e0_0, f0_0, hc0_0, ⟨A0_0, c0_0, rfl, hl0_0, hC0_0⟩, ⟨e0_1, f0_1, hc0_1, ⟨A0_1, c0_1, rfl, hl0_1, hC0_1⟩, ⟨e0_2, f0_2, hc0_2, ⟨A0_2, c0_2, rfl, hl0_2, hC0_2⟩, ⟨e0_3, f0_3, hc0_3, ⟨A0_3, c0_3, rfl, hl0_3, hC0_3⟩, ⟨e0_4, f0_4, hc0_4, ⟨A0_4, c0_4, rfl, hl0_4, hC0_4⟩, rfl⟩⟩⟩⟩⟩, g0_0, g0_1, g0_2, g0_3, g0_4, g0_5⟩ := rp55.2 hf0
  subst hc0_1 hc0_2 hc0_3 hc0_4
  obtain rfl : cs0 = #[.slice A0_0 l0_0.length c0_0, .slice A0_1 l0_1.length c0_1, .slice A0_2 l0_2.length c0_2, .slice A0_3 l0_3.length c0_3, .slice A0_4 l0_4.length c0_4, .int .i64 a0_5] := by cases cs0; simpa [Value.cells] using hc0_0
  have k1 := h1
  have lt1 : ∀ x ∈ p1, x.block < W.heap.size := by obtain ⟨m, hm⟩ := k1; exact DataW.trod_lt m _ _ _ hm
  obtain ⟨cs1, rfl, hz1⟩ := okWide_struct Try.underlying55 (hval 1 55 v1 rfl rfl)
  obtain ⟨fuel1, hf1⟩ := h1
  obtain ⟨⟨l1_0, ⟨l1_1, ⟨l1_2, ⟨l1_3, ⟨l1_4, a1_5⟩⟩⟩⟩⟩, ⟨e1_0, f1_0, hc1_0, ⟨A1_0, c1_0, rfl, hl1_0, hC1_0⟩, ⟨e1_1, f1_1, hc1_1, ⟨A1_1, c1_1, rfl, hl1_1, hC1_1⟩, ⟨e1_2, f1_2, hc1_2, ⟨A1_2, c1_2, rfl, hl1_2, hC1_2⟩, ⟨e1_3, f1_3, hc1_3, ⟨A1_3, c1_3, rfl, hl1_3, hC1_3⟩, ⟨e1_4, f1_4, hc1_4, ⟨A1_4, c1_4, rfl, hl1_4, hC1_4⟩, rfl⟩⟩⟩⟩⟩, g1_0, g1_1, g1_2, g1_3, g1_4, g1_5⟩ := rp55.2 hf1
  subst hc1_1 hc1_2 hc1_3 hc1_4
  obtain rfl : cs1 = #[.slice A1_0 l1_0.length c1_0, .slice A1_1 l1_1.length c1_1, .slice A1_2 l1_2.length c1_2, .slice A1_3 l1_3.length c1_3, .slice A1_4 l1_4.length c1_4, .int .i64 a1_5] := by cases cs1; simpa [Value.cells] using hc1_0
  clear hA0 hval0 hsz0
  refine (Law.FnExactBooksSame A0_0 c0_0 l0_0 A0_1 c0_1 l0_1 A0_2 c0_2 l0_2 A0_3 c0_3 l0_3 A0_4 c0_4 l0_4 a0_5 A1_0 c1_0 l1_0 A1_1 c1_1 l1_1 A1_2 c1_2 l1_2 A1_3 c1_3 l1_3 A1_4 c1_4 l1_4 a1_5 W hC0_0 hl0_0 hC0_1 hl0_1 hC0_2 hl0_2 hC0_3 hl0_3 hC0_4 hl0_4 hC1_0 hl1_0 hC1_1 hl1_1 hC1_2 hl1_2 hC1_3 hl1_3 hC1_4 hl1_4 g0_0 g0_1 g0_2 g0_3 g0_4 g0_5 g1_0 g1_1 g1_2 g1_3 g1_4 g1_5).mono fun e W' ⟨he, bel⟩ => ?_
  subst he
  exact ⟨_, rfl, _, _, _, [], _, [], hW', trodAll_mk1 (shut_bool Try.underlying4 _), (trodAll_cons_mk (Below.trod laidOut (by kernel_rfl) (of_decide_eq_true (by kernel_rfl)) k0 bel lt0) (trodAll_cons_mk (Below.trod laidOut (by kernel_rfl) (of_decide_eq_true (by kernel_rfl)) k1 bel lt1) trodAll_mk0)), rfl, bel.frame _, fun h => by cases h⟩
theorem over : Rows.fnExactBooksSameRow.holds Try.pinned (OpenSpec.ofChange Rows.fnExactBooksSameSpec) :=
  OpenClaim.holds_of_wide 12 Try.f12 rfl rfl rfl rfl rfl rfl rfl ⟨rfl, rfl, rfl, rfl, rfl⟩ rfl rfl rfl rfl rfl (by kernel_rfl) Try.func12 (by kernel_rfl)
    (of_decide_eq_true (by kernel_rfl)) (by unfold Func.isWrapper; first | (rw [if_pos (by decide +kernel)]; kernel_rfl) | (rw [if_neg (by decide +kernel)]; exact ⟨rfl, rfl⟩))
    (fun os started H enc _ => lifted os started H enc)
theorem proved : Rows.FnExactBooksSameSaid := over
#print axioms proved
end Go.Proofs.Ytbbeaghhchjkgaa.fnExactBooksSame
namespace Go.Proofs.Ytbbeaghhchjkgaa
/-- The row, under a short name, for the claim. -/
theorem fnExactBooksSame_holds : Rows.FnExactBooksSameSaid := fnExactBooksSame.proved
end Go.Proofs.Ytbbeaghhchjkgaa
