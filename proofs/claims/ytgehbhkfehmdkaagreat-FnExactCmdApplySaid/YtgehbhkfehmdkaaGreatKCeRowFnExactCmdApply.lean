/- The row of FnExactCmdApply, out of its walk. No condition. -/
import Derived.Test.YtgehbhkfehmdkaaGreatRows
import Derived.Test.YtgehbhkfehmdkaaGreatKCeRd
import Derived.Test.YtgehbhkfehmdkaaGreatKCeShR
import Derived.WalkKit
import Derived.ProofKit
import Derived.OpenShut
import Derived.ShutString
import Derived.ChangeOld
import Derived.Below
import Derived.SizedLaws
set_option maxRecDepth 100000
set_option maxHeartbeats 40000000
set_option linter.unusedVariables false
namespace Go.Proofs.YtgehbhkfehmdkaaGreat.fnExactCmdApply
open Go.ChangeShapes Go.WideShapes Go.ChangeAt Go.RowKit Go.Proofs.YtgehbhkfehmdkaaGreat.Rd Go.Proofs.YtgehbhkfehmdkaaGreatW.PrintWords Go.Proofs.YtgehbhkfehmdkaaGreat.Ty
open Go.ChangeMaps (open_string shut_string)
theorem own : ownKnob Tryz.prog.godebug = none := by kernel_rfl
theorem uS : laidOutB Tryz.prog = true := by kernel_rfl
theorem rd3 : Reads Tryz.prog 3 (Kd.int .i64) (fun x => (Lit.int .i64 x).wf = true) := Reads_int Tryz.underlying3 (by kernel_rfl)
theorem Ch : Reads Tryz.prog 245 kAccount (fun x => Account.good x) := by
  have h1 := Tail_last (i := 1) Tryz.underlying245 (by kernel_rfl) rfl rfl rd3
  have h0 := Tail_cons (i := 0) Tryz.underlying245 (by kernel_rfl) rfl rd3 h1
  exact Reads_iso (fun x : Account => (x.No, x.Kind)) (fun p => ⟨p.1, p.2⟩) (fun _ => rfl) (Reads_struct Tryz.underlying245 (by kernel_rfl) h0)
theorem CH : Reads Tryz.prog 89 (Kd.slice 245 kAccount) (fun xs => ∀ y ∈ xs, Account.good y) := Reads_slice Tryz.underlying89 (by kernel_rfl) Ch
theorem Ci : Reads Tryz.prog 247 kInstr (fun x => Instr.good x) := by
  have h1 := Tail_last (i := 1) Tryz.underlying247 (by kernel_rfl) rfl rfl rd3
  have h0 := Tail_cons (i := 0) Tryz.underlying247 (by kernel_rfl) rfl rd3 h1
  exact Reads_iso (fun x : Instr => (x.No, x.Kind)) (fun p => ⟨p.1, p.2⟩) (fun _ => rfl) (Reads_struct Tryz.underlying247 (by kernel_rfl) h0)
theorem CI : Reads Tryz.prog 90 (Kd.slice 247 kInstr) (fun xs => ∀ y ∈ xs, Instr.good y) := Reads_slice Tryz.underlying90 (by kernel_rfl) Ci
theorem Cj : Reads Tryz.prog 249 kBal (fun x => Bal.good x) := by
  have h2 := Tail_last (i := 2) Tryz.underlying249 (by kernel_rfl) rfl rfl rd3
  have h1 := Tail_cons (i := 1) Tryz.underlying249 (by kernel_rfl) rfl rd3 h2
  have h0 := Tail_cons (i := 0) Tryz.underlying249 (by kernel_rfl) rfl rd3 h1
  exact Reads_iso (fun x : Bal => (x.Account, x.Instr, x.Amount)) (fun p => ⟨p.1, p.2.1, p.2.2⟩) (fun _ => rfl) (Reads_struct Tryz.underlying249 (by kernel_rfl) h0)
theorem CJ : Reads Tryz.prog 91 (Kd.slice 249 kBal) (fun xs => ∀ y ∈ xs, Bal.good y) := Reads_slice Tryz.underlying91 (by kernel_rfl) Cj
theorem Ck : Reads Tryz.prog 251 kLot (fun x => Lot.good x) := by
  have h4 := Tail_last (i := 4) Tryz.underlying251 (by kernel_rfl) rfl rfl rd3
  have h3 := Tail_cons (i := 3) Tryz.underlying251 (by kernel_rfl) rfl rd3 h4
  have h2 := Tail_cons (i := 2) Tryz.underlying251 (by kernel_rfl) rfl rd3 h3
  have h1 := Tail_cons (i := 1) Tryz.underlying251 (by kernel_rfl) rfl rd3 h2
  have h0 := Tail_cons (i := 0) Tryz.underlying251 (by kernel_rfl) rfl rd3 h1
  exact Reads_iso (fun x : Lot => (x.Account, x.Instr, x.No, x.Qty, x.Cost)) (fun p => ⟨p.1, p.2.1, p.2.2.1, p.2.2.2.1, p.2.2.2.2⟩) (fun _ => rfl) (Reads_struct Tryz.underlying251 (by kernel_rfl) h0)
theorem CK : Reads Tryz.prog 92 (Kd.slice 251 kLot) (fun xs => ∀ y ∈ xs, Lot.good y) := Reads_slice Tryz.underlying92 (by kernel_rfl) Ck
theorem Cl : Reads Tryz.prog 253 kTrade (fun x => Trade.good x) := by
  have h7 := Tail_last (i := 7) Tryz.underlying253 (by kernel_rfl) rfl rfl rd3
  have h6 := Tail_cons (i := 6) Tryz.underlying253 (by kernel_rfl) rfl rd3 h7
  have h5 := Tail_cons (i := 5) Tryz.underlying253 (by kernel_rfl) rfl rd3 h6
  have h4 := Tail_cons (i := 4) Tryz.underlying253 (by kernel_rfl) rfl rd3 h5
  have h3 := Tail_cons (i := 3) Tryz.underlying253 (by kernel_rfl) rfl rd3 h4
  have h2 := Tail_cons (i := 2) Tryz.underlying253 (by kernel_rfl) rfl rd3 h3
  have h1 := Tail_cons (i := 1) Tryz.underlying253 (by kernel_rfl) rfl rd3 h2
  have h0 := Tail_cons (i := 0) Tryz.underlying253 (by kernel_rfl) rfl rd3 h1
  exact Reads_iso (fun x : Trade => (x.No, x.Buyer, x.Seller, x.Paper, x.Qty, x.Cash, x.Price, x.State)) (fun p => ⟨p.1, p.2.1, p.2.2.1, p.2.2.2.1, p.2.2.2.2.1, p.2.2.2.2.2.1, p.2.2.2.2.2.2.1, p.2.2.2.2.2.2.2⟩) (fun _ => rfl) (Reads_struct Tryz.underlying253 (by kernel_rfl) h0)
theorem CL : Reads Tryz.prog 93 (Kd.slice 253 kTrade) (fun xs => ∀ y ∈ xs, Trade.good y) := Reads_slice Tryz.underlying93 (by kernel_rfl) Cl
theorem rp95 : Reads Tryz.prog 95 (Kd.pair (Kd.slice 245 kAccount) (Kd.pair (Kd.slice 247 kInstr) (Kd.pair (Kd.slice 249 kBal) (Kd.pair (Kd.slice 251 kLot) (Kd.pair (Kd.slice 253 kTrade) (Kd.int .i64)))))) (fun x => (∀ y ∈ x.1, Account.good y) ∧ (∀ y ∈ x.2.1, Instr.good y) ∧ (∀ y ∈ x.2.2.1, Bal.good y) ∧ (∀ y ∈ x.2.2.2.1, Lot.good y) ∧ (∀ y ∈ x.2.2.2.2.1, Trade.good y) ∧ ((Lit.int .i64 x.2.2.2.2.2).wf = true)) := by
  have h5 := Tail_last (i := 5) Tryz.underlying95 (by kernel_rfl) rfl rfl rd3
  have h4 := Tail_cons (i := 4) Tryz.underlying95 (by kernel_rfl) rfl CL h5
  have h3 := Tail_cons (i := 3) Tryz.underlying95 (by kernel_rfl) rfl CK h4
  have h2 := Tail_cons (i := 2) Tryz.underlying95 (by kernel_rfl) rfl CJ h3
  have h1 := Tail_cons (i := 1) Tryz.underlying95 (by kernel_rfl) rfl CI h2
  have h0 := Tail_cons (i := 0) Tryz.underlying95 (by kernel_rfl) rfl CH h1
  exact Reads_struct Tryz.underlying95 (by kernel_rfl) h0
theorem CG : Reads Tryz.prog 37 (Kd.slice 3 (Kd.int .i64)) (fun xs => ∀ y ∈ xs, (Lit.int .i64 y).wf = true) := Reads_slice Tryz.underlying37 (by kernel_rfl) rd3
theorem rp113 : Reads Tryz.prog 113 (Kd.pair (Kd.int .i64) (Kd.slice 3 (Kd.int .i64))) (fun x => ((Lit.int .i64 x.1).wf = true) ∧ (∀ y ∈ x.2, (Lit.int .i64 y).wf = true)) := by
  have h1 := Tail_last (i := 1) Tryz.underlying113 (by kernel_rfl) rfl rfl CG
  have h0 := Tail_cons (i := 0) Tryz.underlying113 (by kernel_rfl) rfl rd3 h1
  exact Reads_struct Tryz.underlying113 (by kernel_rfl) h0
theorem lifted (os : Os) (started : os.Started) (H : Type) (enc : TypeId × Value → H) :
    ReturnsInHanded {} Tryz.checked os 15 .any (Rows.fnExactCmdApplySpec.pre6 enc Tryz.prog Tryz.f15 Rows.fnExactCmdApplyRow.domain false) (Rows.fnExactCmdApplySpec.post enc Tryz.prog Tryz.f15 false true false false) := by
  refine returnsInHanded_of_change_sized (C := Tryz.checked) own started (by kernel_rfl) Tryz.func15
    (ChangeSpec.witness6 (enc := enc) (C := Tryz.checked) false ⟨#[], #[.agg #[.slice none 0 0, .slice none 0 0, .slice none 0 0, .slice none 0 0, .slice none 0 0, .int .i64 0], .agg #[.int .i64 0, .slice none 0 0]], []⟩ 8 (by kernel_rfl) (by kernel_rfl) (by kernel_rfl) (by kernel_rfl)) ?_
  intro W base args ds gs before hval0 hW hcnd hsz0 _
  have hval : ∀ (j : Nat) t v, Tryz.f15.params[j]? = some t → args[j]? = some v → Value.okWide Tryz.prog W .any base t v := hval0
  have hW' := hW
  obtain ⟨p, q, hA0, hV, rfl, hfz, hnd⟩ := hW
  have hA : DataW.TrodAll enc Tryz.prog W 0 (fun _ => true) true Tryz.f15.params.toList args.toList ds p := hA0
  rw [Tryz.params15] at hA hval
  obtain ⟨v0, vs0, d0, ds0, p0, q0, hargs, rfl, rfl, h0, r0⟩ := trodAll_cons hA
  obtain ⟨v1, vs1, d1, ds1, p1, q1, rfl, rfl, rfl, h1, r1⟩ := trodAll_cons r0
  obtain ⟨rfl, rfl, rfl⟩ := trodAll_nil r1
  obtain rfl : args = #[v0, v1] := by cases args; simp_all
  obtain ⟨rfl, rfl⟩ := trodVars_none hV
  have k0 := h0
  have lt0 : ∀ x ∈ p0, x.block < W.heap.size := by obtain ⟨m, hm⟩ := k0; exact DataW.trod_lt m _ _ _ hm
  obtain ⟨cs0, rfl, hz0⟩ := okWide_struct Tryz.underlying95 (hval 0 95 v0 rfl rfl)
  obtain ⟨fuel0, hf0⟩ := h0
  obtain ⟨⟨l0_0, ⟨l0_1, ⟨l0_2, ⟨l0_3, ⟨l0_4, a0_5⟩⟩⟩⟩⟩, ⟨e0_0, f0_0, hc0_0, ⟨A0_0, c0_0, rfl, hl0_0, hC0_0⟩, ⟨e0_1, f0_1, hc0_1, ⟨A0_1, c0_1, rfl, hl0_1, hC0_1⟩, ⟨e0_2, f0_2, hc0_2, ⟨A0_2, c0_2, rfl, hl0_2, hC0_2⟩, ⟨e0_3, f0_3, hc0_3, ⟨A0_3, c0_3, rfl, hl0_3, hC0_3⟩, ⟨e0_4, f0_4, hc0_4, ⟨A0_4, c0_4, rfl, hl0_4, hC0_4⟩, rfl⟩⟩⟩⟩⟩, g0_0, g0_1, g0_2, g0_3, g0_4, g0_5⟩ := rp95.2 hf0
  subst hc0_1 hc0_2 hc0_3 hc0_4
  obtain rfl : cs0 = #[.slice A0_0 l0_0.length c0_0, .slice A0_1 l0_1.length c0_1, .slice A0_2 l0_2.length c0_2, .slice A0_3 l0_3.length c0_3, .slice A0_4 l0_4.length c0_4, .int .i64 a0_5] := by cases cs0; simpa [Value.cells] using hc0_0
  have k1 := h1
  have lt1 : ∀ x ∈ p1, x.block < W.heap.size := by obtain ⟨m, hm⟩ := k1; exact DataW.trod_lt m _ _ _ hm
  obtain ⟨cs1, rfl, hz1⟩ := okWide_struct Tryz.underlying113 (hval 1 113 v1 rfl rfl)
  obtain ⟨fuel1, hf1⟩ := h1
  obtain ⟨⟨a1_0, l1_1⟩, ⟨e1_0, f1_0, hc1_0, rfl, ⟨A1_1, c1_1, rfl, hl1_1, hC1_1⟩⟩, g1_0, g1_1⟩ := rp113.2 hf1
  obtain rfl : cs1 = #[.int .i64 a1_0, .slice A1_1 l1_1.length c1_1] := by cases cs1; simpa [Value.cells] using hc1_0
  clear hA0 hval0 hsz0
  refine (Law.FnExactCmdApply A0_0 c0_0 l0_0 A0_1 c0_1 l0_1 A0_2 c0_2 l0_2 A0_3 c0_3 l0_3 A0_4 c0_4 l0_4 a0_5 a1_0 A1_1 c1_1 l1_1 W hC0_0 hl0_0 hC0_1 hl0_1 hC0_2 hl0_2 hC0_3 hl0_3 hC0_4 hl0_4 hC1_1 hl1_1 g0_0 g0_1 g0_2 g0_3 g0_4 g0_5 g1_0 g1_1).mono fun e W' ⟨he, bel⟩ => ?_
  subst he
  exact ⟨_, rfl, _, _, _, [], _, [], hW', trodAll_mk1 (shut_bool Tryz.underlying4 _), (trodAll_cons_mk (Below.trod uS (by kernel_rfl) (of_decide_eq_true (by kernel_rfl)) k0 bel lt0) (trodAll_cons_mk (Below.trod uS (by kernel_rfl) (of_decide_eq_true (by kernel_rfl)) k1 bel lt1) trodAll_mk0)), rfl, bel.frame _, fun h => by cases h⟩
theorem vP {P : Program} {f : FuncId} {fn : Func} {s : ChangeSpec} {c : OpenClaim} (h0 : (c.wf (OpenSpec.ofChange s)) = true) (h1 : (laidOutB P) = true) (h2 : (mapsRowed P) = true) (h3 : (fn.params.all (P.readableRec ·)) = true) (h4 : (namedTie P c.named s.vars) = true) (h5 : (c.stops == []) = true) (h6 : (P.stops == []) = true) (h7 : (c.knobs == []) = true) (h8 : (P.stopKnobs == []) = true) (h9 : (c.inPlace == P.inPlace f) = true) (h10 : (c.unfollowed == P.unfollowed f) = true) (h11 : (c.recurses == P.recurses f) = true) (h12 : (c.named == P.varsNamed f) = true) (h13 : (c.maps == (fn.params.toList ++ s.plain.varTypes P).any (P.mapsRec ·)) = true) (h14 : (c.ifaces == (fn.params.toList ++ s.plain.varTypes P).any (P.ifacesRec ·)) = true) (h15 : (c.mapsOut == P.mapsAmong fn.resultTypes.toList) = true) (h16 : (c.loops == (fn.params.toList ++ s.plain.varTypes P).any (P.loopsFrom ·)) = true) (h17 : (c.wideKeys == (fn.params.toList ++ s.plain.varTypes P ++ fn.resultTypes.toList).any (P.wideKeysFrom ·)) = true) (h18 : (s.vars.all (P.varReadable ·)) = true) (h19 : (fn.resultTypes.all (fun t => P.readableRec t && decide (t < P.types.size))) = true) (h20 : (c.ifacesOut == fn.resultTypes.toList.any (P.ifacesRec ·)) = true) (h21 : (c.loopsOut == fn.resultTypes.toList.any (P.loopsFrom ·)) = true) (h22 : (c.plainKeys == P.plainKeys) = true) (h23 : (c.shortTexts.isNone) = true) (h24 : (P.stopsHeard) = true) (h25 : (P.mayEnter) = true) (h26 : (c.lifted == P.liftsFinal) = true) (h27 : (P.make == some c.make) = true) (h28 : (c.kinds == (if c.domain.isEmpty then [] else fn.params.toList.map fun t => match P.underlying t with | some (.int k) => some k | _ => none)) = true) (h29 : (c.pinned == c.pinnedBy) = true) (h30 : (c.veiled == (fn.params.toList ++ s.plain.varTypes P ++ fn.resultTypes.toList).any (P.veiledRec ·)) = true) (h31 : (c.veiledFits P fn.params.toList (fn.params.toList ++ s.plain.varTypes P ++ fn.resultTypes.toList)) = true) : joinedFacts P f fn s c = true := by
  unfold joinedFacts; simp only [Bool.and_eq_true]; exact ⟨⟨⟨⟨⟨⟨⟨⟨⟨⟨⟨⟨⟨⟨⟨⟨⟨⟨⟨⟨⟨⟨⟨⟨⟨⟨⟨⟨⟨⟨⟨h0, h1⟩, h2⟩, h3⟩, h4⟩, h5⟩, h6⟩, h7⟩, h8⟩, h9⟩, h10⟩, h11⟩, h12⟩, h13⟩, h14⟩, h15⟩, h16⟩, h17⟩, h18⟩, h19⟩, h20⟩, h21⟩, h22⟩, h23⟩, h24⟩, h25⟩, h26⟩, h27⟩, h28⟩, h29⟩, h30⟩, h31⟩
theorem zn : (Rows.fnExactCmdApplyRow.wf (OpenSpec.ofChange Rows.fnExactCmdApplySpec)) = true := by kernel_rfl
theorem zo : (laidOutB Tryz.pinned.checked.prog) = true := by kernel_rfl
theorem zp : (mapsRowed Tryz.pinned.checked.prog) = true := by kernel_rfl
theorem zq : (Tryz.f15.params.all (Tryz.pinned.checked.prog.readableRec ·)) = true := by kernel_rfl
theorem zr : (namedTie Tryz.pinned.checked.prog Rows.fnExactCmdApplyRow.named Rows.fnExactCmdApplySpec.vars) = true := by kernel_rfl
theorem zt : (Rows.fnExactCmdApplyRow.stops == []) = true := by kernel_rfl
theorem zu : (Tryz.pinned.checked.prog.stops == []) = true := by kernel_rfl
theorem zv : (Rows.fnExactCmdApplyRow.knobs == []) = true := by kernel_rfl
theorem zw : (Tryz.pinned.checked.prog.stopKnobs == []) = true := by kernel_rfl
theorem zx : (Rows.fnExactCmdApplyRow.inPlace == Tryz.pinned.checked.prog.inPlace 15) = true := by kernel_rfl
theorem xl : (Rows.fnExactCmdApplyRow.unfollowed == Tryz.pinned.checked.prog.unfollowed 15) = true := by kernel_rfl
theorem xm : (Rows.fnExactCmdApplyRow.recurses == Tryz.pinned.checked.prog.recurses 15) = true := by kernel_rfl
theorem xn : (Rows.fnExactCmdApplyRow.named == Tryz.pinned.checked.prog.varsNamed 15) = true := by kernel_rfl
theorem xp : (Rows.fnExactCmdApplyRow.maps == (Tryz.f15.params.toList ++ Rows.fnExactCmdApplySpec.plain.varTypes Tryz.pinned.checked.prog).any (Tryz.pinned.checked.prog.mapsRec ·)) = true := by kernel_rfl
theorem xq : (Rows.fnExactCmdApplyRow.ifaces == (Tryz.f15.params.toList ++ Rows.fnExactCmdApplySpec.plain.varTypes Tryz.pinned.checked.prog).any (Tryz.pinned.checked.prog.ifacesRec ·)) = true := by kernel_rfl
theorem xr : (Rows.fnExactCmdApplyRow.mapsOut == Tryz.pinned.checked.prog.mapsAmong Tryz.f15.resultTypes.toList) = true := by kernel_rfl
theorem xt : (Rows.fnExactCmdApplyRow.loops == (Tryz.f15.params.toList ++ Rows.fnExactCmdApplySpec.plain.varTypes Tryz.pinned.checked.prog).any (Tryz.pinned.checked.prog.loopsFrom ·)) = true := by kernel_rfl
theorem xu : (Rows.fnExactCmdApplyRow.wideKeys == (Tryz.f15.params.toList ++ Rows.fnExactCmdApplySpec.plain.varTypes Tryz.pinned.checked.prog ++ Tryz.f15.resultTypes.toList).any (Tryz.pinned.checked.prog.wideKeysFrom ·)) = true := by kernel_rfl
theorem xv : (Rows.fnExactCmdApplySpec.vars.all (Tryz.pinned.checked.prog.varReadable ·)) = true := by kernel_rfl
theorem xw : (Tryz.f15.resultTypes.all (fun t => Tryz.pinned.checked.prog.readableRec t && decide (t < Tryz.pinned.checked.prog.types.size))) = true := by kernel_rfl
theorem xy : (Rows.fnExactCmdApplyRow.ifacesOut == Tryz.f15.resultTypes.toList.any (Tryz.pinned.checked.prog.ifacesRec ·)) = true := by kernel_rfl
theorem xz : (Rows.fnExactCmdApplyRow.loopsOut == Tryz.f15.resultTypes.toList.any (Tryz.pinned.checked.prog.loopsFrom ·)) = true := by kernel_rfl
theorem xA : (Rows.fnExactCmdApplyRow.plainKeys == Tryz.pinned.checked.prog.plainKeys) = true := by kernel_rfl
theorem xB : (Rows.fnExactCmdApplyRow.shortTexts.isNone) = true := by kernel_rfl
theorem xC : (Tryz.pinned.checked.prog.stopsHeard) = true := by kernel_rfl
theorem xD : (Tryz.pinned.checked.prog.mayEnter) = true := by kernel_rfl
theorem xE : (Rows.fnExactCmdApplyRow.lifted == Tryz.pinned.checked.prog.liftsFinal) = true := by kernel_rfl
theorem xF : (Tryz.pinned.checked.prog.make == some Rows.fnExactCmdApplyRow.make) = true := by kernel_rfl
theorem xG : (Rows.fnExactCmdApplyRow.kinds == (if Rows.fnExactCmdApplyRow.domain.isEmpty then [] else Tryz.f15.params.toList.map fun t => match Tryz.pinned.checked.prog.underlying t with | some (.int k) => some k | _ => none)) = true := by kernel_rfl
theorem xH : (Rows.fnExactCmdApplyRow.pinned == Rows.fnExactCmdApplyRow.pinnedBy) = true := by kernel_rfl
theorem xI : (Rows.fnExactCmdApplyRow.veiled == (Tryz.f15.params.toList ++ Rows.fnExactCmdApplySpec.plain.varTypes Tryz.pinned.checked.prog ++ Tryz.f15.resultTypes.toList).any (Tryz.pinned.checked.prog.veiledRec ·)) = true := by kernel_rfl
theorem xJ : (Rows.fnExactCmdApplyRow.veiledFits Tryz.pinned.checked.prog Tryz.f15.params.toList (Tryz.f15.params.toList ++ Rows.fnExactCmdApplySpec.plain.varTypes Tryz.pinned.checked.prog ++ Tryz.f15.resultTypes.toList)) = true := by kernel_rfl
theorem uf : Rows.fnExactCmdApplyRow.holds Tryz.pinned (OpenSpec.ofChange Rows.fnExactCmdApplySpec) :=
  OpenClaim.holds_of_wide 15 Tryz.f15 rfl rfl rfl rfl rfl rfl rfl ⟨rfl, rfl, rfl, rfl, rfl⟩ rfl rfl rfl rfl rfl (by kernel_rfl) Tryz.func15 (vP zn zo zp zq zr zt zu zv zw zx xl xm xn xp xq xr xt xu xv xw xy xz xA xB xC xD xE xF xG xH xI xJ)
    (of_decide_eq_true (by kernel_rfl)) (by unfold Func.isWrapper; first | (rw [if_pos (by decide +kernel)]; kernel_rfl) | (rw [if_neg (by decide +kernel)]; exact ⟨rfl, rfl⟩))
    (fun os started H enc _ => lifted os started H enc)
theorem proved : Rows.FnExactCmdApplySaid := uf
#print axioms proved
end Go.Proofs.YtgehbhkfehmdkaaGreat.fnExactCmdApply
namespace Go.Proofs.YtgehbhkfehmdkaaGreat
theorem fnExactCmdApply_holds : Rows.FnExactCmdApplySaid := fnExactCmdApply.proved
end Go.Proofs.YtgehbhkfehmdkaaGreat
