/- The row of FnExactHeld, out of its walk. No condition. -/
import Derived.Test.YtnlajjoheegbiaaRows
import Derived.Test.YtnlajjoheegbiaaRd
import Derived.Test.YtnlajjoheegbiaaLHeld
import Derived.WalkKit
import Derived.ProofKit
import Derived.OpenShut
import Derived.ShutString
import Derived.ChangeOld
import Derived.Below
import Derived.SizedLaws
namespace Go.Proofs.Ytnlajjoheegbiaa.fnExactHeld
open Go.ChangeShapes Go.WideShapes Go.ChangeAt Go.RowKit Go.Proofs.Ytnlajjoheegbiaa.Rd Go.Proofs.YtnlajjoheegbiaaW.PrintWords Go.Proofs.Ytnlajjoheegbiaa.Ty
open Go.ChangeMaps (open_string shut_string)
set_option linter.unusedVariables false
theorem own : ownKnob Try.prog.godebug = none := by kernel_rfl
theorem laidOut : laidOutB Try.prog = true := by kernel_rfl
theorem rd3 : Reads Try.prog 3 (Kd.int .i64) (fun x => (Lit.int .i64 x).wf = true) := Reads_int Try.underlying3 (by kernel_rfl)
theorem rd105 : Reads Try.prog 105 kAccount (fun x => Account.good x) := by
  have h1 := Tail_last (i := 1) Try.underlying105 (by kernel_rfl) rfl rfl rd3
  have h0 := Tail_cons (i := 0) Try.underlying105 (by kernel_rfl) rfl rd3 h1
  exact Reads_iso (fun x : Account => (x.No, x.Kind)) (fun p => ⟨p.1, p.2⟩) (fun _ => rfl) (Reads_struct Try.underlying105 (by kernel_rfl) h0)
theorem rd22 : Reads Try.prog 22 (Kd.slice 105 kAccount) (fun xs => ∀ y ∈ xs, Account.good y) := Reads_slice Try.underlying22 (by kernel_rfl) rd105
theorem rd107 : Reads Try.prog 107 kInstr (fun x => Instr.good x) := by
  have h1 := Tail_last (i := 1) Try.underlying107 (by kernel_rfl) rfl rfl rd3
  have h0 := Tail_cons (i := 0) Try.underlying107 (by kernel_rfl) rfl rd3 h1
  exact Reads_iso (fun x : Instr => (x.No, x.Kind)) (fun p => ⟨p.1, p.2⟩) (fun _ => rfl) (Reads_struct Try.underlying107 (by kernel_rfl) h0)
theorem rd23 : Reads Try.prog 23 (Kd.slice 107 kInstr) (fun xs => ∀ y ∈ xs, Instr.good y) := Reads_slice Try.underlying23 (by kernel_rfl) rd107
theorem rd109 : Reads Try.prog 109 kBal (fun x => Bal.good x) := by
  have h2 := Tail_last (i := 2) Try.underlying109 (by kernel_rfl) rfl rfl rd3
  have h1 := Tail_cons (i := 1) Try.underlying109 (by kernel_rfl) rfl rd3 h2
  have h0 := Tail_cons (i := 0) Try.underlying109 (by kernel_rfl) rfl rd3 h1
  exact Reads_iso (fun x : Bal => (x.Account, x.Instr, x.Amount)) (fun p => ⟨p.1, p.2.1, p.2.2⟩) (fun _ => rfl) (Reads_struct Try.underlying109 (by kernel_rfl) h0)
theorem rd24 : Reads Try.prog 24 (Kd.slice 109 kBal) (fun xs => ∀ y ∈ xs, Bal.good y) := Reads_slice Try.underlying24 (by kernel_rfl) rd109
theorem rd111 : Reads Try.prog 111 kLot (fun x => Lot.good x) := by
  have h4 := Tail_last (i := 4) Try.underlying111 (by kernel_rfl) rfl rfl rd3
  have h3 := Tail_cons (i := 3) Try.underlying111 (by kernel_rfl) rfl rd3 h4
  have h2 := Tail_cons (i := 2) Try.underlying111 (by kernel_rfl) rfl rd3 h3
  have h1 := Tail_cons (i := 1) Try.underlying111 (by kernel_rfl) rfl rd3 h2
  have h0 := Tail_cons (i := 0) Try.underlying111 (by kernel_rfl) rfl rd3 h1
  exact Reads_iso (fun x : Lot => (x.Account, x.Instr, x.No, x.Qty, x.Cost)) (fun p => ⟨p.1, p.2.1, p.2.2.1, p.2.2.2.1, p.2.2.2.2⟩) (fun _ => rfl) (Reads_struct Try.underlying111 (by kernel_rfl) h0)
theorem rd25 : Reads Try.prog 25 (Kd.slice 111 kLot) (fun xs => ∀ y ∈ xs, Lot.good y) := Reads_slice Try.underlying25 (by kernel_rfl) rd111
theorem rd113 : Reads Try.prog 113 kTrade (fun x => Trade.good x) := by
  have h7 := Tail_last (i := 7) Try.underlying113 (by kernel_rfl) rfl rfl rd3
  have h6 := Tail_cons (i := 6) Try.underlying113 (by kernel_rfl) rfl rd3 h7
  have h5 := Tail_cons (i := 5) Try.underlying113 (by kernel_rfl) rfl rd3 h6
  have h4 := Tail_cons (i := 4) Try.underlying113 (by kernel_rfl) rfl rd3 h5
  have h3 := Tail_cons (i := 3) Try.underlying113 (by kernel_rfl) rfl rd3 h4
  have h2 := Tail_cons (i := 2) Try.underlying113 (by kernel_rfl) rfl rd3 h3
  have h1 := Tail_cons (i := 1) Try.underlying113 (by kernel_rfl) rfl rd3 h2
  have h0 := Tail_cons (i := 0) Try.underlying113 (by kernel_rfl) rfl rd3 h1
  exact Reads_iso (fun x : Trade => (x.No, x.Buyer, x.Seller, x.Paper, x.Qty, x.Cash, x.Price, x.State)) (fun p => ⟨p.1, p.2.1, p.2.2.1, p.2.2.2.1, p.2.2.2.2.1, p.2.2.2.2.2.1, p.2.2.2.2.2.2.1, p.2.2.2.2.2.2.2⟩) (fun _ => rfl) (Reads_struct Try.underlying113 (by kernel_rfl) h0)
theorem rd26 : Reads Try.prog 26 (Kd.slice 113 kTrade) (fun xs => ∀ y ∈ xs, Trade.good y) := Reads_slice Try.underlying26 (by kernel_rfl) rd113
theorem rp28 : Reads Try.prog 28 (Kd.pair (Kd.slice 105 kAccount) (Kd.pair (Kd.slice 107 kInstr) (Kd.pair (Kd.slice 109 kBal) (Kd.pair (Kd.slice 111 kLot) (Kd.pair (Kd.slice 113 kTrade) (Kd.int .i64)))))) (fun x => (∀ y ∈ x.1, Account.good y) ∧ (∀ y ∈ x.2.1, Instr.good y) ∧ (∀ y ∈ x.2.2.1, Bal.good y) ∧ (∀ y ∈ x.2.2.2.1, Lot.good y) ∧ (∀ y ∈ x.2.2.2.2.1, Trade.good y) ∧ ((Lit.int .i64 x.2.2.2.2.2).wf = true)) := by
  have h5 := Tail_last (i := 5) Try.underlying28 (by kernel_rfl) rfl rfl rd3
  have h4 := Tail_cons (i := 4) Try.underlying28 (by kernel_rfl) rfl rd26 h5
  have h3 := Tail_cons (i := 3) Try.underlying28 (by kernel_rfl) rfl rd25 h4
  have h2 := Tail_cons (i := 2) Try.underlying28 (by kernel_rfl) rfl rd24 h3
  have h1 := Tail_cons (i := 1) Try.underlying28 (by kernel_rfl) rfl rd23 h2
  have h0 := Tail_cons (i := 0) Try.underlying28 (by kernel_rfl) rfl rd22 h1
  exact Reads_struct Try.underlying28 (by kernel_rfl) h0
set_option maxRecDepth 100000 in
theorem lifted (os : Os) (started : os.Started) (H : Type) (enc : TypeId × Value → H) :
    ReturnsInHanded {} Try.checked os 4 .any (Rows.fnExactHeldSpec.pre6 enc Try.prog Try.f4 Rows.fnExactHeldRow.domain false) (Rows.fnExactHeldSpec.post enc Try.prog Try.f4 false true false false) := by
  refine returnsInHanded_of_change_sized (C := Try.checked) own started (by kernel_rfl) Try.func4
    (ChangeSpec.witness6 (enc := enc) (C := Try.checked) false ⟨#[], #[.agg #[.slice none 0 0, .slice none 0 0, .slice none 0 0, .slice none 0 0, .slice none 0 0, .int .i64 0], .int .i64 0], []⟩ 8 (by kernel_rfl) (by kernel_rfl) (by kernel_rfl) (by kernel_rfl)) ?_
  intro W base args ds gs before hval0 hW hcnd hsz0 _
  have hval : ∀ (j : Nat) t v, Try.f4.params[j]? = some t → args[j]? = some v → Value.okWide Try.prog W .any base t v := hval0
  have hW' := hW
  obtain ⟨p, q, hA0, hV, rfl, hfz, hnd⟩ := hW
  have hA : DataW.TrodAll enc Try.prog W 0 (fun _ => true) true Try.f4.params.toList args.toList ds p := hA0
  rw [Try.params4] at hA hval
  obtain ⟨v0, vs0, d0, ds0, p0, q0, hargs, rfl, rfl, h0, r0⟩ := trodAll_cons hA
  obtain ⟨v1, vs1, d1, ds1, p1, q1, rfl, rfl, rfl, h1, r1⟩ := trodAll_cons r0
  obtain ⟨rfl, rfl, rfl⟩ := trodAll_nil r1
  obtain rfl : args = #[v0, v1] := by cases args; simp_all
  obtain ⟨rfl, rfl⟩ := trodVars_none hV
  have k0 := h0
  have lt0 : ∀ x ∈ p0, x.block < W.heap.size := by obtain ⟨m, hm⟩ := k0; exact DataW.trod_lt m _ _ _ hm
  obtain ⟨cs0, rfl, hz0⟩ := okWide_struct Try.underlying28 (hval 0 28 v0 rfl rfl)
  obtain ⟨fuel0, hf0⟩ := h0
  obtain ⟨⟨l0_0, ⟨l0_1, ⟨l0_2, ⟨l0_3, ⟨l0_4, a0_5⟩⟩⟩⟩⟩, ⟨e0_0, f0_0, hc0_0, ⟨A0_0, c0_0, rfl, hl0_0, hC0_0⟩, ⟨e0_1, f0_1, hc0_1, ⟨A0_1, c0_1, rfl, hl0_1, hC0_1⟩, ⟨e0_2, f0_2, hc0_2, ⟨A0_2, c0_2, rfl, hl0_2, hC0_2⟩, ⟨e0_3, f0_3, hc0_3, ⟨A0_3, c0_3, rfl, hl0_3, hC0_3⟩, ⟨e0_4, f0_4, hc0_4, ⟨A0_4, c0_4, rfl, hl0_4, hC0_4⟩, rfl⟩⟩⟩⟩⟩, g0_0, g0_1, g0_2, g0_3, g0_4, g0_5⟩ := rp28.2 hf0
  subst hc0_1 hc0_2 hc0_3 hc0_4
  obtain rfl : cs0 = #[.slice A0_0 l0_0.length c0_0, .slice A0_1 l0_1.length c0_1, .slice A0_2 l0_2.length c0_2, .slice A0_3 l0_3.length c0_3, .slice A0_4 l0_4.length c0_4, .int .i64 a0_5] := by cases cs0; simpa [Value.cells] using hc0_0
  obtain ⟨a1, rfl, rfl, rfl, w1⟩ := open_int Try.underlying3 (hval 1 3 v1 rfl rfl) h1
  clear hA0 hval0 hsz0
  refine (Law.FnExactHeld A0_0 c0_0 l0_0 A0_1 c0_1 l0_1 A0_2 c0_2 l0_2 A0_3 c0_3 l0_3 A0_4 c0_4 l0_4 a0_5 a1 W hC0_0 hl0_0 hC0_1 hl0_1 hC0_2 hl0_2 hC0_3 hl0_3 hC0_4 hl0_4 g0_0 g0_1 g0_2 g0_3 g0_4 g0_5 w1).mono fun e W' ⟨he, bel⟩ => ?_
  subst he
  exact ⟨_, rfl, _, _, _, [], _, [], hW', trodAll_mk1 (shut_bool Try.underlying4 _), (trodAll_cons_mk (Below.trod laidOut (by kernel_rfl) (of_decide_eq_true (by kernel_rfl)) k0 bel lt0) (trodAll_cons_mk (shut_int Try.underlying3 w1) trodAll_mk0)), rfl, bel.frame _, fun h => by cases h⟩
theorem joined_mk {P : Program} {f : FuncId} {fn : Func} {s : ChangeSpec} {c : OpenClaim} (h0 : (c.wf (OpenSpec.ofChange s)) = true) (h1 : (laidOutB P) = true) (h2 : (mapsRowed P) = true) (h3 : (fn.params.all (P.readableRec ·)) = true) (h4 : (namedTie P c.named s.vars) = true) (h5 : (c.stops == []) = true) (h6 : (P.stops == []) = true) (h7 : (c.knobs == []) = true) (h8 : (P.stopKnobs == []) = true) (h9 : (c.inPlace == P.inPlace f) = true) (h10 : (c.unfollowed == P.unfollowed f) = true) (h11 : (c.recurses == P.recurses f) = true) (h12 : (c.named == P.varsNamed f) = true) (h13 : (c.maps == (fn.params.toList ++ s.plain.varTypes P).any (P.mapsRec ·)) = true) (h14 : (c.ifaces == (fn.params.toList ++ s.plain.varTypes P).any (P.ifacesRec ·)) = true) (h15 : (c.mapsOut == P.mapsAmong fn.resultTypes.toList) = true) (h16 : (c.loops == (fn.params.toList ++ s.plain.varTypes P).any (P.loopsFrom ·)) = true) (h17 : (c.wideKeys == (fn.params.toList ++ s.plain.varTypes P ++ fn.resultTypes.toList).any (P.wideKeysFrom ·)) = true) (h18 : (s.vars.all (P.varReadable ·)) = true) (h19 : (fn.resultTypes.all (fun t => P.readableRec t && decide (t < P.types.size))) = true) (h20 : (c.ifacesOut == fn.resultTypes.toList.any (P.ifacesRec ·)) = true) (h21 : (c.loopsOut == fn.resultTypes.toList.any (P.loopsFrom ·)) = true) (h22 : (c.plainKeys == P.plainKeys) = true) (h23 : (c.shortTexts.isNone) = true) (h24 : (P.stopsHeard) = true) (h25 : (P.mayEnter) = true) (h26 : (c.lifted == P.liftsFinal) = true) (h27 : (P.make == some c.make) = true) (h28 : (c.kinds == (if c.domain.isEmpty then [] else fn.params.toList.map fun t => match P.underlying t with | some (.int k) => some k | _ => none)) = true) (h29 : (c.pinned == c.pinnedBy) = true) (h30 : (c.veiled == (fn.params.toList ++ s.plain.varTypes P ++ fn.resultTypes.toList).any (P.veiledRec ·)) = true) (h31 : (c.veiledFits P fn.params.toList (fn.params.toList ++ s.plain.varTypes P ++ fn.resultTypes.toList)) = true) : joinedFacts P f fn s c = true := by
  unfold joinedFacts; simp only [Bool.and_eq_true]; exact ⟨⟨⟨⟨⟨⟨⟨⟨⟨⟨⟨⟨⟨⟨⟨⟨⟨⟨⟨⟨⟨⟨⟨⟨⟨⟨⟨⟨⟨⟨⟨h0, h1⟩, h2⟩, h3⟩, h4⟩, h5⟩, h6⟩, h7⟩, h8⟩, h9⟩, h10⟩, h11⟩, h12⟩, h13⟩, h14⟩, h15⟩, h16⟩, h17⟩, h18⟩, h19⟩, h20⟩, h21⟩, h22⟩, h23⟩, h24⟩, h25⟩, h26⟩, h27⟩, h28⟩, h29⟩, h30⟩, h31⟩
theorem joined0 : (Rows.fnExactHeldRow.wf (OpenSpec.ofChange Rows.fnExactHeldSpec)) = true := by kernel_rfl
theorem joined1 : (laidOutB Try.pinned.checked.prog) = true := by kernel_rfl
theorem joined2 : (mapsRowed Try.pinned.checked.prog) = true := by kernel_rfl
theorem joined3 : (Try.f4.params.all (Try.pinned.checked.prog.readableRec ·)) = true := by kernel_rfl
theorem joined4 : (namedTie Try.pinned.checked.prog Rows.fnExactHeldRow.named Rows.fnExactHeldSpec.vars) = true := by kernel_rfl
theorem joined5 : (Rows.fnExactHeldRow.stops == []) = true := by kernel_rfl
theorem joined6 : (Try.pinned.checked.prog.stops == []) = true := by kernel_rfl
theorem joined7 : (Rows.fnExactHeldRow.knobs == []) = true := by kernel_rfl
theorem joined8 : (Try.pinned.checked.prog.stopKnobs == []) = true := by kernel_rfl
theorem joined9 : (Rows.fnExactHeldRow.inPlace == Try.pinned.checked.prog.inPlace 4) = true := by kernel_rfl
theorem joined10 : (Rows.fnExactHeldRow.unfollowed == Try.pinned.checked.prog.unfollowed 4) = true := by kernel_rfl
theorem joined11 : (Rows.fnExactHeldRow.recurses == Try.pinned.checked.prog.recurses 4) = true := by kernel_rfl
theorem joined12 : (Rows.fnExactHeldRow.named == Try.pinned.checked.prog.varsNamed 4) = true := by kernel_rfl
theorem joined13 : (Rows.fnExactHeldRow.maps == (Try.f4.params.toList ++ Rows.fnExactHeldSpec.plain.varTypes Try.pinned.checked.prog).any (Try.pinned.checked.prog.mapsRec ·)) = true := by kernel_rfl
theorem joined14 : (Rows.fnExactHeldRow.ifaces == (Try.f4.params.toList ++ Rows.fnExactHeldSpec.plain.varTypes Try.pinned.checked.prog).any (Try.pinned.checked.prog.ifacesRec ·)) = true := by kernel_rfl
theorem joined15 : (Rows.fnExactHeldRow.mapsOut == Try.pinned.checked.prog.mapsAmong Try.f4.resultTypes.toList) = true := by kernel_rfl
theorem joined16 : (Rows.fnExactHeldRow.loops == (Try.f4.params.toList ++ Rows.fnExactHeldSpec.plain.varTypes Try.pinned.checked.prog).any (Try.pinned.checked.prog.loopsFrom ·)) = true := by kernel_rfl
theorem joined17 : (Rows.fnExactHeldRow.wideKeys == (Try.f4.params.toList ++ Rows.fnExactHeldSpec.plain.varTypes Try.pinned.checked.prog ++ Try.f4.resultTypes.toList).any (Try.pinned.checked.prog.wideKeysFrom ·)) = true := by kernel_rfl
theorem joined18 : (Rows.fnExactHeldSpec.vars.all (Try.pinned.checked.prog.varReadable ·)) = true := by kernel_rfl
theorem joined19 : (Try.f4.resultTypes.all (fun t => Try.pinned.checked.prog.readableRec t && decide (t < Try.pinned.checked.prog.types.size))) = true := by kernel_rfl
theorem joined20 : (Rows.fnExactHeldRow.ifacesOut == Try.f4.resultTypes.toList.any (Try.pinned.checked.prog.ifacesRec ·)) = true := by kernel_rfl
theorem joined21 : (Rows.fnExactHeldRow.loopsOut == Try.f4.resultTypes.toList.any (Try.pinned.checked.prog.loopsFrom ·)) = true := by kernel_rfl
theorem joined22 : (Rows.fnExactHeldRow.plainKeys == Try.pinned.checked.prog.plainKeys) = true := by kernel_rfl
theorem joined23 : (Rows.fnExactHeldRow.shortTexts.isNone) = true := by kernel_rfl
theorem joined24 : (Try.pinned.checked.prog.stopsHeard) = true := by kernel_rfl
theorem joined25 : (Try.pinned.checked.prog.mayEnter) = true := by kernel_rfl
theorem joined26 : (Rows.fnExactHeldRow.lifted == Try.pinned.checked.prog.liftsFinal) = true := by kernel_rfl
theorem joined27 : (Try.pinned.checked.prog.make == some Rows.fnExactHeldRow.make) = true := by kernel_rfl
theorem joined28 : (Rows.fnExactHeldRow.kinds == (if Rows.fnExactHeldRow.domain.isEmpty then [] else Try.f4.params.toList.map fun t => match Try.pinned.checked.prog.underlying t with | some (.int k) => some k | _ => none)) = true := by kernel_rfl
theorem joined29 : (Rows.fnExactHeldRow.pinned == Rows.fnExactHeldRow.pinnedBy) = true := by kernel_rfl
theorem joined30 : (Rows.fnExactHeldRow.veiled == (Try.f4.params.toList ++ Rows.fnExactHeldSpec.plain.varTypes Try.pinned.checked.prog ++ Try.f4.resultTypes.toList).any (Try.pinned.checked.prog.veiledRec ·)) = true := by kernel_rfl
theorem joined31 : (Rows.fnExactHeldRow.veiledFits Try.pinned.checked.prog Try.f4.params.toList (Try.f4.params.toList ++ Rows.fnExactHeldSpec.plain.varTypes Try.pinned.checked.prog ++ Try.f4.resultTypes.toList)) = true := by kernel_rfl
theorem over : Rows.fnExactHeldRow.holds Try.pinned (OpenSpec.ofChange Rows.fnExactHeldSpec) :=
  OpenClaim.holds_of_wide 4 Try.f4 rfl rfl rfl rfl rfl rfl rfl ⟨rfl, rfl, rfl, rfl, rfl⟩ rfl rfl rfl rfl rfl (by kernel_rfl) Try.func4 (joined_mk joined0 joined1 joined2 joined3 joined4 joined5 joined6 joined7 joined8 joined9 joined10 joined11 joined12 joined13 joined14 joined15 joined16 joined17 joined18 joined19 joined20 joined21 joined22 joined23 joined24 joined25 joined26 joined27 joined28 joined29 joined30 joined31)
    (of_decide_eq_true (by kernel_rfl)) (by unfold Func.isWrapper; first | (rw [if_pos (by decide +kernel)]; kernel_rfl) | (rw [if_neg (by decide +kernel)]; exact ⟨rfl, rfl⟩))
    (fun os started H enc _ => lifted os started H enc)
theorem proved : Rows.FnExactHeldSaid := over
#print axioms proved
end Go.Proofs.Ytnlajjoheegbiaa.fnExactHeld
namespace Go.Proofs.Ytnlajjoheegbiaa
/-- The row, under a short name, for the claim. -/
theorem fnExactHeld_holds : Rows.FnExactHeldSaid := fnExactHeld.proved
end Go.Proofs.Ytnlajjoheegbiaa
