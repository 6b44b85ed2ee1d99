/- The row of FnExactBookPay, out of its walk. No condition. -/
import Derived.Test.YtnlajjoheegbiaaGreatRows
import Derived.Test.YtnlajjoheegbiaaGreatKPyRd
import Derived.Test.YtnlajjoheegbiaaGreatKPyLBookPay
import Derived.WalkKit
import Derived.ProofKit
import Derived.OpenShut
import Derived.ShutString
import Derived.ChangeOld
import Derived.Below
import Derived.SizedLaws
namespace Go.Proofs.YtnlajjoheegbiaaGreat.fnExactBookPay
open Go.ChangeShapes Go.WideShapes Go.ChangeAt Go.RowKit Go.Proofs.YtnlajjoheegbiaaGreat.Rd Go.Proofs.YtnlajjoheegbiaaGreatW.PrintWords Go.Proofs.YtnlajjoheegbiaaGreat.Ty
open Go.ChangeMaps (open_string shut_string)
set_option linter.unusedVariables false
theorem own : ownKnob Tryz.prog.godebug = none := by kernel_rfl
theorem laidOut : laidOutB Tryz.prog = true := by kernel_rfl
theorem rd3 : Reads Tryz.prog 3 (Kd.int .i64) (fun x => (Lit.int .i64 x).wf = true) := Reads_int Tryz.underlying3 (by kernel_rfl)
theorem rd166 : Reads Tryz.prog 166 kAccount (fun x => Account.good x) := by
  have h1 := Tail_last (i := 1) Tryz.underlying166 (by kernel_rfl) rfl rfl rd3
  have h0 := Tail_cons (i := 0) Tryz.underlying166 (by kernel_rfl) rfl rd3 h1
  exact Reads_iso (fun x : Account => (x.No, x.Kind)) (fun p => ⟨p.1, p.2⟩) (fun _ => rfl) (Reads_struct Tryz.underlying166 (by kernel_rfl) h0)
theorem rd22 : Reads Tryz.prog 22 (Kd.slice 166 kAccount) (fun xs => ∀ y ∈ xs, Account.good y) := Reads_slice Tryz.underlying22 (by kernel_rfl) rd166
theorem rd168 : Reads Tryz.prog 168 kInstr (fun x => Instr.good x) := by
  have h1 := Tail_last (i := 1) Tryz.underlying168 (by kernel_rfl) rfl rfl rd3
  have h0 := Tail_cons (i := 0) Tryz.underlying168 (by kernel_rfl) rfl rd3 h1
  exact Reads_iso (fun x : Instr => (x.No, x.Kind)) (fun p => ⟨p.1, p.2⟩) (fun _ => rfl) (Reads_struct Tryz.underlying168 (by kernel_rfl) h0)
theorem rd23 : Reads Tryz.prog 23 (Kd.slice 168 kInstr) (fun xs => ∀ y ∈ xs, Instr.good y) := Reads_slice Tryz.underlying23 (by kernel_rfl) rd168
theorem rd170 : Reads Tryz.prog 170 kBal (fun x => Bal.good x) := by
  have h2 := Tail_last (i := 2) Tryz.underlying170 (by kernel_rfl) rfl rfl rd3
  have h1 := Tail_cons (i := 1) Tryz.underlying170 (by kernel_rfl) rfl rd3 h2
  have h0 := Tail_cons (i := 0) Tryz.underlying170 (by kernel_rfl) rfl rd3 h1
  exact Reads_iso (fun x : Bal => (x.Account, x.Instr, x.Amount)) (fun p => ⟨p.1, p.2.1, p.2.2⟩) (fun _ => rfl) (Reads_struct Tryz.underlying170 (by kernel_rfl) h0)
theorem rd24 : Reads Tryz.prog 24 (Kd.slice 170 kBal) (fun xs => ∀ y ∈ xs, Bal.good y) := Reads_slice Tryz.underlying24 (by kernel_rfl) rd170
theorem rd172 : Reads Tryz.prog 172 kLot (fun x => Lot.good x) := by
  have h4 := Tail_last (i := 4) Tryz.underlying172 (by kernel_rfl) rfl rfl rd3
  have h3 := Tail_cons (i := 3) Tryz.underlying172 (by kernel_rfl) rfl rd3 h4
  have h2 := Tail_cons (i := 2) Tryz.underlying172 (by kernel_rfl) rfl rd3 h3
  have h1 := Tail_cons (i := 1) Tryz.underlying172 (by kernel_rfl) rfl rd3 h2
  have h0 := Tail_cons (i := 0) Tryz.underlying172 (by kernel_rfl) rfl rd3 h1
  exact Reads_iso (fun x : Lot => (x.Account, x.Instr, x.No, x.Qty, x.Cost)) (fun p => ⟨p.1, p.2.1, p.2.2.1, p.2.2.2.1, p.2.2.2.2⟩) (fun _ => rfl) (Reads_struct Tryz.underlying172 (by kernel_rfl) h0)
theorem rd25 : Reads Tryz.prog 25 (Kd.slice 172 kLot) (fun xs => ∀ y ∈ xs, Lot.good y) := Reads_slice Tryz.underlying25 (by kernel_rfl) rd172
theorem rd174 : Reads Tryz.prog 174 kTrade (fun x => Trade.good x) := by
  have h7 := Tail_last (i := 7) Tryz.underlying174 (by kernel_rfl) rfl rfl rd3
  have h6 := Tail_cons (i := 6) Tryz.underlying174 (by kernel_rfl) rfl rd3 h7
  have h5 := Tail_cons (i := 5) Tryz.underlying174 (by kernel_rfl) rfl rd3 h6
  have h4 := Tail_cons (i := 4) Tryz.underlying174 (by kernel_rfl) rfl rd3 h5
  have h3 := Tail_cons (i := 3) Tryz.underlying174 (by kernel_rfl) rfl rd3 h4
  have h2 := Tail_cons (i := 2) Tryz.underlying174 (by kernel_rfl) rfl rd3 h3
  have h1 := Tail_cons (i := 1) Tryz.underlying174 (by kernel_rfl) rfl rd3 h2
  have h0 := Tail_cons (i := 0) Tryz.underlying174 (by kernel_rfl) rfl rd3 h1
  exact Reads_iso (fun x : Trade => (x.No, x.Buyer, x.Seller, x.Paper, x.Qty, x.Cash, x.Price, x.State)) (fun p => ⟨p.1, p.2.1, p.2.2.1, p.2.2.2.1, p.2.2.2.2.1, p.2.2.2.2.2.1, p.2.2.2.2.2.2.1, p.2.2.2.2.2.2.2⟩) (fun _ => rfl) (Reads_struct Tryz.underlying174 (by kernel_rfl) h0)
theorem rd26 : Reads Tryz.prog 26 (Kd.slice 174 kTrade) (fun xs => ∀ y ∈ xs, Trade.good y) := Reads_slice Tryz.underlying26 (by kernel_rfl) rd174
theorem rp28 : Reads Tryz.prog 28 (Kd.pair (Kd.slice 166 kAccount) (Kd.pair (Kd.slice 168 kInstr) (Kd.pair (Kd.slice 170 kBal) (Kd.pair (Kd.slice 172 kLot) (Kd.pair (Kd.slice 174 kTrade) (Kd.int .i64)))))) (fun x => (∀ y ∈ x.1, Account.good y) ∧ (∀ y ∈ x.2.1, Instr.good y) ∧ (∀ y ∈ x.2.2.1, Bal.good y) ∧ (∀ y ∈ x.2.2.2.1, Lot.good y) ∧ (∀ y ∈ x.2.2.2.2.1, Trade.good y) ∧ ((Lit.int .i64 x.2.2.2.2.2).wf = true)) := by
  have h5 := Tail_last (i := 5) Tryz.underlying28 (by kernel_rfl) rfl rfl rd3
  have h4 := Tail_cons (i := 4) Tryz.underlying28 (by kernel_rfl) rfl rd26 h5
  have h3 := Tail_cons (i := 3) Tryz.underlying28 (by kernel_rfl) rfl rd25 h4
  have h2 := Tail_cons (i := 2) Tryz.underlying28 (by kernel_rfl) rfl rd24 h3
  have h1 := Tail_cons (i := 1) Tryz.underlying28 (by kernel_rfl) rfl rd23 h2
  have h0 := Tail_cons (i := 0) Tryz.underlying28 (by kernel_rfl) rfl rd22 h1
  exact Reads_struct Tryz.underlying28 (by kernel_rfl) h0
set_option maxRecDepth 100000 in
theorem lifted (os : Os) (started : os.Started) (H : Type) (enc : TypeId × Value → H) :
    ReturnsInHanded {} Tryz.checked os 7 .any (Rows.fnExactBookPaySpec.pre6 enc Tryz.prog Tryz.f7 Rows.fnExactBookPayRow.domain false) (Rows.fnExactBookPaySpec.post enc Tryz.prog Tryz.f7 false true false false) := by
  refine returnsInHanded_of_change_sized (C := Tryz.checked) own started (by kernel_rfl) Tryz.func7
    (ChangeSpec.witness6 (enc := enc) (C := Tryz.checked) false ⟨#[], #[.agg #[.slice none 0 0, .slice none 0 0, .slice none 0 0, .slice none 0 0, .slice none 0 0, .int .i64 0], .int .i64 0, .int .i64 0, .int .i64 0, .int .i64 0], []⟩ 8 (by kernel_rfl) (by kernel_rfl) (by kernel_rfl) (by kernel_rfl)) ?_
  intro W base args ds gs before hval0 hW hcnd hsz0 _
  have hval : ∀ (j : Nat) t v, Tryz.f7.params[j]? = some t → args[j]? = some v → Value.okWide Tryz.prog W .any base t v := hval0
  have hW' := hW
  obtain ⟨p, q, hA0, hV, rfl, hfz, hnd⟩ := hW
  have hA : DataW.TrodAll enc Tryz.prog W 0 (fun _ => true) true Tryz.f7.params.toList args.toList ds p := hA0
  rw [Tryz.params7] at hA hval
  obtain ⟨v0, vs0, d0, ds0, p0, q0, hargs, rfl, rfl, h0, r0⟩ := trodAll_cons hA
  obtain ⟨v1, vs1, d1, ds1, p1, q1, rfl, rfl, rfl, h1, r1⟩ := trodAll_cons r0
  obtain ⟨v2, vs2, d2, ds2, p2, q2, rfl, rfl, rfl, h2, r2⟩ := trodAll_cons r1
  obtain ⟨v3, vs3, d3, ds3, p3, q3, rfl, rfl, rfl, h3, r3⟩ := trodAll_cons r2
  obtain ⟨v4, vs4, d4, ds4, p4, q4, rfl, rfl, rfl, h4, r4⟩ := trodAll_cons r3
  obtain ⟨rfl, rfl, rfl⟩ := trodAll_nil r4
  obtain rfl : args = #[v0, v1, v2, v3, v4] := by cases args; simp_all
  obtain ⟨rfl, rfl⟩ := trodVars_none hV
  have k0 := h0
  have lt0 : ∀ x ∈ p0, x.block < W.heap.size := by obtain ⟨m, hm⟩ := k0; exact DataW.trod_lt m _ _ _ hm
  obtain ⟨cs0, rfl, hz0⟩ := okWide_struct Tryz.underlying28 (hval 0 28 v0 rfl rfl)
  obtain ⟨fuel0, hf0⟩ := h0
  obtain ⟨⟨l0_0, ⟨l0_1, ⟨l0_2, ⟨l0_3, ⟨l0_4, a0_5⟩⟩⟩⟩⟩, ⟨e0_0, f0_0, hc0_0, ⟨A0_0, c0_0, rfl, hl0_0, hC0_0⟩, ⟨e0_1, f0_1, hc0_1, ⟨A0_1, c0_1, rfl, hl0_1, hC0_1⟩, ⟨e0_2, f0_2, hc0_2, ⟨A0_2, c0_2, rfl, hl0_2, hC0_2⟩, ⟨e0_3, f0_3, hc0_3, ⟨A0_3, c0_3, rfl, hl0_3, hC0_3⟩, ⟨e0_4, f0_4, hc0_4, ⟨A0_4, c0_4, rfl, hl0_4, hC0_4⟩, rfl⟩⟩⟩⟩⟩, g0_0, g0_1, g0_2, g0_3, g0_4, g0_5⟩ := rp28.2 hf0
  subst hc0_1 hc0_2 hc0_3 hc0_4
  obtain rfl : cs0 = #[.slice A0_0 l0_0.length c0_0, .slice A0_1 l0_1.length c0_1, .slice A0_2 l0_2.length c0_2, .slice A0_3 l0_3.length c0_3, .slice A0_4 l0_4.length c0_4, .int .i64 a0_5] := by cases cs0; simpa [Value.cells] using hc0_0
  obtain ⟨a1, rfl, rfl, rfl, w1⟩ := open_int Tryz.underlying3 (hval 1 3 v1 rfl rfl) h1
  obtain ⟨a2, rfl, rfl, rfl, w2⟩ := open_int Tryz.underlying3 (hval 2 3 v2 rfl rfl) h2
  obtain ⟨a3, rfl, rfl, rfl, w3⟩ := open_int Tryz.underlying3 (hval 3 3 v3 rfl rfl) h3
  obtain ⟨a4, rfl, rfl, rfl, w4⟩ := open_int Tryz.underlying3 (hval 4 3 v4 rfl rfl) h4
  clear hA0 hval0 hsz0
  refine (Law.FnExactBookPay A0_0 c0_0 l0_0 A0_1 c0_1 l0_1 A0_2 c0_2 l0_2 A0_3 c0_3 l0_3 A0_4 c0_4 l0_4 a0_5 a1 a2 a3 a4 W hC0_0 hl0_0 hC0_1 hl0_1 hC0_2 hl0_2 hC0_3 hl0_3 hC0_4 hl0_4 g0_0 g0_1 g0_2 g0_3 g0_4 g0_5 w1 w2 w3 w4).mono fun e W' ⟨he, bel⟩ => ?_
  subst he
  exact ⟨_, rfl, _, _, _, [], _, [], hW', trodAll_mk1 (shut_bool Tryz.underlying4 _), (trodAll_cons_mk (Below.trod laidOut (by kernel_rfl) (of_decide_eq_true (by kernel_rfl)) k0 bel lt0) (trodAll_cons_mk (shut_int Tryz.underlying3 w1) (trodAll_cons_mk (shut_int Tryz.underlying3 w2) (trodAll_cons_mk (shut_int Tryz.underlying3 w3) (trodAll_cons_mk (shut_int Tryz.underlying3 w4) trodAll_mk0))))), rfl, bel.frame _, fun h => by cases h⟩
theorem joined_mk {P : Program} {f : FuncId} {fn : Func} {s : ChangeSpec} {c : OpenClaim} (h0 : (c.wf (OpenSpec.ofChange s)) = true) (h1 : (laidOutB P) = true) (h2 : (mapsRowed P) = true) (h3 : (fn.params.all (P.readableRec ·)) = true) (h4 : (namedTie P c.named s.vars) = true) (h5 : (c.stops == []) = true) (h6 : (P.stops == []) = true) (h7 : (c.knobs == []) = true) (h8 : (P.stopKnobs == []) = true) (h9 : (c.inPlace == P.inPlace f) = true) (h10 : (c.unfollowed == P.unfollowed f) = true) (h11 : (c.recurses == P.recurses f) = true) (h12 : (c.named == P.varsNamed f) = true) (h13 : (c.maps == (fn.params.toList ++ s.plain.varTypes P).any (P.mapsRec ·)) = true) (h14 : (c.ifaces == (fn.params.toList ++ s.plain.varTypes P).any (P.ifacesRec ·)) = true) (h15 : (c.mapsOut == P.mapsAmong fn.resultTypes.toList) = true) (h16 : (c.loops == (fn.params.toList ++ s.plain.varTypes P).any (P.loopsFrom ·)) = true) (h17 : (c.wideKeys == (fn.params.toList ++ s.plain.varTypes P ++ fn.resultTypes.toList).any (P.wideKeysFrom ·)) = true) (h18 : (s.vars.all (P.varReadable ·)) = true) (h19 : (fn.resultTypes.all (fun t => P.readableRec t && decide (t < P.types.size))) = true) (h20 : (c.ifacesOut == fn.resultTypes.toList.any (P.ifacesRec ·)) = true) (h21 : (c.loopsOut == fn.resultTypes.toList.any (P.loopsFrom ·)) = true) (h22 : (c.plainKeys == P.plainKeys) = true) (h23 : (c.shortTexts.isNone) = true) (h24 : (P.stopsHeard) = true) (h25 : (P.mayEnter) = true) (h26 : (c.lifted == P.liftsFinal) = true) (h27 : (P.make == some c.make) = true) (h28 : (c.kinds == (if c.domain.isEmpty then [] else fn.params.toList.map fun t => match P.underlying t with | some (.int k) => some k | _ => none)) = true) (h29 : (c.pinned == c.pinnedBy) = true) (h30 : (c.veiled == (fn.params.toList ++ s.plain.varTypes P ++ fn.resultTypes.toList).any (P.veiledRec ·)) = true) (h31 : (c.veiledFits P fn.params.toList (fn.params.toList ++ s.plain.varTypes P ++ fn.resultTypes.toList)) = true) : joinedFacts P f fn s c = true := by
  unfold joinedFacts; simp only [Bool.and_eq_true]; exact ⟨⟨⟨⟨⟨⟨⟨⟨⟨⟨⟨⟨⟨⟨⟨⟨⟨⟨⟨⟨⟨⟨⟨⟨⟨⟨⟨⟨⟨⟨⟨h0, h1⟩, h2⟩, h3⟩, h4⟩, h5⟩, h6⟩, h7⟩, h8⟩, h9⟩, h10⟩, h11⟩, h12⟩, h13⟩, h14⟩, h15⟩, h16⟩, h17⟩, h18⟩, h19⟩, h20⟩, h21⟩, h22⟩, h23⟩, h24⟩, h25⟩, h26⟩, h27⟩, h28⟩, h29⟩, h30⟩, h31⟩
theorem joined0 : (Rows.fnExactBookPayRow.wf (OpenSpec.ofChange Rows.fnExactBookPaySpec)) = true := by kernel_rfl
theorem joined1 : (laidOutB Tryz.pinned.checked.prog) = true := by kernel_rfl
theorem joined2 : (mapsRowed Tryz.pinned.checked.prog) = true := by kernel_rfl
theorem joined3 : (Tryz.f7.params.all (Tryz.pinned.checked.prog.readableRec ·)) = true := by kernel_rfl
theorem joined4 : (namedTie Tryz.pinned.checked.prog Rows.fnExactBookPayRow.named Rows.fnExactBookPaySpec.vars) = true := by kernel_rfl
theorem joined5 : (Rows.fnExactBookPayRow.stops == []) = true := by kernel_rfl
theorem joined6 : (Tryz.pinned.checked.prog.stops == []) = true := by kernel_rfl
theorem joined7 : (Rows.fnExactBookPayRow.knobs == []) = true := by kernel_rfl
theorem joined8 : (Tryz.pinned.checked.prog.stopKnobs == []) = true := by kernel_rfl
theorem joined9 : (Rows.fnExactBookPayRow.inPlace == Tryz.pinned.checked.prog.inPlace 7) = true := by kernel_rfl
theorem joined10 : (Rows.fnExactBookPayRow.unfollowed == Tryz.pinned.checked.prog.unfollowed 7) = true := by kernel_rfl
theorem joined11 : (Rows.fnExactBookPayRow.recurses == Tryz.pinned.checked.prog.recurses 7) = true := by kernel_rfl
theorem joined12 : (Rows.fnExactBookPayRow.named == Tryz.pinned.checked.prog.varsNamed 7) = true := by kernel_rfl
theorem joined13 : (Rows.fnExactBookPayRow.maps == (Tryz.f7.params.toList ++ Rows.fnExactBookPaySpec.plain.varTypes Tryz.pinned.checked.prog).any (Tryz.pinned.checked.prog.mapsRec ·)) = true := by kernel_rfl
theorem joined14 : (Rows.fnExactBookPayRow.ifaces == (Tryz.f7.params.toList ++ Rows.fnExactBookPaySpec.plain.varTypes Tryz.pinned.checked.prog).any (Tryz.pinned.checked.prog.ifacesRec ·)) = true := by kernel_rfl
theorem joined15 : (Rows.fnExactBookPayRow.mapsOut == Tryz.pinned.checked.prog.mapsAmong Tryz.f7.resultTypes.toList) = true := by kernel_rfl
theorem joined16 : (Rows.fnExactBookPayRow.loops == (Tryz.f7.params.toList ++ Rows.fnExactBookPaySpec.plain.varTypes Tryz.pinned.checked.prog).any (Tryz.pinned.checked.prog.loopsFrom ·)) = true := by kernel_rfl
theorem joined17 : (Rows.fnExactBookPayRow.wideKeys == (Tryz.f7.params.toList ++ Rows.fnExactBookPaySpec.plain.varTypes Tryz.pinned.checked.prog ++ Tryz.f7.resultTypes.toList).any (Tryz.pinned.checked.prog.wideKeysFrom ·)) = true := by kernel_rfl
theorem joined18 : (Rows.fnExactBookPaySpec.vars.all (Tryz.pinned.checked.prog.varReadable ·)) = true := by kernel_rfl
theorem joined19 : (Tryz.f7.resultTypes.all (fun t => Tryz.pinned.checked.prog.readableRec t && decide (t < Tryz.pinned.checked.prog.types.size))) = true := by kernel_rfl
theorem joined20 : (Rows.fnExactBookPayRow.ifacesOut == Tryz.f7.resultTypes.toList.any (Tryz.pinned.checked.prog.ifacesRec ·)) = true := by kernel_rfl
theorem joined21 : (Rows.fnExactBookPayRow.loopsOut == Tryz.f7.resultTypes.toList.any (Tryz.pinned.checked.prog.loopsFrom ·)) = true := by kernel_rfl
theorem joined22 : (Rows.fnExactBookPayRow.plainKeys == Tryz.pinned.checked.prog.plainKeys) = true := by kernel_rfl
theorem joined23 : (Rows.fnExactBookPayRow.shortTexts.isNone) = true := by kernel_rfl
theorem joined24 : (Tryz.pinned.checked.prog.stopsHeard) = true := by kernel_rfl
theorem joined25 : (Tryz.pinned.checked.prog.mayEnter) = true := by kernel_rfl
theorem joined26 : (Rows.fnExactBookPayRow.lifted == Tryz.pinned.checked.prog.liftsFinal) = true := by kernel_rfl
theorem joined27 : (Tryz.pinned.checked.prog.make == some Rows.fnExactBookPayRow.make) = true := by kernel_rfl
theorem joined28 : (Rows.fnExactBookPayRow.kinds == (if Rows.fnExactBookPayRow.domain.isEmpty then [] else Tryz.f7.params.toList.map fun t => match Tryz.pinned.checked.prog.underlying t with | some (.int k) => some k | _ => none)) = true := by kernel_rfl
theorem joined29 : (Rows.fnExactBookPayRow.pinned == Rows.fnExactBookPayRow.pinnedBy) = true := by kernel_rfl
theorem joined30 : (Rows.fnExactBookPayRow.veiled == (Tryz.f7.params.toList ++ Rows.fnExactBookPaySpec.plain.varTypes Tryz.pinned.checked.prog ++ Tryz.f7.resultTypes.toList).any (Tryz.pinned.checked.prog.veiledRec ·)) = true := by kernel_rfl
theorem joined31 : (Rows.fnExactBookPayRow.veiledFits Tryz.pinned.checked.prog Tryz.f7.params.toList (Tryz.f7.params.toList ++ Rows.fnExactBookPaySpec.plain.varTypes Tryz.pinned.checked.prog ++ Tryz.f7.resultTypes.toList)) = true := by kernel_rfl
theorem over : Rows.fnExactBookPayRow.holds Tryz.pinned (OpenSpec.ofChange Rows.fnExactBookPaySpec) :=
  OpenClaim.holds_of_wide 7 Tryz.f7 rfl rfl rfl rfl rfl rfl rfl ⟨rfl, rfl, rfl, rfl, rfl⟩ rfl rfl rfl rfl rfl (by kernel_rfl) Tryz.func7 (joined_mk joined0 joined1 joined2 joined3 joined4 joined5 joined6 joined7 joined8 joined9 joined10 joined11 joined12 joined13 joined14 joined15 joined16 joined17 joined18 joined19 joined20 joined21 joined22 joined23 joined24 joined25 joined26 joined27 joined28 joined29 joined30 joined31)
    (of_decide_eq_true (by kernel_rfl)) (by unfold Func.isWrapper; first | (rw [if_pos (by decide +kernel)]; kernel_rfl) | (rw [if_neg (by decide +kernel)]; exact ⟨rfl, rfl⟩))
    (fun os started H enc _ => lifted os started H enc)
theorem proved : Rows.FnExactBookPaySaid := over
#print axioms proved
end Go.Proofs.YtnlajjoheegbiaaGreat.fnExactBookPay
namespace Go.Proofs.YtnlajjoheegbiaaGreat
theorem fnExactBookPay_holds : Rows.FnExactBookPaySaid := fnExactBookPay.proved
end Go.Proofs.YtnlajjoheegbiaaGreat
