/- The row of FnExactBookSplit, out of its walk. No condition. -/
import Derived.Test.YtgehbhkfehmdkaaGreatRows
import Derived.Test.YtgehbhkfehmdkaaGreatKSpRd
import Derived.Test.YtgehbhkfehmdkaaGreatKSpLBookSplit
import Derived.WalkKit
import Derived.ProofKit
import Derived.OpenShut
import Derived.ShutString
import Derived.ChangeOld
import Derived.Below
import Derived.SizedLaws
namespace Go.Proofs.YtgehbhkfehmdkaaGreat.fnExactBookSplit
open Go.ChangeShapes Go.WideShapes Go.ChangeAt Go.RowKit Go.Proofs.YtgehbhkfehmdkaaGreat.Rd Go.Proofs.YtgehbhkfehmdkaaGreatW.PrintWords Go.Proofs.YtgehbhkfehmdkaaGreat.Ty
open Go.ChangeMaps (open_string shut_string)
set_option linter.unusedVariables false
theorem own : ownKnob Tryz.prog.godebug = none := by kernel_rfl
theorem laidOut : laidOutB Tryz.prog = true := by kernel_rfl
theorem rd3 : Reads Tryz.prog 3 (Kd.int .i64) (fun x => (Lit.int .i64 x).wf = true) := Reads_int Tryz.underlying3 (by kernel_rfl)
theorem rd245 : Reads Tryz.prog 245 kAccount (fun x => Account.good x) := by
  have h1 := Tail_last (i := 1) Tryz.underlying245 (by kernel_rfl) rfl rfl rd3
  have h0 := Tail_cons (i := 0) Tryz.underlying245 (by kernel_rfl) rfl rd3 h1
  exact Reads_iso (fun x : Account => (x.No, x.Kind)) (fun p => ⟨p.1, p.2⟩) (fun _ => rfl) (Reads_struct Tryz.underlying245 (by kernel_rfl) h0)
theorem rd89 : Reads Tryz.prog 89 (Kd.slice 245 kAccount) (fun xs => ∀ y ∈ xs, Account.good y) := Reads_slice Tryz.underlying89 (by kernel_rfl) rd245
theorem rd247 : Reads Tryz.prog 247 kInstr (fun x => Instr.good x) := by
  have h1 := Tail_last (i := 1) Tryz.underlying247 (by kernel_rfl) rfl rfl rd3
  have h0 := Tail_cons (i := 0) Tryz.underlying247 (by kernel_rfl) rfl rd3 h1
  exact Reads_iso (fun x : Instr => (x.No, x.Kind)) (fun p => ⟨p.1, p.2⟩) (fun _ => rfl) (Reads_struct Tryz.underlying247 (by kernel_rfl) h0)
theorem rd90 : Reads Tryz.prog 90 (Kd.slice 247 kInstr) (fun xs => ∀ y ∈ xs, Instr.good y) := Reads_slice Tryz.underlying90 (by kernel_rfl) rd247
theorem rd249 : Reads Tryz.prog 249 kBal (fun x => Bal.good x) := by
  have h2 := Tail_last (i := 2) Tryz.underlying249 (by kernel_rfl) rfl rfl rd3
  have h1 := Tail_cons (i := 1) Tryz.underlying249 (by kernel_rfl) rfl rd3 h2
  have h0 := Tail_cons (i := 0) Tryz.underlying249 (by kernel_rfl) rfl rd3 h1
  exact Reads_iso (fun x : Bal => (x.Account, x.Instr, x.Amount)) (fun p => ⟨p.1, p.2.1, p.2.2⟩) (fun _ => rfl) (Reads_struct Tryz.underlying249 (by kernel_rfl) h0)
theorem rd91 : Reads Tryz.prog 91 (Kd.slice 249 kBal) (fun xs => ∀ y ∈ xs, Bal.good y) := Reads_slice Tryz.underlying91 (by kernel_rfl) rd249
theorem rd251 : Reads Tryz.prog 251 kLot (fun x => Lot.good x) := by
  have h4 := Tail_last (i := 4) Tryz.underlying251 (by kernel_rfl) rfl rfl rd3
  have h3 := Tail_cons (i := 3) Tryz.underlying251 (by kernel_rfl) rfl rd3 h4
  have h2 := Tail_cons (i := 2) Tryz.underlying251 (by kernel_rfl) rfl rd3 h3
  have h1 := Tail_cons (i := 1) Tryz.underlying251 (by kernel_rfl) rfl rd3 h2
  have h0 := Tail_cons (i := 0) Tryz.underlying251 (by kernel_rfl) rfl rd3 h1
  exact Reads_iso (fun x : Lot => (x.Account, x.Instr, x.No, x.Qty, x.Cost)) (fun p => ⟨p.1, p.2.1, p.2.2.1, p.2.2.2.1, p.2.2.2.2⟩) (fun _ => rfl) (Reads_struct Tryz.underlying251 (by kernel_rfl) h0)
theorem rd92 : Reads Tryz.prog 92 (Kd.slice 251 kLot) (fun xs => ∀ y ∈ xs, Lot.good y) := Reads_slice Tryz.underlying92 (by kernel_rfl) rd251
theorem rd253 : Reads Tryz.prog 253 kTrade (fun x => Trade.good x) := by
  have h7 := Tail_last (i := 7) Tryz.underlying253 (by kernel_rfl) rfl rfl rd3
  have h6 := Tail_cons (i := 6) Tryz.underlying253 (by kernel_rfl) rfl rd3 h7
  have h5 := Tail_cons (i := 5) Tryz.underlying253 (by kernel_rfl) rfl rd3 h6
  have h4 := Tail_cons (i := 4) Tryz.underlying253 (by kernel_rfl) rfl rd3 h5
  have h3 := Tail_cons (i := 3) Tryz.underlying253 (by kernel_rfl) rfl rd3 h4
  have h2 := Tail_cons (i := 2) Tryz.underlying253 (by kernel_rfl) rfl rd3 h3
  have h1 := Tail_cons (i := 1) Tryz.underlying253 (by kernel_rfl) rfl rd3 h2
  have h0 := Tail_cons (i := 0) Tryz.underlying253 (by kernel_rfl) rfl rd3 h1
  exact Reads_iso (fun x : Trade => (x.No, x.Buyer, x.Seller, x.Paper, x.Qty, x.Cash, x.Price, x.State)) (fun p => ⟨p.1, p.2.1, p.2.2.1, p.2.2.2.1, p.2.2.2.2.1, p.2.2.2.2.2.1, p.2.2.2.2.2.2.1, p.2.2.2.2.2.2.2⟩) (fun _ => rfl) (Reads_struct Tryz.underlying253 (by kernel_rfl) h0)
theorem rd93 : Reads Tryz.prog 93 (Kd.slice 253 kTrade) (fun xs => ∀ y ∈ xs, Trade.good y) := Reads_slice Tryz.underlying93 (by kernel_rfl) rd253
theorem rp95 : Reads Tryz.prog 95 (Kd.pair (Kd.slice 245 kAccount) (Kd.pair (Kd.slice 247 kInstr) (Kd.pair (Kd.slice 249 kBal) (Kd.pair (Kd.slice 251 kLot) (Kd.pair (Kd.slice 253 kTrade) (Kd.int .i64)))))) (fun x => (∀ y ∈ x.1, Account.good y) ∧ (∀ y ∈ x.2.1, Instr.good y) ∧ (∀ y ∈ x.2.2.1, Bal.good y) ∧ (∀ y ∈ x.2.2.2.1, Lot.good y) ∧ (∀ y ∈ x.2.2.2.2.1, Trade.good y) ∧ ((Lit.int .i64 x.2.2.2.2.2).wf = true)) := by
  have h5 := Tail_last (i := 5) Tryz.underlying95 (by kernel_rfl) rfl rfl rd3
  have h4 := Tail_cons (i := 4) Tryz.underlying95 (by kernel_rfl) rfl rd93 h5
  have h3 := Tail_cons (i := 3) Tryz.underlying95 (by kernel_rfl) rfl rd92 h4
  have h2 := Tail_cons (i := 2) Tryz.underlying95 (by kernel_rfl) rfl rd91 h3
  have h1 := Tail_cons (i := 1) Tryz.underlying95 (by kernel_rfl) rfl rd90 h2
  have h0 := Tail_cons (i := 0) Tryz.underlying95 (by kernel_rfl) rfl rd89 h1
  exact Reads_struct Tryz.underlying95 (by kernel_rfl) h0
set_option maxRecDepth 100000 in
theorem lifted (os : Os) (started : os.Started) (H : Type) (enc : TypeId × Value → H) :
    ReturnsInHanded {} Tryz.checked os 10 .any (Rows.fnExactBookSplitSpec.pre6 enc Tryz.prog Tryz.f10 Rows.fnExactBookSplitRow.domain false) (Rows.fnExactBookSplitSpec.post enc Tryz.prog Tryz.f10 false true false false) := by
  refine returnsInHanded_of_change_sized (C := Tryz.checked) own started (by kernel_rfl) Tryz.func10
    (ChangeSpec.witness6 (enc := enc) (C := Tryz.checked) false ⟨#[], #[.agg #[.slice none 0 0, .slice none 0 0, .slice none 0 0, .slice none 0 0, .slice none 0 0, .int .i64 0], .int .i64 0, .int .i64 0, .int .i64 0, .int .i64 0], []⟩ 8 (by kernel_rfl) (by kernel_rfl) (by kernel_rfl) (by kernel_rfl)) ?_
  intro W base args ds gs before hval0 hW hcnd hsz0 _
  have hval : ∀ (j : Nat) t v, Tryz.f10.params[j]? = some t → args[j]? = some v → Value.okWide Tryz.prog W .any base t v := hval0
  have hW' := hW
  obtain ⟨p, q, hA0, hV, rfl, hfz, hnd⟩ := hW
  have hA : DataW.TrodAll enc Tryz.prog W 0 (fun _ => true) true Tryz.f10.params.toList args.toList ds p := hA0
  rw [Tryz.params10] at hA hval
  obtain ⟨v0, vs0, d0, ds0, p0, q0, hargs, rfl, rfl, h0, r0⟩ := trodAll_cons hA
  obtain ⟨v1, vs1, d1, ds1, p1, q1, rfl, rfl, rfl, h1, r1⟩ := trodAll_cons r0
  obtain ⟨v2, vs2, d2, ds2, p2, q2, rfl, rfl, rfl, h2, r2⟩ := trodAll_cons r1
  obtain ⟨v3, vs3, d3, ds3, p3, q3, rfl, rfl, rfl, h3, r3⟩ := trodAll_cons r2
  obtain ⟨v4, vs4, d4, ds4, p4, q4, rfl, rfl, rfl, h4, r4⟩ := trodAll_cons r3
  obtain ⟨rfl, rfl, rfl⟩ := trodAll_nil r4
  obtain rfl : args = #[v0, v1, v2, v3, v4] := by cases args; simp_all
  obtain ⟨rfl, rfl⟩ := trodVars_none hV
  have k0 := h0
  have lt0 : ∀ x ∈ p0, x.block < W.heap.size := by obtain ⟨m, hm⟩ := k0; exact DataW.trod_lt m _ _ _ hm
  obtain ⟨cs0, rfl, hz0⟩ := okWide_struct Tryz.underlying95 (hval 0 95 v0 rfl rfl)
  obtain ⟨fuel0, hf0⟩ := h0
  obtain ⟨⟨l0_0, ⟨l0_1, ⟨l0_2, ⟨l0_3, ⟨l0_4, a0_5⟩⟩⟩⟩⟩, ⟨e0_0, f0_0, hc0_0, ⟨A0_0, c0_0, rfl, hl0_0, hC0_0⟩, ⟨e0_1, f0_1, hc0_1, ⟨A0_1, c0_1, rfl, hl0_1, hC0_1⟩, ⟨e0_2, f0_2, hc0_2, ⟨A0_2, c0_2, rfl, hl0_2, hC0_2⟩, ⟨e0_3, f0_3, hc0_3, ⟨A0_3, c0_3, rfl, hl0_3, hC0_3⟩, ⟨e0_4, f0_4, hc0_4, ⟨A0_4, c0_4, rfl, hl0_4, hC0_4⟩, rfl⟩⟩⟩⟩⟩, g0_0, g0_1, g0_2, g0_3, g0_4, g0_5⟩ := rp95.2 hf0
  subst hc0_1 hc0_2 hc0_3 hc0_4
  obtain rfl : cs0 = #[.slice A0_0 l0_0.length c0_0, .slice A0_1 l0_1.length c0_1, .slice A0_2 l0_2.length c0_2, .slice A0_3 l0_3.length c0_3, .slice A0_4 l0_4.length c0_4, .int .i64 a0_5] := by cases cs0; simpa [Value.cells] using hc0_0
  obtain ⟨a1, rfl, rfl, rfl, w1⟩ := open_int Tryz.underlying3 (hval 1 3 v1 rfl rfl) h1
  obtain ⟨a2, rfl, rfl, rfl, w2⟩ := open_int Tryz.underlying3 (hval 2 3 v2 rfl rfl) h2
  obtain ⟨a3, rfl, rfl, rfl, w3⟩ := open_int Tryz.underlying3 (hval 3 3 v3 rfl rfl) h3
  obtain ⟨a4, rfl, rfl, rfl, w4⟩ := open_int Tryz.underlying3 (hval 4 3 v4 rfl rfl) h4
  clear hA0 hval0 hsz0
  refine (Law.FnExactBookSplit A0_0 c0_0 l0_0 A0_1 c0_1 l0_1 A0_2 c0_2 l0_2 A0_3 c0_3 l0_3 A0_4 c0_4 l0_4 a0_5 a1 a2 a3 a4 W hC0_0 hl0_0 hC0_1 hl0_1 hC0_2 hl0_2 hC0_3 hl0_3 hC0_4 hl0_4 g0_0 g0_1 g0_2 g0_3 g0_4 g0_5 w1 w2 w3 w4).mono fun e W' ⟨he, bel⟩ => ?_
  subst he
  exact ⟨_, rfl, _, _, _, [], _, [], hW', trodAll_mk1 (shut_bool Tryz.underlying4 _), (trodAll_cons_mk (Below.trod laidOut (by kernel_rfl) (of_decide_eq_true (by kernel_rfl)) k0 bel lt0) (trodAll_cons_mk (shut_int Tryz.underlying3 w1) (trodAll_cons_mk (shut_int Tryz.underlying3 w2) (trodAll_cons_mk (shut_int Tryz.underlying3 w3) (trodAll_cons_mk (shut_int Tryz.underlying3 w4) trodAll_mk0))))), rfl, bel.frame _, fun h => by cases h⟩
theorem joined_mk {P : Program} {f : FuncId} {fn : Func} {s : ChangeSpec} {c : OpenClaim} (h0 : (c.wf (OpenSpec.ofChange s)) = true) (h1 : (laidOutB P) = true) (h2 : (mapsRowed P) = true) (h3 : (fn.params.all (P.readableRec ·)) = true) (h4 : (namedTie P c.named s.vars) = true) (h5 : (c.stops == []) = true) (h6 : (P.stops == []) = true) (h7 : (c.knobs == []) = true) (h8 : (P.stopKnobs == []) = true) (h9 : (c.inPlace == P.inPlace f) = true) (h10 : (c.unfollowed == P.unfollowed f) = true) (h11 : (c.recurses == P.recurses f) = true) (h12 : (c.named == P.varsNamed f) = true) (h13 : (c.maps == (fn.params.toList ++ s.plain.varTypes P).any (P.mapsRec ·)) = true) (h14 : (c.ifaces == (fn.params.toList ++ s.plain.varTypes P).any (P.ifacesRec ·)) = true) (h15 : (c.mapsOut == P.mapsAmong fn.resultTypes.toList) = true) (h16 : (c.loops == (fn.params.toList ++ s.plain.varTypes P).any (P.loopsFrom ·)) = true) (h17 : (c.wideKeys == (fn.params.toList ++ s.plain.varTypes P ++ fn.resultTypes.toList).any (P.wideKeysFrom ·)) = true) (h18 : (s.vars.all (P.varReadable ·)) = true) (h19 : (fn.resultTypes.all (fun t => P.readableRec t && decide (t < P.types.size))) = true) (h20 : (c.ifacesOut == fn.resultTypes.toList.any (P.ifacesRec ·)) = true) (h21 : (c.loopsOut == fn.resultTypes.toList.any (P.loopsFrom ·)) = true) (h22 : (c.plainKeys == P.plainKeys) = true) (h23 : (c.shortTexts.isNone) = true) (h24 : (P.stopsHeard) = true) (h25 : (P.mayEnter) = true) (h26 : (c.lifted == P.liftsFinal) = true) (h27 : (P.make == some c.make) = true) (h28 : (c.kinds == (if c.domain.isEmpty then [] else fn.params.toList.map fun t => match P.underlying t with | some (.int k) => some k | _ => none)) = true) (h29 : (c.pinned == c.pinnedBy) = true) (h30 : (c.veiled == (fn.params.toList ++ s.plain.varTypes P ++ fn.resultTypes.toList).any (P.veiledRec ·)) = true) (h31 : (c.veiledFits P fn.params.toList (fn.params.toList ++ s.plain.varTypes P ++ fn.resultTypes.toList)) = true) : joinedFacts P f fn s c = true := by
  unfold joinedFacts; simp only [Bool.and_eq_true]; exact ⟨⟨⟨⟨⟨⟨⟨⟨⟨⟨⟨⟨⟨⟨⟨⟨⟨⟨⟨⟨⟨⟨⟨⟨⟨⟨⟨⟨⟨⟨⟨h0, h1⟩, h2⟩, h3⟩, h4⟩, h5⟩, h6⟩, h7⟩, h8⟩, h9⟩, h10⟩, h11⟩, h12⟩, h13⟩, h14⟩, h15⟩, h16⟩, h17⟩, h18⟩, h19⟩, h20⟩, h21⟩, h22⟩, h23⟩, h24⟩, h25⟩, h26⟩, h27⟩, h28⟩, h29⟩, h30⟩, h31⟩
theorem joined0 : (Rows.fnExactBookSplitRow.wf (OpenSpec.ofChange Rows.fnExactBookSplitSpec)) = true := by kernel_rfl
theorem joined1 : (laidOutB Tryz.pinned.checked.prog) = true := by kernel_rfl
theorem joined2 : (mapsRowed Tryz.pinned.checked.prog) = true := by kernel_rfl
theorem joined3 : (Tryz.f10.params.all (Tryz.pinned.checked.prog.readableRec ·)) = true := by kernel_rfl
theorem joined4 : (namedTie Tryz.pinned.checked.prog Rows.fnExactBookSplitRow.named Rows.fnExactBookSplitSpec.vars) = true := by kernel_rfl
theorem joined5 : (Rows.fnExactBookSplitRow.stops == []) = true := by kernel_rfl
theorem joined6 : (Tryz.pinned.checked.prog.stops == []) = true := by kernel_rfl
theorem joined7 : (Rows.fnExactBookSplitRow.knobs == []) = true := by kernel_rfl
theorem joined8 : (Tryz.pinned.checked.prog.stopKnobs == []) = true := by kernel_rfl
theorem joined9 : (Rows.fnExactBookSplitRow.inPlace == Tryz.pinned.checked.prog.inPlace 10) = true := by kernel_rfl
theorem joined10 : (Rows.fnExactBookSplitRow.unfollowed == Tryz.pinned.checked.prog.unfollowed 10) = true := by kernel_rfl
theorem joined11 : (Rows.fnExactBookSplitRow.recurses == Tryz.pinned.checked.prog.recurses 10) = true := by kernel_rfl
theorem joined12 : (Rows.fnExactBookSplitRow.named == Tryz.pinned.checked.prog.varsNamed 10) = true := by kernel_rfl
theorem joined13 : (Rows.fnExactBookSplitRow.maps == (Tryz.f10.params.toList ++ Rows.fnExactBookSplitSpec.plain.varTypes Tryz.pinned.checked.prog).any (Tryz.pinned.checked.prog.mapsRec ·)) = true := by kernel_rfl
theorem joined14 : (Rows.fnExactBookSplitRow.ifaces == (Tryz.f10.params.toList ++ Rows.fnExactBookSplitSpec.plain.varTypes Tryz.pinned.checked.prog).any (Tryz.pinned.checked.prog.ifacesRec ·)) = true := by kernel_rfl
theorem joined15 : (Rows.fnExactBookSplitRow.mapsOut == Tryz.pinned.checked.prog.mapsAmong Tryz.f10.resultTypes.toList) = true := by kernel_rfl
theorem joined16 : (Rows.fnExactBookSplitRow.loops == (Tryz.f10.params.toList ++ Rows.fnExactBookSplitSpec.plain.varTypes Tryz.pinned.checked.prog).any (Tryz.pinned.checked.prog.loopsFrom ·)) = true := by kernel_rfl
theorem joined17 : (Rows.fnExactBookSplitRow.wideKeys == (Tryz.f10.params.toList ++ Rows.fnExactBookSplitSpec.plain.varTypes Tryz.pinned.checked.prog ++ Tryz.f10.resultTypes.toList).any (Tryz.pinned.checked.prog.wideKeysFrom ·)) = true := by kernel_rfl
theorem joined18 : (Rows.fnExactBookSplitSpec.vars.all (Tryz.pinned.checked.prog.varReadable ·)) = true := by kernel_rfl
theorem joined19 : (Tryz.f10.resultTypes.all (fun t => Tryz.pinned.checked.prog.readableRec t && decide (t < Tryz.pinned.checked.prog.types.size))) = true := by kernel_rfl
theorem joined20 : (Rows.fnExactBookSplitRow.ifacesOut == Tryz.f10.resultTypes.toList.any (Tryz.pinned.checked.prog.ifacesRec ·)) = true := by kernel_rfl
theorem joined21 : (Rows.fnExactBookSplitRow.loopsOut == Tryz.f10.resultTypes.toList.any (Tryz.pinned.checked.prog.loopsFrom ·)) = true := by kernel_rfl
theorem joined22 : (Rows.fnExactBookSplitRow.plainKeys == Tryz.pinned.checked.prog.plainKeys) = true := by kernel_rfl
theorem joined23 : (Rows.fnExactBookSplitRow.shortTexts.isNone) = true := by kernel_rfl
theorem joined24 : (Tryz.pinned.checked.prog.stopsHeard) = true := by kernel_rfl
theorem joined25 : (Tryz.pinned.checked.prog.mayEnter) = true := by kernel_rfl
theorem joined26 : (Rows.fnExactBookSplitRow.lifted == Tryz.pinned.checked.prog.liftsFinal) = true := by kernel_rfl
theorem joined27 : (Tryz.pinned.checked.prog.make == some Rows.fnExactBookSplitRow.make) = true := by kernel_rfl
theorem joined28 : (Rows.fnExactBookSplitRow.kinds == (if Rows.fnExactBookSplitRow.domain.isEmpty then [] else Tryz.f10.params.toList.map fun t => match Tryz.pinned.checked.prog.underlying t with | some (.int k) => some k | _ => none)) = true := by kernel_rfl
theorem joined29 : (Rows.fnExactBookSplitRow.pinned == Rows.fnExactBookSplitRow.pinnedBy) = true := by kernel_rfl
theorem joined30 : (Rows.fnExactBookSplitRow.veiled == (Tryz.f10.params.toList ++ Rows.fnExactBookSplitSpec.plain.varTypes Tryz.pinned.checked.prog ++ Tryz.f10.resultTypes.toList).any (Tryz.pinned.checked.prog.veiledRec ·)) = true := by kernel_rfl
theorem joined31 : (Rows.fnExactBookSplitRow.veiledFits Tryz.pinned.checked.prog Tryz.f10.params.toList (Tryz.f10.params.toList ++ Rows.fnExactBookSplitSpec.plain.varTypes Tryz.pinned.checked.prog ++ Tryz.f10.resultTypes.toList)) = true := by kernel_rfl
theorem over : Rows.fnExactBookSplitRow.holds Tryz.pinned (OpenSpec.ofChange Rows.fnExactBookSplitSpec) :=
  OpenClaim.holds_of_wide 10 Tryz.f10 rfl rfl rfl rfl rfl rfl rfl ⟨rfl, rfl, rfl, rfl, rfl⟩ rfl rfl rfl rfl rfl (by kernel_rfl) Tryz.func10 (joined_mk joined0 joined1 joined2 joined3 joined4 joined5 joined6 joined7 joined8 joined9 joined10 joined11 joined12 joined13 joined14 joined15 joined16 joined17 joined18 joined19 joined20 joined21 joined22 joined23 joined24 joined25 joined26 joined27 joined28 joined29 joined30 joined31)
    (of_decide_eq_true (by kernel_rfl)) (by unfold Func.isWrapper; first | (rw [if_pos (by decide +kernel)]; kernel_rfl) | (rw [if_neg (by decide +kernel)]; exact ⟨rfl, rfl⟩))
    (fun os started H enc _ => lifted os started H enc)
theorem proved : Rows.FnExactBookSplitSaid := over
#print axioms proved
end Go.Proofs.YtgehbhkfehmdkaaGreat.fnExactBookSplit
namespace Go.Proofs.YtgehbhkfehmdkaaGreat
theorem fnExactBookSplit_holds : Rows.FnExactBookSplitSaid := fnExactBookSplit.proved
end Go.Proofs.YtgehbhkfehmdkaaGreat
