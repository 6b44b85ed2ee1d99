/- The row of FnExactDiskMove, out of its walk. No condition. -/
import Derived.Test.YtbbeaghhchjkgaaRows
import Derived.Test.YtbbeaghhchjkgaaRd
import Derived.Test.YtbbeaghhchjkgaaLDiskMove
import Derived.WalkKit
import Derived.ProofKit
import Derived.OpenShut
import Derived.ShutString
import Derived.ChangeOld
import Derived.Below
import Derived.SizedLaws
namespace Go.Proofs.Ytbbeaghhchjkgaa.fnExactDiskMove
open Go.ChangeShapes Go.WideShapes Go.ChangeAt Go.RowKit Go.Proofs.Ytbbeaghhchjkgaa.Rd Go.Proofs.YtbbeaghhchjkgaaW.PrintWords Go.Proofs.Ytbbeaghhchjkgaa.Ty
open Go.ChangeMaps (open_string shut_string)
set_option linter.unusedVariables false
theorem own : ownKnob Try.prog.godebug = none := by kernel_rfl
theorem laidOut : laidOutB Try.prog = true := by kernel_rfl
theorem rd3 : Reads Try.prog 3 (Kd.int .i64) (fun x => (Lit.int .i64 x).wf = true) := Reads_int Try.underlying3 (by kernel_rfl)
theorem rd9 : Reads Try.prog 9 Kd.string (fun x => x.size ≤ maxLen) := Reads_string Try.underlying9 (by kernel_rfl)
theorem rd110 : Reads Try.prog 110 kFile (fun x => File.good x) := by
  have h2 := Tail_last (i := 2) Try.underlying110 (by kernel_rfl) rfl rfl rd9
  have h1 := Tail_cons (i := 1) Try.underlying110 (by kernel_rfl) rfl rd9 h2
  have h0 := Tail_cons (i := 0) Try.underlying110 (by kernel_rfl) rfl rd3 h1
  exact Reads_iso (fun x : File => (x.Name, x.Safe, x.Late)) (fun p => ⟨p.1, p.2.1, p.2.2⟩) (fun _ => rfl) (Reads_struct Try.underlying110 (by kernel_rfl) h0)
theorem rd22 : Reads Try.prog 22 (Kd.slice 110 kFile) (fun xs => ∀ y ∈ xs, File.good y) := Reads_slice Try.underlying22 (by kernel_rfl) rd110
theorem rp24 : Reads Try.prog 24 (Kd.pair (Kd.int .i64) (Kd.slice 110 kFile)) (fun x => ((Lit.int .i64 x.1).wf = true) ∧ (∀ y ∈ x.2, File.good y)) := by
  have h1 := Tail_last (i := 1) Try.underlying24 (by kernel_rfl) rfl rfl rd22
  have h0 := Tail_cons (i := 0) Try.underlying24 (by kernel_rfl) rfl rd3 h1
  exact Reads_struct Try.underlying24 (by kernel_rfl) h0
set_option maxRecDepth 100000 in
theorem lifted (os : Os) (started : os.Started) (H : Type) (enc : TypeId × Value → H) :
    ReturnsInHanded {} Try.checked os 11 .any (Rows.fnExactDiskMoveSpec.pre6 enc Try.prog Try.f11 Rows.fnExactDiskMoveRow.domain false) (Rows.fnExactDiskMoveSpec.post enc Try.prog Try.f11 false true false false) := by
  refine returnsInHanded_of_change_sized (C := Try.checked) own started (by kernel_rfl) Try.func11
    (ChangeSpec.witness6 (enc := enc) (C := Try.checked) false ⟨#[], #[.agg #[.int .i64 0, .slice none 0 0], .int .i64 0, .int .i64 0], []⟩ 8 (by kernel_rfl) (by kernel_rfl) (by kernel_rfl) (by kernel_rfl)) ?_
  intro W base args ds gs before hval0 hW hcnd hsz0 _
  have hval : ∀ (j : Nat) t v, Try.f11.params[j]? = some t → args[j]? = some v → Value.okWide Try.prog W .any base t v := hval0
  have hW' := hW
  obtain ⟨p, q, hA0, hV, rfl, hfz, hnd⟩ := hW
  have hA : DataW.TrodAll enc Try.prog W 0 (fun _ => true) true Try.f11.params.toList args.toList ds p := hA0
  rw [Try.params11] at hA hval
  obtain ⟨v0, vs0, d0, ds0, p0, q0, hargs, rfl, rfl, h0, r0⟩ := trodAll_cons hA
  obtain ⟨v1, vs1, d1, ds1, p1, q1, rfl, rfl, rfl, h1, r1⟩ := trodAll_cons r0
  obtain ⟨v2, vs2, d2, ds2, p2, q2, rfl, rfl, rfl, h2, r2⟩ := trodAll_cons r1
  obtain ⟨rfl, rfl, rfl⟩ := trodAll_nil r2
  obtain rfl : args = #[v0, v1, v2] := by cases args; simp_all
  obtain ⟨rfl, rfl⟩ := trodVars_none hV
  have k0 := h0
  have lt0 : ∀ x ∈ p0, x.block < W.heap.size := by obtain ⟨m, hm⟩ := k0; exact DataW.trod_lt m _ _ _ hm
  obtain ⟨cs0, rfl, hz0⟩ := okWide_struct Try.underlying24 (hval 0 24 v0 rfl rfl)
  obtain ⟨fuel0, hf0⟩ := h0
  obtain ⟨⟨a0_0, l0_1⟩, ⟨e0_0, f0_0, hc0_0, rfl, ⟨A0_1, c0_1, rfl, hl0_1, hC0_1⟩⟩, g0_0, g0_1⟩ := rp24.2 hf0
  obtain rfl : cs0 = #[.int .i64 a0_0, .slice A0_1 l0_1.length c0_1] := by cases cs0; simpa [Value.cells] using hc0_0
  obtain ⟨a1, rfl, rfl, rfl, w1⟩ := open_int Try.underlying3 (hval 1 3 v1 rfl rfl) h1
  obtain ⟨a2, rfl, rfl, rfl, w2⟩ := open_int Try.underlying3 (hval 2 3 v2 rfl rfl) h2
  clear hA0 hval0 hsz0
  refine (Law.FnExactDiskMove a0_0 A0_1 c0_1 l0_1 a1 a2 W hC0_1 g0_0 g0_1 w1 w2).mono fun e W' ⟨he, bel⟩ => ?_
  subst he
  exact ⟨_, rfl, _, _, _, [], _, [], hW', trodAll_mk1 (shut_bool Try.underlying4 _), (trodAll_cons_mk (Below.trod laidOut (by kernel_rfl) (of_decide_eq_true (by kernel_rfl)) k0 bel lt0) (trodAll_cons_mk (shut_int Try.underlying3 w1) (trodAll_cons_mk (shut_int Try.underlying3 w2) trodAll_mk0))), rfl, bel.frame _, fun h => by cases h⟩
theorem joined_mk {P : Program} {f : FuncId} {fn : Func} {s : ChangeSpec} {c : OpenClaim} (h0 : (c.wf (OpenSpec.ofChange s)) = true) (h1 : (laidOutB P) = true) (h2 : (mapsRowed P) = true) (h3 : (fn.params.all (P.readableRec ·)) = true) (h4 : (namedTie P c.named s.vars) = true) (h5 : (c.stops == []) = true) (h6 : (P.stops == []) = true) (h7 : (c.knobs == []) = true) (h8 : (P.stopKnobs == []) = true) (h9 : (c.inPlace == P.inPlace f) = true) (h10 : (c.unfollowed == P.unfollowed f) = true) (h11 : (c.recurses == P.recurses f) = true) (h12 : (c.named == P.varsNamed f) = true) (h13 : (c.maps == (fn.params.toList ++ s.plain.varTypes P).any (P.mapsRec ·)) = true) (h14 : (c.ifaces == (fn.params.toList ++ s.plain.varTypes P).any (P.ifacesRec ·)) = true) (h15 : (c.mapsOut == P.mapsAmong fn.resultTypes.toList) = true) (h16 : (c.loops == (fn.params.toList ++ s.plain.varTypes P).any (P.loopsFrom ·)) = true) (h17 : (c.wideKeys == (fn.params.toList ++ s.plain.varTypes P ++ fn.resultTypes.toList).any (P.wideKeysFrom ·)) = true) (h18 : (s.vars.all (P.varReadable ·)) = true) (h19 : (fn.resultTypes.all (fun t => P.readableRec t && decide (t < P.types.size))) = true) (h20 : (c.ifacesOut == fn.resultTypes.toList.any (P.ifacesRec ·)) = true) (h21 : (c.loopsOut == fn.resultTypes.toList.any (P.loopsFrom ·)) = true) (h22 : (c.plainKeys == P.plainKeys) = true) (h23 : (c.shortTexts.isNone) = true) (h24 : (P.stopsHeard) = true) (h25 : (P.mayEnter) = true) (h26 : (c.lifted == P.liftsFinal) = true) (h27 : (P.make == some c.make) = true) (h28 : (c.kinds == (if c.domain.isEmpty then [] else fn.params.toList.map fun t => match P.underlying t with | some (.int k) => some k | _ => none)) = true) (h29 : (c.pinned == c.pinnedBy) = true) (h30 : (c.veiled == (fn.params.toList ++ s.plain.varTypes P ++ fn.resultTypes.toList).any (P.veiledRec ·)) = true) (h31 : (c.veiledFits P fn.params.toList (fn.params.toList ++ s.plain.varTypes P ++ fn.resultTypes.toList)) = true) : joinedFacts P f fn s c = true := by
  unfold joinedFacts; simp only [Bool.and_eq_true]; exact ⟨⟨⟨⟨⟨⟨⟨⟨⟨⟨⟨⟨⟨⟨⟨⟨⟨⟨⟨⟨⟨⟨⟨⟨⟨⟨⟨⟨⟨⟨⟨h0, h1⟩, h2⟩, h3⟩, h4⟩, h5⟩, h6⟩, h7⟩, h8⟩, h9⟩, h10⟩, h11⟩, h12⟩, h13⟩, h14⟩, h15⟩, h16⟩, h17⟩, h18⟩, h19⟩, h20⟩, h21⟩, h22⟩, h23⟩, h24⟩, h25⟩, h26⟩, h27⟩, h28⟩, h29⟩, h30⟩, h31⟩
theorem joined0 : (Rows.fnExactDiskMoveRow.wf (OpenSpec.ofChange Rows.fnExactDiskMoveSpec)) = true := by kernel_rfl
theorem joined1 : (laidOutB Try.pinned.checked.prog) = true := by kernel_rfl
theorem joined2 : (mapsRowed Try.pinned.checked.prog) = true := by kernel_rfl
theorem joined3 : (Try.f11.params.all (Try.pinned.checked.prog.readableRec ·)) = true := by kernel_rfl
theorem joined4 : (namedTie Try.pinned.checked.prog Rows.fnExactDiskMoveRow.named Rows.fnExactDiskMoveSpec.vars) = true := by kernel_rfl
theorem joined5 : (Rows.fnExactDiskMoveRow.stops == []) = true := by kernel_rfl
theorem joined6 : (Try.pinned.checked.prog.stops == []) = true := by kernel_rfl
theorem joined7 : (Rows.fnExactDiskMoveRow.knobs == []) = true := by kernel_rfl
theorem joined8 : (Try.pinned.checked.prog.stopKnobs == []) = true := by kernel_rfl
theorem joined9 : (Rows.fnExactDiskMoveRow.inPlace == Try.pinned.checked.prog.inPlace 11) = true := by kernel_rfl
theorem joined10 : (Rows.fnExactDiskMoveRow.unfollowed == Try.pinned.checked.prog.unfollowed 11) = true := by kernel_rfl
theorem joined11 : (Rows.fnExactDiskMoveRow.recurses == Try.pinned.checked.prog.recurses 11) = true := by kernel_rfl
theorem joined12 : (Rows.fnExactDiskMoveRow.named == Try.pinned.checked.prog.varsNamed 11) = true := by kernel_rfl
theorem joined13 : (Rows.fnExactDiskMoveRow.maps == (Try.f11.params.toList ++ Rows.fnExactDiskMoveSpec.plain.varTypes Try.pinned.checked.prog).any (Try.pinned.checked.prog.mapsRec ·)) = true := by kernel_rfl
theorem joined14 : (Rows.fnExactDiskMoveRow.ifaces == (Try.f11.params.toList ++ Rows.fnExactDiskMoveSpec.plain.varTypes Try.pinned.checked.prog).any (Try.pinned.checked.prog.ifacesRec ·)) = true := by kernel_rfl
theorem joined15 : (Rows.fnExactDiskMoveRow.mapsOut == Try.pinned.checked.prog.mapsAmong Try.f11.resultTypes.toList) = true := by kernel_rfl
theorem joined16 : (Rows.fnExactDiskMoveRow.loops == (Try.f11.params.toList ++ Rows.fnExactDiskMoveSpec.plain.varTypes Try.pinned.checked.prog).any (Try.pinned.checked.prog.loopsFrom ·)) = true := by kernel_rfl
theorem joined17 : (Rows.fnExactDiskMoveRow.wideKeys == (Try.f11.params.toList ++ Rows.fnExactDiskMoveSpec.plain.varTypes Try.pinned.checked.prog ++ Try.f11.resultTypes.toList).any (Try.pinned.checked.prog.wideKeysFrom ·)) = true := by kernel_rfl
theorem joined18 : (Rows.fnExactDiskMoveSpec.vars.all (Try.pinned.checked.prog.varReadable ·)) = true := by kernel_rfl
theorem joined19 : (Try.f11.resultTypes.all (fun t => Try.pinned.checked.prog.readableRec t && decide (t < Try.pinned.checked.prog.types.size))) = true := by kernel_rfl
theorem joined20 : (Rows.fnExactDiskMoveRow.ifacesOut == Try.f11.resultTypes.toList.any (Try.pinned.checked.prog.ifacesRec ·)) = true := by kernel_rfl
theorem joined21 : (Rows.fnExactDiskMoveRow.loopsOut == Try.f11.resultTypes.toList.any (Try.pinned.checked.prog.loopsFrom ·)) = true := by kernel_rfl
theorem joined22 : (Rows.fnExactDiskMoveRow.plainKeys == Try.pinned.checked.prog.plainKeys) = true := by kernel_rfl
theorem joined23 : (Rows.fnExactDiskMoveRow.shortTexts.isNone) = true := by kernel_rfl
theorem joined24 : (Try.pinned.checked.prog.stopsHeard) = true := by kernel_rfl
theorem joined25 : (Try.pinned.checked.prog.mayEnter) = true := by kernel_rfl
theorem joined26 : (Rows.fnExactDiskMoveRow.lifted == Try.pinned.checked.prog.liftsFinal) = true := by kernel_rfl
theorem joined27 : (Try.pinned.checked.prog.make == some Rows.fnExactDiskMoveRow.make) = true := by kernel_rfl
theorem joined28 : (Rows.fnExactDiskMoveRow.kinds == (if Rows.fnExactDiskMoveRow.domain.isEmpty then [] else Try.f11.params.toList.map fun t => match Try.pinned.checked.prog.underlying t with | some (.int k) => some k | _ => none)) = true := by kernel_rfl
theorem joined29 : (Rows.fnExactDiskMoveRow.pinned == Rows.fnExactDiskMoveRow.pinnedBy) = true := by kernel_rfl
theorem joined30 : (Rows.fnExactDiskMoveRow.veiled == (Try.f11.params.toList ++ Rows.fnExactDiskMoveSpec.plain.varTypes Try.pinned.checked.prog ++ Try.f11.resultTypes.toList).any (Try.pinned.checked.prog.veiledRec ·)) = true := by kernel_rfl
theorem joined31 : (Rows.fnExactDiskMoveRow.veiledFits Try.pinned.checked.prog Try.f11.params.toList (Try.f11.params.toList ++ Rows.fnExactDiskMoveSpec.plain.varTypes Try.pinned.checked.prog ++ Try.f11.resultTypes.toList)) = true := by kernel_rfl
theorem over : Rows.fnExactDiskMoveRow.holds Try.pinned (OpenSpec.ofChange Rows.fnExactDiskMoveSpec) :=
  OpenClaim.holds_of_wide 11 Try.f11 rfl rfl rfl rfl rfl rfl rfl ⟨rfl, rfl, rfl, rfl, rfl⟩ rfl rfl rfl rfl rfl (by kernel_rfl) Try.func11 (joined_mk joined0 joined1 joined2 joined3 joined4 joined5 joined6 joined7 joined8 joined9 joined10 joined11 joined12 joined13 joined14 joined15 joined16 joined17 joined18 joined19 joined20 joined21 joined22 joined23 joined24 joined25 joined26 joined27 joined28 joined29 joined30 joined31)
    (of_decide_eq_true (by kernel_rfl)) (by unfold Func.isWrapper; first | (rw [if_pos (by decide +kernel)]; kernel_rfl) | (rw [if_neg (by decide +kernel)]; exact ⟨rfl, rfl⟩))
    (fun os started H enc _ => lifted os started H enc)
theorem proved : Rows.FnExactDiskMoveSaid := over
#print axioms proved
end Go.Proofs.Ytbbeaghhchjkgaa.fnExactDiskMove
namespace Go.Proofs.Ytbbeaghhchjkgaa
/-- The row, under a short name, for the claim. -/
theorem fnExactDiskMove_holds : Rows.FnExactDiskMoveSaid := fnExactDiskMove.proved
end Go.Proofs.Ytbbeaghhchjkgaa
