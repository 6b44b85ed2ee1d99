/- The row of FnDisk, out of its walk. No condition. -/
import Derived.Test.YtbbeaghhchjkgaaRows
import Derived.Test.YtbbeaghhchjkgaaRd
import Derived.Test.YtbbeaghhchjkgaaLFnDisk
import Derived.WalkKit
import Derived.ProofKit
import Derived.OpenShut
import Derived.ShutString
import Derived.ChangeOld
import Derived.Below
import Derived.SizedLaws
namespace Go.Proofs.Ytbbeaghhchjkgaa.fnDisk
open Go.ChangeShapes Go.WideShapes Go.ChangeAt Go.RowKit Go.Proofs.Ytbbeaghhchjkgaa.Rd Go.Proofs.YtbbeaghhchjkgaaW.PrintWords Go.Proofs.Ytbbeaghhchjkgaa.Ty
open Go.ChangeMaps (open_string shut_string)
set_option linter.unusedVariables false
theorem own : ownKnob Try.prog.godebug = none := by kernel_rfl
theorem laidOut : laidOutB Try.prog = true := by kernel_rfl
theorem rd5 : Reads Try.prog 5 (Kd.int .u8) (fun x => (Lit.int .u8 x).wf = true) := Reads_int Try.underlying5 (by kernel_rfl)
theorem rd40 : Reads Try.prog 40 (Kd.slice 5 (Kd.int .u8)) (fun xs => ∀ y ∈ xs, (Lit.int .u8 y).wf = true) := Reads_slice Try.underlying40 (by kernel_rfl) rd5
set_option maxRecDepth 100000 in
theorem lifted (os : Os) (started : os.Started) (H : Type) (enc : TypeId × Value → H) :
    ReturnsInHanded {} Try.checked os 7 .any (Rows.fnDiskSpec.pre6 enc Try.prog Try.f7 Rows.fnDiskRow.domain false) (Rows.fnDiskSpec.post enc Try.prog Try.f7 false true false false) := by
  refine returnsInHanded_of_change_sized (C := Try.checked) own started (by kernel_rfl) Try.func7
    (ChangeSpec.witness6 (enc := enc) (C := Try.checked) false ⟨#[], #[.slice none 0 0], []⟩ 8 (by kernel_rfl) (by kernel_rfl) (by kernel_rfl) (by kernel_rfl)) ?_
  intro W base args ds gs before hval0 hW hcnd hsz0 _
  have hval : ∀ (j : Nat) t v, Try.f7.params[j]? = some t → args[j]? = some v → Value.okWide Try.prog W .any base t v := hval0
  have hW' := hW
  obtain ⟨p, q, hA0, hV, rfl, hfz, hnd⟩ := hW
  have hA : DataW.TrodAll enc Try.prog W 0 (fun _ => true) true Try.f7.params.toList args.toList ds p := hA0
  rw [Try.params7] at hA hval
  obtain ⟨v0, vs0, d0, ds0, p0, q0, hargs, rfl, rfl, h0, r0⟩ := trodAll_cons hA
  obtain ⟨rfl, rfl, rfl⟩ := trodAll_nil r0
  obtain rfl : args = #[v0] := by cases args; simp_all
  obtain ⟨rfl, rfl⟩ := trodVars_none hV
  have k0 := h0
  have lt0 : ∀ x ∈ p0, x.block < W.heap.size := by obtain ⟨m, hm⟩ := k0; exact DataW.trod_lt m _ _ _ hm
  obtain ⟨A0, len0, c0, rfl⟩ := okWide_slice Try.underlying40 (hval 0 40 v0 rfl rfl)
  obtain ⟨fuel0, hf0⟩ := h0
  obtain ⟨l0, ⟨B0, d0, hc0, hl0, hC0⟩, g0⟩ := rd40.2 hf0
  obtain ⟨rfl, rfl, rfl⟩ : A0 = B0 ∧ len0 = l0.length ∧ c0 = d0 := by simpa [Value.cells] using hc0
  clear hA0 hval0 hsz0
  refine (Law.FnDisk A0 c0 l0 W hC0 g0).mono fun e W' ⟨he, bel⟩ => ?_
  subst he
  exact ⟨_, rfl, _, _, _, [], _, [], hW', trodAll_mk1 (shut_bool Try.underlying4 _), (trodAll_cons_mk (Below.trod laidOut (by kernel_rfl) (of_decide_eq_true (by kernel_rfl)) k0 bel lt0) trodAll_mk0), rfl, bel.frame _, fun h => by cases h⟩
theorem joined_mk {P : Program} {f : FuncId} {fn : Func} {s : ChangeSpec} {c : OpenClaim} (h0 : (c.wf (OpenSpec.ofChange s)) = true) (h1 : (laidOutB P) = true) (h2 : (mapsRowed P) = true) (h3 : (fn.params.all (P.readableRec ·)) = true) (h4 : (namedTie P c.named s.vars) = true) (h5 : (c.stops == []) = true) (h6 : (P.stops == []) = true) (h7 : (c.knobs == []) = true) (h8 : (P.stopKnobs == []) = true) (h9 : (c.inPlace == P.inPlace f) = true) (h10 : (c.unfollowed == P.unfollowed f) = true) (h11 : (c.recurses == P.recurses f) = true) (h12 : (c.named == P.varsNamed f) = true) (h13 : (c.maps == (fn.params.toList ++ s.plain.varTypes P).any (P.mapsRec ·)) = true) (h14 : (c.ifaces == (fn.params.toList ++ s.plain.varTypes P).any (P.ifacesRec ·)) = true) (h15 : (c.mapsOut == P.mapsAmong fn.resultTypes.toList) = true) (h16 : (c.loops == (fn.params.toList ++ s.plain.varTypes P).any (P.loopsFrom ·)) = true) (h17 : (c.wideKeys == (fn.params.toList ++ s.plain.varTypes P ++ fn.resultTypes.toList).any (P.wideKeysFrom ·)) = true) (h18 : (s.vars.all (P.varReadable ·)) = true) (h19 : (fn.resultTypes.all (fun t => P.readableRec t && decide (t < P.types.size))) = true) (h20 : (c.ifacesOut == fn.resultTypes.toList.any (P.ifacesRec ·)) = true) (h21 : (c.loopsOut == fn.resultTypes.toList.any (P.loopsFrom ·)) = true) (h22 : (c.plainKeys == P.plainKeys) = true) (h23 : (c.shortTexts.isNone) = true) (h24 : (P.stopsHeard) = true) (h25 : (P.mayEnter) = true) (h26 : (c.lifted == P.liftsFinal) = true) (h27 : (P.make == some c.make) = true) (h28 : (c.kinds == (if c.domain.isEmpty then [] else fn.params.toList.map fun t => match P.underlying t with | some (.int k) => some k | _ => none)) = true) (h29 : (c.pinned == c.pinnedBy) = true) (h30 : (c.veiled == (fn.params.toList ++ s.plain.varTypes P ++ fn.resultTypes.toList).any (P.veiledRec ·)) = true) (h31 : (c.veiledFits P fn.params.toList (fn.params.toList ++ s.plain.varTypes P ++ fn.resultTypes.toList)) = true) : joinedFacts P f fn s c = true := by
  unfold joinedFacts; simp only [Bool.and_eq_true]; exact ⟨⟨⟨⟨⟨⟨⟨⟨⟨⟨⟨⟨⟨⟨⟨⟨⟨⟨⟨⟨⟨⟨⟨⟨⟨⟨⟨⟨⟨⟨⟨h0, h1⟩, h2⟩, h3⟩, h4⟩, h5⟩, h6⟩, h7⟩, h8⟩, h9⟩, h10⟩, h11⟩, h12⟩, h13⟩, h14⟩, h15⟩, h16⟩, h17⟩, h18⟩, h19⟩, h20⟩, h21⟩, h22⟩, h23⟩, h24⟩, h25⟩, h26⟩, h27⟩, h28⟩, h29⟩, h30⟩, h31⟩
theorem joined0 : (Rows.fnDiskRow.wf (OpenSpec.ofChange Rows.fnDiskSpec)) = true := by kernel_rfl
theorem joined1 : (laidOutB Try.pinned.checked.prog) = true := by kernel_rfl
theorem joined2 : (mapsRowed Try.pinned.checked.prog) = true := by kernel_rfl
theorem joined3 : (Try.f7.params.all (Try.pinned.checked.prog.readableRec ·)) = true := by kernel_rfl
theorem joined4 : (namedTie Try.pinned.checked.prog Rows.fnDiskRow.named Rows.fnDiskSpec.vars) = true := by kernel_rfl
theorem joined5 : (Rows.fnDiskRow.stops == []) = true := by kernel_rfl
theorem joined6 : (Try.pinned.checked.prog.stops == []) = true := by kernel_rfl
theorem joined7 : (Rows.fnDiskRow.knobs == []) = true := by kernel_rfl
theorem joined8 : (Try.pinned.checked.prog.stopKnobs == []) = true := by kernel_rfl
theorem joined9 : (Rows.fnDiskRow.inPlace == Try.pinned.checked.prog.inPlace 7) = true := by kernel_rfl
theorem joined10 : (Rows.fnDiskRow.unfollowed == Try.pinned.checked.prog.unfollowed 7) = true := by kernel_rfl
theorem joined11 : (Rows.fnDiskRow.recurses == Try.pinned.checked.prog.recurses 7) = true := by kernel_rfl
theorem joined12 : (Rows.fnDiskRow.named == Try.pinned.checked.prog.varsNamed 7) = true := by kernel_rfl
theorem joined13 : (Rows.fnDiskRow.maps == (Try.f7.params.toList ++ Rows.fnDiskSpec.plain.varTypes Try.pinned.checked.prog).any (Try.pinned.checked.prog.mapsRec ·)) = true := by kernel_rfl
theorem joined14 : (Rows.fnDiskRow.ifaces == (Try.f7.params.toList ++ Rows.fnDiskSpec.plain.varTypes Try.pinned.checked.prog).any (Try.pinned.checked.prog.ifacesRec ·)) = true := by kernel_rfl
theorem joined15 : (Rows.fnDiskRow.mapsOut == Try.pinned.checked.prog.mapsAmong Try.f7.resultTypes.toList) = true := by kernel_rfl
theorem joined16 : (Rows.fnDiskRow.loops == (Try.f7.params.toList ++ Rows.fnDiskSpec.plain.varTypes Try.pinned.checked.prog).any (Try.pinned.checked.prog.loopsFrom ·)) = true := by kernel_rfl
theorem joined17 : (Rows.fnDiskRow.wideKeys == (Try.f7.params.toList ++ Rows.fnDiskSpec.plain.varTypes Try.pinned.checked.prog ++ Try.f7.resultTypes.toList).any (Try.pinned.checked.prog.wideKeysFrom ·)) = true := by kernel_rfl
theorem joined18 : (Rows.fnDiskSpec.vars.all (Try.pinned.checked.prog.varReadable ·)) = true := by kernel_rfl
theorem joined19 : (Try.f7.resultTypes.all (fun t => Try.pinned.checked.prog.readableRec t && decide (t < Try.pinned.checked.prog.types.size))) = true := by kernel_rfl
theorem joined20 : (Rows.fnDiskRow.ifacesOut == Try.f7.resultTypes.toList.any (Try.pinned.checked.prog.ifacesRec ·)) = true := by kernel_rfl
theorem joined21 : (Rows.fnDiskRow.loopsOut == Try.f7.resultTypes.toList.any (Try.pinned.checked.prog.loopsFrom ·)) = true := by kernel_rfl
theorem joined22 : (Rows.fnDiskRow.plainKeys == Try.pinned.checked.prog.plainKeys) = true := by kernel_rfl
theorem joined23 : (Rows.fnDiskRow.shortTexts.isNone) = true := by kernel_rfl
theorem joined24 : (Try.pinned.checked.prog.stopsHeard) = true := by kernel_rfl
theorem joined25 : (Try.pinned.checked.prog.mayEnter) = true := by kernel_rfl
theorem joined26 : (Rows.fnDiskRow.lifted == Try.pinned.checked.prog.liftsFinal) = true := by kernel_rfl
theorem joined27 : (Try.pinned.checked.prog.make == some Rows.fnDiskRow.make) = true := by kernel_rfl
theorem joined28 : (Rows.fnDiskRow.kinds == (if Rows.fnDiskRow.domain.isEmpty then [] else Try.f7.params.toList.map fun t => match Try.pinned.checked.prog.underlying t with | some (.int k) => some k | _ => none)) = true := by kernel_rfl
theorem joined29 : (Rows.fnDiskRow.pinned == Rows.fnDiskRow.pinnedBy) = true := by kernel_rfl
theorem joined30 : (Rows.fnDiskRow.veiled == (Try.f7.params.toList ++ Rows.fnDiskSpec.plain.varTypes Try.pinned.checked.prog ++ Try.f7.resultTypes.toList).any (Try.pinned.checked.prog.veiledRec ·)) = true := by kernel_rfl
theorem joined31 : (Rows.fnDiskRow.veiledFits Try.pinned.checked.prog Try.f7.params.toList (Try.f7.params.toList ++ Rows.fnDiskSpec.plain.varTypes Try.pinned.checked.prog ++ Try.f7.resultTypes.toList)) = true := by kernel_rfl
theorem over : Rows.fnDiskRow.holds Try.pinned (OpenSpec.ofChange Rows.fnDiskSpec) :=
  OpenClaim.holds_of_wide 7 Try.f7 rfl rfl rfl rfl rfl rfl rfl ⟨rfl, rfl, rfl, rfl, rfl⟩ rfl rfl rfl rfl rfl (by kernel_rfl) Try.func7 (joined_mk joined0 joined1 joined2 joined3 joined4 joined5 joined6 joined7 joined8 joined9 joined10 joined11 joined12 joined13 joined14 joined15 joined16 joined17 joined18 joined19 joined20 joined21 joined22 joined23 joined24 joined25 joined26 joined27 joined28 joined29 joined30 joined31)
    (of_decide_eq_true (by kernel_rfl)) (by unfold Func.isWrapper; first | (rw [if_pos (by decide +kernel)]; kernel_rfl) | (rw [if_neg (by decide +kernel)]; exact ⟨rfl, rfl⟩))
    (fun os started H enc _ => lifted os started H enc)
theorem proved : Rows.FnDiskSaid := over
#print axioms proved
end Go.Proofs.Ytbbeaghhchjkgaa.fnDisk
namespace Go.Proofs.Ytbbeaghhchjkgaa
/-- The row, under a short name, for the claim. -/
theorem fnDisk_holds : Rows.FnDiskSaid := fnDisk.proved
end Go.Proofs.Ytbbeaghhchjkgaa
