/- The row of FnMoved, out of its walk. No condition. -/
import Derived.Test.YtgehbhkfehmdkaaGreatRows
import Derived.Test.YtgehbhkfehmdkaaGreatKURd
import Derived.Test.YtgehbhkfehmdkaaGreatKUShLwMv
import Derived.WalkKit
import Derived.ProofKit
import Derived.OpenShut
import Derived.ShutString
import Derived.ChangeOld
import Derived.Below
import Derived.SizedLaws
set_option maxRecDepth 100000
set_option maxHeartbeats 40000000
set_option linter.unusedVariables false
namespace Go.Proofs.YtgehbhkfehmdkaaGreat.fnMoved
open Go.ChangeShapes Go.WideShapes Go.ChangeAt Go.RowKit Go.Proofs.YtgehbhkfehmdkaaGreat.Rd Go.Proofs.YtgehbhkfehmdkaaGreatW.PrintWords Go.Proofs.YtgehbhkfehmdkaaGreat.Ty
open Go.ChangeMaps (open_string shut_string)
theorem own : ownKnob Tryz.prog.godebug = none := by kernel_rfl
theorem gM : laidOutB Tryz.prog = true := by kernel_rfl
theorem rd5 : Reads Tryz.prog 5 (Kd.int .u8) (fun x => (Lit.int .u8 x).wf = true) := Reads_int Tryz.underlying5 (by kernel_rfl)
theorem rd22 : Reads Tryz.prog 22 (Kd.slice 5 (Kd.int .u8)) (fun xs => ∀ y ∈ xs, (Lit.int .u8 y).wf = true) := Reads_slice Tryz.underlying22 (by kernel_rfl) rd5
theorem lifted (os : Os) (started : os.Started) (H : Type) (enc : TypeId × Value → H) :
    ReturnsInHanded {} Tryz.checked os 11 .any (Rows.fnMovedSpec.pre6 enc Tryz.prog Tryz.f11 Rows.fnMovedRow.domain false) (Rows.fnMovedSpec.post enc Tryz.prog Tryz.f11 false true false false) := by
  refine returnsInHanded_of_change_sized (C := Tryz.checked) own started (by kernel_rfl) Tryz.func11
    (ChangeSpec.witness6 (enc := enc) (C := Tryz.checked) false ⟨#[], #[.slice none 0 0], []⟩ 8 (by kernel_rfl) (by kernel_rfl) (by kernel_rfl) (by kernel_rfl)) ?_
  intro W base args ds gs before hval0 hW hcnd hsz0 _
  have hval : ∀ (j : Nat) t v, Tryz.f11.params[j]? = some t → args[j]? = some v → Value.okWide Tryz.prog W .any base t v := hval0
  have hW' := hW
  obtain ⟨p, q, hA0, hV, rfl, hfz, hnd⟩ := hW
  have hA : DataW.TrodAll enc Tryz.prog W 0 (fun _ => true) true Tryz.f11.params.toList args.toList ds p := hA0
  rw [Tryz.params11] at hA hval
  obtain ⟨v0, vs0, d0, ds0, p0, q0, hargs, rfl, rfl, h0, r0⟩ := trodAll_cons hA
  obtain ⟨rfl, rfl, rfl⟩ := trodAll_nil r0
  obtain rfl : args = #[v0] := by cases args; simp_all
  obtain ⟨rfl, rfl⟩ := trodVars_none hV
  have k0 := h0
  have lt0 : ∀ x ∈ p0, x.block < W.heap.size := by obtain ⟨m, hm⟩ := k0; exact DataW.trod_lt m _ _ _ hm
  obtain ⟨A0, len0, c0, rfl⟩ := okWide_slice Tryz.underlying22 (hval 0 22 v0 rfl rfl)
  obtain ⟨fuel0, hf0⟩ := h0
  obtain ⟨l0, ⟨B0, d0, hc0, hl0, hC0⟩, g0⟩ := rd22.2 hf0
  obtain ⟨rfl, rfl, rfl⟩ : A0 = B0 ∧ len0 = l0.length ∧ c0 = d0 := by simpa [Value.cells] using hc0
  clear hA0 hval0 hsz0
  refine (Law.FnMoved A0 c0 l0 W hC0 hl0 g0).mono fun e W' ⟨he, bel⟩ => ?_
  subst he
  exact ⟨_, rfl, _, _, _, [], _, [], hW', trodAll_mk1 (shut_bool Tryz.underlying4 _), (trodAll_cons_mk (Below.trod gM (by kernel_rfl) (of_decide_eq_true (by kernel_rfl)) k0 bel lt0) trodAll_mk0), rfl, bel.frame _, fun h => by cases h⟩
theorem dK {P : Program} {f : FuncId} {fn : Func} {s : ChangeSpec} {c : OpenClaim} (h0 : (c.wf (OpenSpec.ofChange s)) = true) (h1 : (laidOutB P) = true) (h2 : (mapsRowed P) = true) (h3 : (fn.params.all (P.readableRec ·)) = true) (h4 : (namedTie P c.named s.vars) = true) (h5 : (c.stops == []) = true) (h6 : (P.stops == []) = true) (h7 : (c.knobs == []) = true) (h8 : (P.stopKnobs == []) = true) (h9 : (c.inPlace == P.inPlace f) = true) (h10 : (c.unfollowed == P.unfollowed f) = true) (h11 : (c.recurses == P.recurses f) = true) (h12 : (c.named == P.varsNamed f) = true) (h13 : (c.maps == (fn.params.toList ++ s.plain.varTypes P).any (P.mapsRec ·)) = true) (h14 : (c.ifaces == (fn.params.toList ++ s.plain.varTypes P).any (P.ifacesRec ·)) = true) (h15 : (c.mapsOut == P.mapsAmong fn.resultTypes.toList) = true) (h16 : (c.loops == (fn.params.toList ++ s.plain.varTypes P).any (P.loopsFrom ·)) = true) (h17 : (c.wideKeys == (fn.params.toList ++ s.plain.varTypes P ++ fn.resultTypes.toList).any (P.wideKeysFrom ·)) = true) (h18 : (s.vars.all (P.varReadable ·)) = true) (h19 : (fn.resultTypes.all (fun t => P.readableRec t && decide (t < P.types.size))) = true) (h20 : (c.ifacesOut == fn.resultTypes.toList.any (P.ifacesRec ·)) = true) (h21 : (c.loopsOut == fn.resultTypes.toList.any (P.loopsFrom ·)) = true) (h22 : (c.plainKeys == P.plainKeys) = true) (h23 : (c.shortTexts.isNone) = true) (h24 : (P.stopsHeard) = true) (h25 : (P.mayEnter) = true) (h26 : (c.lifted == P.liftsFinal) = true) (h27 : (P.make == some c.make) = true) (h28 : (c.kinds == (if c.domain.isEmpty then [] else fn.params.toList.map fun t => match P.underlying t with | some (.int k) => some k | _ => none)) = true) (h29 : (c.pinned == c.pinnedBy) = true) (h30 : (c.veiled == (fn.params.toList ++ s.plain.varTypes P ++ fn.resultTypes.toList).any (P.veiledRec ·)) = true) (h31 : (c.veiledFits P fn.params.toList (fn.params.toList ++ s.plain.varTypes P ++ fn.resultTypes.toList)) = true) : joinedFacts P f fn s c = true := by
  unfold joinedFacts; simp only [Bool.and_eq_true]; exact ⟨⟨⟨⟨⟨⟨⟨⟨⟨⟨⟨⟨⟨⟨⟨⟨⟨⟨⟨⟨⟨⟨⟨⟨⟨⟨⟨⟨⟨⟨⟨h0, h1⟩, h2⟩, h3⟩, h4⟩, h5⟩, h6⟩, h7⟩, h8⟩, h9⟩, h10⟩, h11⟩, h12⟩, h13⟩, h14⟩, h15⟩, h16⟩, h17⟩, h18⟩, h19⟩, h20⟩, h21⟩, h22⟩, h23⟩, h24⟩, h25⟩, h26⟩, h27⟩, h28⟩, h29⟩, h30⟩, h31⟩
theorem gB : (Rows.fnMovedRow.wf (OpenSpec.ofChange Rows.fnMovedSpec)) = true := by kernel_rfl
theorem gC : (laidOutB Tryz.pinned.checked.prog) = true := by kernel_rfl
theorem gD : (mapsRowed Tryz.pinned.checked.prog) = true := by kernel_rfl
theorem gE : (Tryz.f11.params.all (Tryz.pinned.checked.prog.readableRec ·)) = true := by kernel_rfl
theorem gG : (namedTie Tryz.pinned.checked.prog Rows.fnMovedRow.named Rows.fnMovedSpec.vars) = true := by kernel_rfl
theorem gH : (Rows.fnMovedRow.stops == []) = true := by kernel_rfl
theorem gI : (Tryz.pinned.checked.prog.stops == []) = true := by kernel_rfl
theorem gJ : (Rows.fnMovedRow.knobs == []) = true := by kernel_rfl
theorem gK : (Tryz.pinned.checked.prog.stopKnobs == []) = true := by kernel_rfl
theorem gL : (Rows.fnMovedRow.inPlace == Tryz.pinned.checked.prog.inPlace 11) = true := by kernel_rfl
theorem eH : (Rows.fnMovedRow.unfollowed == Tryz.pinned.checked.prog.unfollowed 11) = true := by kernel_rfl
theorem eI : (Rows.fnMovedRow.recurses == Tryz.pinned.checked.prog.recurses 11) = true := by kernel_rfl
theorem eJ : (Rows.fnMovedRow.named == Tryz.pinned.checked.prog.varsNamed 11) = true := by kernel_rfl
theorem eK : (Rows.fnMovedRow.maps == (Tryz.f11.params.toList ++ Rows.fnMovedSpec.plain.varTypes Tryz.pinned.checked.prog).any (Tryz.pinned.checked.prog.mapsRec ·)) = true := by kernel_rfl
theorem eL : (Rows.fnMovedRow.ifaces == (Tryz.f11.params.toList ++ Rows.fnMovedSpec.plain.varTypes Tryz.pinned.checked.prog).any (Tryz.pinned.checked.prog.ifacesRec ·)) = true := by kernel_rfl
theorem eM : (Rows.fnMovedRow.mapsOut == Tryz.pinned.checked.prog.mapsAmong Tryz.f11.resultTypes.toList) = true := by kernel_rfl
theorem eN : (Rows.fnMovedRow.loops == (Tryz.f11.params.toList ++ Rows.fnMovedSpec.plain.varTypes Tryz.pinned.checked.prog).any (Tryz.pinned.checked.prog.loopsFrom ·)) = true := by kernel_rfl
theorem eO : (Rows.fnMovedRow.wideKeys == (Tryz.f11.params.toList ++ Rows.fnMovedSpec.plain.varTypes Tryz.pinned.checked.prog ++ Tryz.f11.resultTypes.toList).any (Tryz.pinned.checked.prog.wideKeysFrom ·)) = true := by kernel_rfl
theorem eP : (Rows.fnMovedSpec.vars.all (Tryz.pinned.checked.prog.varReadable ·)) = true := by kernel_rfl
theorem eQ : (Tryz.f11.resultTypes.all (fun t => Tryz.pinned.checked.prog.readableRec t && decide (t < Tryz.pinned.checked.prog.types.size))) = true := by kernel_rfl
theorem eR : (Rows.fnMovedRow.ifacesOut == Tryz.f11.resultTypes.toList.any (Tryz.pinned.checked.prog.ifacesRec ·)) = true := by kernel_rfl
theorem eS : (Rows.fnMovedRow.loopsOut == Tryz.f11.resultTypes.toList.any (Tryz.pinned.checked.prog.loopsFrom ·)) = true := by kernel_rfl
theorem eT : (Rows.fnMovedRow.plainKeys == Tryz.pinned.checked.prog.plainKeys) = true := by kernel_rfl
theorem eU : (Rows.fnMovedRow.shortTexts.isNone) = true := by kernel_rfl
theorem eV : (Tryz.pinned.checked.prog.stopsHeard) = true := by kernel_rfl
theorem eW : (Tryz.pinned.checked.prog.mayEnter) = true := by kernel_rfl
theorem eX : (Rows.fnMovedRow.lifted == Tryz.pinned.checked.prog.liftsFinal) = true := by kernel_rfl
theorem eY : (Tryz.pinned.checked.prog.make == some Rows.fnMovedRow.make) = true := by kernel_rfl
theorem eZ : (Rows.fnMovedRow.kinds == (if Rows.fnMovedRow.domain.isEmpty then [] else Tryz.f11.params.toList.map fun t => match Tryz.pinned.checked.prog.underlying t with | some (.int k) => some k | _ => none)) = true := by kernel_rfl
theorem f8 : (Rows.fnMovedRow.pinned == Rows.fnMovedRow.pinnedBy) = true := by kernel_rfl
theorem fb : (Rows.fnMovedRow.veiled == (Tryz.f11.params.toList ++ Rows.fnMovedSpec.plain.varTypes Tryz.pinned.checked.prog ++ Tryz.f11.resultTypes.toList).any (Tryz.pinned.checked.prog.veiledRec ·)) = true := by kernel_rfl
theorem fc : (Rows.fnMovedRow.veiledFits Tryz.pinned.checked.prog Tryz.f11.params.toList (Tryz.f11.params.toList ++ Rows.fnMovedSpec.plain.varTypes Tryz.pinned.checked.prog ++ Tryz.f11.resultTypes.toList)) = true := by kernel_rfl
theorem nq : Rows.fnMovedRow.holds Tryz.pinned (OpenSpec.ofChange Rows.fnMovedSpec) :=
  OpenClaim.holds_of_wide 11 Tryz.f11 rfl rfl rfl rfl rfl rfl rfl ⟨rfl, rfl, rfl, rfl, rfl⟩ rfl rfl rfl rfl rfl (by kernel_rfl) Tryz.func11 (dK gB gC gD gE gG gH gI gJ gK gL eH eI eJ eK eL eM eN eO eP eQ eR eS eT eU eV eW eX eY eZ f8 fb fc)
    (of_decide_eq_true (by kernel_rfl)) (by unfold Func.isWrapper; first | (rw [if_pos (by decide +kernel)]; kernel_rfl) | (rw [if_neg (by decide +kernel)]; exact ⟨rfl, rfl⟩))
    (fun os started H enc _ => lifted os started H enc)
theorem proved : Rows.FnMovedSaid := nq
#print axioms proved
end Go.Proofs.YtgehbhkfehmdkaaGreat.fnMoved
namespace Go.Proofs.YtgehbhkfehmdkaaGreat
theorem fnMoved_holds : Rows.FnMovedSaid := fnMoved.proved
end Go.Proofs.YtgehbhkfehmdkaaGreat
