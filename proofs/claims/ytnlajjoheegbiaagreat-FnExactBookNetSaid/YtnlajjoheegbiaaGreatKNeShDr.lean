/- A region that draws its order, in which two things may be made: both orders. No condition. -/
import Derived.Test.YtnlajjoheegbiaaGreatKNeShN
namespace Go.Proofs.YtnlajjoheegbiaaGreat.Sh
open Go.RowKit Go.Proofs.YtnlajjoheegbiaaGreatW
set_option linter.unusedVariables false
set_option linter.unusedSimpArgs false
def chkP (ops : Array Oper) (ds : List Nat) : List (Sk × Nat) → Array Bool → Option (Array Bool)
  | [], l => some l
  | (k, i) :: r, l => match (ops[i]?).isSome && (match k with
    | .p => PrintLast.anyB .any ops l (l.setIfInBounds i true) i
    | .t => PrintLast.takeB .any ops ds l (l.setIfInBounds i true) i
    | _ => false) with
    | true => chkP ops ds r (l.setIfInBounds i true)
    | false => none
def bothQ (A B : St → Prop) : Exit → St → Prop
  | .normal, st => A st ∧ B st
  | _, _ => False
theorem bothQ_n {A B : St → Prop} {st : St} (h1 : A st) (h2 : B st) : bothQ A B .normal st := ⟨h1, h2⟩
section
variable {P : Program} {ops : Array Oper} {Q Q0 : Exit → St → Prop} {h1 : AH} {ds : List Nat} {Γ : Ctx} {ρ1 : Pl} {w1 : World}
theorem ws_pre (hH : Holds Γ ρ1 h1 w1) {l' : Array Bool} {n : Nat} {ks : List (Sk × Oper)} {st : St} (h : WS P ops Q0 h1 ks st) (K : ∀ st' ρ' a' w', Q0 .normal st' → Rel Γ ρ' st' a' w' → Ext ρ1 ρ' ∧ Same w1 w' → PrintLast.wpAnyLast P .any ops (lift Q Γ) (Same w1) ds n l' a' w') :
    ∀ (s : List (Sk × Nat)) (l : Array Bool), ks = s.map (fun p => (p.1, opn ops p.2)) → chkP ops ds s l = some l' → ∀ {ρ a w}, Rel Γ ρ st a w → Ext ρ1 ρ ∧ Same w1 w →
      PrintLast.wpAnyLast P .any ops (lift Q Γ) (Same w1) ds (n + s.length) l a w := by
  induction h with
  | nil h =>
    intro s l e hc ρ a w hr hS
    cases s with
    | nil =>
      cases hc
      exact K _ _ _ _ h hr hS
    | cons o s => cases e
  | ghost g _ ih =>
    intro s l e hc ρ a w hr hS
    obtain ⟨ρ', hx, hr'⟩ := g Γ ρ a w hr
    exact ih s l e hc hr' ⟨hS.1.trans hx, hS.2⟩
  | @off k o ks st hd hg _ ih =>
    intro s l e hc ρ a w hr hS
    cases s with
    | nil => cases e
    | cons p s =>
      obtain ⟨k', i⟩ := p
      simp only [List.map_cons, List.cons.injEq, Prod.mk.injEq] at e
      obtain ⟨⟨rfl, e1⟩, e2⟩ := e
      unfold chkP at hc
      split at hc
      · rename_i hb
        simp only [Bool.and_eq_true] at hb
        obtain ⟨hi, hk⟩ := hb
        have ho : ops[i]? = some o := by
          obtain ⟨o', ho'⟩ := Option.isSome_iff_exists.1 hi
          rw [e1, opn, ho']
          rfl
        have hw := gd_wanted hg hr.env
        cases k with
        | p => exact PrintLast.pure_ _ ho rfl hk (fun _ _ _ h => h) (Or.inr ⟨hw, rfl⟩) rfl (ih s _ e2 hc (hr.undef_ o.dst hd) hS)
        | t => exact PrintLast.take_ _ ho rfl hk (fun _ _ _ h => h) (Or.inr ⟨hw, rfl⟩) hS.2 rfl (ih s _ e2 hc (hr.undef_ o.dst hd) hS)
        | o => cases hk
        | l => cases hk
      · cases hc
  | @p o ks st v hd hg ho' _ ih =>
    intro s l e hc ρ a w hr hS
    cases s with
    | nil => cases e
    | cons p s =>
      obtain ⟨k', i⟩ := p
      simp only [List.map_cons, List.cons.injEq, Prod.mk.injEq] at e
      obtain ⟨⟨rfl, e1⟩, e2⟩ := e
      unfold chkP at hc
      split at hc
      · rename_i hb
        simp only [Bool.and_eq_true] at hb
        obtain ⟨hi, hk⟩ := hb
        have ho : ops[i]? = some o := by
          obtain ⟨o', ho'⟩ := Option.isSome_iff_exists.1 hi
          rw [e1, opn, ho']
          rfl
        have hw := gd_wanted hg hr.env
        obtain ⟨v', hv, hv2⟩ := ho' Γ ρ a w hr
        exact PrintLast.pure_ _ ho rfl hk (fun _ _ _ h => h) (Or.inl ⟨hw, hv2⟩) rfl (ih s _ e2 hc (hr.put st.h o.dst hd v v' (Ext.refl _) hr.len hr.holds hv) hS)
      · cases hc
  | @t o ks st v hd hg ho' _ ih =>
    intro s l e hc ρ a w hr hS
    cases s with
    | nil => cases e
    | cons p s =>
      obtain ⟨k', i⟩ := p
      simp only [List.map_cons, List.cons.injEq, Prod.mk.injEq] at e
      obtain ⟨⟨rfl, e1⟩, e2⟩ := e
      unfold chkP at hc
      split at hc
      · rename_i hb
        simp only [Bool.and_eq_true] at hb
        obtain ⟨hi, hk⟩ := hb
        have ho : ops[i]? = some o := by
          obtain ⟨o', ho'⟩ := Option.isSome_iff_exists.1 hi
          rw [e1, opn, ho']
          rfl
        have hw := gd_wanted hg hr.env
        obtain ⟨v', hv, hv2⟩ := ho' Γ ρ1 ρ a w w1 hS.1 hr hH
        exact PrintLast.take_ _ ho rfl hk (fun _ _ _ h => h) (Or.inl ⟨hw, fun w hw => hv2 w hw⟩) hS.2 rfl (ih s _ e2 hc (hr.put st.h o.dst hd v v' (Ext.refl _) hr.len hr.holds hv) hS)
      · cases hc
  | @o o ks st Kp hd hg h2 _ ih =>
    intro s l e hc
    cases s with
    | nil => cases e
    | cons p s =>
      obtain ⟨k', i⟩ := p
      simp only [List.map_cons, List.cons.injEq, Prod.mk.injEq] at e
      obtain ⟨⟨rfl, e1⟩, e2⟩ := e
      simp [chkP] at hc
  | @l o ks st Kp hd hg h2 _ ih =>
    intro s l e hc
    cases s with
    | nil => cases e
    | cons p s =>
      obtain ⟨k', i⟩ := p
      simp only [List.map_cons, List.cons.injEq, Prod.mk.injEq] at e
      obtain ⟨⟨rfl, e1⟩, e2⟩ := e
      simp [chkP] at hc
theorem ws_o {n : Nat} {l' : Array Bool} {o : Oper} {ks kks : List (Sk × Oper)} {st : St} (h : WS P ops Q h1 kks st) : kks = (.o, o) :: ks → ∀ {ρ a w}, Rel Γ ρ st a w → Ext ρ1 ρ ∧ Same w1 w →
    (∀ st' ρ' a' w', WS P ops Q h1 ks st' → Rel Γ ρ' st' a' w' → Ext ρ1 ρ' ∧ Same w1 w' → PrintLast.wpAnyLast P .any ops (lift Q Γ) (Same w1) ds n l' a' w') →
    ∀ K : Act → World → Prop, Shut (∀ a' w', Same w1 w' → (Same w1 w' → PrintLast.wpAnyLast P .any ops (lift Q Γ) (Same w1) ds n l' a' w') → K a' w') → if Region.wanted o (yielded ops a.tmps) = true then Oper.wp P o a w K (lift Q Γ) else K (a.put o.dst undef) w := by
  induction h with
  | nil h => intro e; cases e
  | ghost g _ ih =>
    intro e ρ a w hr hS hc
    obtain ⟨ρ', hx, hr'⟩ := g Γ ρ a w hr
    exact ih e hr' ⟨hS.1.trans hx, hS.2⟩ hc
  | @off k o' ks' st hd hg hw' _ =>
    intro e ρ a w hr hS hc K hK
    cases e
    have hw := gd_wanted hg hr.env
    rw [if_neg (by rw [hw]; decide)]
    exact hK.out _ _ hS.2 (fun _ => hc _ _ _ _ hw' (hr.undef_ _ hd) hS)
  | p _ _ _ _ _ => intro e; cases e
  | t _ _ _ _ _ => intro e; cases e
  | @o o' ks' st Kp hd hg h2 hn _ =>
    intro e ρ a w hr hS hc K hK
    cases e
    have hw := gd_wanted hg hr.env
    rw [if_pos hw]
    exact h2 Γ ρ a w hr K (lift Q Γ) (fun st' ρ' a' w' hk' hr' hx hs' => hK.out _ _ (hS.2.trans hs') (fun hs'' => hc st' ρ' a' w' (hn st' hk') hr' ⟨hS.1.trans hx, hs''⟩))
  | l _ _ _ _ _ => intro e; cases e
theorem WS.monoQ' {Q1 Q2 : Exit → St → Prop} (hq : ∀ x, Q1 .normal x → Q2 .normal x) {ks : List (Sk × Oper)} {st : St} (h : WS P ops Q1 h1 ks st) : WS P ops Q2 h1 ks st := by
  induction h with
  | nil h => exact .nil (hq _ h)
  | ghost g _ ih => exact .ghost g ih
  | off hd hg _ ih => exact .off hd hg ih
  | p hd hg ho _ ih => exact .p hd hg ho ih
  | t hd hg ho _ ih => exact .t hd hg ho ih
  | o hd hg ho _ ih => exact .o hd hg ho ih
  | l hd hg ho _ ih => exact .l hd hg ho ih
theorem WS.monoQ {A B A' B' : St → Prop} {ks : List (Sk × Oper)} {st : St} (h : WS P ops (bothQ A B) h1 ks st) (hq : ∀ x, A x ∧ B x → A' x ∧ B' x) : WS P ops (bothQ A' B') h1 ks st := WS.monoQ' (fun x hx => hq x hx) h
def chk2 (ops : Array Oper) (ds : List Nat) (s0 : List (Sk × Nat)) (i j : Nat) (s1 s2 : List (Sk × Nat)) : Bool :=
  match chkP ops ds s0 (Array.replicate ops.size false) with
  | none => false
  | some l => (Region.ready .any ops l == [i, j]) && (ops[i]?).isSome && (ops[j]?).isSome && !ds.contains i && !ds.contains j && chk ops ds true s1 (l.setIfInBounds i true) && chk ops ds true s2 (l.setIfInBounds j true) && (s0.length + 1 + s1.length == ops.size) && (s1.length == s2.length)
theorem W_draw2 {id : Nat} {l : List Oper} {st : St} (hm : P.follows .mixedOrders = true) (s0 : List (Sk × Nat)) (i j : Nat) (s1 s2 : List (Sk × Nat)) (ds : List Nat) (hc : chk2 l.toArray ds s0 i j s1 s2 = true)
    (h : WS P l.toArray (bothQ (WS P l.toArray Q st.h (((.o, i) :: s1).map (fun p => (p.1, opn l.toArray p.2)))) (WS P l.toArray Q st.h (((.o, j) :: s2).map (fun p => (p.1, opn l.toArray p.2))))) st.h (s0.map (fun p => (p.1, opn l.toArray p.2))) st) : W P (Code.region id l.toArray true) Q st := fun Γ ρ a w hr => by
  unfold chk2 at hc
  split at hc
  · cases hc
  rename_i l0 hl0
  simp only [Bool.and_eq_true, beq_iff_eq, Bool.not_eq_true'] at hc
  obtain ⟨⟨⟨⟨⟨⟨⟨⟨c1, c2⟩, c3⟩, c4⟩, c5⟩, c6⟩, c7⟩, c8⟩, c9⟩ := hc
  have hHd := hr.drew.holds
  have hoi : l.toArray[i]? = some (opn l.toArray i) := by
    obtain ⟨o', ho'⟩ := Option.isSome_iff_exists.1 c2
    rw [opn, ho']
    rfl
  have hoj : l.toArray[j]? = some (opn l.toArray j) := by
    obtain ⟨o', ho'⟩ := Option.isSome_iff_exists.1 c3
    rw [opn, ho']
    rfl
  have h2 : PrintLast.wpAnyLast P .any l.toArray (lift Q Γ) (Same w.drew) ds (s1.length + 1 + s0.length) (Array.replicate l.toArray.size false) a w.drew := by
    refine ws_pre (Q0 := bothQ (WS P l.toArray Q st.h (((.o, i) :: s1).map (fun p => (p.1, opn l.toArray p.2)))) (WS P l.toArray Q st.h (((.o, j) :: s2).map (fun p => (p.1, opn l.toArray p.2))))) hHd (l' := l0) (n := s1.length + 1) h (fun st' ρ' a' w' hq hr' hS' => ?_) s0 _ rfl hl0 hr.drew ⟨Ext.refl _, Same.refl _⟩
    refine PrintLast.two_ (l0.setIfInBounds i true) (l0.setIfInBounds j true) hoi hoj rfl rfl (by rw [c1]; simp) (by simpa using c4) (by simpa using c5) ?_ ?_
    · exact ws_o (n := s1.length) (ρ1 := ρ) (w1 := w.drew) hq.1 rfl hr' hS' (fun st2 ρ2 a2 w2 hw hr2 hS2 => ws_draw hHd s1 true _ c6 hw hr2 (fun _ => hS2))
    · exact ws_o (n := s1.length) (ρ1 := ρ) (w1 := w.drew) hq.2 rfl hr' hS' (fun st2 ρ2 a2 w2 hw hr2 hS2 => by rw [c9]; exact ws_draw hHd s2 true _ c7 hw hr2 (fun _ => hS2))
  have e : s1.length + 1 + s0.length = l.toArray.size := by omega
  exact PrintLast.start_ (ds := ds) (S := Same w.drew) _ hm e.symm rfl (Same.refl _) (fun _ => by rw [← e] at h2; exact h2)
theorem zdq2 {id : Nat} {l l' L0 L1 L2 : List Oper} {st : St} (hl : fOps l = some l') (hm : P.follows .mixedOrders = true) (s0 : List (Sk × Nat)) (i j : Nat) (s1 s2 : List (Sk × Nat)) (ds : List Nat) (hc : chk2 l'.toArray ds s0 i j s1 s2 = true) (hL0 : pickO l' s0 = some L0) (hL1 : pickO l' ((.o, i) :: s1) = some L1) (hL2 : pickO l' ((.o, j) :: s2) = some L2)
    (h : ZZ P l'.toArray (bothQ (fun x => ZZ P l'.toArray Q st.h (((.o, i) :: s1).map (·.1)) L1 x) (fun x => ZZ P l'.toArray Q st.h (((.o, j) :: s2).map (·.1)) L2 x)) st.h (s0.map (·.1)) L0 st) : WW P (Code.region id l.toArray true) Q st := ⟨by
  rw [fOps_eq hl]
  refine W_draw2 hm s0 i j s1 s2 ds hc ?_
  have h' := h.out.out
  rw [← pickO_eq hL0, zipK_map] at h'
  refine WS.monoQ h' fun x hx => ⟨?_, ?_⟩
  · have q := hx.1.out.out
    rw [← pickO_eq hL1, zipK_map] at q
    exact q
  · have q := hx.2.out.out
    rw [← pickO_eq hL2, zipK_map] at q
    exact q⟩
end
end Go.Proofs.YtnlajjoheegbiaaGreat.Sh
