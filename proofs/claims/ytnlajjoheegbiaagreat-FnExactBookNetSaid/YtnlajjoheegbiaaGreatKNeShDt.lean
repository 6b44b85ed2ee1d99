/- Regions that draw their order: a tree of orders. No condition. -/
import Derived.Test.YtnlajjoheegbiaaGreatKNeShDr
namespace Go.Proofs.YtnlajjoheegbiaaGreat.Sh
open Go.RowKit Go.Proofs.YtnlajjoheegbiaaGreatW
set_option linter.unusedVariables false
set_option linter.unusedSimpArgs false
inductive Tr where
  | nil
  | one (k : Sk) (i : Nat) (t : Tr)
  | two (k : Sk) (i : Nat) (a : Tr) (k' : Sk) (j : Nat) (b : Tr)
def Tr.depth : Tr → Nat
  | .nil => 0
  | .one _ _ t => t.depth + 1
  | .two _ _ a _ _ _ => a.depth + 1
def turnB (ds : List Nat) (k : Sk) (i : Nat) : Bool := match k with | .o => !ds.contains i | .l => ds.contains i | _ => false
def phB (ph : Bool) (k : Sk) : Bool := ph && (match k with | .l => false | _ => true)
def chkT (ops : Array Oper) (ds : List Nat) : Bool → Tr → Array Bool → Bool
  | _, .nil, l => Region.ready .any ops l == []
  | ph, .one k i t, l => (ops[i]?).isSome && (match k with
    | .p => PrintLast.anyB .any ops l (l.setIfInBounds i true) i
    | .t => ph && PrintLast.takeB .any ops ds l (l.setIfInBounds i true) i
    | .o => (Region.ready .any ops l == [i]) && turnB ds .o i
    | .l => (Region.ready .any ops l == [i]) && turnB ds .l i) && chkT ops ds (phB ph k) t (l.setIfInBounds i true)
  | ph, .two k i a k' j b, l => (ops[i]?).isSome && (ops[j]?).isSome && (Region.ready .any ops l == [i, j]) && turnB ds k i && turnB ds k' j && Nat.beq a.depth b.depth && chkT ops ds (phB ph k) a (l.setIfInBounds i true) && chkT ops ds (phB ph k') b (l.setIfInBounds j true)
def nQ (A : St → Prop) : Exit → St → Prop
  | .normal, st => A st
  | _, _ => False
theorem nQ_n {A : St → Prop} {st : St} (h : A st) : nQ A .normal st := h
def TZ (P : Program) (ops : Array Oper) (Q : Exit → St → Prop) (h1 : AH) : Tr → St → Prop
  | .nil, st => Q .normal st
  | .one k i t, st => WS P ops (nQ (TZ P ops Q h1 t)) h1 [(k, opn ops i)] st
  | .two k i a k' j b, st => WS P ops (nQ (TZ P ops Q h1 a)) h1 [(k, opn ops i)] st ∧ WS P ops (nQ (TZ P ops Q h1 b)) h1 [(k', opn ops j)] st
section
variable {P : Program} {ops : Array Oper} {Q Q0 : Exit → St → Prop} {h1 : AH} {ds : List Nat} {Γ : Ctx} {ρ1 : Pl} {w1 : World} {A : St → Prop}
theorem ws_nil {ks : List (Sk × Oper)} {st : St} (h : WS P ops (nQ A) h1 ks st) : ks = [] → ∀ {ρ a w}, Rel Γ ρ st a w → ∃ st' ρ', Ext ρ ρ' ∧ Rel Γ ρ' st' a w ∧ A st' := by
  induction h with
  | nil h => intro _ ρ a w hr; exact ⟨_, ρ, Ext.refl _, hr, h⟩
  | ghost g _ ih =>
    intro e ρ a w hr
    obtain ⟨ρ', hx, hr'⟩ := g Γ ρ a w hr
    obtain ⟨st', ρ2, h1, h2, h3⟩ := ih e hr'
    exact ⟨st', ρ2, hx.trans h1, h2, h3⟩
  | off _ _ _ _ => intro e; cases e
  | p _ _ _ _ _ => intro e; cases e
  | t _ _ _ _ _ => intro e; cases e
  | o _ _ _ _ _ => intro e; cases e
  | l _ _ _ _ _ => intro e; cases e
theorem ws1_p {n : Nat} {l l' : Array Bool} {i : Nat} {o : Oper} {ph : Bool} (ho : ops[i]? = some o) (hk : PrintLast.anyB .any ops l l' i = true) {kks : List (Sk × Oper)} {st : St} (h : WS P ops (nQ A) h1 kks st) : kks = [(.p, o)] → ∀ {ρ a w}, Rel Γ ρ st a w → (ph = true → Ext ρ1 ρ ∧ Same w1 w) →
    (∀ st' ρ' a' w', A st' → Rel Γ ρ' st' a' w' → (ph = true → Ext ρ1 ρ' ∧ Same w1 w') → PrintLast.wpAnyLast P .any ops (lift Q Γ) (Same w1) ds n l' a' w') → PrintLast.wpAnyLast P .any ops (lift Q Γ) (Same w1) ds (n + 1) l a w := by
  induction h with
  | nil h => intro e; cases e
  | ghost g _ ih =>
    intro e ρ a w hr hS hc
    obtain ⟨ρ', hx, hr'⟩ := g Γ ρ a w hr
    exact ih e hr' (fun h => ⟨(hS h).1.trans hx, (hS h).2⟩) hc
  | @off k o' ks' st hd hg hn _ =>
    intro e ρ a w hr hS hc
    cases e
    have hw := gd_wanted hg hr.env
    obtain ⟨st', ρ', k1, k2, k3⟩ := ws_nil hn rfl (hr.undef_ _ hd)
    exact PrintLast.pure_ _ ho rfl hk (fun _ _ _ h => h) (Or.inr ⟨hw, rfl⟩) rfl (hc _ _ _ _ k3 k2 (fun h => ⟨(hS h).1.trans k1, (hS h).2⟩))
  | @p o' ks st v hd hg ho' hn _ =>
    intro e ρ a w hr hS hc
    cases e
    have hw := gd_wanted hg hr.env
    obtain ⟨v', hv, hv2⟩ := ho' Γ ρ a w hr
    obtain ⟨st', ρ', k1, k2, k3⟩ := ws_nil hn rfl (hr.put st.h o.dst hd v v' (Ext.refl _) hr.len hr.holds hv)
    exact PrintLast.pure_ _ ho rfl hk (fun _ _ _ h => h) (Or.inl ⟨hw, hv2⟩) rfl (hc _ _ _ _ k3 k2 (fun h => ⟨(hS h).1.trans k1, (hS h).2⟩))
  | t _ _ _ _ _ => intro e; cases e
  | o _ _ _ _ _ => intro e; cases e
  | l _ _ _ _ _ => intro e; cases e
theorem ws1_t (hH : Holds Γ ρ1 h1 w1) {n : Nat} {l l' : Array Bool} {i : Nat} {o : Oper} (ho : ops[i]? = some o) (hk : PrintLast.takeB .any ops ds l l' i = true) {kks : List (Sk × Oper)} {st : St} (h : WS P ops (nQ A) h1 kks st) : kks = [(.t, o)] → ∀ {ρ a w}, Rel Γ ρ st a w → Ext ρ1 ρ ∧ Same w1 w →
    (∀ st' ρ' a' w', A st' → Rel Γ ρ' st' a' w' → Ext ρ1 ρ' ∧ Same w1 w' → PrintLast.wpAnyLast P .any ops (lift Q Γ) (Same w1) ds n l' a' w') → PrintLast.wpAnyLast P .any ops (lift Q Γ) (Same w1) ds (n + 1) l a w := by
  induction h with
  | nil h => intro e; cases e
  | ghost g _ ih =>
    intro e ρ a w hr hS hc
    obtain ⟨ρ', hx, hr'⟩ := g Γ ρ a w hr
    exact ih e hr' ⟨hS.1.trans hx, hS.2⟩ hc
  | @off k o' ks' st hd hg hn _ =>
    intro e ρ a w hr hS hc
    cases e
    have hw := gd_wanted hg hr.env
    obtain ⟨st', ρ', k1, k2, k3⟩ := ws_nil hn rfl (hr.undef_ _ hd)
    exact PrintLast.take_ _ ho rfl hk (fun _ _ _ h => h) (Or.inr ⟨hw, rfl⟩) hS.2 rfl (hc _ _ _ _ k3 k2 ⟨hS.1.trans k1, hS.2⟩)
  | p _ _ _ _ _ => intro e; cases e
  | @t o' ks st v hd hg ho' hn _ =>
    intro e ρ a w hr hS hc
    cases e
    have hw := gd_wanted hg hr.env
    obtain ⟨v', hv, hv2⟩ := ho' Γ ρ1 ρ a w w1 hS.1 hr hH
    obtain ⟨st', ρ', k1, k2, k3⟩ := ws_nil hn rfl (hr.put st.h o.dst hd v v' (Ext.refl _) hr.len hr.holds hv)
    exact PrintLast.take_ _ ho rfl hk (fun _ _ _ h => h) (Or.inl ⟨hw, fun w hw => hv2 w hw⟩) hS.2 rfl (hc _ _ _ _ k3 k2 ⟨hS.1.trans k1, hS.2⟩)
  | o _ _ _ _ _ => intro e; cases e
  | l _ _ _ _ _ => intro e; cases e
theorem ws1_o {o : Oper} {kks : List (Sk × Oper)} {st : St} {ph : Bool} (h : WS P ops (nQ A) h1 kks st) : kks = [(.o, o)] → ∀ {ρ a w}, Rel Γ ρ st a w → (ph = true → Ext ρ1 ρ ∧ Same w1 w) →
    ∀ K : Act → World → Prop, (∀ st' ρ' a' w', A st' → Rel Γ ρ' st' a' w' → Same w w' → (ph = true → Ext ρ1 ρ' ∧ Same w1 w') → K a' w') → if Region.wanted o (yielded ops a.tmps) = true then Oper.wp P o a w K (lift Q Γ) else K (a.put o.dst undef) w := by
  induction h with
  | nil h => intro e; cases e
  | ghost g _ ih =>
    intro e ρ a w hr hS K hc
    obtain ⟨ρ', hx, hr'⟩ := g Γ ρ a w hr
    exact ih e hr' (fun h => ⟨(hS h).1.trans hx, (hS h).2⟩) K hc
  | @off k o' ks' st hd hg hn _ =>
    intro e ρ a w hr hS K hc
    cases e
    have hw := gd_wanted hg hr.env
    rw [if_neg (by rw [hw]; decide)]
    obtain ⟨st', ρ', k1, k2, k3⟩ := ws_nil hn rfl (hr.undef_ _ hd)
    exact hc _ _ _ _ k3 k2 (Same.refl _) (fun h => ⟨(hS h).1.trans k1, (hS h).2⟩)
  | p _ _ _ _ _ => intro e; cases e
  | t _ _ _ _ _ => intro e; cases e
  | @o o' ks' st Kp hd hg h2 hn _ =>
    intro e ρ a w hr hS K hc
    cases e
    have hw := gd_wanted hg hr.env
    rw [if_pos hw]
    exact h2 Γ ρ a w hr K (lift Q Γ) (fun st' ρ' a' w' hk' hr' hx hs' => by
      obtain ⟨st2, ρ2, k1, k2, k3⟩ := ws_nil (hn st' hk') rfl hr'
      exact hc _ _ _ _ k3 k2 hs' (fun h => ⟨((hS h).1.trans hx).trans k1, (hS h).2.trans hs'⟩))
  | l _ _ _ _ _ => intro e; cases e
theorem ws1_l {o : Oper} {kks : List (Sk × Oper)} {st : St} (h : WS P ops (nQ A) h1 kks st) : kks = [(.l, o)] → ∀ {ρ a w}, Rel Γ ρ st a w →
    ∀ K : Act → World → Prop, (∀ st' ρ' a' w', A st' → Rel Γ ρ' st' a' w' → K a' w') → if Region.wanted o (yielded ops a.tmps) = true then Oper.wp P o a w K (lift Q Γ) else K (a.put o.dst undef) w := by
  induction h with
  | nil h => intro e; cases e
  | ghost g _ ih =>
    intro e ρ a w hr K hc
    obtain ⟨ρ', hx, hr'⟩ := g Γ ρ a w hr
    exact ih e hr' K hc
  | @off k o' ks' st hd hg hn _ =>
    intro e ρ a w hr K hc
    cases e
    have hw := gd_wanted hg hr.env
    rw [if_neg (by rw [hw]; decide)]
    obtain ⟨st', ρ', k1, k2, k3⟩ := ws_nil hn rfl (hr.undef_ _ hd)
    exact hc _ _ _ _ k3 k2
  | p _ _ _ _ _ => intro e; cases e
  | t _ _ _ _ _ => intro e; cases e
  | o _ _ _ _ _ => intro e; cases e
  | @l o' ks' st Kp hd hg h2 hn _ =>
    intro e ρ a w hr K hc
    cases e
    have hw := gd_wanted hg hr.env
    rw [if_pos hw]
    exact h2 Γ ρ a w hr K (lift Q Γ) (fun st' ρ' a' w' hk' hr' => by
      obtain ⟨st2, ρ2, k1, k2, k3⟩ := ws_nil (hn st' hk') rfl hr'
      exact hc _ _ _ _ k3 k2)
theorem turn_ok {k : Sk} {i : Nat} {n : Nat} {ph : Bool} {l : Array Bool} {st : St} (ho : (ops[i]?).isSome = true) (hk : turnB ds k i = true) (h : WS P ops (nQ A) h1 [(k, opn ops i)] st) {ρ : Pl} {a : Act} {w : World} (hr : Rel Γ ρ st a w) (hS : ph = true → Ext ρ1 ρ ∧ Same w1 w)
    (hc : ∀ st' ρ' a' w', A st' → Rel Γ ρ' st' a' w' → (phB ph k = true → Ext ρ1 ρ' ∧ Same w1 w') → PrintLast.wpAnyLast P .any ops (lift Q Γ) (Same w1) ds n (l.setIfInBounds i true) a' w') :
    wpOp P ops (lift Q Γ) i (fun a' w' => (i ∉ ds → Same w1 w → Same w1 w') ∧ PrintLast.wpAnyLast P .any ops (lift Q Γ) (Same w1) ds n (l.setIfInBounds i true) a' w') a w := by
  have ho' : ops[i]? = some (opn ops i) := by
    obtain ⟨o', ho'⟩ := Option.isSome_iff_exists.1 ho
    rw [opn, ho']
    rfl
  refine wpOp_step ho' (fun K' hK => ?_)
  cases k with
  | p => cases hk
  | t => cases hk
  | o =>
    refine ws1_o (ph := ph) h rfl hr hS K' (fun st' ρ' a' w' h1 h2 h3 h4 => hK a' w' ⟨fun _ h => h.trans h3, hc st' ρ' a' w' h1 h2 (fun hp => h4 ?_)⟩)
    unfold phB at hp
    simpa using hp
  | l =>
    refine ws1_l h rfl hr K' (fun st' ρ' a' w' h1 h2 => hK a' w' ⟨fun hn => absurd ?_ hn, hc st' ρ' a' w' h1 h2 (fun hp => ?_)⟩)
    · unfold turnB at hk
      simpa using hk
    · unfold phB at hp
      simp at hp
theorem tz_ok (hH : Holds Γ ρ1 h1 w1) : ∀ (t : Tr) (ph : Bool) (l : Array Bool) {st : St}, chkT ops ds ph t l = true → TZ P ops Q h1 t st → ∀ {ρ a w}, Rel Γ ρ st a w → (ph = true → Ext ρ1 ρ ∧ Same w1 w) →
    PrintLast.wpAnyLast P .any ops (lift Q Γ) (Same w1) ds t.depth l a w := by
  intro t
  induction t with
  | nil =>
    intro ph l st hc h ρ a w hr hS
    exact PrintLast.done_ hc ⟨_, ρ, h, hr⟩
  | one k i t ih =>
    intro ph l st hc h ρ a w hr hS
    simp only [chkT, Bool.and_eq_true] at hc
    obtain ⟨⟨hi, hk⟩, hrest⟩ := hc
    have ho : ops[i]? = some (opn ops i) := by
      obtain ⟨o', ho'⟩ := Option.isSome_iff_exists.1 hi
      rw [opn, ho']
      rfl
    cases k with
    | p => exact ws1_p (ph := ph) ho hk h rfl hr hS (fun st' ρ' a' w' c1 c2 c3 => ih _ _ hrest c1 c2 (fun hp => c3 (by unfold phB at hp; simpa using hp)))
    | t =>
      simp only [Bool.and_eq_true] at hk
      exact ws1_t hH ho hk.2 h rfl hr (hS hk.1) (fun st' ρ' a' w' c1 c2 c3 => ih _ _ hrest c1 c2 (fun _ => c3))
    | o =>
      simp only [Bool.and_eq_true, beq_iff_eq] at hk
      refine PrintLast.wpAnyLast_all hk.1 (by simp) (fun j hj => ?_)
      cases List.mem_singleton.1 hj
      exact turn_ok (ph := ph) hi hk.2 h hr hS (fun st' ρ' a' w' c1 c2 c3 => ih _ _ hrest c1 c2 c3)
    | l =>
      simp only [Bool.and_eq_true, beq_iff_eq] at hk
      refine PrintLast.wpAnyLast_all hk.1 (by simp) (fun j hj => ?_)
      cases List.mem_singleton.1 hj
      exact turn_ok (ph := ph) hi hk.2 h hr hS (fun st' ρ' a' w' c1 c2 c3 => ih _ _ hrest c1 c2 c3)
  | two k i t k' j t' ih ih' =>
    intro ph l st hc h ρ a w hr hS
    simp only [chkT, Bool.and_eq_true] at hc
    obtain ⟨⟨⟨⟨⟨⟨⟨hi, hj⟩, hrd⟩, hk⟩, hk'⟩, hd⟩, hrest⟩, hrest'⟩ := hc
    have hd' := Nat.eq_of_beq_eq_true hd
    simp only [beq_iff_eq] at hrd
    refine PrintLast.wpAnyLast_all hrd (by simp) (fun x hx => ?_)
    rcases List.mem_cons.1 hx with rfl | hx
    · exact turn_ok (ph := ph) hi hk h.1 hr hS (fun st' ρ' a' w' c1 c2 c3 => ih _ _ hrest c1 c2 c3)
    · cases List.mem_singleton.1 hx
      rw [hd']
      exact turn_ok (ph := ph) hj hk' h.2 hr hS (fun st' ρ' a' w' c1 c2 c3 => ih' _ _ hrest' c1 c2 c3)
theorem W_drawT {id : Nat} {l : List Oper} {st : St} (hm : P.follows .mixedOrders = true) (t : Tr) (ds : List Nat) (hc : (Nat.beq t.depth l.toArray.size && chkT l.toArray ds true t (Array.replicate l.toArray.size false)) = true)
    (h : TZ P l.toArray Q st.h t st) : W P (Code.region id l.toArray true) Q st := fun Γ ρ a w hr => by
  simp only [Bool.and_eq_true] at hc
  have e := Nat.eq_of_beq_eq_true hc.1
  have hHd := hr.drew.holds
  have h2 := tz_ok (ds := ds) (w1 := w.drew) hHd t true _ hc.2 h hr.drew (fun _ => ⟨Ext.refl _, Same.refl _⟩)
  rw [e] at h2
  exact PrintLast.start_ (ds := ds) (S := Same w.drew) _ hm rfl rfl (Same.refl _) (fun _ => h2)
structure ZT (P : Program) (ops : Array Oper) (Q : Exit → St → Prop) (h1 : AH) (t : Tr) (st : St) : Prop where
  out : TZ P ops Q h1 t st
theorem zdqT {id : Nat} {l l' : List Oper} {st : St} (hl : fOps l = some l') (hm : P.follows .mixedOrders = true) (t : Tr) (ds : List Nat) (hc : (Nat.beq t.depth l'.toArray.size && chkT l'.toArray ds true t (Array.replicate l'.toArray.size false)) = true)
    (h : ZT P l'.toArray Q st.h t st) : WW P (Code.region id l.toArray true) Q st := ⟨by
  rw [fOps_eq hl]
  exact W_drawT hm t ds hc h.out⟩
theorem zt0 {st : St} (h : Q .normal st) : ZT P ops Q h1 .nil st := ⟨h⟩
theorem zt1 {l : List Oper} {k : Sk} {i : Nat} {t : Tr} {L : List Oper} {st : St} (hL : pickO l [(k, i)] = some L) (h : ZZ P l.toArray (nQ (fun x => ZT P l.toArray Q h1 t x)) h1 [k] L st) : ZT P l.toArray Q h1 (.one k i t) st := ⟨by
  have h' := h.out.out
  rw [← pickO_eq hL] at h'
  have h2 : WS P l.toArray (nQ (fun x => ZT P l.toArray Q h1 t x)) h1 [(k, opn l.toArray i)] st := h'
  exact WS.monoQ' (fun x hx => hx.out) h2⟩
theorem zt2 {l : List Oper} {k k' : Sk} {i j : Nat} {t t' : Tr} {L L' : List Oper} {st : St} (hL : pickO l [(k, i)] = some L) (hL' : pickO l [(k', j)] = some L') (h : ZZ P l.toArray (nQ (fun x => ZT P l.toArray Q h1 t x)) h1 [k] L st) (h' : ZZ P l.toArray (nQ (fun x => ZT P l.toArray Q h1 t' x)) h1 [k'] L' st) : ZT P l.toArray Q h1 (.two k i t k' j t') st := ⟨(zt1 (t := t) hL h).out, (zt1 (t := t') hL' h').out⟩
end
end Go.Proofs.YtnlajjoheegbiaaGreat.Sh
