/- Symbolic memory: the steps of a walk, over a state written out. No condition. -/
import Derived.Test.YtnlajjoheegbiaaGreatKPyShW
namespace Go.Proofs.YtnlajjoheegbiaaGreat.Sh
open Go.RowKit Go.Proofs.YtnlajjoheegbiaaGreatW
set_option linter.unusedVariables false
def zipK : List Sk → List Oper → List (Sk × Oper)
  | _, [] => []
  | [], o :: l => (.l, o) :: zipK [] l
  | k :: ks, o :: l => (k, o) :: zipK ks l
def stK : List Sk → Sk × List Sk
  | [] => (.l, [])
  | k :: ks => (k, ks)
theorem zipK_cons {ks ks' : List Sk} {k : Sk} (h : stK ks = (k, ks')) (o : Oper) (l : List Oper) : zipK ks (o :: l) = (k, o) :: zipK ks' l := by
  cases ks with
  | nil => cases h; rfl
  | cons a as => cases h; rfl
theorem zipK_nil : ∀ (l : List Oper), zipK [] l = l.map (fun o => (Sk.l, o))
  | [] => rfl
  | o :: l => by rw [List.map_cons, ← zipK_nil l]; rfl
theorem zipK_map (f : Nat → Oper) : ∀ (s : List (Sk × Nat)), zipK (s.map (·.1)) (s.map (fun p => f p.2)) = s.map (fun p => (p.1, f p.2))
  | [] => rfl
  | p :: s => by simp only [List.map_cons]; rw [← zipK_map f s]; rfl
structure ZZ (P : Program) (ops : Array Oper) (Q : Exit → St → Prop) (h1 : AH) (ks : List Sk) (l : List Oper) (st : St) : Prop where
  out : WZ P ops Q h1 (zipK ks l) st
def ldm (T : TB) (h : AH) (t : TypeId) : AV → Option AV
  | .c (.ptr o i q) => match h[o]?, tlk t T with
    | some (some ⟨_, _, _, .mx cs⟩), some ti => match i with
      | 0 => ldW ti cs q
      | _ => none
    | _, _ => none
  | _ => none
theorem ldm_ldv {T : TB} {h : AH} {t : TypeId} {p v : AV} (hh : ldm T h t p = some v) : ldv T h t p = some v := by
  unfold ldm at hh
  split at hh
  · split at hh
    · rename_i h1 h2
      split at hh
      · simp only [ldv, h1, h2]
        exact hh
      · cases hh
    · cases hh
  · cases hh
def sv (T : TB) (h1 : AH) (k : Sk) (op : Op) (e : List (Nat × AV)) (h : AH) : Option (AV × AH) :=
  match op with
  | .load t x => match k != Sk.p, ev e x with
    | true, some p => match ldm T (hk k h1 h) t p with
      | some v => some (v, h)
      | none => none
    | _, _ => none
  | .alloc t => match qk k, tlk t T with
    | true, some ti => match ti.zero with
      | _ :: _ => match addH h (some ⟨true, t, (ti.zero.map AC.sc).length, .mx (ti.zero.map .sc)⟩) with
        | some (n, h') => some (.c (.ptr n 0 0), h')
        | none => none
      | [] => none
    | _, _ => none
  | .box t x => match qk k, ev e x with
    | true, some v => match boxCs v with
      | some cs => match addH h (some ⟨true, t, cs.length, .mx cs⟩) with
        | some (n, h') => some (.c (.ptr n 0 0), h')
        | none => none
      | none => none
    | _, _ => none
  | .binOp _ _ _ _ _ => none
  | .unOp .neg _ _ => none
  | .convert _ _ _ => none
  | op => match aP T e op with
    | some v => some (v, h)
    | none => none
def sx (T : TB) (N : Nat) (ops : Array Oper) (h1 : AH) (k : Sk) (o : Oper) (e : List (Nat × AV)) (h : AH) : Option (List (Nat × AV) × AH) :=
  match gd ops o e, o.dst with
  | some false, some d => match Nat.blt d N with
    | true => some ((d, .tup []) :: e, h)
    | false => none
  | some false, none => some (e, h)
  | some true, some d => match Nat.blt d N with
    | true => match sv T h1 k o.op e h with
      | some (v, h') => match fV v with
        | some v' => some ((d, v') :: e, h')
        | none => none
      | none => none
    | false => none
  | some true, none => match k, o.op with
    | .l, .store t x y => match ev e x, ev e y with
      | some p, some v => match stv T h t v p with
        | some h' => match fH h' with
          | some h2 => some (e, h2)
          | none => none
        | none => none
      | _, _ => none
    | _, _ => none
  | none, _ => none
section
variable {P : Program} {T : TB} {ops : Array Oper} {Q : Exit → St → Prop} {h1 : AH} {k : Sk} {ks ks' : List Sk} {l : List Oper} {N0 k0 d0 : Nat} {e0 : List (Nat × AV)} {h0 : AH} {op : Op} {ty : TypeId} {pos : String} {af : Array Edge} {g : Option (Nat × Bool)} {st : St}
theorem znil (h : Q .normal st) : ZZ P ops Q h1 ks [] st := ⟨by cases ks <;> exact wnil h⟩
theorem zreg {id : Nat} {l : List Oper} (h : ZZ P l.toArray Q [] [] l st) : WW P (Code.region id l.toArray false) Q st := wreg (by rw [← zipK_nil]; exact h.out)
def pickO (l : List Oper) : List (Sk × Nat) → Option (List Oper)
  | [] => some []
  | (_, i) :: r => match l[i]?, pickO l r with
    | some o, some os => some (o :: os)
    | _, _ => none
theorem pickO_eq {l : List Oper} : ∀ {s : List (Sk × Nat)} {L : List Oper}, pickO l s = some L → s.map (fun p => opn l.toArray p.2) = L
  | [], L, h => Option.some.inj h
  | (_, i) :: r, L, h => by
    unfold pickO at h
    split at h
    · rename_i h1 h2
      cases h
      rw [List.map_cons, pickO_eq h2]
      simp [opn, h1]
    · cases h
theorem zdraw {id : Nat} {l L : List Oper} (hm : P.follows .mixedOrders = true) (s : List (Sk × Nat)) (ds : List Nat) (hc : (s.length == l.toArray.size && chk l.toArray ds true s (Array.replicate l.toArray.size false)) = true) (hL : pickO l s = some L)
    (h : ZZ P l.toArray Q st.h (s.map (·.1)) L st) : WW P (Code.region id l.toArray true) Q st := wdraw hm s ds hc (by rw [← zipK_map, pickO_eq hL]; exact h.out)
theorem zgho {st' : St} (g : Ghost st st') (h : ZZ P ops Q h1 ks l st') : ZZ P ops Q h1 ks l st := ⟨zgh g h.out⟩
theorem sv_step (hT : TOk P T) {v : AV} {h' : AH} {L : List (Sk × Oper)} (hv : sv T h1 k op e0 h0 = some (v, h')) (hg : gd ops ⟨some d0, op, ty, pos, af, g⟩ e0 = some true) (hd : Nat.blt d0 N0 = true) (h : WZ P ops Q h1 L ⟨N0, k0, (d0, v) :: e0, h'⟩) : WZ P ops Q h1 ((k, ⟨some d0, op, ty, pos, af, g⟩) :: L) ⟨N0, k0, e0, h0⟩ := by
  unfold sv at hv
  split at hv
  · split at hv
    · rename_i hk hx
      split at hv
      · rename_i hl
        cases hv
        exact wld (st := ⟨N0, k0, e0, h0⟩) (dst := some d0) hT hk hx (ldm_ldv hl) hg hd h
      · cases hv
    · cases hv
  · split at hv
    · rename_i hk ht
      split at hv
      · rename_i hz
        split at hv
        · rename_i hh
          cases hv
          obtain ⟨h2, h3⟩ := addH_eq hh
          refine walloc (st := ⟨N0, k0, e0, h0⟩) (dst := some d0) hT hk ht hz hg hd ?_
          show WZ P ops Q h1 L ⟨N0, k0, (d0, .c (.ptr h0.length 0 0)) :: e0, _⟩
          rw [h3, h2]
          exact h
        · cases hv
      · cases hv
    · cases hv
  · split at hv
    · rename_i hk hx
      split at hv
      · rename_i hb
        split at hv
        · rename_i hh
          cases hv
          obtain ⟨h2, h3⟩ := addH_eq hh
          refine wbox (st := ⟨N0, k0, e0, h0⟩) (dst := some d0) hk hx hb hg hd ?_
          show WZ P ops Q h1 L ⟨N0, k0, (d0, .c (.ptr h0.length 0 0)) :: e0, _⟩
          rw [h3, h2]
          exact h
        · cases hv
      · cases hv
    · cases hv
  · cases hv
  · cases hv
  · cases hv
  · split at hv
    · rename_i hp
      cases hv
      exact wp (st := ⟨N0, k0, e0, h0⟩) (dst := some d0) hT hp hg hd h
    · cases hv
theorem zd (hs0 : stK ks = (k, ks')) (hT : TOk P T) {o : Oper} {e' : List (Nat × AV)} {h' : AH} (hx : sx T N0 ops h1 k o e0 h0 = some (e', h')) (h : ZZ P ops Q h1 ks' l ⟨N0, k0, e', h'⟩) : ZZ P ops Q h1 ks (o :: l) ⟨N0, k0, e0, h0⟩ := ⟨by
  rw [zipK_cons hs0]
  obtain ⟨dst, op, ty, pos, af, g⟩ := o
  unfold sx at hx
  split at hx
  · rename_i d hg hd
    cases dst with
    | none => cases hd
    | some d' =>
      have hd : some d' = some d := hd
      injection hd with hd
      subst hd
      split at hx
      · rename_i hdn
        cases hx
        exact WS_off (st := ⟨N0, k0, e0, h0⟩) (dst := some d') hg hdn h.out
      · cases hx
  · rename_i hg hd
    cases dst with
    | some d => cases hd
    | none =>
      cases hx
      exact WS_off (st := ⟨N0, k0, e0, h0⟩) (dst := none) hg rfl h.out
  · rename_i d hg hd
    cases dst with
    | none => cases hd
    | some d' =>
      have hd : some d' = some d := hd
      injection hd with hd
      subst hd
      split at hx
      · rename_i hdn
        split at hx
        · rename_i hv
          split at hx
          · rename_i hf
            cases hx
            rw [← fV_eq hf] at h
            exact sv_step hT hv hg hdn h.out
          · cases hx
        · cases hx
      · cases hx
  · rename_i hg hd
    cases dst with
    | some d => cases hd
    | none =>
      split at hx
      · rename_i t x y hop
        have hop : op = .store t x y := hop
        subst hop
        split at hx
        · rename_i h2 h3
          split at hx
          · rename_i hs
            split at hx
            · rename_i hf
              cases hx
              rw [← fH_eq hf] at h
              exact wst (st := ⟨N0, k0, e0, h0⟩) hT h2 h3 hs hg h.out
            · cases hx
          · cases hx
        · cases hx
      · cases hx
  · cases hx⟩
def resA (T : TB) (e : List (Nat × AV)) (h : AH) : ResultVar → Option AV
  | .tmp t => match lk t e with
    | some (.c x) => some (.c x)
    | some (.agg cs) => some (.agg cs)
    | _ => none
  | .cell a t => match lk a e with
    | some p => match ldm T h t p with
      | some (.c x) => some (.c x)
      | some (.agg cs) => some (.agg cs)
      | _ => none
    | none => none
def resL (T : TB) (e : List (Nat × AV)) (h : AH) : List ResultVar → Option (List AV)
  | [] => some []
  | r :: rs => match resA T e h r, resL T e h rs with
    | some v, some vs => some (v :: vs)
    | _, _ => none
def resX (T : TB) (rs : List ResultVar) (e : List (Nat × AV)) (h : AH) : Option AV := match rs with
  | [r] => resA T e h r
  | rs => match resL T e h rs with
    | some vs => some (.tup vs)
    | none => none
def rsS (T : TB) (rs : List ResultVar) (st : St) (v : AV) : Prop := resX T rs st.env st.h = some v
def rsF (tmps : Array Value) : ResultVar → Sem Value
  | .tmp t => pure (tmps.getD t undef)
  | .cell a t => do loadVar t (← asAddr (tmps.getD a undef))
theorem resA_run (hT : TOk P T) {Γ : Ctx} {ρ : Pl} {st : St} {a : Act} {w : World} (hr : Rel Γ ρ st a w) : ∀ {r : ResultVar} {v : AV}, resA T st.env st.h r = some v → ∃ v', (rsF a.tmps r).run P w = .ok v' w ∧ v.R ρ v' ∧ v.R1 ρ v'
  | .tmp t, v, h => by
    simp only [resA] at h
    have key : ∀ {x : AV}, lk t st.env = some x → (rsF a.tmps (.tmp t)).run P w = .ok (a.tmps.getD t undef) w ∧ x.R ρ (a.tmps.getD t undef) := fun hx => by
      obtain ⟨u, h1, h2⟩ := hr.env t _ hx
      refine ⟨rfl, ?_⟩
      rw [Array.getD_eq_getD_getElem?, h1]
      exact h2
    split at h
    · rename_i hx
      cases h
      exact ⟨_, (key hx).1, (key hx).2, (key hx).2⟩
    · rename_i hx
      cases h
      exact ⟨_, (key hx).1, (key hx).2, (key hx).2⟩
    · cases h
  | .cell b t, v, h => by
    simp only [resA] at h
    split at h
    · rename_i p hp
      have key : ∀ {x : AV}, ldm T st.h t p = some x → ∃ v', (rsF a.tmps (.cell b t)).run P w = .ok v' w ∧ x.R ρ v' := fun {x} hx => by
        have h1 := ldm_ldv hx
        unfold ldv at h1
        split at h1
        · rename_i o i q
          split at h1
          · rename_i ob ti ho ht
            split at h1
            · rename_i cs hi
              have hl := opR_load (dst := none) (ty := 0) (pos := "") (af := #[]) (g := none) (x := .tmp b) hT (st := st) (h1 := st.h) hp ht ho hi (ldW_ldA h1)
              obtain ⟨v', h2, h3⟩ := hl Γ ρ ρ a w w (Ext.refl _) hr hr.holds
              have h4 := h3 w (Same.refl _)
              obtain ⟨sl, ad, e1, e2, e3⟩ := R_ptr (show AV.R ρ (.c (.ptr o i q)) (a.eval (.tmp b)) from ev_R hr.env (x := .tmp b) hp)
              refine ⟨v', ?_, h2⟩
              have e3 : a.tmps.getD b undef = .pointer (some (ad.add (i * sl.sz + q))) := e3
              unfold execOp at h4
              simp only [Instr.loadAt, Act.eval, e3, Instr.sureAddr, Sem.run_bind, Sem.run_pure, Result.andThen_ok] at h4
              unfold rsF
              simp only [Sem.run_bind, e3, asAddr, Sem.run_pure, Result.andThen_ok]
              cases hlv : (loadVar t (ad.add (i * sl.sz + q))).run P w with
              | ok u w' =>
                rw [hlv] at h4
                simp at h4
                rw [h4.1, h4.2]
              | halt a b =>
                rw [hlv] at h4
                simp at h4
            · cases h1
          · cases h1
        · cases h1
      split at h
      · rename_i hx
        cases h
        obtain ⟨v', h1, h2⟩ := key hx
        exact ⟨v', h1, h2, h2⟩
      · rename_i hx
        cases h
        obtain ⟨v', h1, h2⟩ := key hx
        exact ⟨v', h1, h2, h2⟩
      · cases h
    · cases h
theorem resL_run (hT : TOk P T) {Γ : Ctx} {ρ : Pl} {st : St} {a : Act} {w : World} (hr : Rel Γ ρ st a w) : ∀ {rs : List ResultVar} {vs : List AV}, resL T st.env st.h rs = some vs → ∃ vs', (rs.mapM (rsF a.tmps)).run P w = .ok vs' w ∧ All2 (AV.R1 ρ) vs vs'
  | [], vs, h => by
    cases h
    exact ⟨[], rfl, trivial⟩
  | r :: rs, vs, h => by
    unfold resL at h
    split at h
    · rename_i h1 h2
      cases h
      obtain ⟨v', h3, _, h4⟩ := resA_run hT hr h1
      obtain ⟨vs', h5, h6⟩ := resL_run hT hr h2
      refine ⟨v' :: vs', ?_, h4, h6⟩
      rw [List.mapM_cons]
      simp only [Sem.run_bind, Sem.run_pure, h3, h5, Result.andThen_ok]
    · cases h
theorem resX_run (hT : TOk P T) {fn : Func} {rs : List ResultVar} (hres : fn.results = rs.toArray) : ∀ st v, rsS T rs st v → ∀ Γ ρ a w, Rel Γ ρ st a w → ∃ v', (results fn a.tmps).run P w = .ok v' w ∧ v.R ρ v' := by
  intro st v h Γ ρ a w hr
  have hrun : ∀ vs', (rs.mapM (rsF a.tmps)).run P w = .ok vs' w → (results fn a.tmps).run P w = .ok (if h : vs'.toArray.size = 1 then vs'.toArray[0] else .tuple vs'.toArray) w := by
    intro vs' h1
    unfold results
    simp only [hres, List.mapM_toArray, map_eq_pure_bind, Sem.run_bind, Sem.run_pure]
    rw [show ∀ (f : ResultVar → Sem Value), f = rsF a.tmps → (rs.mapM f).run P w = .ok vs' w from fun f e => by rw [e]; exact h1]
    · rfl
    · funext x
      cases x <;> rfl
  unfold rsS resX at h
  split at h
  · rename_i r
    obtain ⟨v', h1, h2, _⟩ := resA_run hT hr h
    refine ⟨v', ?_, h2⟩
    exact hrun [v'] (by rw [List.mapM_cons]; simp only [Sem.run_bind, Sem.run_pure, h1, List.mapM_nil, Result.andThen_ok])
  · rename_i hne
    split at h
    · rename_i vs h1
      cases h
      obtain ⟨vs', h2, h3⟩ := resL_run hT hr h1
      refine ⟨_, hrun vs' h2, ?_⟩
      have hlen : vs'.length ≠ 1 := by
        have e1 := h3.length
        have e2 : vs.length = rs.length := by
          clear hne h2 h3 e1 hres hrun
          induction rs generalizing vs with
          | nil => cases h1; rfl
          | cons r rs ih =>
            unfold resL at h1
            split at h1
            · rename_i h5 h6
              cases h1
              simp [ih _ h6]
            · cases h1
        intro e
        match rs, e2, hne with
        | [], e2, _ => exact absurd (show vs.length = 0 from e2) (by omega)
        | [r], _, hne => exact hne r rfl
        | _ :: _ :: _, e2, _ => simp at e2; omega
      rw [dif_neg (by simpa using hlen)]
      exact ⟨_, rfl, h3⟩
    · cases h
def arA : BinOp → Int → Int → Option Int
  | .add, a, b => some (a + b)
  | .sub, a, b => some (a - b)
  | .mul, a, b => some (a * b)
  | _, _, _ => none
end
end Go.Proofs.YtnlajjoheegbiaaGreat.Sh
namespace Go.Proofs.YtnlajjoheegbiaaGreat.Sh
open Go.RowKit Go.Proofs.YtnlajjoheegbiaaGreatW
set_option linter.unusedVariables false
def arB (o : BinOp) (k : IntKind) (a b : Int) : Option Int := match o with
  | .add => some (k.wrap (a + b))
  | .sub => some (k.wrap (a - b))
  | .mul => some (k.wrap (a * b))
  | .quo => some (k.wrap (a.tdiv b))
  | .rem => some (a.tmod b)
  | .and => some (k.wrap (BitVec.ofInt k.bits a &&& BitVec.ofInt k.bits b).toNat)
  | .or => some (k.wrap (BitVec.ofInt k.bits a ||| BitVec.ofInt k.bits b).toNat)
  | .xor => some (k.wrap (BitVec.ofInt k.bits a ^^^ BitVec.ofInt k.bits b).toNat)
  | _ => none
def arG (o : BinOp) (b : Int) : Prop := match o with
  | .quo => b ≠ 0
  | .rem => b ≠ 0
  | _ => True
theorem opP_bin {P : Program} {o : BinOp} {xT yT : TypeId} {x y : Operand} {st : St} {dst : Option Tmp} {ty : TypeId} {pos : String} {af : Array Edge} {g : Option (Nat × Bool)} {k : IntKind} {a b r : Int} (hx : ev st.env x = some (.c (.sc (.int k a)))) (hy : ev st.env y = some (.c (.sc (.int k b)))) (hr : arB o k a b = some r) (hg : arG o b) :
    OpP P ⟨dst, .binOp o xT x y yT, ty, pos, af, g⟩ st (.c (.sc (.int k r))) := fun Γ ρ ac w0 hrel => by
  have h1 := R_int (ev_R hrel.env hx)
  have h2 := R_int (ev_R hrel.env hy)
  refine ⟨.int k r, ⟨rfl, rfl⟩, fun w => ?_⟩
  cases o <;> simp [arB] at hr <;> subst hr <;> simp [arG] at hg <;> simp [execOp, h1, h2, eqGuard, binOp, Op.intArith, Op.intDiv, Op.intBits, hg]
def shB (o : BinOp) (k : IntKind) (a b : Int) : Option Int := match o with
  | .shl => some (k.wrap (a * 2 ^ (min b.toNat k.bits)))
  | .shr => some (a.fdiv (2 ^ (min b.toNat k.bits)))
  | _ => none
theorem opP_sh {P : Program} {o : BinOp} {xT yT : TypeId} {x y : Operand} {st : St} {dst : Option Tmp} {ty : TypeId} {pos : String} {af : Array Edge} {g : Option (Nat × Bool)} {k k2 : IntKind} {a b r : Int} (hx : ev st.env x = some (.c (.sc (.int k a)))) (hy : ev st.env y = some (.c (.sc (.int k2 b)))) (hr : shB o k a b = some r) (hg : 0 ≤ b) :
    OpP P ⟨dst, .binOp o xT x y yT, ty, pos, af, g⟩ st (.c (.sc (.int k r))) := fun Γ ρ ac w0 hrel => by
  have h1 := R_int (ev_R hrel.env hx)
  have h2 := R_int (ev_R hrel.env hy)
  refine ⟨.int k r, ⟨rfl, rfl⟩, fun w => ?_⟩
  have hb : ¬ b < 0 := by omega
  cases o <;> simp [shB] at hr <;> subst hr <;> simp [execOp, h1, h2, eqGuard, binOp, Op.shift, hb]
def decs {α : Type} [Enc α] : List (List Value) → Option (List α)
  | [] => some []
  | c :: r => match Enc.dec c, decs r with
    | some x, some xs => some (x :: xs)
    | _, _ => none
theorem decs_eq {α : Type} [Enc α] : ∀ {L : List (List Value)} {xs : List α}, decs L = some xs → xs.map Enc.enc = L
  | [], xs, h => by
    cases h
    rfl
  | c :: r, xs, h => by
    unfold decs at h
    split at h
    · rename_i x xs' h1 h2
      cases h
      rw [List.map_cons, Enc.decE h1, decs_eq h2]
    · cases h
def setC (c : List Value) (q : Nat) (vs : List Value) : List Value := c.take q ++ vs ++ c.drop (q + vs.length)
def fL : List Nat → Option (List Nat)
  | [] => some []
  | x :: r => match lit x, fL r with
    | some x', some r' => some (x' :: r')
    | _, _ => none
theorem fL_eq : ∀ {l m : List Nat}, fL l = some m → l = m
  | [], _, h => Option.some.inj h
  | x :: r, _, h => by
    unfold fL at h
    split at h
    · rename_i h1 h2
      cases h
      rw [lit_eq h1, fL_eq h2]
    · cases h
def callB (hs : AH) (m : List Nat) (n : Nat) : Bool := hs.all (·.isSome) && Nat.beq hs.length m.length && m.all (fun i => Nat.blt i n) && ndO m hs
def roA (hs : AH) : Bool := hs.all (fun x => match x with | some o => !o.own | none => true)
section
variable {P : Program} {T : TB} {ops : Array Oper} {Q : Exit → St → Prop} {h1 : AH} {k : Sk} {ks ks' : List Sk} {l : List Oper} {N0 k0 d0 : Nat} {e0 : List (Nat × AV)} {h0 : AH} {op : Op} {ty : TypeId} {pos : String} {af : Array Edge} {g : Option (Nat × Bool)} {st : St}
theorem zar {x y : Operand} {xT yT : TypeId} {a b r : Int} {o : BinOp} (hs0 : stK ks = (k, ks')) (hx : ev e0 x = some (I a)) (hy : ev e0 y = some (I b)) (hr : arA o a b = some r) (hb : -9223372036854775808 ≤ r ∧ r ≤ 9223372036854775807) (hg : gd ops ⟨some d0, .binOp o xT x y yT, ty, pos, af, g⟩ e0 = some true) (hd : Nat.blt d0 N0 = true)
    (h : ZZ P ops Q h1 ks' l ⟨N0, k0, (d0, I r) :: e0, h0⟩) : ZZ P ops Q h1 ks (⟨some d0, .binOp o xT x y yT, ty, pos, af, g⟩ :: l) ⟨N0, k0, e0, h0⟩ := ⟨by
  rw [zipK_cons hs0]
  refine WS_P (st := ⟨N0, k0, e0, h0⟩) (dst := some d0) (v := I r) (opP_bin hx hy ?_ ?_) hg hd h.out
  · unfold arA at hr
    split at hr <;> cases hr <;> simp only [arB, wrap64 hb.1 hb.2]
  · unfold arA at hr
    split at hr <;> first | trivial | cases hr⟩
theorem zaw {x y : Operand} {xT yT : TypeId} {kk : IntKind} {a b r : Int} {o : BinOp} (hs0 : stK ks = (k, ks')) (hx : ev e0 x = some (.c (.sc (.int kk a)))) (hy : ev e0 y = some (.c (.sc (.int kk b)))) (hr : arB o kk a b = some r) (hb : arG o b) (hg : gd ops ⟨some d0, .binOp o xT x y yT, ty, pos, af, g⟩ e0 = some true) (hd : Nat.blt d0 N0 = true)
    (h : ZZ P ops Q h1 ks' l ⟨N0, k0, (d0, .c (.sc (.int kk r))) :: e0, h0⟩) : ZZ P ops Q h1 ks (⟨some d0, .binOp o xT x y yT, ty, pos, af, g⟩ :: l) ⟨N0, k0, e0, h0⟩ := ⟨by
  rw [zipK_cons hs0]
  exact WS_P (st := ⟨N0, k0, e0, h0⟩) (dst := some d0) (opP_bin hx hy hr hb) hg hd h.out⟩
theorem zsh {x y : Operand} {xT yT : TypeId} {kk k2 : IntKind} {a b r : Int} {o : BinOp} (hs0 : stK ks = (k, ks')) (hx : ev e0 x = some (.c (.sc (.int kk a)))) (hy : ev e0 y = some (.c (.sc (.int k2 b)))) (hr : shB o kk a b = some r) (hb : 0 ≤ b) (hg : gd ops ⟨some d0, .binOp o xT x y yT, ty, pos, af, g⟩ e0 = some true) (hd : Nat.blt d0 N0 = true)
    (h : ZZ P ops Q h1 ks' l ⟨N0, k0, (d0, .c (.sc (.int kk r))) :: e0, h0⟩) : ZZ P ops Q h1 ks (⟨some d0, .binOp o xT x y yT, ty, pos, af, g⟩ :: l) ⟨N0, k0, e0, h0⟩ := ⟨by
  rw [zipK_cons hs0]
  exact WS_P (st := ⟨N0, k0, e0, h0⟩) (dst := some d0) (opP_sh hx hy hr hb) hg hd h.out⟩
theorem zneg {x : Operand} {xT : TypeId} {a : Int} (hs0 : stK ks = (k, ks')) (hx : ev e0 x = some (I a)) (hb : -9223372036854775808 ≤ -a ∧ -a ≤ 9223372036854775807) (hg : gd ops ⟨some d0, .unOp .neg xT x, ty, pos, af, g⟩ e0 = some true) (hd : Nat.blt d0 N0 = true) (h : ZZ P ops Q h1 ks' l ⟨N0, k0, (d0, I (-a)) :: e0, h0⟩) : ZZ P ops Q h1 ks (⟨some d0, .unOp .neg xT x, ty, pos, af, g⟩ :: l) ⟨N0, k0, e0, h0⟩ :=
  ⟨by rw [zipK_cons hs0]; exact wneg (st := ⟨N0, k0, e0, h0⟩) (dst := some d0) hx hb hg hd h.out⟩
theorem zcv (hs0 : stK ks = (k, ks')) (hT : TOk P T) {s t : TypeId} {x : Operand} {kk k2 : IntKind} {n m : Int} {z1 z2 b1 b2 : Nat} {a1 a2 : Bool} {o1 o2 : List Value} (hx : ev e0 x = some (.c (.sc (.int kk n)))) (hs : tlk s T = some ⟨.int kk, z1, b1, a1, o1⟩) (ht : tlk t T = some ⟨.int k2, z2, b2, a2, o2⟩) (hm : k2.wrap n = m) (hg : gd ops ⟨some d0, .convert s t x, ty, pos, af, g⟩ e0 = some true) (hd : Nat.blt d0 N0 = true)
    (h : ZZ P ops Q h1 ks' l ⟨N0, k0, (d0, .c (.sc (.int k2 m))) :: e0, h0⟩) : ZZ P ops Q h1 ks (⟨some d0, .convert s t x, ty, pos, af, g⟩ :: l) ⟨N0, k0, e0, h0⟩ :=
  ⟨by rw [zipK_cons hs0]; exact wp (st := ⟨N0, k0, e0, h0⟩) (dst := some d0) hT (by subst hm; unfold aP; simp only [hx, hs, ht]) hg hd h.out⟩
theorem zcmp (hs0 : stK ks = (k, ks')) (hT : TOk P T) {p : Prop} {hdp : Decidable p} {o : BinOp} {xT yT : TypeId} {x y : Operand} (hv : aP T e0 (.binOp o xT x y yT) = some (B (decide p))) (hg : gd ops ⟨some d0, .binOp o xT x y yT, ty, pos, af, g⟩ e0 = some true) (hd : Nat.blt d0 N0 = true)
    (ht : p → ZZ P ops Q h1 ks' l ⟨N0, k0, (d0, B true) :: e0, h0⟩) (hf : ¬ p → ZZ P ops Q h1 ks' l ⟨N0, k0, (d0, B false) :: e0, h0⟩) : ZZ P ops Q h1 ks (⟨some d0, .binOp o xT x y yT, ty, pos, af, g⟩ :: l) ⟨N0, k0, e0, h0⟩ :=
  ⟨by rw [zipK_cons hs0]; exact wcmp (st := ⟨N0, k0, e0, h0⟩) (dst := some d0) hT hv hg hd (fun hp => (ht hp).out) (fun hp => (hf hp).out)⟩
theorem zeq (hs0 : stK ks = (k, ks')) (hT : TOk P T) {kk : IntKind} {a b : Int} {xT yT : TypeId} {x y : Operand} (hx : ev e0 x = some (.c (.sc (.int kk a)))) (hy : ev e0 y = some (.c (.sc (.int kk b)))) (hg : gd ops ⟨some d0, .binOp .eql xT x y yT, ty, pos, af, g⟩ e0 = some true) (hd : Nat.blt d0 N0 = true)
    (ht : a = b → ZZ P ops Q h1 ks' l ⟨N0, k0, (d0, B true) :: e0, h0⟩) (hf : ¬ a = b → ZZ P ops Q h1 ks' l ⟨N0, k0, (d0, B false) :: e0, h0⟩) : ZZ P ops Q h1 ks (⟨some d0, .binOp .eql xT x y yT, ty, pos, af, g⟩ :: l) ⟨N0, k0, e0, h0⟩ := ⟨by
  rw [zipK_cons hs0]
  refine wp (st := ⟨N0, k0, e0, h0⟩) (dst := some d0) hT (v := B (a == b)) (by unfold aP; simp only [hx, hy, binA, decide_true]) hg hd ?_
  by_cases hp : a = b
  · rw [show (a == b) = true from by simpa using hp]
    exact (ht hp).out
  · rw [show (a == b) = false from by simpa using hp]
    exact (hf hp).out⟩
theorem zne (hs0 : stK ks = (k, ks')) (hT : TOk P T) {kk : IntKind} {a b : Int} {xT yT : TypeId} {x y : Operand} (hx : ev e0 x = some (.c (.sc (.int kk a)))) (hy : ev e0 y = some (.c (.sc (.int kk b)))) (hg : gd ops ⟨some d0, .binOp .neq xT x y yT, ty, pos, af, g⟩ e0 = some true) (hd : Nat.blt d0 N0 = true)
    (ht : ¬ a = b → ZZ P ops Q h1 ks' l ⟨N0, k0, (d0, B true) :: e0, h0⟩) (hf : a = b → ZZ P ops Q h1 ks' l ⟨N0, k0, (d0, B false) :: e0, h0⟩) : ZZ P ops Q h1 ks (⟨some d0, .binOp .neq xT x y yT, ty, pos, af, g⟩ :: l) ⟨N0, k0, e0, h0⟩ := ⟨by
  rw [zipK_cons hs0]
  refine wp (st := ⟨N0, k0, e0, h0⟩) (dst := some d0) hT (v := B (a != b)) (by unfold aP; simp only [hx, hy, binA, decide_true]) hg hd ?_
  by_cases hp : a = b
  · rw [show (a != b) = false from by simpa using hp]
    exact (hf hp).out
  · rw [show (a != b) = true from by simpa using hp]
    exact (ht hp).out⟩
theorem zix (hs0 : stK ks = (k, ks')) (hT : TOk P T) {t e : TypeId} {x y : Operand} {o n : Nat} {ob : AO} {k' : IntKind} {i : Int} {ti te : TI} (hx : ev e0 x = some (.c (.row o 0 n))) (hy : ev e0 y = some (.c (.sc (.int k' i)))) (ht : tlk t T = some ti) (hs : ti.d = .slice e) (hte : tlk e T = some te) (ho : h0[o]? = some (some ob)) (hsz : te.size = ob.sz) (hb : 0 ≤ i ∧ i < n)
    (hg : gd ops ⟨some d0, .indexAddr t x y, ty, pos, af, g⟩ e0 = some true) (hd : Nat.blt d0 N0 = true) (h : ZZ P ops Q h1 ks' l ⟨N0, k0, (d0, (.c (.ptr o i.toNat 0))) :: e0, h0⟩) : ZZ P ops Q h1 ks (⟨some d0, .indexAddr t x y, ty, pos, af, g⟩ :: l) ⟨N0, k0, e0, h0⟩ :=
  ⟨by
    rw [zipK_cons hs0]
    refine wix (st := ⟨N0, k0, e0, h0⟩) (dst := some d0) hT hx hy ht hs hte ho hsz hb hg hd ?_
    rw [Nat.zero_add]
    exact h.out⟩
theorem zle (hs0 : stK ks = (k, ks')) (hT : TOk P T) {α : Type} {inst : Enc α} {t : TypeId} {x : Operand} {o q : Nat} {i : Int} {own : Bool} {e sz : Nat} {xs : List α} {ti : TI} {v v' : AV} (hk' : (k != Sk.p) = true) (hx : ev e0 x = some (.c (.ptr o i.toNat q))) (ho : (hk k h1 h0)[o]? = some (some ⟨own, e, sz, .fl (xs.map Enc.enc)⟩)) (ht : tlk t T = some ti)
    (hb : 0 ≤ i ∧ i < xs.length) (hv : ldW ti ((Enc.enc (rd xs i)).map .sc) q = some v) (hf : fV1 v = some v') (hg : gd ops ⟨some d0, .load t x, ty, pos, af, g⟩ e0 = some true) (hd : Nat.blt d0 N0 = true) (h : ZZ P ops Q h1 ks' l ⟨N0, k0, (d0, v') :: e0, h0⟩) : ZZ P ops Q h1 ks (⟨some d0, .load t x, ty, pos, af, g⟩ :: l) ⟨N0, k0, e0, h0⟩ :=
  ⟨by rw [zipK_cons hs0, ← fV1_eq hf] at *; exact wle (st := ⟨N0, k0, e0, h0⟩) (dst := some d0) hT hk' hx ho ht (enc_at hb) hv hg hd h.out⟩
theorem zse (hs0 : stK ks = (Sk.l, ks')) (hT : TOk P T) {α : Type} {inst : Enc α} {t : TypeId} {x y : Operand} {o q : Nat} {i : Int} {e sz : Nat} {xs : List α} {x' : α} {vs : List Value} {ti : TI} {v : AV} {vcs : List AC} {h' : AH} (hx : ev e0 x = some (.c (.ptr o i.toNat q))) (hy : ev e0 y = some v) (ho : h0[o]? = some (some ⟨true, e, sz, .fl (xs.map Enc.enc)⟩)) (ht : tlk t T = some ti) (hv : boxCs v = some vcs) (hp : El.put.plain vcs = some vs)
    (hb : 0 ≤ i ∧ i < xs.length) (hsz : Nat.beq vs.length ti.size = true) (hq : Nat.ble (q + ti.size) (Enc.sz α) = true) (hc : Enc.dec (setC (Enc.enc (rd xs i)) q vs) = some x') (hh : putH h0 o (some ⟨true, e, sz, .fl ((upd xs i x').map Enc.enc)⟩) = some h') (hg : gd ops ⟨none, .store t x y, ty, pos, af, g⟩ e0 = some true)
    (h : ZZ P ops Q h1 ks' l ⟨N0, k0, e0, h'⟩) : ZZ P ops Q h1 ks (⟨none, .store t x y, ty, pos, af, g⟩ :: l) ⟨N0, k0, e0, h0⟩ :=
  ⟨by
    rw [zipK_cons hs0]
    have h2 := putH_eq hh
    have h3 : (xs.map Enc.enc).set i.toNat (Enc.enc x') = (upd xs i x').map Enc.enc := by simp [upd]
    refine wse (st := ⟨N0, k0, e0, h0⟩) hT hx hy ho ht hv hp (enc_at hb) (Nat.eq_of_beq_eq_true hsz) (by rw [Enc.len]; exact Nat.le_of_ble_eq_true hq) (Enc.decE hc).symm hg ?_
    show WZ P ops Q h1 (zipK ks' l) ⟨N0, k0, e0, h0.set o (some ⟨true, e, sz, .fl ((xs.map Enc.enc).set i.toNat (Enc.enc x'))⟩)⟩
    rw [h3, h2]
    exact h.out⟩
theorem zsl (hs0 : stK ks = (k, ks')) (hT : TOk P T) {α : Type} {inst : Enc α} {t e : TypeId} {x : Operand} {lo hi : Option Operand} {o : Nat} {own : Bool} {e' sz : Nat} {xs : List α} {a b : Int} {ti te : TI} {hv h' : AH} {nn : Nat} (hx : ev e0 x = some (.c (.row o 0 xs.length))) (ht : tlk t T = some ti) (hs : ti.d = .slice e) (hte : tlk e T = some te) (ho : h0[o]? = some (some ⟨own, e', sz, .fl (xs.map Enc.enc)⟩)) (hsz : te.size = sz) (hl : loV e0 lo 0 = some a) (hh : loV e0 hi xs.length = some b) (hb : 0 ≤ a ∧ a ≤ b ∧ b ≤ xs.length)
    (hvw : putH h0 o (some ⟨false, e', sz, .fl (xs.map Enc.enc)⟩) = some hv) (hadd : addH hv (ro e' (sub xs a b)) = some (nn, h')) (hse : Enc.sz α = sz) (hg : gd ops ⟨some d0, .slice t x lo hi none, ty, pos, af, g⟩ e0 = some true) (hd : Nat.blt d0 N0 = true) (h : ZZ P ops Q h1 ks' l ⟨N0, k0, (d0, (.c (.row nn 0 (sub xs a b).length))) :: e0, h'⟩) : ZZ P ops Q h1 ks (⟨some d0, .slice t x lo hi none, ty, pos, af, g⟩ :: l) ⟨N0, k0, e0, h0⟩ :=
  ⟨by
    rw [zipK_cons hs0]
    refine wsl (st := ⟨N0, k0, e0, h0⟩) (dst := some d0) hT hx ht hs hte ho hsz hl hh hb hg hd ?_
    obtain ⟨h2, h3⟩ := addH_eq hadd
    have h4 := putH_eq hvw
    have hlt : o < h0.length := (List.getElem?_eq_some_iff.1 ho).1
    refine zgh (st2 := ⟨N0, k0, (d0, .c (.row o (0 + a.toNat) (b.toNat - a.toNat))) :: e0, hv⟩) (ghost_view (st := ⟨N0, k0, (d0, .c (.row o (0 + a.toNat) (b.toNat - a.toNat))) :: e0, h0⟩) (by rw [← h4]; simp) (fun i ob hi => ?_)) ?_
    · rw [← h4] at hi
      by_cases e : o = i
      · subst e
        rw [List.getElem?_set_self hlt] at hi
        exact ⟨_, false, ho, by simpa [AO.view] using hi.symm⟩
      · rw [List.getElem?_set_ne e] at hi
        exact ⟨ob, true, hi, by simp [AO.view]⟩
    have h5 : hv[o]? = some (some ⟨false, e', sz, .fl (xs.map Enc.enc)⟩) := by rw [← h4, List.getElem?_set_self hlt]
    refine zgh (ghost_sub (st := ⟨N0, k0, (d0, .c (.row o (0 + a.toNat) (b.toNat - a.toNat))) :: e0, hv⟩) (lk_cons_eq _ _ _) h5 (by rw [List.length_map]; omega)) ?_
    have h6 : ((xs.map Enc.enc).drop (0 + a.toNat)).take (b.toNat - a.toNat) = (sub xs a b).map Enc.enc := by
      simp only [sub, Nat.zero_add, List.drop_take, List.map_take, List.map_drop]
    have h7 : b.toNat - a.toNat = (sub xs a b).length := by
      simp only [sub, List.length_drop, List.length_take]
      omega
    show WZ P ops Q h1 (zipK ks' l) ⟨N0, k0, (d0, .c (.row hv.length 0 (b.toNat - a.toNat))) :: (d0, _) :: e0, hv ++ [some ⟨false, e', sz, .fl (((xs.map Enc.enc).drop (0 + a.toNat)).take (b.toNat - a.toNat))⟩]⟩
    have h8 : hv ++ [some ⟨false, e', sz, .fl (((xs.map Enc.enc).drop (0 + a.toNat)).take (b.toNat - a.toNat))⟩] = h' := by
      rw [h6, ← h2, ro, hse]
    rw [h8, h3, h7]
    refine zgh (st2 := ⟨N0, k0, (d0, .c (.row nn 0 (sub xs a b).length)) :: e0, h'⟩) (fun Γ ρ a w hr => ⟨ρ, Ext.refl _, hr.holds, hr.len, hr.klen, hr.args, fun t v ht => hr.env t v ?_, hr.defers, hr.size⟩) h.out
    by_cases e : d0 = t
    · subst e
      rw [lk_cons_eq] at ht ⊢
      exact ht
    · rw [lk_cons_ne e] at ht ⊢
      rw [lk_cons_ne e]
      exact ht⟩
end
end Go.Proofs.YtnlajjoheegbiaaGreat.Sh
