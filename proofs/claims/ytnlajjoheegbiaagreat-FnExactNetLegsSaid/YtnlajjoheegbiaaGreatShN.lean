/- Symbolic memory: loops whose heads keep what they find. No condition. -/
import Derived.Test.YtnlajjoheegbiaaGreatShM
namespace Go.Proofs.YtnlajjoheegbiaaGreat.Sh
open Go.RowKit Go.Proofs.YtnlajjoheegbiaaGreatW
set_option linter.unusedVariables false
/-- What some temporaries hold. -/
def pickE (e : List (Nat × AV)) : List Nat → Option (List (Nat × AV))
  | [] => some []
  | t :: r => match lk t e, pickE e r with
    | some v, some r' => some ((t, v) :: r')
    | _, _ => none
def catE : List (Nat × AV) → List (Nat × AV) → Option (List (Nat × AV))
  | [], b => some b
  | (t, v) :: r, b => match catE r b with
    | some r' => some ((t, v) :: r')
    | none => none
theorem catE_eq : ∀ {a b c : List (Nat × AV)}, catE a b = some c → a ++ b = c
  | [], b, c, h => by
    cases b <;> exact Option.some.inj h
  | (t, v) :: r, b, c, h => by
    unfold catE at h
    split at h
    · rename_i h1
      cases h
      rw [← catE_eq h1]
      rfl
    · cases h
/-- Objects, some of them others. -/
def ovF : List (Nat × Option AO) → AH → Option AH
  | [], h => some h
  | (i, x) :: r, h => match putH h i x with
    | some h' => ovF r h'
    | none => none
def ovS : List (Nat × Option AO) → AH → AH
  | [], h => h
  | (i, x) :: r, h => ovS r (h.set i x)
theorem ovF_eq : ∀ {l : List (Nat × Option AO)} {h h' : AH}, ovF l h = some h' → ovS l h = h'
  | [], h, h', hh => by
    cases h <;> exact Option.some.inj hh
  | (i, x) :: r, h, h', hh => by
    unfold ovF at hh
    split at hh
    · rename_i h1
      show ovS r (h.set i x) = h'
      rw [putH_eq h1]
      exact ovF_eq hh
    · cases hh
/-- A loop: the temporaries ns and the objects m are kept as they are found, but for what ve and vo tell. -/
theorem wlp {P : Program} {Q : Exit → St → Prop} {c : Code} {N k : Nat} {e : List (Nat × AV)} {h : AH} {X : Type} (ns m : List Nat) (ve : X → List (Nat × AV)) (vo : X → List (Nat × Option AO)) (Inv : X → Prop) (μ : X → Nat) (x0 : X)
    {eb : List (Nat × AV)} {hb : AH} {E : X → List (Nat × AV)} {H : X → AH} (h0 : Inv x0) (he : pickE e ns = some eb) (hh : fH (pickH m h) = some hb) (hE : ∀ x, catE (ve x) eb = some (E x)) (hH : ∀ x, ovF (vo x) hb = some (H x)) (hc : Conv ⟨N, k, e, h⟩ ⟨N, k, E x0, H x0⟩ m)
    (hr : ∀ x, Inv x → WW P c (thenQ (Round Inv (fun x => ⟨N, k, E x, H x⟩) μ (μ x)) Q) ⟨N, k, E x, H x⟩) : WW P (Code.loop c) Q ⟨N, k, e, h⟩ :=
  wloop Inv (fun x => ⟨N, k, E x, H x⟩) μ x0 m h0 hc hr
/-- The end of a round. -/
theorem endR {X : Type} {Inv : X → Prop} {I : X → St} {μ : X → Nat} {n : Nat} {st : St} (y : X) (m : List Nat) (hc : Conv st (I y) m) (hi : Inv y) (hm : μ y < n) : Round Inv I μ n st := ⟨y, m, hi, hm, hc⟩
/-- As many operations as go by themselves, one behind the other. -/
def sxs (T : TB) (N : Nat) (ops : Array Oper) (h1 : AH) : List Oper → List Sk → List (Nat × AV) → AH → List Sk × List Oper × List (Nat × AV) × AH
  | [], ks, e, h => (ks, [], e, h)
  | o :: l, ks, e, h => match stK ks with
    | (k, ks') => match sx T N ops h1 k o e h with
      | some (e', h') => sxs T N ops h1 l ks' e' h'
      | none => (ks, o :: l, e, h)
theorem sxs_ok {P : Program} {T : TB} (hT : TOk P T) {ops : Array Oper} {Q : Exit → St → Prop} {h1 : AH} {N k : Nat} : ∀ (l : List Oper) {ks ks' : List Sk} {l' : List Oper} {e e' : List (Nat × AV)} {h h' : AH}, sxs T N ops h1 l ks e h = (ks', l', e', h') → ZZ P ops Q h1 ks' l' ⟨N, k, e', h'⟩ → ZZ P ops Q h1 ks l ⟨N, k, e, h⟩
  | [], ks, ks', l', e, e', h, h', hx, hz => by
    cases hx
    exact hz
  | o :: l, ks, ks', l', e, e', h, h', hx, hz => by
    unfold sxs at hx
    split at hx
    rename_i kk ks1 hk
    split at hx
    · rename_i e1 h2 hs
      exact zd hk hT hs (sxs_ok hT l hx hz)
    · cases hx
      exact hz
/-- Two operations at least that go by themselves, and all behind them that do. -/
theorem zds {P : Program} {T : TB} {ops : Array Oper} {Q : Exit → St → Prop} {h1 : AH} {ks ks1 ks2 ks' : List Sk} {k1 k2 : Sk} {o o2 : Oper} {l l' : List Oper} {N k : Nat} {e e1 e2 e' : List (Nat × AV)} {h g1 g2 h' : AH} (hT : TOk P T) (hs0 : stK ks = (k1, ks1)) (hx : sx T N ops h1 k1 o e h = some (e1, g1)) (hs1 : stK ks1 = (k2, ks2)) (hx2 : sx T N ops h1 k2 o2 e1 g1 = some (e2, g2)) (hxs : sxs T N ops h1 l ks2 e2 g2 = (ks', l', e', h'))
    (hz : ZZ P ops Q h1 ks' l' ⟨N, k, e', h'⟩) : ZZ P ops Q h1 ks (o :: o2 :: l) ⟨N, k, e, h⟩ := zd hs0 hT hx (zd hs1 hT hx2 (sxs_ok hT l hxs hz))
def fOps : List Oper → Option (List Oper)
  | [] => some []
  | o :: r => match fOps r with
    | some r' => some (o :: r')
    | none => none
theorem fOps_eq : ∀ {l l' : List Oper}, fOps l = some l' → l = l'
  | [], _, h => Option.some.inj h
  | o :: r, _, h => by
    unfold fOps at h
    split at h
    · rename_i h1
      cases h
      rw [fOps_eq h1]
    · cases h
/-- A region whose row of operations is told in parts. -/
theorem zdrawF {P : Program} {Q : Exit → St → Prop} {st : St} {id : Nat} {l l' L : List Oper} (hl : fOps l = some l') (hm : P.follows .mixedOrders = true) (s : List (Sk × Nat)) (ds : List Nat) (hc : (s.length == l'.toArray.size && chk l'.toArray ds true s (Array.replicate l'.toArray.size false)) = true) (hL : pickO l' s = some L)
    (h : ZZ P l'.toArray Q st.h (s.map (·.1)) L st) : WW P (Code.region id l.toArray true) Q st := by
  rw [fOps_eq hl]
  exact zdraw hm s ds hc hL h
end Go.Proofs.YtnlajjoheegbiaaGreat.Sh
