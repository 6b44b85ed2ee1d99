/- Symbolic memory: sums, comparisons, rows, calls. No condition. -/
import Derived.Test.YtnlajjoheegbiaaGreatShJ
namespace Go.Proofs.YtnlajjoheegbiaaGreat.Sh
open Go.RowKit Go.Proofs.YtnlajjoheegbiaaGreatW
set_option linter.unusedVariables false
/-- What a sum, a quotient, a shift, a word of bits yields. -/
def arB (o : BinOp) (k : IntKind) (a b : Int) : Option Int := match o with
  | .add => some (k.wrap (a + b))
  | .sub => some (k.wrap (a - b))
  | .mul => some (k.wrap (a * b))
  | .quo => some (k.wrap (a.tdiv b))
  | .rem => some (a.tmod b)
  | .and => some (k.wrap (BitVec.ofInt k.bits a &&& BitVec.ofInt k.bits b).toNat)
  | .or => some (k.wrap (BitVec.ofInt k.bits a ||| BitVec.ofInt k.bits b).toNat)
  | .xor => some (k.wrap (BitVec.ofInt k.bits a ^^^ BitVec.ofInt k.bits b).toNat)
  | _ => none
def arG (o : BinOp) (b : Int) : Prop := match o with
  | .quo => b ≠ 0
  | .rem => b ≠ 0
  | _ => True
theorem opP_bin {P : Program} {o : BinOp} {xT yT : TypeId} {x y : Operand} {st : St} {dst : Option Tmp} {ty : TypeId} {pos : String} {af : Array Edge} {g : Option (Nat × Bool)} {k : IntKind} {a b r : Int} (hx : ev st.env x = some (.c (.sc (.int k a)))) (hy : ev st.env y = some (.c (.sc (.int k b)))) (hr : arB o k a b = some r) (hg : arG o b) :
    OpP P ⟨dst, .binOp o xT x y yT, ty, pos, af, g⟩ st (.c (.sc (.int k r))) := fun Γ ρ ac w0 hrel => by
  have h1 := R_int (ev_R hrel.env hx)
  have h2 := R_int (ev_R hrel.env hy)
  refine ⟨.int k r, ⟨rfl, rfl⟩, fun w => ?_⟩
  cases o <;> simp [arB] at hr <;> subst hr <;> simp [arG] at hg <;> simp [execOp, h1, h2, eqGuard, binOp, Op.intArith, Op.intDiv, Op.intBits, hg]
def shB (o : BinOp) (k : IntKind) (a b : Int) : Option Int := match o with
  | .shl => some (k.wrap (a * 2 ^ (min b.toNat k.bits)))
  | .shr => some (a.fdiv (2 ^ (min b.toNat k.bits)))
  | _ => none
theorem opP_sh {P : Program} {o : BinOp} {xT yT : TypeId} {x y : Operand} {st : St} {dst : Option Tmp} {ty : TypeId} {pos : String} {af : Array Edge} {g : Option (Nat × Bool)} {k k2 : IntKind} {a b r : Int} (hx : ev st.env x = some (.c (.sc (.int k a)))) (hy : ev st.env y = some (.c (.sc (.int k2 b)))) (hr : shB o k a b = some r) (hg : 0 ≤ b) :
    OpP P ⟨dst, .binOp o xT x y yT, ty, pos, af, g⟩ st (.c (.sc (.int k r))) := fun Γ ρ ac w0 hrel => by
  have h1 := R_int (ev_R hrel.env hx)
  have h2 := R_int (ev_R hrel.env hy)
  refine ⟨.int k r, ⟨rfl, rfl⟩, fun w => ?_⟩
  have hb : ¬ b < 0 := by omega
  cases o <;> simp [shB] at hr <;> subst hr <;> simp [execOp, h1, h2, eqGuard, binOp, Op.shift, hb]
/-- A list of things out of lists of cells. -/
def decs {α : Type} [Enc α] : List (List Value) → Option (List α)
  | [] => some []
  | c :: r => match Enc.dec c, decs r with
    | some x, some xs => some (x :: xs)
    | _, _ => none
theorem decs_eq {α : Type} [Enc α] : ∀ {L : List (List Value)} {xs : List α}, decs L = some xs → xs.map Enc.enc = L
  | [], xs, h => by
    cases h
    rfl
  | c :: r, xs, h => by
    unfold decs at h
    split at h
    · rename_i x xs' h1 h2
      cases h
      rw [List.map_cons, Enc.decE h1, decs_eq h2]
    · cases h
def setC (c : List Value) (q : Nat) (vs : List Value) : List Value := c.take q ++ vs ++ c.drop (q + vs.length)
def fL : List Nat → Option (List Nat)
  | [] => some []
  | x :: r => match lit x, fL r with
    | some x', some r' => some (x' :: r')
    | _, _ => none
theorem fL_eq : ∀ {l m : List Nat}, fL l = some m → l = m
  | [], _, h => Option.some.inj h
  | x :: r, _, h => by
    unfold fL at h
    split at h
    · rename_i h1 h2
      cases h
      rw [lit_eq h1, fL_eq h2]
    · cases h
/-- A call may be made with these objects. -/
def callB (hs : AH) (m : List Nat) (n : Nat) : Bool := hs.all (·.isSome) && Nat.beq hs.length m.length && m.all (fun i => Nat.blt i n) && ndO m hs
def roA (hs : AH) : Bool := hs.all (fun x => match x with | some o => !o.own | none => true)
section
variable {P : Program} {T : TB} {ops : Array Oper} {Q : Exit → St → Prop} {h1 : AH} {k : Sk} {ks ks' : List Sk} {l : List Oper} {N0 k0 d0 : Nat} {e0 : List (Nat × AV)} {h0 : AH} {op : Op} {ty : TypeId} {pos : String} {af : Array Edge} {g : Option (Nat × Bool)} {st : St}
/-- A sum, a difference, a product that fits. -/
theorem zar {x y : Operand} {xT yT : TypeId} {a b r : Int} {o : BinOp} (hs0 : stK ks = (k, ks')) (hx : ev e0 x = some (I a)) (hy : ev e0 y = some (I b)) (hr : arA o a b = some r) (hb : -9223372036854775808 ≤ r ∧ r ≤ 9223372036854775807) (hg : gd ops ⟨some d0, .binOp o xT x y yT, ty, pos, af, g⟩ e0 = some true) (hd : Nat.blt d0 N0 = true)
    (h : ZZ P ops Q h1 ks' l ⟨N0, k0, (d0, I r) :: e0, h0⟩) : ZZ P ops Q h1 ks (⟨some d0, .binOp o xT x y yT, ty, pos, af, g⟩ :: l) ⟨N0, k0, e0, h0⟩ := ⟨by
  rw [zipK_cons hs0]
  refine WS_P (st := ⟨N0, k0, e0, h0⟩) (dst := some d0) (v := I r) (opP_bin hx hy ?_ ?_) hg hd h.out
  · unfold arA at hr
    split at hr <;> cases hr <;> simp only [arB, wrap64 hb.1 hb.2]
  · unfold arA at hr
    split at hr <;> first | trivial | cases hr⟩
/-- Any sum, quotient, word of bits. -/
theorem zaw {x y : Operand} {xT yT : TypeId} {kk : IntKind} {a b r : Int} {o : BinOp} (hs0 : stK ks = (k, ks')) (hx : ev e0 x = some (.c (.sc (.int kk a)))) (hy : ev e0 y = some (.c (.sc (.int kk b)))) (hr : arB o kk a b = some r) (hb : arG o b) (hg : gd ops ⟨some d0, .binOp o xT x y yT, ty, pos, af, g⟩ e0 = some true) (hd : Nat.blt d0 N0 = true)
    (h : ZZ P ops Q h1 ks' l ⟨N0, k0, (d0, .c (.sc (.int kk r))) :: e0, h0⟩) : ZZ P ops Q h1 ks (⟨some d0, .binOp o xT x y yT, ty, pos, af, g⟩ :: l) ⟨N0, k0, e0, h0⟩ := ⟨by
  rw [zipK_cons hs0]
  exact WS_P (st := ⟨N0, k0, e0, h0⟩) (dst := some d0) (opP_bin hx hy hr hb) hg hd h.out⟩
theorem zsh {x y : Operand} {xT yT : TypeId} {kk k2 : IntKind} {a b r : Int} {o : BinOp} (hs0 : stK ks = (k, ks')) (hx : ev e0 x = some (.c (.sc (.int kk a)))) (hy : ev e0 y = some (.c (.sc (.int k2 b)))) (hr : shB o kk a b = some r) (hb : 0 ≤ b) (hg : gd ops ⟨some d0, .binOp o xT x y yT, ty, pos, af, g⟩ e0 = some true) (hd : Nat.blt d0 N0 = true)
    (h : ZZ P ops Q h1 ks' l ⟨N0, k0, (d0, .c (.sc (.int kk r))) :: e0, h0⟩) : ZZ P ops Q h1 ks (⟨some d0, .binOp o xT x y yT, ty, pos, af, g⟩ :: l) ⟨N0, k0, e0, h0⟩ := ⟨by
  rw [zipK_cons hs0]
  exact WS_P (st := ⟨N0, k0, e0, h0⟩) (dst := some d0) (opP_sh hx hy hr hb) hg hd h.out⟩
theorem zneg {x : Operand} {xT : TypeId} {a : Int} (hs0 : stK ks = (k, ks')) (hx : ev e0 x = some (I a)) (hb : -9223372036854775808 ≤ -a ∧ -a ≤ 9223372036854775807) (hg : gd ops ⟨some d0, .unOp .neg xT x, ty, pos, af, g⟩ e0 = some true) (hd : Nat.blt d0 N0 = true) (h : ZZ P ops Q h1 ks' l ⟨N0, k0, (d0, I (-a)) :: e0, h0⟩) : ZZ P ops Q h1 ks (⟨some d0, .unOp .neg xT x, ty, pos, af, g⟩ :: l) ⟨N0, k0, e0, h0⟩ :=
  ⟨by rw [zipK_cons hs0]; exact wneg (st := ⟨N0, k0, e0, h0⟩) (dst := some d0) hx hb hg hd h.out⟩
theorem znegw {x : Operand} {xT : TypeId} {kk : IntKind} {a : Int} (hs0 : stK ks = (k, ks')) (hx : ev e0 x = some (.c (.sc (.int kk a)))) (hg : gd ops ⟨some d0, .unOp .neg xT x, ty, pos, af, g⟩ e0 = some true) (hd : Nat.blt d0 N0 = true) (h : ZZ P ops Q h1 ks' l ⟨N0, k0, (d0, .c (.sc (.int kk (kk.wrap (0 - a))))) :: e0, h0⟩) : ZZ P ops Q h1 ks (⟨some d0, .unOp .neg xT x, ty, pos, af, g⟩ :: l) ⟨N0, k0, e0, h0⟩ :=
  ⟨by rw [zipK_cons hs0]; exact wp (T := []) (st := ⟨N0, k0, e0, h0⟩) (dst := some d0) (fun t ti h => by cases h) (by unfold aP; simp only [hx]) hg hd h.out⟩
/-- A number told in another kind. -/
theorem zcv (hs0 : stK ks = (k, ks')) (hT : TOk P T) {s t : TypeId} {x : Operand} {kk k2 : IntKind} {n m : Int} {z1 z2 b1 b2 : Nat} {a1 a2 : Bool} {o1 o2 : List Value} (hx : ev e0 x = some (.c (.sc (.int kk n)))) (hs : tlk s T = some ⟨.int kk, z1, b1, a1, o1⟩) (ht : tlk t T = some ⟨.int k2, z2, b2, a2, o2⟩) (hm : k2.wrap n = m) (hg : gd ops ⟨some d0, .convert s t x, ty, pos, af, g⟩ e0 = some true) (hd : Nat.blt d0 N0 = true)
    (h : ZZ P ops Q h1 ks' l ⟨N0, k0, (d0, .c (.sc (.int k2 m))) :: e0, h0⟩) : ZZ P ops Q h1 ks (⟨some d0, .convert s t x, ty, pos, af, g⟩ :: l) ⟨N0, k0, e0, h0⟩ :=
  ⟨by rw [zipK_cons hs0]; exact wp (st := ⟨N0, k0, e0, h0⟩) (dst := some d0) hT (by subst hm; unfold aP; simp only [hx, hs, ht]) hg hd h.out⟩
/-- Comparisons: both ways. -/
theorem zcmp (hs0 : stK ks = (k, ks')) (hT : TOk P T) {p : Prop} {hdp : Decidable p} {o : BinOp} {xT yT : TypeId} {x y : Operand} (hv : aP T e0 (.binOp o xT x y yT) = some (B (decide p))) (hg : gd ops ⟨some d0, .binOp o xT x y yT, ty, pos, af, g⟩ e0 = some true) (hd : Nat.blt d0 N0 = true)
    (ht : p → ZZ P ops Q h1 ks' l ⟨N0, k0, (d0, B true) :: e0, h0⟩) (hf : ¬ p → ZZ P ops Q h1 ks' l ⟨N0, k0, (d0, B false) :: e0, h0⟩) : ZZ P ops Q h1 ks (⟨some d0, .binOp o xT x y yT, ty, pos, af, g⟩ :: l) ⟨N0, k0, e0, h0⟩ :=
  ⟨by rw [zipK_cons hs0]; exact wcmp (st := ⟨N0, k0, e0, h0⟩) (dst := some d0) hT hv hg hd (fun hp => (ht hp).out) (fun hp => (hf hp).out)⟩
theorem zeq (hs0 : stK ks = (k, ks')) (hT : TOk P T) {kk : IntKind} {a b : Int} {xT yT : TypeId} {x y : Operand} (hx : ev e0 x = some (.c (.sc (.int kk a)))) (hy : ev e0 y = some (.c (.sc (.int kk b)))) (hg : gd ops ⟨some d0, .binOp .eql xT x y yT, ty, pos, af, g⟩ e0 = some true) (hd : Nat.blt d0 N0 = true)
    (ht : a = b → ZZ P ops Q h1 ks' l ⟨N0, k0, (d0, B true) :: e0, h0⟩) (hf : ¬ a = b → ZZ P ops Q h1 ks' l ⟨N0, k0, (d0, B false) :: e0, h0⟩) : ZZ P ops Q h1 ks (⟨some d0, .binOp .eql xT x y yT, ty, pos, af, g⟩ :: l) ⟨N0, k0, e0, h0⟩ := ⟨by
  rw [zipK_cons hs0]
  refine wp (st := ⟨N0, k0, e0, h0⟩) (dst := some d0) hT (v := B (a == b)) (by unfold aP; simp only [hx, hy, binA, decide_true]) hg hd ?_
  by_cases hp : a = b
  · rw [show (a == b) = true from by simpa using hp]
    exact (ht hp).out
  · rw [show (a == b) = false from by simpa using hp]
    exact (hf hp).out⟩
theorem zne (hs0 : stK ks = (k, ks')) (hT : TOk P T) {kk : IntKind} {a b : Int} {xT yT : TypeId} {x y : Operand} (hx : ev e0 x = some (.c (.sc (.int kk a)))) (hy : ev e0 y = some (.c (.sc (.int kk b)))) (hg : gd ops ⟨some d0, .binOp .neq xT x y yT, ty, pos, af, g⟩ e0 = some true) (hd : Nat.blt d0 N0 = true)
    (ht : ¬ a = b → ZZ P ops Q h1 ks' l ⟨N0, k0, (d0, B true) :: e0, h0⟩) (hf : a = b → ZZ P ops Q h1 ks' l ⟨N0, k0, (d0, B false) :: e0, h0⟩) : ZZ P ops Q h1 ks (⟨some d0, .binOp .neq xT x y yT, ty, pos, af, g⟩ :: l) ⟨N0, k0, e0, h0⟩ := ⟨by
  rw [zipK_cons hs0]
  refine wp (st := ⟨N0, k0, e0, h0⟩) (dst := some d0) hT (v := B (a != b)) (by unfold aP; simp only [hx, hy, binA, decide_true]) hg hd ?_
  by_cases hp : a = b
  · rw [show (a != b) = false from by simpa using hp]
    exact (hf hp).out
  · rw [show (a != b) = true from by simpa using hp]
    exact (ht hp).out⟩
/-- The same of yes and no. -/
theorem zbq (hs0 : stK ks = (k, ks')) {o : BinOp} {a b c : Bool} {xT yT : TypeId} {x y : Operand} (ho : (o = .eql ∧ c = (a == b)) ∨ (o = .neq ∧ c = (a != b))) (hx : ev e0 x = some (B a)) (hy : ev e0 y = some (B b)) (hg : gd ops ⟨some d0, .binOp o xT x y yT, ty, pos, af, g⟩ e0 = some true) (hd : Nat.blt d0 N0 = true)
    (hr : ∀ w, (do eqGuard o xT x y (.bool a) (.bool b); binOp o xT (.bool a) (.bool b) : Sem Value).run P w = .ok (.bool c) w) (ht : c = true → ZZ P ops Q h1 ks' l ⟨N0, k0, (d0, B true) :: e0, h0⟩) (hf : c = false → ZZ P ops Q h1 ks' l ⟨N0, k0, (d0, B false) :: e0, h0⟩) : ZZ P ops Q h1 ks (⟨some d0, .binOp o xT x y yT, ty, pos, af, g⟩ :: l) ⟨N0, k0, e0, h0⟩ := ⟨by
  rw [zipK_cons hs0]
  refine WS_P (st := ⟨N0, k0, e0, h0⟩) (dst := some d0) (v := B c) (fun Γ ρ a' w0 hrel => ⟨.bool c, ⟨rfl, rfl⟩, fun w => ?_⟩) hg hd ?_
  · have e1 := R_bool (ev_R hrel.env hx)
    have e2 := R_bool (ev_R hrel.env hy)
    have := hr w
    simp only [Sem.run_bind] at this
    unfold execOp
    simp only [e1, e2, Sem.run_bind]
    rcases ho with ⟨rfl, _⟩ | ⟨rfl, _⟩ <;> simp_all [eqGuard]
  · cases c
    · exact (hf rfl).out
    · exact (ht rfl).out⟩
/-- The same of text. -/
theorem zstr (hs0 : stK ks = (k, ks')) (hT : TOk P T) {a b : ByteArray} {xT yT : TypeId} {x y : Operand} (hx : ev e0 x = some (.c (.sc (.string a)))) (hy : ev e0 y = some (.c (.sc (.string b)))) (hg : gd ops ⟨some d0, .binOp .eql xT x y yT, ty, pos, af, g⟩ e0 = some true) (hd : Nat.blt d0 N0 = true)
    (ht : a.toList = b.toList → ZZ P ops Q h1 ks' l ⟨N0, k0, (d0, B true) :: e0, h0⟩) (hf : ¬ a.toList = b.toList → ZZ P ops Q h1 ks' l ⟨N0, k0, (d0, B false) :: e0, h0⟩) : ZZ P ops Q h1 ks (⟨some d0, .binOp .eql xT x y yT, ty, pos, af, g⟩ :: l) ⟨N0, k0, e0, h0⟩ := ⟨by
  rw [zipK_cons hs0]
  refine wp (st := ⟨N0, k0, e0, h0⟩) (dst := some d0) hT (v := B (a.toList == b.toList)) (by unfold aP; simp only [hx, hy, binA]) hg hd ?_
  by_cases hp : a.toList = b.toList
  · rw [show (a.toList == b.toList) = true from by simpa using hp]
    exact (ht hp).out
  · rw [show (a.toList == b.toList) = false from by simpa using hp]
    exact (hf hp).out⟩
/-! Rows. -/
theorem zix (hs0 : stK ks = (k, ks')) (hT : TOk P T) {t e : TypeId} {x y : Operand} {o n : Nat} {ob : AO} {k' : IntKind} {i : Int} {ti te : TI} (hx : ev e0 x = some (.c (.row o 0 n))) (hy : ev e0 y = some (.c (.sc (.int k' i)))) (ht : tlk t T = some ti) (hs : ti.d = .slice e) (hte : tlk e T = some te) (ho : h0[o]? = some (some ob)) (hsz : te.size = ob.sz) (hb : 0 ≤ i ∧ i < n)
    (hg : gd ops ⟨some d0, .indexAddr t x y, ty, pos, af, g⟩ e0 = some true) (hd : Nat.blt d0 N0 = true) (h : ZZ P ops Q h1 ks' l ⟨N0, k0, (d0, (.c (.ptr o i.toNat 0))) :: e0, h0⟩) : ZZ P ops Q h1 ks (⟨some d0, .indexAddr t x y, ty, pos, af, g⟩ :: l) ⟨N0, k0, e0, h0⟩ :=
  ⟨by
    rw [zipK_cons hs0]
    refine wix (st := ⟨N0, k0, e0, h0⟩) (dst := some d0) hT hx hy ht hs hte ho hsz hb hg hd ?_
    rw [Nat.zero_add]
    exact h.out⟩
theorem zle (hs0 : stK ks = (k, ks')) (hT : TOk P T) {α : Type} {inst : Enc α} {t : TypeId} {x : Operand} {o q : Nat} {i : Int} {own : Bool} {e sz : Nat} {xs : List α} {ti : TI} {v v' : AV} (hk' : (k != Sk.p) = true) (hx : ev e0 x = some (.c (.ptr o i.toNat q))) (ho : (hk k h1 h0)[o]? = some (some ⟨own, e, sz, .fl (xs.map Enc.enc)⟩)) (ht : tlk t T = some ti)
    (hb : 0 ≤ i ∧ i < xs.length) (hv : ldW ti ((Enc.enc (rd xs i)).map .sc) q = some v) (hf : fV1 v = some v') (hg : gd ops ⟨some d0, .load t x, ty, pos, af, g⟩ e0 = some true) (hd : Nat.blt d0 N0 = true) (h : ZZ P ops Q h1 ks' l ⟨N0, k0, (d0, v') :: e0, h0⟩) : ZZ P ops Q h1 ks (⟨some d0, .load t x, ty, pos, af, g⟩ :: l) ⟨N0, k0, e0, h0⟩ :=
  ⟨by rw [zipK_cons hs0, ← fV1_eq hf] at *; exact wle (st := ⟨N0, k0, e0, h0⟩) (dst := some d0) hT hk' hx ho ht (enc_at hb) hv hg hd h.out⟩
/-- The same, what is read being a yes or a no. -/
theorem zlb (hs0 : stK ks = (k, ks')) (hT : TOk P T) {α : Type} {inst : Enc α} {t : TypeId} {x : Operand} {o q : Nat} {i : Int} {own : Bool} {e sz : Nat} {xs : List α} {ti : TI} {b : Bool} (hk' : (k != Sk.p) = true) (hx : ev e0 x = some (.c (.ptr o i.toNat q))) (ho : (hk k h1 h0)[o]? = some (some ⟨own, e, sz, .fl (xs.map Enc.enc)⟩)) (ht : tlk t T = some ti)
    (hb : 0 ≤ i ∧ i < xs.length) (hv : ldW ti ((Enc.enc (rd xs i)).map .sc) q = some (B b)) (hg : gd ops ⟨some d0, .load t x, ty, pos, af, g⟩ e0 = some true) (hd : Nat.blt d0 N0 = true) (hy : b = true → ZZ P ops Q h1 ks' l ⟨N0, k0, (d0, B true) :: e0, h0⟩) (hn : b = false → ZZ P ops Q h1 ks' l ⟨N0, k0, (d0, B false) :: e0, h0⟩) : ZZ P ops Q h1 ks (⟨some d0, .load t x, ty, pos, af, g⟩ :: l) ⟨N0, k0, e0, h0⟩ :=
  ⟨by
    rw [zipK_cons hs0]
    refine wle (st := ⟨N0, k0, e0, h0⟩) (dst := some d0) hT hk' hx ho ht (enc_at hb) hv hg hd ?_
    cases b
    · exact (hn rfl).out
    · exact (hy rfl).out⟩
theorem zse (hs0 : stK ks = (Sk.l, ks')) (hT : TOk P T) {α : Type} {inst : Enc α} {t : TypeId} {x y : Operand} {o q : Nat} {i : Int} {e sz : Nat} {xs : List α} {x' : α} {vs : List Value} {ti : TI} {v : AV} {vcs : List AC} {h' : AH} (hx : ev e0 x = some (.c (.ptr o i.toNat q))) (hy : ev e0 y = some v) (ho : h0[o]? = some (some ⟨true, e, sz, .fl (xs.map Enc.enc)⟩)) (ht : tlk t T = some ti) (hv : boxCs v = some vcs) (hp : El.put.plain vcs = some vs)
    (hb : 0 ≤ i ∧ i < xs.length) (hsz : Nat.beq vs.length ti.size = true) (hq : Nat.ble (q + ti.size) (Enc.sz α) = true) (hc : Enc.dec (setC (Enc.enc (rd xs i)) q vs) = some x') (hh : putH h0 o (some ⟨true, e, sz, .fl ((upd xs i x').map Enc.enc)⟩) = some h') (hg : gd ops ⟨none, .store t x y, ty, pos, af, g⟩ e0 = some true)
    (h : ZZ P ops Q h1 ks' l ⟨N0, k0, e0, h'⟩) : ZZ P ops Q h1 ks (⟨none, .store t x y, ty, pos, af, g⟩ :: l) ⟨N0, k0, e0, h0⟩ :=
  ⟨by
    rw [zipK_cons hs0]
    have h2 := putH_eq hh
    have h3 : (xs.map Enc.enc).set i.toNat (Enc.enc x') = (upd xs i x').map Enc.enc := by simp [upd]
    refine wse (st := ⟨N0, k0, e0, h0⟩) hT hx hy ho ht hv hp (enc_at hb) (Nat.eq_of_beq_eq_true hsz) (by rw [Enc.len]; exact Nat.le_of_ble_eq_true hq) (Enc.decE hc).symm hg ?_
    show WZ P ops Q h1 (zipK ks' l) ⟨N0, k0, e0, h0.set o (some ⟨true, e, sz, .fl ((xs.map Enc.enc).set i.toNat (Enc.enc x'))⟩)⟩
    rw [h3, h2]
    exact h.out⟩
theorem zsl (hs0 : stK ks = (k, ks')) (hT : TOk P T) {α : Type} {inst : Enc α} {t e : TypeId} {x : Operand} {lo hi : Option Operand} {o : Nat} {own : Bool} {e' sz : Nat} {xs : List α} {a b : Int} {ti te : TI} {hv h' : AH} {nn : Nat} (hx : ev e0 x = some (.c (.row o 0 xs.length))) (ht : tlk t T = some ti) (hs : ti.d = .slice e) (hte : tlk e T = some te) (ho : h0[o]? = some (some ⟨own, e', sz, .fl (xs.map Enc.enc)⟩)) (hsz : te.size = sz) (hl : loV e0 lo 0 = some a) (hh : loV e0 hi xs.length = some b) (hb : 0 ≤ a ∧ a ≤ b ∧ b ≤ xs.length)
    (hvw : putH h0 o (some ⟨false, e', sz, .fl (xs.map Enc.enc)⟩) = some hv) (hadd : addH hv (ro e' (sub xs a b)) = some (nn, h')) (hse : Enc.sz α = sz) (hg : gd ops ⟨some d0, .slice t x lo hi none, ty, pos, af, g⟩ e0 = some true) (hd : Nat.blt d0 N0 = true) (h : ZZ P ops Q h1 ks' l ⟨N0, k0, (d0, (.c (.row nn 0 (sub xs a b).length))) :: e0, h'⟩) : ZZ P ops Q h1 ks (⟨some d0, .slice t x lo hi none, ty, pos, af, g⟩ :: l) ⟨N0, k0, e0, h0⟩ :=
  ⟨by
    rw [zipK_cons hs0]
    refine wsl (st := ⟨N0, k0, e0, h0⟩) (dst := some d0) hT hx ht hs hte ho hsz hl hh hb hg hd ?_
    obtain ⟨h2, h3⟩ := addH_eq hadd
    have h4 := putH_eq hvw
    have hlt : o < h0.length := (List.getElem?_eq_some_iff.1 ho).1
    refine zgh (st2 := ⟨N0, k0, (d0, .c (.row o (0 + a.toNat) (b.toNat - a.toNat))) :: e0, hv⟩) (ghost_view (st := ⟨N0, k0, (d0, .c (.row o (0 + a.toNat) (b.toNat - a.toNat))) :: e0, h0⟩) (by rw [← h4]; simp) (fun i ob hi => ?_)) ?_
    · rw [← h4] at hi
      by_cases e : o = i
      · subst e
        rw [List.getElem?_set_self hlt] at hi
        exact ⟨_, false, ho, by simpa [AO.view] using hi.symm⟩
      · rw [List.getElem?_set_ne e] at hi
        exact ⟨ob, true, hi, by simp [AO.view]⟩
    have h5 : hv[o]? = some (some ⟨false, e', sz, .fl (xs.map Enc.enc)⟩) := by rw [← h4, List.getElem?_set_self hlt]
    refine zgh (ghost_sub (st := ⟨N0, k0, (d0, .c (.row o (0 + a.toNat) (b.toNat - a.toNat))) :: e0, hv⟩) (lk_cons_eq _ _ _) h5 (by rw [List.length_map]; omega)) ?_
    have h6 : ((xs.map Enc.enc).drop (0 + a.toNat)).take (b.toNat - a.toNat) = (sub xs a b).map Enc.enc := by
      simp only [sub, Nat.zero_add, List.drop_take, List.map_take, List.map_drop]
    have h7 : b.toNat - a.toNat = (sub xs a b).length := by
      simp only [sub, List.length_drop, List.length_take]
      omega
    show WZ P ops Q h1 (zipK ks' l) ⟨N0, k0, (d0, .c (.row hv.length 0 (b.toNat - a.toNat))) :: (d0, _) :: e0, hv ++ [some ⟨false, e', sz, .fl (((xs.map Enc.enc).drop (0 + a.toNat)).take (b.toNat - a.toNat))⟩]⟩
    have h8 : hv ++ [some ⟨false, e', sz, .fl (((xs.map Enc.enc).drop (0 + a.toNat)).take (b.toNat - a.toNat))⟩] = h' := by
      rw [h6, ← h2, ro, hse]
    rw [h8, h3, h7]
    refine zgh (st2 := ⟨N0, k0, (d0, .c (.row nn 0 (sub xs a b).length)) :: e0, h'⟩) (fun Γ ρ a w hr => ⟨ρ, Ext.refl _, hr.holds, hr.len, hr.klen, hr.args, fun t v ht => hr.env t v ?_, hr.defers, hr.size⟩) h.out
    by_cases e : d0 = t
    · subst e
      rw [lk_cons_eq] at ht ⊢
      exact ht
    · rw [lk_cons_ne e] at ht ⊢
      rw [lk_cons_ne e]
      exact ht⟩
end
end Go.Proofs.YtnlajjoheegbiaaGreat.Sh
