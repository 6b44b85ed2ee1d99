/- Symbolic memory: things compared whole. No condition. -/
import Derived.Test.YtnlajjoheegbiaaGreatShS
import Derived.Laws.StructEq
namespace Go.Proofs.YtnlajjoheegbiaaGreat.Sh
open Go.RowKit Go.Proofs.YtnlajjoheegbiaaGreatW
set_option linter.unusedVariables false
/-- Whole things of a type are compared by their parts. -/
structure AEq (P : Program) (t : TypeId) (α : Type) [Enc α] : Prop where
  eq : ∀ (u v : α) (w : World), (Op.equal t (.agg (Enc.enc u).toArray) (.agg (Enc.enc v).toArray)).run P w = .ok (dB (u = v)) w
  guard : P.eqGuardType P.depth t = false
def okF (P : Program) : List Field → Nat → Bool
  | [], _ => true
  | f :: fs, i => (f.name != "_") && Nat.beq f.offset i && (match P.underlying f.type with | some (.int .i64) => true | _ => false) && okF P fs (i + 1)
theorem eqF {P : Program} {d : Nat} {xs ys : Array Value} {w : World} : ∀ (fs : List Field) (i : Nat) (us vs : List Int), okF P fs i = true → us.length = fs.length → vs.length = fs.length →
    (∀ (j : Nat) u, us[j]? = some u → xs[i + j]? = some (.int .i64 u)) → (∀ (j : Nat) u, vs[j]? = some u → ys[i + j]? = some (.int .i64 u)) → (Op.eqFields (d + 1) xs ys fs).run P w = .ok (decide (us = vs)) w
  | [], i, us, vs, _, h1, h2, _, _ => by
    obtain rfl := List.length_eq_zero_iff.1 h1
    obtain rfl := List.length_eq_zero_iff.1 h2
    simp [Op.eqFields]
  | f :: fs, i, [], _, _, h1, _, _, _ => by simp at h1
  | f :: fs, i, _ :: _, [], _, _, h2, _, _ => by simp at h2
  | f :: fs, i, u :: us, v :: vs, hk, h1, h2, hx, hy => by
    simp only [okF, Bool.and_eq_true] at hk
    obtain ⟨⟨⟨k1, k2⟩, k3⟩, k4⟩ := hk
    have k1 : f.name ≠ "_" := by simpa using k1
    have k2 := Nat.eq_of_beq_eq_true k2
    have k3 : P.underlying f.type = some (.int .i64) := by
      split at k3
      · assumption
      · cases k3
    have hag : (isAgg f.type).run P w = .ok false w := by
      unfold isAgg
      simp only [Sem.run_bind]
      unfold underlying
      simp [k3]
    have ha : (part f.type xs f.offset).run P w = .ok (.int .i64 u) w := by
      unfold part
      have := hx 0 u rfl
      simp only [Sem.run_bind, hag, Result.andThen_ok, k2]
      rw [Nat.add_zero] at this
      simp [this]
    have hb : (part f.type ys f.offset).run P w = .ok (.int .i64 v) w := by
      unfold part
      have := hy 0 v rfl
      simp only [Sem.run_bind, hag, Result.andThen_ok, k2]
      rw [Nat.add_zero] at this
      simp [this]
    have he : (Op.equalIn (d + 1) f.type (.int .i64 u) (.int .i64 v)).run P w = .ok (u == v) w := by
      unfold Op.equalIn
      simp only [Sem.run_bind]
      unfold underlying
      simp [k3]
    have ih := eqF (d := d) (xs := xs) (ys := ys) (w := w) fs (i + 1) us vs k4 (by simpa using h1) (by simpa using h2) (fun j x hj => by rw [Nat.add_assoc, Nat.add_comm 1 j]; exact hx (j + 1) x (by simpa using hj)) (fun j x hj => by rw [Nat.add_assoc, Nat.add_comm 1 j]; exact hy (j + 1) x (by simpa using hj))
    rw [Op.eqFields]
    simp only [if_pos k1, Sem.run_bind, ha, hb, he, Result.andThen_ok]
    by_cases e : u = v
    · subst e
      simpa using ih
    · have : (u == v) = false := by simpa using e
      simp [this, e]
theorem aeq {P : Program} {t : TypeId} {α : Type} [Enc α] (ints : α → List Int) {fs : Array Field} (hu : P.underlying t = some (.struct fs)) (hf : okF P fs.toList 0 = true) (hp : P.stoodInHeld t = false) (hg : P.eqGuardType P.depth t = false)
    (he : ∀ x, Enc.enc x = (ints x).map (.int .i64)) (hl : ∀ x, (ints x).length = fs.toList.length) (hi : ∀ x y, ints x = ints y → x = y) : AEq P t α := by
  refine ⟨fun u v w => ?_, hg⟩
  have hfo : P.fieldsOf t = fs := by simp [Program.fieldsOf, hu]
  unfold Op.equal
  obtain ⟨D, hD⟩ : ∃ D, Op.maxDepth = D + 1 + 1 := ⟨9998, rfl⟩
  rw [hD, run_equalIn_struct (P := P) w (D + 1) t _ _ (by rw [hfo]; exact hu) hp, hfo, eqF fs.toList 0 (ints u) (ints v) hf (hl u) (hl v) (fun j x hj => by rw [he, Nat.zero_add]; simp [hj]) (fun j x hj => by rw [he, Nat.zero_add]; simp [hj])]
  by_cases e : u = v
  · subst e
    simp [dB_t]
  · rw [dB_f e]
    simp
    exact fun h => e (hi u v h)
theorem plainE {cs : List AC} {vs : List Value} : cs = vs.map AC.sc → ∀ {ρ : Pl} {us : List Value}, All2 (AC.R ρ) cs us → us = vs := by
  intro h ρ us hr
  subst h
  induction vs generalizing us with
  | nil =>
    cases us with
    | nil => rfl
    | cons u us => exact hr.elim
  | cons v vs ih =>
    cases us with
    | nil => exact hr.elim
    | cons u us =>
      obtain ⟨h1, h2⟩ := hr
      have h1 : u = v := h1.1
      rw [h1, ih h2]
section
variable {P : Program} {T : TB} {ops : Array Oper} {Q : Exit → St → Prop} {h1 : AH} {k : Sk} {ks ks' : List Sk} {l : List Oper} {N0 k0 d0 : Nat} {e0 : List (Nat × AV)} {h0 : AH} {ty : TypeId} {pos : String} {af : Array Edge} {g : Option (Nat × Bool)}
/-- Whole things compared. -/
theorem opP_agg {st : St} {dst : Option Tmp} {t yT : TypeId} {x y : Operand} {α : Type} [Enc α] {o : BinOp} {b : Bool} (ha : AEq P t α) {u v : α} (hx : ev st.env x = some (.agg ((Enc.enc u).map .sc))) (hy : ev st.env y = some (.agg ((Enc.enc v).map .sc)))
    (ho : (o = .eql ∧ b = dB (u = v)) ∨ (o = .neq ∧ b = !(dB (u = v)))) : OpP P ⟨dst, .binOp o t x y yT, ty, pos, af, g⟩ st (B b) := fun Γ ρ a w0 hr => by
  obtain ⟨ar, e1, e2⟩ := ev_R hr.env hx
  obtain ⟨br, e3, e4⟩ := ev_R hr.env hy
  have e5 := plainE rfl e2
  have e6 := plainE rfl e4
  have e7 : ar = (Enc.enc u).toArray := by rw [← e5]
  have e8 : br = (Enc.enc v).toArray := by rw [← e6]
  refine ⟨.bool b, ⟨rfl, rfl⟩, fun w => ?_⟩
  have hq := ha.eq u v w
  have hg : ∀ o, (eqGuard o t x y (.agg ar) (.agg br)).run P w = .ok () w := by
    intro o
    unfold eqGuard
    simp [ha.guard]
  unfold execOp
  simp only [Sem.run_bind, e1, e3, hg, Result.andThen_ok]
  rcases ho with ⟨rfl, rfl⟩ | ⟨rfl, rfl⟩ <;> simp [binOp, e7, e8, hq]
theorem zsn {t yT : TypeId} {x y : Operand} {α : Type} {inst : Enc α} {u v : α} (ha : AEq P t α) (hs0 : stK ks = (k, ks')) (hx : ev e0 x = some (.agg ((Enc.enc u).map .sc))) (hy : ev e0 y = some (.agg ((Enc.enc v).map .sc))) (hg : gd ops ⟨some d0, .binOp .neq t x y yT, ty, pos, af, g⟩ e0 = some true) (hd : Nat.blt d0 N0 = true)
    (ht : ¬ u = v → ZZ P ops Q h1 ks' l ⟨N0, k0, (d0, B true) :: e0, h0⟩) (hf : u = v → ZZ P ops Q h1 ks' l ⟨N0, k0, (d0, B false) :: e0, h0⟩) : ZZ P ops Q h1 ks (⟨some d0, .binOp .neq t x y yT, ty, pos, af, g⟩ :: l) ⟨N0, k0, e0, h0⟩ := ⟨by
  rw [zipK_cons hs0]
  refine WS_P (st := ⟨N0, k0, e0, h0⟩) (dst := some d0) (opP_agg ha hx hy (.inr ⟨rfl, rfl⟩)) hg hd ?_
  by_cases e : u = v
  · rw [dB_t e]
    exact (hf e).out
  · rw [dB_f e]
    exact (ht e).out⟩
theorem eq_bool {P : Program} {t : TypeId} (hu : P.underlying t = some .bool) (a b : Bool) (w : World) : (Op.equal t (.bool a) (.bool b)).run P w = .ok (a == b) w := by
  unfold Op.equal
  obtain ⟨D, hD⟩ : ∃ D, Op.maxDepth = D + 1 := ⟨9999, rfl⟩
  rw [hD]
  unfold Op.equalIn
  simp only [Sem.run_bind]
  unfold underlying
  simp [hu]
def bqA : BinOp → Bool → Bool → Option Bool
  | .eql, true, b => some b
  | .eql, false, true => some false
  | .eql, false, false => some true
  | .neq, true, true => some false
  | .neq, true, false => some true
  | .neq, false, b => some b
  | _, _, _ => none
/-- Yes and no compared, both known. -/
theorem zbl (hs0 : stK ks = (k, ks')) (hT : TOk P T) {o : BinOp} {t yT : TypeId} {x y : Operand} {a b c : Bool} {ti : TI} (hx : ev e0 x = some (B a)) (hy : ev e0 y = some (B b)) (hc : bqA o a b = some c) (ht : tlk t T = some ti) (hb : ti.d = .bool) (hg : gd ops ⟨some d0, .binOp o t x y yT, ty, pos, af, g⟩ e0 = some true) (hd : Nat.blt d0 N0 = true)
    (h : ZZ P ops Q h1 ks' l ⟨N0, k0, (d0, B c) :: e0, h0⟩) : ZZ P ops Q h1 ks (⟨some d0, .binOp o t x y yT, ty, pos, af, g⟩ :: l) ⟨N0, k0, e0, h0⟩ := ⟨by
  rw [zipK_cons hs0]
  refine WS_P (st := ⟨N0, k0, e0, h0⟩) (dst := some d0) (v := B c) (fun Γ ρ a' w0 hrel => ⟨.bool c, ⟨rfl, rfl⟩, fun w => ?_⟩) hg hd h.out
  have e1 := R_bool (ev_R hrel.env hx)
  have e2 := R_bool (ev_R hrel.env hy)
  have hu : P.underlying t = some .bool := by have := tlk_und hT ht; rw [hb] at this; exact this
  have hq := eq_bool hu a b w
  unfold execOp
  cases o <;> cases a <;> cases b <;> cases hc <;> simp [e1, e2, eqGuard, binOp, hq]⟩
end
theorem aeq_Account : AEq Tryz.prog 94 Account := aeq (fun x => [x.No, x.Kind]) Tryz.underlying94 (by kernel_rfl) (by kernel_rfl) (by kernel_rfl) (fun _ => rfl) (fun _ => rfl) (fun x y h => by cases x; cases y; simp_all)
theorem aeq_Instr : AEq Tryz.prog 95 Instr := aeq (fun x => [x.No, x.Kind]) Tryz.underlying95 (by kernel_rfl) (by kernel_rfl) (by kernel_rfl) (fun _ => rfl) (fun _ => rfl) (fun x y h => by cases x; cases y; simp_all)
theorem aeq_Bal : AEq Tryz.prog 97 Bal := aeq (fun x => [x.Account, x.Instr, x.Amount]) Tryz.underlying97 (by kernel_rfl) (by kernel_rfl) (by kernel_rfl) (fun _ => rfl) (fun _ => rfl) (fun x y h => by cases x; cases y; simp_all)
theorem aeq_Lot : AEq Tryz.prog 99 Lot := aeq (fun x => [x.Account, x.Instr, x.No, x.Qty, x.Cost]) Tryz.underlying99 (by kernel_rfl) (by kernel_rfl) (by kernel_rfl) (fun _ => rfl) (fun _ => rfl) (fun x y h => by cases x; cases y; simp_all)
theorem aeq_Trade : AEq Tryz.prog 101 Trade := aeq (fun x => [x.No, x.Buyer, x.Seller, x.Paper, x.Qty, x.Cash, x.Price, x.State]) Tryz.underlying101 (by kernel_rfl) (by kernel_rfl) (by kernel_rfl) (fun _ => rfl) (fun _ => rfl) (fun x y h => by cases x; cases y; simp_all)
end Go.Proofs.YtnlajjoheegbiaaGreat.Sh
