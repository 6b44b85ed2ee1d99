/- Symbolic memory: stores, rows. No condition. -/
import Derived.Test.YtnlajjoheegbiaaGreatShE
namespace Go.Proofs.YtnlajjoheegbiaaGreat.Sh
open Go.RowKit Go.Proofs.YtnlajjoheegbiaaGreatW
set_option linter.unusedVariables false
theorem lit_add (g j : Nat) : ((⟨g, 0, none⟩ : Addr).add j) = ⟨g, j, none⟩ := by
  unfold Addr.add
  split <;> simp_all
/-- The cells of an own object's block: element by element. -/
theorem own_block {Γ : Ctx} {ρ : Pl} {h : AH} {w : World} (hH : Holds Γ ρ h w) {o i : Nat} {ob : AO} (ho : h[o]? = some (some ob)) (hown : ob.own = true) {cs : List AC} (hi : ob.el.get i = some cs) :
    ∃ sl g cur, ρ[o]? = some sl ∧ sl.sz = ob.sz ∧ sl.a = some ⟨g, 0, none⟩ ∧ w.heap[g]? = some (.cells cur ob.ty (0, 0)) ∧ cur.size = sl.cap * ob.sz ∧ i < ob.el.len ∧ ob.el.len ≤ sl.cap ∧ cs.length = ob.sz ∧ sl.ro = false := by
  obtain ⟨sl, h1, h2⟩ := hH.obj o ob ho
  obtain ⟨h3, a, h4, _⟩ := h2.cell i cs hi
  have hlen : i < ob.el.len := by
    cases he : ob.el with
    | fl xs =>
      rw [he] at hi
      obtain ⟨c, hc, _⟩ := Option.map_eq_some_iff.1 hi
      exact (List.getElem?_eq_some_iff.1 hc).1
    | mx c =>
      rw [he] at hi
      cases i with
      | zero => exact Nat.one_pos
      | succ i => cases hi
  obtain ⟨h5, h6⟩ := h2.own hown
  rcases h6 with ⟨h6, _⟩ | ⟨g, cur, h6, h7, h8⟩
  · rw [h4] at h6
    cases h6
  · exact ⟨sl, g, cur, h1, h2.sz, h6, h7, h8, hlen, h2.len, h3, h5⟩
/-- Element i of an object is another. -/
def El.put (e : El) (i : Nat) (cs : List AC) : Option El := match e, i with
  | .mx _, 0 => some (.mx cs)
  | .fl xs, i => match plain cs with
    | some vs => some (.fl (xs.set i vs))
    | none => none
  | _, _ => none
where plain : List AC → Option (List Value)
  | [] => some []
  | .sc v :: r => match plain r with
    | some vs => some (v :: vs)
    | none => none
  | _ :: _ => none
theorem plain_eq : ∀ {cs : List AC} {vs : List Value}, El.put.plain cs = some vs → cs = vs.map .sc
  | [], vs, h => by
    cases h
    rfl
  | .sc v :: r, vs, h => by
    unfold El.put.plain at h
    split at h
    · rename_i vs' h1
      cases h
      rw [plain_eq h1]
      rfl
    · cases h
  | .ptr _ _ _ :: _, _, h => by simp [El.put.plain] at h
  | .row _ _ _ :: _, _, h => by simp [El.put.plain] at h
  | .fn _ _ :: _, _, h => by simp [El.put.plain] at h
  | .cp _ _ :: _, _, h => by simp [El.put.plain] at h
  | .e0 :: _, _, h => by simp [El.put.plain] at h
theorem El.put_len {e e' : El} {i : Nat} {cs : List AC} (h : e.put i cs = some e') : e'.len = e.len := by
  unfold El.put at h
  split at h
  · cases h
    rfl
  · split at h
    · cases h
      simp [El.len]
    · cases h
  · cases h
theorem El.put_get {e e' : El} {i : Nat} {cs : List AC} (h : e.put i cs = some e') (hi : i < e.len) : e'.get i = some cs ∧ ∀ j, j ≠ i → e'.get j = e.get j := by
  unfold El.put at h
  split at h
  · cases h
    refine ⟨rfl, fun j hj => ?_⟩
    cases j with
    | zero => exact (hj rfl).elim
    | succ j => rfl
  · rename_i _ xs
    split at h
    · rename_i vs hp
      cases h
      have hi : i < xs.length := hi
      refine ⟨?_, fun j hj => ?_⟩
      · show ((xs.set i vs)[i]?).map _ = _
        rw [List.getElem?_set_self hi, plain_eq hp]
        rfl
      · show ((xs.set i vs)[j]?).map _ = (xs[j]?).map _
        rw [List.getElem?_set_ne (Ne.symm hj)]
    · cases h
  · cases h
theorem setRow_other' (w : World) (g : Nat) (cs : Array Value) (k : Nat) (h : k ≠ g) : (w.setRow g cs).heap[k]? = w.heap[k]? := by
  unfold World.setRow
  rw [Array.getElem?_modify]
  simp [Ne.symm h]
theorem setRow_size (w : World) (g : Nat) (cs : Array Value) : (w.setRow g cs).heap.size = w.heap.size := by
  unfold World.setRow
  simp
theorem seg_get {cur : List Value} {q : Nat} {vs : List Value} (h : q + vs.length ≤ cur.length) (j : Nat) : (cur.take q ++ vs ++ cur.drop (q + vs.length))[j]? = if q ≤ j ∧ j < q + vs.length then vs[j - q]? else cur[j]? := by
  by_cases h1 : j < q
  · rw [if_neg (by omega), List.append_assoc, List.getElem?_append_left (by rw [List.length_take]; omega), List.getElem?_take_of_lt h1]
  · by_cases h2 : j < q + vs.length
    · rw [if_pos ⟨by omega, h2⟩, List.append_assoc, List.getElem?_append_right (by rw [List.length_take]; omega), List.length_take, Nat.min_eq_left (by omega), List.getElem?_append_left (by omega)]
    · rw [if_neg (by omega), List.getElem?_append_right (by rw [List.length_append, List.length_take]; omega), List.length_append, List.length_take, Nat.min_eq_left (by omega), List.getElem?_drop]
      congr 1
      omega
section
variable {P : Program} {T : TB}
/-- A store: cells from q on of element i are written. -/
theorem opW_store (hT : TOk P T) {st : St} {dst : Option Tmp} {t : TypeId} {x y : Operand} {ty : TypeId} {pos : String} {af : Array Edge} {g : Option (Nat × Bool)} {o i q : Nat} {ob : AO} {cs vcs : List AC} {ti : TI} {v : AV} {e' : El} (hd : dst = none)
    (hx : ev st.env x = some (.c (.ptr o i q))) (hy : ev st.env y = some v) (ht : tlk t T = some ti) (hv : boxCs v = some vcs) (hsz : vcs.length = ti.size) (ho : st.h[o]? = some (some ob)) (hown : ob.own = true) (hi : ob.el.get i = some cs) (hq : q + ti.size ≤ cs.length)
    (he : ob.el.put i (cs.take q ++ vcs ++ cs.drop (q + vcs.length)) = some e') :
    OpW P ⟨dst, .store t x y, ty, pos, af, g⟩ st (fun st' => st' = { st with h := st.h.set o (some ⟨ob.own, ob.ty, ob.sz, e'⟩) }) := fun Γ ρ a w hr K' Q' hk => by
  subst hd
  obtain ⟨sl, gb, cur, k1, k2, k3, k4, k5, k6, k7, k8, k9⟩ := own_block hr.holds ho hown hi
  obtain ⟨sl', ad, e1, e2, e3⟩ := R_ptr (ev_R hr.env hx)
  have : sl = sl' := by rw [k1] at e1; exact Option.some.inj e1
  subst this
  have : ad = ⟨gb, 0, none⟩ := by rw [k3] at e2; exact (Option.some.inj e2).symm
  subst this
  obtain ⟨hvc, hvp⟩ := box_R hv (ev_R hr.env hy)
  obtain ⟨vl, hvl0⟩ : ∃ vl, vl = (a.eval y).cells.toList := ⟨_, rfl⟩
  rw [← hvl0] at hvc
  have hvl := hvc.length
  have hvs : (a.eval y).cells.size = vl.length := by rw [hvl0, Array.length_toList]
  have hbound : i * ob.sz + ob.sz ≤ sl.cap * ob.sz := by
    have : (i + 1) * ob.sz ≤ sl.cap * ob.sz := Nat.mul_le_mul_right _ (by omega)
    rwa [Nat.add_mul, Nat.one_mul] at this
  have hone : ∀ u ∈ vl, u.oneCell' = true := fun u hu => by
    obtain ⟨j, hj⟩ := List.getElem?_of_mem hu
    have hjl : j < vcs.length := by rw [hvl]; exact (List.getElem?_eq_some_iff.1 hj).1
    obtain ⟨u', h1, h2⟩ := hvc.get (List.getElem?_eq_getElem hjl)
    rw [hj] at h1
    cases h1
    exact AC.R_one h2
  have hst := run_storeCells_at P gb (i * ob.sz + q) ob.ty vl 0 cur w k4 (by rw [← hvl, k5]; omega) hone
  simp only [Nat.add_zero] at hst
  unfold Oper.wp
  have hrun : (execOp a.eval ⟨none, .store t x y, ty, pos, af, g⟩).run P w = .ok .skip (w.setRow gb (cur.toList.take (i * ob.sz + q) ++ vl ++ cur.toList.drop (i * ob.sz + q + vl.length)).toArray) := by
    have hne : ¬ ((a.eval y).cells.size ≠ ti.size) := by
      rw [hvs, ← hvl, hsz]
      simp
    unfold execOp
    simp only [Instr.storeAt, e3, Instr.sureAddr, storeVar, Sem.run_bind, Sem.run_pure, Result.andThen_ok, run_size hT ht, hne, k2, lit_add, Sem.run_ite]
    rw [← hvl0]
    simp [hst]
  rw [hrun]
  generalize hcur : (cur.toList.take (i * ob.sz + q) ++ vl ++ cur.toList.drop (i * ob.sz + q + vl.length)) = cur'
  have hcurl : cur.toList.length = cur.size := Array.length_toList
  have hfit : i * ob.sz + q + vl.length ≤ cur.toList.length := by
    rw [hcurl, k5, ← hvl]
    omega
  have hcl : cur'.length = cur.size := by
    rw [← hcur]
    simp only [List.length_append, List.length_take, List.length_drop, hcurl]
    omega
  have hget : ∀ j, cur'[j]? = if i * ob.sz + q ≤ j ∧ j < i * ob.sz + q + vcs.length then vl[j - (i * ob.sz + q)]? else cur[j]? := fun j => by
    rw [← hcur, seg_get hfit, hvl]
    simp only [Array.getElem?_toList]
  obtain ⟨sl2, m1, m2⟩ := hr.holds.obj o ob ho
  have : sl2 = sl := by rw [m1] at k1; exact Option.some.inj k1
  subst this
  have hheap : (w.setRow gb cur'.toArray).heap[gb]? = some (.cells cur'.toArray ob.ty (0, 0)) := setRow_heap w gb cur _ ob.ty _ k4
  obtain ⟨p1, p2⟩ := El.put_get he k6
  have hcell : ∀ j, (w.setRow gb cur'.toArray).cell? ((⟨gb, 0, none⟩ : Addr).add j) = cur'[j]? := fun j => by
    rw [lit_add, cell_of_row _ _ _ _ _ _ hheap]
    simp
  have hold : ∀ j, w.cell? ((⟨gb, 0, none⟩ : Addr).add j) = cur[j]? := fun j => by
    rw [lit_add, cell_of_row _ _ _ _ _ _ k4]
  have hcsl : (cs.take q ++ vcs ++ cs.drop (q + vcs.length)).length = ob.sz := by
    simp only [List.length_append, List.length_take, List.length_drop]
    omega
  have hobj : ObjH ρ sl2 ⟨ob.own, ob.ty, ob.sz, e'⟩ (w.setRow gb cur'.toArray) := by
    refine ⟨m2.sz, m2.pos, by show e'.len ≤ _; rw [El.put_len he]; exact m2.len, m2.max, fun a' ha' => by rw [setRow_size]; exact m2.lt a' ha', m2.nil, fun i' cs' hi' => ?_, fun _ => ⟨k9, .inr ⟨gb, cur'.toArray, k3, hheap, by simp [hcl, k5]⟩⟩⟩
    have hi' : e'.get i' = some cs' := hi'
    by_cases ei : i' = i
    · subst ei
      rw [p1] at hi'
      cases hi'
      refine ⟨hcsl, _, k3, fun j z hz => ?_⟩
      show ∃ v, (w.setRow gb cur'.toArray).cell? ((⟨gb, 0, none⟩ : Addr).add (i' * ob.sz + j)) = some v ∧ z.R ρ v
      have hj : j < ob.sz := by rw [← hcsl]; exact (List.getElem?_eq_some_iff.1 hz).1
      rw [hcell, hget]
      by_cases hin : q ≤ j ∧ j < q + vcs.length
      · rw [if_pos (by omega)]
        rw [List.append_assoc, List.getElem?_append_right (by rw [List.length_take]; omega), List.length_take, Nat.min_eq_left (by omega), List.getElem?_append_left (by omega)] at hz
        obtain ⟨u, h1, h2⟩ := hvc.get hz
        exact ⟨u, by rw [show i' * ob.sz + j - (i' * ob.sz + q) = j - q from by omega]; exact h1, h2⟩
      · rw [if_neg (by omega)]
        have hz' : cs[j]? = some z := by
          by_cases hjq : j < q
          · rw [List.append_assoc, List.getElem?_append_left (by rw [List.length_take]; omega), List.getElem?_take_of_lt hjq] at hz
            exact hz
          · rw [List.getElem?_append_right (by simp only [List.length_append, List.length_take]; omega), List.length_append, List.length_take, Nat.min_eq_left (by omega), List.getElem?_drop] at hz
            rwa [show q + vcs.length + (j - (q + vcs.length)) = j from by omega] at hz
        obtain ⟨_, a2, ha2, hc2⟩ := m2.cell i' cs hi
        rw [k3] at ha2
        cases ha2
        obtain ⟨u, h1, h2⟩ := hc2 j z hz'
        rw [hold] at h1
        exact ⟨u, h1, h2⟩
    · rw [p2 i' ei] at hi'
      obtain ⟨h1, a2, ha2, hc2⟩ := m2.cell i' cs' hi'
      rw [k3] at ha2
      cases ha2
      refine ⟨h1, _, k3, fun j z hz => ?_⟩
      obtain ⟨u, h2, h3⟩ := hc2 j z hz
      rw [hold] at h2
      refine ⟨u, ?_, h3⟩
      show (w.setRow gb cur'.toArray).cell? ((⟨gb, 0, none⟩ : Addr).add (i' * ob.sz + j)) = some u
      rw [hcell, hget, if_neg ?_]
      · exact h2
      · have hj : j < ob.sz := by have := (List.getElem?_eq_some_iff.1 hz).1; have h1 : cs'.length = ob.sz := h1; omega
        rintro ⟨q1, q2⟩
        have q1 : i * ob.sz + q ≤ i' * ob.sz + j := q1
        have q2 : i' * ob.sz + j < i * ob.sz + q + vcs.length := q2
        rcases Nat.lt_or_ge i' i with hlt | hge
        · have : (i' + 1) * ob.sz ≤ i * ob.sz := Nat.mul_le_mul_right _ hlt
          rw [Nat.add_mul, Nat.one_mul] at this
          omega
        · have : (i + 1) * ob.sz ≤ i' * ob.sz := Nat.mul_le_mul_right _ (by omega)
          rw [Nat.add_mul, Nat.one_mul] at this
          omega
  have holt : o < st.h.length := (List.getElem?_eq_some_iff.1 ho).1
  have hblk : sl2.blk = some gb := by simp [Slot.blk, k3]
  have hH : Holds Γ ρ (st.h.set o (some ⟨ob.own, ob.ty, ob.sz, e'⟩)) (w.setRow gb cur'.toArray) := by
    refine hr.holds.one rfl rfl rfl (by rw [setRow_size]; exact Nat.le_refl _) (some gb) (fun k _ hne => setRow_other' _ _ _ _ (fun e => hne (by rw [e]))) (Ext.refl _) o _ sl2 m1 hobj
      (fun g' hg' => ⟨o, ob, sl2, ho, hown, m1, by rw [hblk]; exact hg', fun _ _ => rfl⟩) (fun o' ob' ho' hne => by rwa [List.getElem?_set_ne (Ne.symm hne)] at ho') (List.getElem?_set_self holt) (fun g' hg' => .inl (by rw [← hblk]; exact hg'))
  exact hk _ ρ _ _ rfl ⟨hH, by simp [hr.len], hr.klen, hr.args, hr.env, hr.defers, hr.size⟩
/-- The address of a row's element. -/
theorem opP_index (hT : TOk P T) {st : St} {dst : Option Tmp} {t e : TypeId} {x y : Operand} {ty : TypeId} {pos : String} {af : Array Edge} {g : Option (Nat × Bool)} {o s n : Nat} {ob : AO} {k : IntKind} {i : Int} {ti te : TI} (hx : ev st.env x = some (.c (.row o s n))) (hy : ev st.env y = some (.c (.sc (.int k i))))
    (ht : tlk t T = some ti) (hs : ti.d = .slice e) (hte : tlk e T = some te) (ho : st.h[o]? = some (some ob)) (hsz : te.size = ob.sz) (h0 : 0 ≤ i) (h1 : i < n) :
    OpP P ⟨dst, .indexAddr t x y, ty, pos, af, g⟩ st (.c (.ptr o (s + i.toNat) 0)) := fun Γ ρ a w0 hr => by
  obtain ⟨sl, k1, k2⟩ := hr.holds.obj o ob ho
  obtain ⟨sl', e1, e2, e3⟩ : RowR ρ o s n (a.eval x) := ev_R hr.env hx
  have : sl = sl' := by rw [k1] at e1; exact Option.some.inj e1
  subst this
  have hi := R_int (ev_R hr.env hy)
  have hu : P.underlying t = some (.slice e) := by have := tlk_und hT ht; rw [hs] at this; exact this
  rcases e3 with ⟨cc, e3, _⟩ | ⟨hn, _⟩
  · have hne : ∃ ad, sl.a = some ad := by
      cases hb : ob.own with
      | true =>
        rcases (k2.own hb).2 with ⟨_, hc⟩ | ⟨gb, cur, hc, _⟩
        · omega
        · exact ⟨_, hc⟩
      | false =>
        cases ha : sl.a with
        | some ad => exact ⟨ad, rfl⟩
        | none =>
          have := k2.nil ha
          omega
    obtain ⟨ad, had⟩ := hne
    refine ⟨.pointer (some ((ad.add (s * sl.sz)).add (i.toNat * te.size))), ⟨sl, ad, k1, had, ?_⟩, fun w => ?_⟩
    · rw [add_add, hsz, k2.sz, ← Nat.add_mul, Nat.add_zero]
    · unfold execOp
      simp [Instr.indexAt, hi, asIntOf, e3, had, und_run hu, h0, h1, run_size hT hte]
  · omega
end
end Go.Proofs.YtnlajjoheegbiaaGreat.Sh
