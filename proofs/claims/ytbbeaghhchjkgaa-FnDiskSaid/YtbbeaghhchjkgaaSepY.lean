/- Rows cut short, and cleared from some place on. No condition. -/
import Derived.Test.YtbbeaghhchjkgaaSepX
import Derived.Lib.SliceRun
namespace Go.Proofs.Ytbbeaghhchjkgaa.Sp
open Go.RowKit Go.Proofs.YtbbeaghhchjkgaaW.PrintWords
set_option linter.unusedVariables false
theorem setCells_append (b : Nat) : ∀ (u v : List Value) (o : Nat) (w : World), w.setCells b o (u ++ v) = (w.setCells b o u).setCells b (o + u.length) v
  | [], v, o, w => rfl
  | x :: u, v, o, w => by
    show (w.setCell ⟨b, o, none⟩ x).setCells b (o + 1) (u ++ v) = ((w.setCell ⟨b, o, none⟩ x).setCells b (o + 1) u).setCells b (o + (u.length + 1)) v
    rw [setCells_append b u v (o + 1), show o + 1 + u.length = o + (u.length + 1) by omega]
def rep (k : Nat) (c : List Value) : List Value := match k with
  | 0 => []
  | k + 1 => c ++ rep k c
theorem rep_length (c : List Value) : ∀ k, (rep k c).length = k * c.length
  | 0 => by simp [rep]
  | k + 1 => by rw [rep, List.length_append, rep_length c k, Nat.succ_mul]; omega
theorem rep_mem {c : List Value} {v : Value} : ∀ {k}, v ∈ rep k c → v ∈ c
  | 0, h => by simp [rep] at h
  | k + 1, h => by
    rw [rep] at h
    rcases List.mem_append.1 h with h | h
    · exact h
    · exact rep_mem h
theorem zc_rep (z : Array Value) (hs : 0 < z.size) : ∀ k, (Builtin.zeroCells z k).toList = rep k z.toList
  | 0 => by simp [Builtin.zeroCells, rep]
  | k + 1 => by
    rw [rep, ← zc_rep z hs k]
    apply List.ext_getElem
    · simp [Builtin.zeroCells, Nat.succ_mul]; omega
    · intro p h1 h2
      simp only [Builtin.zeroCells, Array.toList_map, Array.toList_range, List.getElem_map, List.getElem_range, List.getElem_append]
      split
      · rename_i h
        rw [Array.length_toList] at h
        rw [Nat.mod_eq_of_lt h, getElem!_pos z p h, Array.getElem_toList]
      · rename_i h
        rw [Array.length_toList] at h ⊢
        rw [Nat.mod_eq_sub_mod (by omega)]
section
variable {α : Type} {d : Kd α} {enc : α → List Value} {e g n cap base : Nat} {ok : Nat → Prop}
theorem R_zeros (hf : FlatK d enc) (z0 : α) : ∀ (k i : Nat) (W : World) (xs : List α), d.R e W base ok (.slice (some ⟨g, 0, none⟩) n cap) xs → i + k ≤ xs.length →
    d.R e (W.setCells g (i * d.sz) (rep k (enc z0))) base ok (.slice (some ⟨g, 0, none⟩) n cap) (xs.take i ++ List.replicate k z0 ++ xs.drop (i + k)) ∧ W.grownBy (W.setCells g (i * d.sz) (rep k (enc z0))) (some g)
  | 0, i, W, xs, h, hi => by
    refine ⟨?_, World.grownBy.refl _ _⟩
    rw [List.replicate_zero, List.append_nil, Nat.add_zero, List.take_append_drop]
    exact h
  | k + 1, i, W, xs, h, hi => by
    obtain ⟨hn, hc, hC⟩ := Kd.R_reads' h
    obtain ⟨ad, c, e1, hcl, hK, hcc⟩ := Kd.C_get hC z0 (i : Int) (by omega) (by omega)
    obtain rfl := hf.op _ _ _ hK
    injection e1 with e1
    subst e1
    rw [Int.toNat_natCast] at hcl hcc
    have h1 := Kd.R_seg (seg := enc z0) (j := 0) (okp := fun _ => False) h (i : Int) (by omega) (by omega) hcl (fun m y hy => by
      have := hcc m y hy
      rw [Int.toNat_natCast]
      rwa [add_plain] at this) (by rw [hf.sz]; omega) (x' := z0) (by
      rw [List.take_zero, List.nil_append, List.drop_eq_nil_of_le (by rw [hcl, hf.sz]; omega), List.append_nil]
      exact hf.M _ _ _ _) (fun _ h => h.elim)
    rw [Int.toNat_natCast, Nat.add_zero] at h1
    have h2 := R_zeros hf z0 k (i + 1) _ _ h1.1 (by rw [List.length_set]; omega)
    rw [show (i + 1) * d.sz = i * d.sz + (enc z0).length by rw [hf.sz, Nat.succ_mul], ← setCells_append] at h2
    refine ⟨?_, World.grownBy.trans h1.2 h2.2⟩
    rw [show xs.take i ++ List.replicate (k + 1) z0 ++ xs.drop (i + (k + 1)) = (xs.set i z0).take (i + 1) ++ List.replicate k z0 ++ (xs.set i z0).drop (i + 1 + k) from by
      rw [List.drop_set_of_lt (by omega), show i + 1 + k = i + (k + 1) by omega, List.take_succ_eq_append_getElem (by rw [List.length_set]; omega), List.getElem_set_self, List.take_set_of_le (by omega), List.replicate_succ]
      simp]
    exact h2.1
end
section
variable {P : Program} {ops : Array Oper} {rest : List Oper} {o : Oper} {a : Act} {Q : Exit → Act → World → Prop} {w0 W : World} {L : List Ob} {α : Type} {d : Kd α} {enc : α → List Value}
/-- A row cut short. -/
theorem Sep.trunc (HS : Sep w0 W L) (i : Nat) {e n cap : Nat} {A : Option Addr} {xs : List α} (hi : L[i]? = some (Ob.row d e (.slice A n cap) xs)) (m : Nat) (hm : m ≤ xs.length) :
    Sep w0 W (L.set i (Ob.row d e (.slice A m cap) (xs.take m))) := by
  obtain ⟨h1, ow, h2⟩ := HS
  have hR := Kd.R_mono (h2 i _ hi) (fun k hk => Or.inl (b := W.heap.size ≤ k) hk)
  exact Sep.grow2 h1 h2 i hi (Kd.R_take hR hm) h1 (World.grownBy.refl _ _)
/-- clear(row[j:]). -/
theorem ev_clear (hf : FlatK d enc) (HS : Sep w0 W L) (i : Nat) {e g n cap : Nat} {xs : List α} (hi : L[i]? = some (Ob.row d e (.slice (some ⟨g, 0, none⟩) n cap) xs)) (hN : o.dst = none) (hgd : o.guard = none) (t : TypeId) (x : Operand)
    (ho : o.op = .call { callee := .builtin .clear, args := #[x], argTypes := #[t] }) (ht : P.underlying t = some (.slice e)) (z : Value) (hz : ∀ w, (zeroValue e).run P w = .ok z w) (z0 : α) (hzc : z.cells.toList = enc z0) (hs0 : 0 < d.sz)
    (j m c' : Nat) (hj : j + m = xs.length) {B : Option Addr} (hx : a.eval x = .slice B m c') (hB : 0 < m → B = some ⟨g, j * d.sz, none⟩)
    (k : ∀ w1, Sep w0 w1 (L.set i (Ob.row d e (.slice (some ⟨g, 0, none⟩) n cap) (xs.take j ++ List.replicate m z0))) → wpList P ops Q rest a w1) : wpList P ops Q (o :: rest) a W := by
  obtain ⟨h1, ow, h2⟩ := HS
  have hR := Kd.R_mono (h2 i _ hi) (fun k hk => Or.inl (b := W.heap.size ≤ k) hk)
  have hzz := R_zeros hf z0 m j W xs hR (by omega)
  rw [List.drop_eq_nil_of_le (by omega), List.append_nil] at hzz
  have hrun : ∀ ty, (Builtin.clear_ #[t] ty #[.slice B m c']).run P W = .ok (.tuple #[]) (W.setCells g (j * d.sz) (rep m (enc z0))) := by
    intro ty
    cases m with
    | zero => cases B <;> simp [Builtin.clear_, run_underlying ht, rep, World.setCells]
    | succ m =>
      obtain rfl := hB (by omega)
      obtain ⟨hn, hc, _⟩ := Kd.R_reads' hR
      obtain ⟨_, inner, ho', hr'⟩ := hR
      rcases ho'.2 with ⟨hv, _⟩ | ⟨g', cap', cur, hv, hb, hh, hnc, hcm, hcs, htk⟩
      · cases hv
      injection hv with ha _ hc2
      injection ha with ha
      injection ha with hg'
      subst hg'; subst hc2
      have hzl : z.cells.size = d.sz := by rw [← Array.length_toList, hzc, hf.sz]
      have hfit : (j + (m + 1)) * d.sz ≤ cap * d.sz := Nat.mul_le_mul_right _ (by omega)
      have hzr : (Builtin.zeroCells z.cells (m + 1)).toList = rep (m + 1) (enc z0) := by rw [zc_rep _ (by omega), hzc]
      have hst := run_storeCells_cells (P := P) g (j * d.sz) (rep (m + 1) (enc z0)) 0 W
        (fun q hq => by
          rw [rep_length, hf.sz] at hq
          rw [cell_of_row W g _ cur e (0, 0) hh, Array.getElem?_eq_getElem (by rw [hcs]; rw [Nat.add_mul] at hfit; omega)]
          rfl)
        (fun q hq => blk_frozen hh _) (fun v hv => hf.one z0 v (rep_mem hv))
      simp only [Nat.add_zero] at hst
      simp [Builtin.clear_, run_underlying ht, hz, hzr, hst]
  refine wpList_plain hgd fun K hK => ?_
  have h9 : (execOp a.eval o).run P W = .ok (.value (.tuple #[])) (W.setCells g (j * d.sz) (rep m (enc z0))) := by
    unfold execOp
    simp only [ho, resolve, invoke, builtin, Sem.run_bind, Sem.run_pure, Result.andThen_ok, List.map_toArray, List.map_cons, List.map_nil, hx, hrun]
  unfold Oper.wp
  rw [h9]
  show K (a.put o.dst _) _
  rw [hN]
  refine hK _ _ (k _ (Sep.grow2 h1 h2 i hi hzz.1 (h1.grown hzz.2 (by have := h1.size; omega) ?_) (by simpa [Value.ownBlock] using hzz.2)))
  intro q hq
  exact ((h2 i _ hi).1 q (by simpa [Value.ownBlock] using hq)).1
end
end Go.Proofs.Ytbbeaghhchjkgaa.Sp
