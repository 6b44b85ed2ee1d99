/- Rows as their blocks' cells: copies of several cells, and back. No condition. -/
import Derived.Test.YtbbeaghhchjkgaaSepY
import Derived.Laws.CopyRow
namespace Go.Proofs.Ytbbeaghhchjkgaa.Sp
open Go.RowKit Go.Proofs.YtbbeaghhchjkgaaW.PrintWords
set_option linter.unusedVariables false
theorem reps_flat {α : Type} {R : α → List Value → Prop} {enc : α → List Value} (hR : ∀ p c, R p c → c = enc p) {sz : Nat} : ∀ (xs : List α) (inner : List Value), Reps R sz xs inner → inner = xs.flatMap enc
  | [], inner, h => by
    have := h.1
    simp only [List.length_nil, Nat.zero_mul] at this
    rw [List.length_eq_zero_iff.1 this]; rfl
  | x :: xs, inner, h => by
    have h0 := hR _ _ (h.2 0 x rfl)
    rw [Nat.zero_mul, List.drop_zero] at h0
    have hd := reps_flat hR xs _ (by simpa using Kd.reps_drop (m := 1) h)
    rw [List.flatMap_cons, ← h0, ← hd, List.take_append_drop]
theorem flat_reps {α : Type} {R : α → List Value → Prop} {enc : α → List Value} {sz : Nat} (hM : ∀ x, R x (enc x)) (hsz : ∀ x, (enc x).length = sz) (ys : List α) : Reps R sz ys (ys.flatMap enc) := by
  suffices h : ∀ (zs : List α) (cs : List Value), Reps R sz zs cs → Reps R sz (zs ++ ys) (cs ++ ys.flatMap enc) by simpa using h [] [] (Reps.none _ _)
  induction ys with
  | nil => intro zs cs h; simpa using h
  | cons y ys ih =>
    intro zs cs h
    have := ih (zs ++ [y]) (cs ++ enc y) (h.snoc (hM y) (hsz y))
    simpa using this
theorem heap_setRow (w : World) (g : Nat) (cs : Array Value) (k : Nat) (h : k ≠ g) : (w.setRow g cs).heap[k]? = w.heap[k]? := by
  unfold World.setRow
  rw [Array.getElem?_modify]
  simp [Ne.symm h]
theorem size_setRow (w : World) (g : Nat) (cs : Array Value) : (w.setRow g cs).heap.size = w.heap.size := by
  unfold World.setRow
  simp
section
variable {P : Program} {ops : Array Oper} {rest : List Oper} {o : Oper} {a : Act} {Q : Exit → Act → World → Prop} {w0 W : World} {L : List Ob} {α : Type} {d : Kd α} {enc : α → List Value}
/-- A row as its block. -/
theorem Sep.raw (hf : FlatK d enc) (HS : Sep w0 W L) (i : Nat) {e g n cap : Nat} {xs : List α} (hi : L[i]? = some (Ob.row d e (.slice (some ⟨g, 0, none⟩) n cap) xs)) :
    ∃ cur : Array Value, Sep w0 W (L.set i (Ob.box g cur e)) ∧ n = xs.length ∧ n ≤ cap ∧ cap ≤ maxLen ∧ cur.size = cap * d.sz ∧ cur.toList.take (xs.length * d.sz) = xs.flatMap enc := by
  obtain ⟨h1, ow, h2⟩ := HS
  obtain ⟨hok, inner, ho, hr⟩ := h2 i _ hi
  rcases ho.2 with ⟨hv, _⟩ | ⟨g', cap', cur, hv, hb, hh, hnc, hcm, hcs, ht⟩
  · cases hv
  injection hv with ha hn hc
  injection ha with ha
  injection ha with hg
  subst hg; subst hc; subst hn
  exact ⟨cur, Sep.upd2 h1 h2 i (List.getElem?_eq_some_iff.1 hi).1 h1 (Nat.le_refl _) (fun _ _ _ => rfl) ⟨.inl (hok g (by simp [Value.ownBlock])), hh⟩, rfl, hnc, hcm, hcs, by rw [ht]; exact reps_flat (fun p c h => hf.op W _ _ (d.K_of_M h)) xs inner hr⟩
/-- And back. -/
theorem Sep.unraw (hf : FlatK d enc) (HS : Sep w0 W L) (i : Nat) {e g cap : Nat} {cur : Array Value} (xs : List α) (hi : L[i]? = some (Ob.box g cur e)) (hc : xs.length ≤ cap) (hm : cap ≤ maxLen) (hs : cur.size = cap * d.sz) (ht : cur.toList.take (xs.length * d.sz) = xs.flatMap enc) :
    Sep w0 W (L.set i (Ob.row d e (.slice (some ⟨g, 0, none⟩) xs.length cap) xs)) := by
  obtain ⟨h1, ow, h2⟩ := HS
  obtain ⟨p1, p2⟩ := h2 i _ hi
  have hfr := flat_reps (R := d.M W w0.heap.size (fun k => (((w0.heap.size ≤ k ∧ k < W.heap.size ∧ ow k = i) ∨ W.heap.size ≤ k)) ∧ some k ≠ (Value.slice (some ⟨g, 0, none⟩) xs.length cap).ownBlock)) (fun x => hf.M _ _ _ x) (fun x => hf.sz x) xs
  refine Sep.upd2 h1 h2 i (List.getElem?_eq_some_iff.1 hi).1 h1 (Nat.le_refl _) (fun _ _ _ => rfl) ⟨fun k hk => ?_, xs.flatMap enc, ⟨hfr.1, .inr ⟨g, cap, cur, rfl, p1.1, p2, hc, hm, hs, ht⟩⟩, hfr⟩
  have : g = k := by simpa [Value.ownBlock] using hk
  subst this
  exact .inl p1
/-- A block's cells are written anew. -/
theorem Sep.setRow (h : Sep w0 W L) (i : Nat) {g e : Nat} {cur : Array Value} (hi : L[i]? = some (Ob.box g cur e)) (cs : Array Value) : Sep w0 (W.setRow g cs) (L.set i (Ob.box g cs e)) :=
  h.upd i hi (fun F hF hP => ⟨⟨h.1.os, h.1.tape, h.1.output, by rw [size_setRow]; exact h.1.size, fun k hk => by
      rw [heap_setRow W g cs k (by have := (hF g hP.1).1; omega)]
      exact h.1.block k hk⟩, by rw [size_setRow]; exact Nat.le_refl _, fun k _ hk => heap_setRow W g cs k (fun e => hk (by rw [e]; exact hP.1)), ⟨.inl hP.1, setRow_heap W g cur cs e (0, 0) hP.2⟩⟩)
/-- The last part is put into the place of another. -/
theorem Sep.swap {q : Ob} (h : Sep w0 W (L ++ [q])) (i : Nat) (hi : i < L.length) : Sep w0 W (L.set i q) := by
  refine h.pick ((List.range L.length).map (fun j => if j = i then L.length else j)) ?_ (fun j => ?_)
  · refine List.pairwise_map.2 (List.pairwise_iff_getElem.2 fun x y hx hy hxy => ?_)
    rw [List.length_range] at hx hy
    simp only [List.getElem_range]
    split <;> split <;> omega
  · rw [List.getElem?_map]
    by_cases hj : j < L.length
    · rw [List.getElem?_range hj]
      by_cases e : j = i
      · subst e
        simp [List.getElem?_set_self hj]
      · simp [e, List.getElem?_set_ne (Ne.symm e), List.getElem?_append_left hj]
    · rw [List.getElem?_eq_none (by rw [List.length_set]; omega), List.getElem?_eq_none (by rw [List.length_range]; omega)]
      rfl
theorem run_copy_sz (w : World) (dT sT ty elem : TypeId) (g o dLen dCap : Nat) (a : Addr) (sLen sCap sz : Nat) (cur : Array Value) (t : TypeId) (cs : List Value)
    (hu : P.underlying dT = some (.slice elem)) (hs : (P.info? elem).map (·.size) = some sz)
    (hg : w.heap[g]? = some (.cells cur t (0, 0))) (hn : cs.length = Nat.min sLen dLen * sz)
    (hsrc : ∀ j v, cs[j]? = some v → w.cell? (a.add j) = some v) (hfit : o + cs.length ≤ cur.size) (h1 : ∀ v ∈ cs, v.oneCell' = true) :
    (Builtin.copy_ #[dT, sT] ty #[.slice (some ⟨g, o, none⟩) dLen dCap, .slice (some a) sLen sCap]).run P w =
      .ok (goInt (Nat.min sLen dLen : Nat)) (w.setRow g (cur.toList.take o ++ cs ++ cur.toList.drop (o + cs.length)).toArray) := by
  have hl := run_loadCells_list (P := P) w a cs hsrc
  have hst := run_storeCells_at P g o t cs 0 cur w hg (by simpa using hfit) h1
  cases hq : P.info? elem with
  | none => simp [hq] at hs
  | some i =>
    have hi : i.size = sz := by simpa [hq] using hs
    simp [Builtin.copy_, run_underlying hu, Builtin.lenOf, Builtin.firstCells, sizeOf, typeInfo, hq, hi, ← hn, hl, hst]
/-- copy(dst, src): dst lies in the block of part i. -/
theorem ev_copy (HS : Sep w0 W L) (i : Nat) {e g : Nat} {cur : Array Value} (hi : L[i]? = some (Ob.box g cur e)) (hgd : o.guard = none) (s x : Operand) (t t' : TypeId)
    (ho : o.op = .call { callee := .builtin .copy, args := #[s, x], argTypes := #[t, t'] }) {e' : TypeId} (ht : P.underlying t = some (.slice e')) {sz : Nat} (hsz : (P.info? e').map (·.size) = some sz)
    {off dLen dCap sLen sCap : Nat} {A : Addr} (cs : List Value) (hs : a.eval s = .slice (some ⟨g, off, none⟩) dLen dCap) (hx : a.eval x = .slice (some A) sLen sCap) (hn : cs.length = Nat.min sLen dLen * sz)
    (hsrc : ∀ j v, cs[j]? = some v → W.cell? (A.add j) = some v) (hfit : off + cs.length ≤ cur.size) (h1 : ∀ v ∈ cs, v.oneCell' = true)
    (k : ∀ w1 v, Sep w0 w1 (L.set i (Ob.box g (cur.toList.take off ++ cs ++ cur.toList.drop (off + cs.length)).toArray e)) → wpList P ops Q rest (a.put o.dst v) w1) : wpList P ops Q (o :: rest) a W := by
  have hb := HS.blk i hi
  refine wpList_plain hgd fun K hK => ?_
  unfold Oper.wp execOp
  simp only [ho, resolve, invoke, builtin, Sem.run_bind, Sem.run_pure, Result.andThen_ok, List.map_toArray, List.map_cons, List.map_nil, hs, hx, run_copy_sz (P := P) W t t' _ e' g off dLen dCap A sLen sCap sz cur e cs ht hsz hb hn hsrc hfit h1]
  exact hK _ _ (k _ _ (HS.setRow i hi _))
end
end Go.Proofs.Ytbbeaghhchjkgaa.Sp
