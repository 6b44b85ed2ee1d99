/- What the memory of a call says, part by part, each part with blocks of its own: one fact that every step hands on. No condition. -/
import Derived.Test.YtbbeaghhchjkgaaWWords
namespace Go.Proofs.Ytbbeaghhchjkgaa.Sp
open Go.RowKit Go.Proofs.YtbbeaghhchjkgaaW.PrintWords
set_option linter.unusedVariables false

/-- A part of the memory: what it says of a world, when its blocks are some of F, from 'base' on. -/
structure Ob where
  P : World → Nat → (Nat → Prop) → Prop
  mono : ∀ {w base F F'}, (∀ k, F k → F' k) → P w base F → P w base F'
  bound : ∀ {w base F}, P w base F → P w base (fun k => F k ∧ k < w.heap.size)
  move : ∀ {w w' base F}, (∀ k, F k → w'.heap[k]? = w.heap[k]?) → P w base F → P w' base F
  lower : ∀ {w base base' F}, base' ≤ base → P w base F → P w base' F
  fact : World → Prop
  sound : ∀ {w base F}, P w base F → fact w
/-- The cells of a block from number j on. -/
def CellsAt (w : World) (g : Nat) : Nat → List Value → Prop
  | _, [] => True
  | j, v :: vs => (w.cell? ⟨g, j, none⟩ = some v ∧ w.frozen? ⟨g, j, none⟩ = false) ∧ CellsAt w g (j + 1) vs
theorem cellsAt_nil (w : World) (g j : Nat) : CellsAt w g j [] = True := rfl
theorem cellsAt_cons (w : World) (g j : Nat) (v : Value) (vs : List Value) : CellsAt w g j (v :: vs) = ((w.cell? ⟨g, j, none⟩ = some v ∧ w.frozen? ⟨g, j, none⟩ = false) ∧ CellsAt w g (j + 1) vs) := rfl
theorem cellsAt_of {w : World} {g : Nat} : ∀ (vs : List Value) (j : Nat), (∀ i, i < vs.length → w.cell? ⟨g, j + i, none⟩ = vs[i]? ∧ w.frozen? ⟨g, j + i, none⟩ = false) → CellsAt w g j vs
  | [], _, _ => trivial
  | v :: vs, j, h => ⟨by have := h 0 (by simp); simpa using this, cellsAt_of vs (j + 1) (fun i hi => by have := h (i + 1) (by simpa using hi); rw [show j + 1 + i = j + (i + 1) from by omega]; simpa using this)⟩
def Ob.box (g : Nat) (cs : Array Value) (t : Nat) : Ob where
  P := fun w _ F => F g ∧ w.heap[g]? = some (.cells cs t (0, 0))
  mono := fun h ⟨a, b⟩ => ⟨h g a, b⟩
  bound := fun ⟨a, b⟩ => ⟨⟨a, blk_lt b⟩, b⟩
  move := fun h ⟨a, b⟩ => ⟨a, (h g a).trans b⟩
  lower := fun _ h => h
  fact := fun w => g < w.heap.size ∧ CellsAt w g 0 cs.toList
  sound := fun h => ⟨blk_lt h.2, cellsAt_of _ _ (fun i _ => ⟨by rw [Nat.zero_add, Array.getElem?_toList]; exact blk_cell h.2 i, blk_frozen h.2 _⟩)⟩
def Ob.row {α : Type} (d : Kd α) (e : Nat) (v : Value) (xs : List α) : Ob where
  P := fun w base F => d.R e w base F v xs
  mono := fun h hr => Kd.R_mono hr h
  bound := fun hr => Kd.R_mono (Kd.R_bound hr) (fun k hk => ⟨hk.1, hk.2.2.1⟩)
  move := fun h hr => Kd.R_move hr h
  lower := fun h hr => Kd.R_lower hr h
  fact := fun _ => True
  sound := fun _ => trivial
/-- A part that is no longer spoken of. -/
def Ob.gone : Ob where
  P := fun _ _ _ => True
  mono := fun _ h => h
  bound := fun h => h
  move := fun _ h => h
  lower := fun _ h => h
  fact := fun _ => True
  sound := fun _ => trivial
theorem fact_box (g : Nat) (cs : Array Value) (t : Nat) (w : World) : (Ob.box g cs t).fact w = (g < w.heap.size ∧ CellsAt w g 0 cs.toList) := rfl
theorem fact_row {α : Type} (d : Kd α) (e : Nat) (v : Value) (xs : List α) (w : World) : (Ob.row d e v xs).fact w = True := rfl
theorem fact_gone (w : World) : Ob.gone.fact w = True := rfl
/-- What the walk may read of the parts. -/
def Facts (w : World) : List Ob → Prop
  | [] => True
  | o :: L => o.fact w ∧ Facts w L
theorem facts_nil (w : World) : Facts w [] = True := rfl
theorem facts_cons (w : World) (o : Ob) (L : List Ob) : Facts w (o :: L) = (o.fact w ∧ Facts w L) := rfl
theorem size_al (w : World) (o : Obj) : (w.alloc o).heap.size = w.heap.size + 1 := by simp
theorem size_set (w : World) (a : Addr) (v : Value) : (w.setCell a v).heap.size = w.heap.size := by simp [World.setCell]
theorem Ob.step {o : Ob} {w w' : World} {base : Nat} {F F' : Nat → Prop} (h : o.P w base F) (hm : ∀ k, F k → k < w.heap.size → w'.heap[k]? = w.heap[k]?) (hF : ∀ k, F k → k < w.heap.size → F' k) : o.P w' base F' :=
  o.mono (fun k hk => hF k hk.1 hk.2) (o.move (fun k hk => hm k hk.1 hk.2) (o.bound h))

/-- From w0 to w the old memory stands; the parts L are told of w, in blocks of their own that are none of w0's. -/
def Sep (w0 w : World) (L : List Ob) : Prop :=
  Below w0.heap.size w0 w ∧ ∃ ow : Nat → Nat, ∀ (i : Nat) (o : Ob), L[i]? = some o → o.P w w0.heap.size (fun k => w0.heap.size ≤ k ∧ k < w.heap.size ∧ ow k = i)
section
variable {w0 w w' : World} {L L' : List Ob}
theorem Sep.nil (w : World) : Sep w w [] := ⟨Below.refl _ _, fun _ => 0, fun i o h => by simp at h⟩
theorem Sep.old (h : Sep w0 w L) : Below w0.heap.size w0 w := h.1
theorem Sep.below (h : Sep w0 w L) (hb : Below w.heap.size w w') : Sep w0 w' L := by
  obtain ⟨h1, ow, h2⟩ := h
  refine ⟨below_step h1 hb, ow, fun i o ho => Ob.step (h2 i o ho) (fun k _ hk => hb.block k hk) (fun k hk _ => ⟨hk.1, Nat.lt_of_lt_of_le hk.2.1 hb.size, hk.2.2⟩)⟩
theorem Sep.drewN (h : Sep w0 w L) (n : Nat) : Sep w0 (w.drewN n) L := h.below (pw_below_drewN (Below.refl _ _) n)
theorem Sep.drew (h : Sep w0 w L) : Sep w0 w.drew L := h.below (below_drew (Below.refl _ _))
/-- Parts that a call made. -/
theorem Sep.add (h : Sep w0 w L) (h' : Sep w w' L') : Sep w0 w' (L ++ L') := by
  obtain ⟨h1, ow, h2⟩ := h
  obtain ⟨k1, ow', k2⟩ := h'
  refine ⟨below_step h1 k1, fun k => if k < w.heap.size then ow k else L.length + ow' k, fun i o ho => ?_⟩
  rcases Nat.lt_or_ge i L.length with hi | hi
  · rw [List.getElem?_append_left hi] at ho
    exact Ob.step (h2 i o ho) (fun k _ hk => k1.block k hk) (fun k hk hlt => ⟨hk.1, Nat.lt_of_lt_of_le hk.2.1 k1.size, (if_pos hlt).trans hk.2.2⟩)
  · rw [List.getElem?_append_right hi] at ho
    refine o.lower h1.size (o.mono (fun k hk => ⟨Nat.le_trans h1.size hk.1, hk.2.1, ?_⟩) (k2 _ o ho))
    refine (if_neg (Nat.not_lt.2 hk.1)).trans ?_
    have := hk.2.2
    omega
theorem Sep.row {α : Type} {d : Kd α} {e : Nat} {v : Value} {xs : List α} {ok : Nat → Prop} (hb : Below w.heap.size w w') (hr : d.R e w' w.heap.size ok v xs) : Sep w w' [Ob.row d e v xs] :=
  ⟨hb, fun _ => 0, fun i o h => by
    obtain ⟨hi, he⟩ := List.getElem?_eq_some_iff.1 h
    have : i = 0 := by simpa using hi
    subst this
    have : o = Ob.row d e v xs := by simpa using he.symm
    subst this
    exact Kd.R_mono (Kd.R_bound hr) (fun k hk => ⟨hk.2.1, hk.2.2.1, rfl⟩)⟩
theorem Sep.box (w : World) (cs : Array Value) (t : Nat) : Sep w (w.alloc (.cells cs t)) [Ob.box w.heap.size cs t] :=
  ⟨below_alloc (Below.refl _ _) _, fun _ => 0, fun i o h => by
    obtain ⟨hi, he⟩ := List.getElem?_eq_some_iff.1 h
    have : i = 0 := by simpa using hi
    subst this
    have : o = Ob.box w.heap.size cs t := by simpa using he.symm
    subst this
    exact ⟨⟨Nat.le_refl _, by simp, rfl⟩, blk_new _ _⟩⟩
theorem Sep.alloc (h : Sep w0 w L) (cs : Array Value) (t : Nat) : Sep w0 (w.alloc (.cells cs t)) (L ++ [Ob.box w.heap.size cs t]) := h.add (Sep.box w cs t)
/-- A part is changed: what its blocks (or new ones) hold. -/
theorem Sep.upd2 {ow : Nat → Nat} (h1 : Below w0.heap.size w0 w) (h2 : ∀ (i : Nat) (o : Ob), L[i]? = some o → o.P w w0.heap.size (fun k => w0.heap.size ≤ k ∧ k < w.heap.size ∧ ow k = i)) (i : Nat) (hl : i < L.length) {o' : Ob} (a1 : Below w0.heap.size w0 w') (a2 : w.heap.size ≤ w'.heap.size)
    (a3 : ∀ k, k < w.heap.size → ¬ (w0.heap.size ≤ k ∧ k < w.heap.size ∧ ow k = i) → w'.heap[k]? = w.heap[k]?) (a4 : o'.P w' w0.heap.size (fun k => (w0.heap.size ≤ k ∧ k < w.heap.size ∧ ow k = i) ∨ w.heap.size ≤ k)) : Sep w0 w' (L.set i o') := by
  refine ⟨a1, fun k => if k < w.heap.size then ow k else i, fun j p hj => ?_⟩
  by_cases e : i = j
  · subst e
    rw [List.getElem?_set_self hl] at hj
    obtain rfl := Option.some.inj hj
    refine o'.mono (fun k hk => ?_) (o'.bound a4)
    rcases hk.1 with hk1 | hk1
    · exact ⟨hk1.1, hk.2, (if_pos hk1.2.1).trans hk1.2.2⟩
    · exact ⟨Nat.le_trans h1.size hk1, hk.2, if_neg (Nat.not_lt.2 hk1)⟩
  · rw [List.getElem?_set_ne e] at hj
    exact Ob.step (h2 j p hj) (fun k hk hlt => a3 k hlt (fun hf => e (hf.2.2.symm.trans hk.2.2))) (fun k hk hlt => ⟨hk.1, Nat.lt_of_lt_of_le hlt a2, (if_pos hlt).trans hk.2.2⟩)
theorem Sep.upd (h : Sep w0 w L) (i : Nat) {o o' : Ob} (hi : L[i]? = some o)
    (hs : ∀ F : Nat → Prop, (∀ k, F k → w0.heap.size ≤ k ∧ k < w.heap.size) → o.P w w0.heap.size F → Below w0.heap.size w0 w' ∧ w.heap.size ≤ w'.heap.size ∧ (∀ k, k < w.heap.size → ¬ F k → w'.heap[k]? = w.heap[k]?) ∧ o'.P w' w0.heap.size (fun k => F k ∨ w.heap.size ≤ k)) : Sep w0 w' (L.set i o') := by
  obtain ⟨h1, ow, h2⟩ := h
  obtain ⟨a1, a2, a3, a4⟩ := hs _ (fun k hk => ⟨hk.1, hk.2.1⟩) (h2 i o hi)
  exact Sep.upd2 h1 h2 i (List.getElem?_eq_some_iff.1 hi).1 a1 a2 a3 a4
theorem Sep.set (h : Sep w0 w L) (i : Nat) {g : Nat} {cs : Array Value} {t : Nat} (hi : L[i]? = some (Ob.box g cs t)) (j : Nat) (u : Value) : Sep w0 (w.setCell ⟨g, j, none⟩ u) (L.set i (Ob.box g (cs.setIfInBounds j u) t)) :=
  h.upd i hi (fun F hF hP => ⟨h.1.setCell (hF g hP.1).1 u, by simp [World.setCell], fun k _ hk => Below.heap_setCell w ⟨g, j, none⟩ u k (fun e => hk (by rw [show k = g from e]; exact hP.1)), ⟨.inl hP.1, blk_set hP.2 j u⟩⟩)
theorem idxOf_nodup : ∀ (l : List Nat), l.Nodup → ∀ (j : Nat) (hj : j < l.length), l.idxOf l[j] = j
  | [], _, j, hj => by simp at hj
  | x :: l, hn, 0, _ => by simp
  | x :: l, hn, j + 1, hj => by
    have h := List.nodup_cons.1 hn
    have hj' : j < l.length := by simpa using hj
    have hne : x ≠ l[j] := fun e => h.1 (e ▸ List.getElem_mem hj')
    have ih := idxOf_nodup l h.2 j hj'
    simp only [List.getElem_cons_succ, List.idxOf_cons]
    rw [show (x == l[j]) = false from by simpa using hne, cond_false, ih]
theorem Sep.none_ {α : Type} (d : Kd α) (e : Nat) (w : World) : Sep w w [Ob.row d e (.slice none 0 0) []] := Sep.row (Below.refl _ _) (Kd.R_nil d e w w.heap.size (fun _ => True))
/-- '[]T{}': a row of no element. -/
theorem Sep.empty_ {α : Type} (d : Kd α) (e : Nat) (w : World) : Sep w (w.alloc (.cells #[] e)) [Ob.row d e (.slice (some ⟨w.heap.size, 0, none⟩) 0 0) ([] : List α)] := by
  refine Sep.row (ok := fun _ => True) (below_alloc (Below.refl _ _) _) ⟨fun _ _ => trivial, [], ?_, Reps.none _ _⟩
  simpa using World.ownsRow_lit (base := w.heap.size) (e := e) (size := d.sz) w #[] 0 (Nat.le_refl _) (by simp [maxLen]) (by simp)
/-- Some of the parts, in another order. -/
theorem Sep.pick (h : Sep w0 w L) (is : List Nat) (hn : is.Nodup) (hL : ∀ j : Nat, L'[j]? = is[j]?.bind (fun i => L[i]?)) : Sep w0 w L' := by
  obtain ⟨h1, ow, h2⟩ := h
  refine ⟨h1, fun k => is.idxOf (ow k), fun j o ho => ?_⟩
  rw [hL j] at ho
  obtain ⟨i, hi, ho⟩ := Option.bind_eq_some_iff.1 ho
  refine o.mono (fun k hk => ⟨hk.1, hk.2.1, ?_⟩) (h2 i o ho)
  obtain ⟨hj, he⟩ := List.getElem?_eq_some_iff.1 hi
  show is.idxOf (ow k) = j
  rw [hk.2.2, ← he]
  exact idxOf_nodup is hn j hj
theorem Sep.pk (h : Sep w0 w L) (is : List Nat) (hn : is.Nodup) : Sep w0 w (is.map fun i => L.getD i Ob.gone) := by
  obtain ⟨h1, ow, h2⟩ := h
  refine ⟨h1, fun k => is.idxOf (ow k), fun j o ho => ?_⟩
  rw [List.getElem?_map] at ho
  obtain ⟨i, hi, ho⟩ := Option.map_eq_some_iff.1 ho
  obtain ⟨hj, he⟩ := List.getElem?_eq_some_iff.1 hi
  rw [List.getD_eq_getElem?_getD] at ho
  cases hc : L[i]? with
  | none =>
    rw [hc] at ho
    subst ho
    exact trivial
  | some p =>
    rw [hc] at ho
    have hp : p = o := ho
    subst hp
    refine p.mono (fun k hk => ⟨hk.1, hk.2.1, ?_⟩) (h2 i p hc)
    show is.idxOf (ow k) = j
    rw [hk.2.2, ← he]
    exact idxOf_nodup is hn j hj
theorem Sep.drop (h : Sep w0 w (L ++ L')) : Sep w0 w L := by
  obtain ⟨h1, ow, h2⟩ := h
  exact ⟨h1, ow, fun i o ho => h2 i o (by rw [List.getElem?_append_left (List.getElem?_eq_some_iff.1 ho).1]; exact ho)⟩
theorem Sep.facts (h : Sep w0 w L) : Facts w L := by
  obtain ⟨_, ow, h2⟩ := h
  have : ∀ (M : List Ob), (∀ o ∈ M, o.fact w) → Facts w M := by
    intro M
    induction M with
    | nil => intro _; trivial
    | cons o M ih => intro hM; exact ⟨hM o (by simp), ih (fun p hp => hM p (by simp [hp]))⟩
  refine this L (fun o ho => ?_)
  obtain ⟨i, hi⟩ := List.getElem?_of_mem ho
  exact o.sound (h2 i o hi)
theorem Sep.blk (h : Sep w0 w L) (i : Nat) {g : Nat} {cs : Array Value} {t : Nat} (hi : L[i]? = some (Ob.box g cs t)) : w.heap[g]? = some (.cells cs t (0, 0)) := by
  obtain ⟨_, ow, h2⟩ := h
  exact (h2 i _ hi).2
theorem Sep.cells (h : Sep w0 w L) (i : Nat) {g : Nat} {cs : Array Value} {t : Nat} (hi : L[i]? = some (Ob.box g cs t)) : (∀ j, w.cell? ⟨g, j, none⟩ = cs[j]?) ∧ ∀ j, w.frozen? ⟨g, j, none⟩ = false :=
  ⟨fun j => blk_cell (h.blk i hi) j, fun j => blk_frozen (h.blk i hi) j⟩
theorem Sep.reads {α : Type} {d : Kd α} {e : Nat} {v : Value} {xs : List α} (h : Sep w0 w L) (i : Nat) (hi : L[i]? = some (Ob.row d e v xs)) : ∃ A c, v = .slice A xs.length c ∧ xs.length ≤ c ∧ d.C w A xs.length xs := by
  obtain ⟨_, ow, h2⟩ := h
  exact Kd.R_reads (h2 i _ hi)
theorem Sep.form3 {α : Type} {d : Kd α} {e : Nat} {v : Value} {xs : List α} (h : Sep w0 w L) (i : Nat) (hi : L[i]? = some (Ob.row d e v xs)) : ∃ A n c, v = .slice A n c := by
  obtain ⟨A, c, hv, _⟩ := h.reads i hi
  exact ⟨A, _, c, hv⟩
theorem Sep.C {α : Type} {d : Kd α} {e c n : Nat} {A : Option Addr} {xs : List α} (h : Sep w0 w L) (i : Nat) (hi : L[i]? = some (Ob.row d e (.slice A n c) xs)) : d.C w A xs.length xs := by
  obtain ⟨_, ow, h2⟩ := h
  exact (Kd.R_reads' (h2 i _ hi)).2.2
theorem Sep.len {α : Type} {d : Kd α} {e c n : Nat} {A : Option Addr} {xs : List α} (h : Sep w0 w L) (i : Nat) (hi : L[i]? = some (Ob.row d e (.slice A n c) xs)) : n = xs.length ∧ xs.length ≤ c := by
  obtain ⟨_, ow, h2⟩ := h
  have := Kd.R_reads' (h2 i _ hi)
  exact ⟨this.1, this.1 ▸ this.2.1⟩
/-- A row of the call's own has been written or grown: the laws over rows end in this. -/
theorem Sep.grow2 {ow : Nat → Nat} {α : Type} {d : Kd α} {e : Nat} {v v' : Value} {xs xs' : List α} (h1 : Below w0.heap.size w0 w) (h2 : ∀ (i : Nat) (o : Ob), L[i]? = some o → o.P w w0.heap.size (fun k => w0.heap.size ≤ k ∧ k < w.heap.size ∧ ow k = i)) (i : Nat) (hi : L[i]? = some (Ob.row d e v xs))
    (hr : d.R e w' w0.heap.size (fun k => (w0.heap.size ≤ k ∧ k < w.heap.size ∧ ow k = i) ∨ w.heap.size ≤ k) v' xs') (hb : Below w0.heap.size w0 w') (hg : w.grownBy w' v.ownBlock) : Sep w0 w' (L.set i (Ob.row d e v' xs')) :=
  Sep.upd2 h1 h2 i (List.getElem?_eq_some_iff.1 hi).1 hb hg.size (fun k hk hn => hg.block k hk (fun he => hn ((h2 i _ hi).1 k he.symm))) hr
theorem Sep.form {α : Type} {d : Kd α} {e : Nat} {v : Value} {xs : List α} (h : Sep w0 w L) (i : Nat) (hi : L[i]? = some (Ob.row d e v xs)) (hp : 0 < xs.length) : ∃ g cap, v = .slice (some ⟨g, 0, none⟩) xs.length cap := by
  obtain ⟨_, ow, h2⟩ := h
  obtain ⟨g, cap, hv, _⟩ := Kd.R_form (h2 i _ hi) hp
  exact ⟨g, cap, hv⟩
theorem Sep.eqv (h : Sep w0 w L) (e : L = L') : Sep w0 w L' := e ▸ h
end
theorem ret_bool {a b : Bool} (h : a = b) : Ending.returned (.bool a) = .returned (.bool b) := by rw [h]
theorem ret_int {k : IntKind} {a b : Int} (h : a = b) : Ending.returned (.int k a) = .returned (.int k b) := by rw [h]
theorem ret_val {a b : Go.Value} (h : a = b) : Ending.returned a = .returned b := by rw [h]
theorem take_set {α : Type} (l : List α) (z : α) (k : Nat) (hk : k < l.length) : (l.take k ++ List.replicate (l.length - k) z).set k l[k] = l.take (k + 1) ++ List.replicate (l.length - (k + 1)) z := by
  rw [show l.length - k = (l.length - (k + 1)) + 1 from by omega, List.replicate_succ, List.set_append_right _ _ (by simp; omega), List.length_take, Nat.min_eq_left (by omega), Nat.sub_self, List.set_cons_zero, List.take_succ_eq_append_getElem hk, List.append_assoc]
  rfl
/-- A kind whose elements are cells alone, no rows inside. -/
structure FlatK {α : Type} (d : Kd α) (enc : α → List Value) : Prop where
  K : ∀ w x, d.K w x (enc x)
  M : ∀ w base ok x, d.M w base ok x (enc x)
  op : ∀ w x cs, d.K w x cs → cs = enc x
theorem flatInt (k : IntKind) : FlatK (Kd.int k) (fun x => [.int k x]) := ⟨fun _ _ => rfl, fun _ _ _ _ => rfl, fun _ _ _ h => h⟩
section
variable {P : Program} {ops : Array Oper} {rest : List Oper} {o : Oper} {a : Act} {Q : Exit → Act → World → Prop} {w0 W : World} {L : List Ob} {α : Type} {d : Kd α} {enc : α → List Value}
theorem FlatK.sz (hf : FlatK d enc) (x : α) : (enc x).length = d.sz := d.K_len (hf.K default x)
theorem gate_app {b : Builtin} {xs : Array Operand} {ts : Array TypeId} (_ho : o.op = .call { callee := .builtin b, args := xs, argTypes := ts }) (h : wpList P ops Q (o :: rest) a W) : wpList P ops Q (o :: rest) a W := h
/-- The next operation makes a box. -/
theorem ev_box (HS : Sep w0 W L) (hgd : o.guard = none) {N : Tmp} (_hd : o.dst = some N) {cs : Array Value} {t : TypeId}
    (hrun : (execOp a.eval o).run P W = .ok (.value (.pointer (some ⟨W.heap.size, 0, none⟩))) (W.alloc (.cells cs t (0, 0))))
    (k : ∀ g w1, Sep w0 w1 (L ++ [Ob.box g cs t]) → wpList P ops Q rest (a.put o.dst (.pointer (some ⟨g, 0, none⟩))) w1) : wpList P ops Q (o :: rest) a W :=
  Kd.event_run hgd hrun (k _ _ (HS.alloc cs t))
/-- A store into a box. -/
theorem ev_set (HS : Sep w0 W L) (i : Nat) {g : Nat} {cs : Array Value} {t' : Nat} (hi : L[i]? = some (Ob.box g cs t')) (hN : o.dst = none) (hgd : o.guard = none) (j : Nat) (u : Value) (hrun : (execOp a.eval o).run P W = .ok .skip (W.setCell ⟨g, j, none⟩ u))
    (k : ∀ w1, Sep w0 w1 (L.set i (Ob.box g (cs.setIfInBounds j u) t')) → wpList P ops Q rest a w1) : wpList P ops Q (o :: rest) a W := by
  refine wpList_plain hgd fun K hK => ?_
  unfold Oper.wp
  rw [hrun]
  show K (a.put o.dst undef) _
  rw [hN]
  exact hK _ _ (k _ (HS.set i hi j u))
/-- make([]T, n). -/
theorem ev_make (hf : FlatK d enc) (HS : Sep w0 W L) (e t : Nat) (hgd : o.guard = none) {N : Tmp} (hd : o.dst = some N) (x y : Operand) (ho : o.op = .makeSlice t x y) (n : Nat) (hx : a.eval x = .int .i64 n) (hy : a.eval y = .int .i64 n)
    (ht : P.underlying t = some (.slice e)) (z : Value) (bytes : Nat) (hinfo : (P.info? e).map (fun i => (i.zero, i.size, i.bytes)) = some (some z, d.sz, bytes)) (hs0 : 0 < d.sz) (hb0 : 0 < bytes) (z0 : α) (hz : z.cells.toList = enc z0) (hl : n * bytes ≤ 281474976710656)
    (k : ∀ v w1, Sep w0 w1 (L ++ [Ob.row d e v (List.replicate n z0)]) → wpList P ops Q rest (a.put o.dst v) w1) : wpList P ops Q (o :: rest) a W := by
  have hzs : z.cells.size = d.sz := by rw [← Array.length_toList, hz, hf.sz]
  refine Kd.R_make d (w0 := W) W.heap.size e hgd hd t x y ho (n : Int) hx hy ht z bytes hinfo hzs hs0 hb0 z0 (ok := fun _ => True) (okp := fun _ => True) (by rw [hz]; exact hf.M _ _ _ _) (fun _ _ => trivial) trivial (by omega) (by simpa using hl) (Below.refl _ _) (Nat.le_refl _) (fun v1 w1 hr hb _ _ => ?_)
  rw [Int.toNat_natCast] at hr
  exact k v1 w1 (HS.add (Sep.row hb hr))
/-- A literal []T{..}. -/
theorem ev_lit (hf : FlatK d enc) (HS : Sep w0 W L) (e : Nat) (hgd : o.guard = none) {N : Tmp} (_hd : o.dst = some N) {xs : List α} {inner : Array Value}
    (hrun : (execOp a.eval o).run P W = .ok (.value (.slice (some ⟨W.heap.size, 0, none⟩) xs.length xs.length)) (W.alloc (.cells inner e)))
    (hi : inner.toList = xs.flatMap enc) (hm : xs.length ≤ 9223372036854775807)
    (k : ∀ v w1, Sep w0 w1 (L ++ [Ob.row d e v xs]) → wpList P ops Q rest (a.put o.dst v) w1) : wpList P ops Q (o :: rest) a W := by
  have hrep : ∀ (ys : List α), Reps (d.M W W.heap.size (fun _ => True)) d.sz ys (ys.flatMap enc) := by
    intro ys
    suffices h : ∀ (zs ys : List α) (cs : List Value), Reps (d.M W W.heap.size (fun _ => True)) d.sz zs cs → Reps (d.M W W.heap.size (fun _ => True)) d.sz (zs ++ ys) (cs ++ ys.flatMap enc) by simpa using h [] ys [] (Reps.none _ _)
    intro zs ys
    induction ys generalizing zs with
    | nil => intro cs h; simpa using h
    | cons y ys ih =>
      intro cs h
      have := ih (zs ++ [y]) (cs ++ enc y) (h.snoc (hf.M _ _ _ _) (hf.sz y))
      simpa using this
  refine Kd.R_lit d (w0 := W) W.heap.size e hgd _hd (xs := xs) (inner := inner.toList) (ok := fun _ => True) (okp := fun _ => True) (by simpa using hrun) (by rw [hi]; exact hrep xs) (fun _ _ => trivial) trivial (Below.refl _ _) (Nat.le_refl _) hm (fun v1 w1 hr hb _ _ => ?_)
  exact k v1 w1 (HS.add (Sep.row hb hr))
/-- append(v, x), behind the variadic's box. -/
theorem ev_append (hf : FlatK d enc) (HS : Sep w0 W L) (i : Nat) {e : Nat} {v : Value} {xs : List α} (hi : L[i]? = some (Ob.row d e v xs)) (hgd : o.guard = none) (s x : Operand) (t : TypeId) (z : Value) (bytes : Nat)
    (ho : o.op = .call { callee := .builtin .append, args := #[s, x], argTypes := #[t, t] })
    (ht : P.underlying t = some (.slice e)) (hinfo : (P.info? e).map (fun i => (i.zero, i.size, i.bytes)) = some (some z, d.sz, bytes)) (hz : z.cells.size = d.sz) (hs0 : 0 < d.sz) (hb0 : 0 < bytes)
    (p : α) (cs : Array Value) (hcs : cs.toList = enc p) (hs : a.eval s = v) (hx : a.eval x = .slice (some ⟨W.heap.size, 0, none⟩) 1 1) (hl : (xs.length + 1) * bytes ≤ 140737488355328)
    (k : ∀ v1 w1, Sep w0 w1 (L.set i (Ob.row d e v1 (xs ++ [p]))) → wpList P ops Q rest (a.put o.dst v1) w1) :
    wpList P ops Q (o :: rest) a (W.alloc (.cells cs e)) := by
  obtain ⟨h1, ow, h2⟩ := HS
  have hR := Kd.R_mono (h2 i _ hi) (fun k hk => Or.inl (b := W.heap.size ≤ k) hk)
  have hcs' : cs = (enc p).toArray := by rw [← hcs]
  subst hcs'
  exact Kd.R_append d (w0 := w0) w0.heap.size hgd s x t e z bytes ho ht hinfo hz hs0 hb0 v xs p (enc p) _ (fun _ => False) hs hx (hf.M _ _ _ _) (fun _ h => h.elim) (fun k hk => .inr hk) hR h1 h1.size hl (fun v1 w1 hr hb hg _ => k v1 w1 (Sep.grow2 h1 h2 i hi hr hb hg))
/-- append(v, ys...), ys read. -/
theorem ev_append_rows (hf : FlatK d enc) (HS : Sep w0 W L) (i : Nat) {e : Nat} {v : Value} {xs ys : List α} (hi : L[i]? = some (Ob.row d e v xs)) (hgd : o.guard = none) (s x : Operand) (t : TypeId) (z : Value) (bytes : Nat)
    (ho : o.op = .call { callee := .builtin .append, args := #[s, x], argTypes := #[t, t] })
    (ht : P.underlying t = some (.slice e)) (hinfo : (P.info? e).map (fun i => (i.zero, i.size, i.bytes)) = some (some z, d.sz, bytes)) (hz : z.cells.size = d.sz) (hs0 : 0 < d.sz) (hb0 : 0 < bytes)
    {A : Option Addr} {m c : Nat} (hs : a.eval s = v) (hx : a.eval x = .slice A m c) (hC : d.C W A m ys) (hl : (xs.length + m) * bytes ≤ 140737488355328)
    (k : ∀ v1 w1, Sep w0 w1 (L.set i (Ob.row d e v1 (xs ++ ys))) → wpList P ops Q rest (a.put o.dst v1) w1) :
    wpList P ops Q (o :: rest) a W := by
  obtain ⟨h1, ow, h2⟩ := HS
  have hR := Kd.R_mono (h2 i _ hi) (fun k hk => Or.inl (b := W.heap.size ≤ k) hk)
  exact Kd.R_append_rows d (w0 := w0) w0.heap.size hgd s x t e z bytes ho ht hinfo hz hs0 hb0 v xs ys A m c _ (fun _ => False) hs hx hR hC (fun x cs hk => by rw [hf.op _ _ _ hk]; exact hf.M _ _ _ _) (fun _ h => h.elim) (fun k hk => .inr hk) h1 h1.size hl (fun v1 w1 hr hb hg _ => k v1 w1 (Sep.grow2 h1 h2 i hi hr hb hg))
/-- row[j] = x, or some of its fields: the cells from q on of element j are written. -/
theorem ev_store (hf : FlatK d enc) (HS : Sep w0 W L) (i : Nat) {e g n cap : Nat} {xs : List α} (hi : L[i]? = some (Ob.row d e (.slice (some ⟨g, 0, none⟩) n cap) xs)) (hN : o.dst = none) (hgd : o.guard = none) (t : TypeId) (p x : Operand) (ho : o.op = .store t p x)
    (j q : Nat) (hj : j < xs.length) (z x' : α) (u : Value) {o' : Nat} (haddr : a.eval p = .pointer (some ⟨g, o', none⟩)) (hoff : o' = j * d.sz + q) (hx : a.eval x = u) (ht : (P.info? t).map (·.size) = some u.cells.toList.length) (h1' : ∀ y ∈ u.cells.toList, y.oneCell' = true)
    (hq : q + u.cells.toList.length ≤ d.sz) (hM : (enc (xs.getD j z)).take q ++ u.cells.toList ++ (enc (xs.getD j z)).drop (q + u.cells.toList.length) = enc x')
    (k : ∀ w1, Sep w0 w1 (L.set i (Ob.row d e (.slice (some ⟨g, 0, none⟩) n cap) (xs.set j x'))) → wpList P ops Q rest a w1) : wpList P ops Q (o :: rest) a W := by
  obtain ⟨h1, ow, h2⟩ := HS
  have hR := Kd.R_mono (h2 i _ hi) (fun k hk => Or.inl (b := W.heap.size ≤ k) hk)
  obtain ⟨hn, hc, hC⟩ := Kd.R_reads' (h2 i _ hi)
  obtain ⟨ad, c, e1, hcl, hK, hcc⟩ := Kd.C_get hC z (j : Int) (by omega) (by omega)
  obtain rfl := hf.op _ _ _ hK
  injection e1 with e1
  subst e1
  rw [Int.toNat_natCast] at hcl hcc
  refine Kd.R_store d (w0 := w0) w0.heap.size hN hgd t p x ho e (i := (j : Int)) q xs x' u u.cells.toList (enc (xs.getD j z)) _ (fun _ => False) haddr (by rw [Int.toNat_natCast]; exact hoff) hx rfl ht h1' hR (by omega) (by omega) (hf.sz _) (fun m y hy => ?_) hq (by rw [hM]; exact hf.M _ _ _ _) (fun _ h => h.elim) h1 (fun w1 hr hb hg => ?_)
  · have := hcc m y hy
    rw [Int.toNat_natCast]
    rwa [add_plain] at this
  · rw [Int.toNat_natCast] at hr
    exact k w1 (Sep.grow2 h1 h2 i hi hr hb (by simpa [Value.ownBlock] using hg))
theorem FlatK.one (hf : FlatK d enc) (x : α) : ∀ u ∈ enc x, u.oneCell' = true := d.K_one (hf.K default x)
/-- row[j] = T{..}. -/
theorem ev_put (hf : FlatK d enc) (HS : Sep w0 W L) (i : Nat) {e g n cap : Nat} {xs : List α} (hi : L[i]? = some (Ob.row d e (.slice (some ⟨g, 0, none⟩) n cap) xs)) (hN : o.dst = none) (hgd : o.guard = none) (t : TypeId) (p x : Operand) (ho : o.op = .store t p x)
    (j : Nat) (hj : j < xs.length) (x' : α) {o' : Nat} (haddr : a.eval p = .pointer (some ⟨g, o', none⟩)) (hoff : o' = j * d.sz) (hx : a.eval x = .agg (enc x').toArray) (ht : (P.info? t).map (·.size) = some d.sz)
    (k : ∀ w1, Sep w0 w1 (L.set i (Ob.row d e (.slice (some ⟨g, 0, none⟩) n cap) (xs.set j x'))) → wpList P ops Q rest a w1) : wpList P ops Q (o :: rest) a W :=
  ev_store hf HS i hi hN hgd t p x ho j 0 hj x' x' _ haddr hoff hx (by rw [ht]; exact congrArg some (hf.sz x').symm) (hf.one x') (by show 0 + (enc x').length ≤ d.sz; rw [hf.sz]; omega) (by
    show (enc (xs.getD j x')).take 0 ++ enc x' ++ (enc (xs.getD j x')).drop (0 + (enc x').length) = enc x'
    rw [Nat.zero_add, List.drop_eq_nil_of_le (by rw [hf.sz, hf.sz]; omega)]
    simp) k
/-- row[j].f = y, f the field number q. -/
theorem ev_field (hf : FlatK d enc) (HS : Sep w0 W L) (i : Nat) {e g n cap : Nat} {xs : List α} (hi : L[i]? = some (Ob.row d e (.slice (some ⟨g, 0, none⟩) n cap) xs)) (hN : o.dst = none) (hgd : o.guard = none) (t : TypeId) (p x : Operand) (ho : o.op = .store t p x)
    (j q : Nat) (hj : j < xs.length) (z x' : α) (u : Value) {o' : Nat} (haddr : a.eval p = .pointer (some ⟨g, o', none⟩)) (hoff : o' = j * d.sz + q) (hx : a.eval x = u) (hu : u.cells = #[u]) (h1 : u.oneCell' = true) (ht : (P.info? t).map (·.size) = some 1) (hq : q < d.sz)
    (hM : (enc (xs.getD j z)).set q u = enc x')
    (k : ∀ w1, Sep w0 w1 (L.set i (Ob.row d e (.slice (some ⟨g, 0, none⟩) n cap) (xs.set j x'))) → wpList P ops Q rest a w1) : wpList P ops Q (o :: rest) a W :=
  ev_store hf HS i hi hN hgd t p x ho j q hj z x' u haddr hoff hx (by rw [ht, hu]; rfl) (fun y hy => by rw [hu] at hy; rw [List.mem_singleton.1 hy]; exact h1) (by rw [hu]; exact hq) (by
    rw [hu, ← hM]
    show (enc (xs.getD j z)).take q ++ [u] ++ (enc (xs.getD j z)).drop (q + 1) = _
    rw [List.set_eq_take_append_cons_drop, if_pos (by rw [hf.sz]; exact hq)]
    simp) k
end
section
variable {P : Program} {ops : Array Oper} {o : Oper} {a : Act} {Q : Exit → Act → World → Prop} {Kc : Act → World → Prop} {w0 W : World} {L : List Ob} {α : Type} {d : Kd α} {enc : α → List Value}
/-- append(v, x) as one step of a region that draws. -/
theorem ev_append_step (hf : FlatK d enc) (HS : Sep w0 W L) (i : Nat) {e : Nat} {v : Value} {xs : List α} (hi : L[i]? = some (Ob.row d e v xs)) (hw : Region.wanted o (yielded ops a.tmps) = true) (s x : Operand) (t : TypeId) (z : Value) (bytes : Nat)
    (ho : o.op = .call { callee := .builtin .append, args := #[s, x], argTypes := #[t, t] })
    (ht : P.underlying t = some (.slice e)) (hinfo : (P.info? e).map (fun i => (i.zero, i.size, i.bytes)) = some (some z, d.sz, bytes)) (hz : z.cells.size = d.sz) (hs0 : 0 < d.sz) (hb0 : 0 < bytes)
    (p : α) (cs : Array Value) (hcs : cs.toList = enc p) (hs : a.eval s = v) (hx : a.eval x = .slice (some ⟨W.heap.size, 0, none⟩) 1 1) (hl : (xs.length + 1) * bytes ≤ 140737488355328)
    (k : ∀ v1 w1, Sep w0 w1 (L.set i (Ob.row d e v1 (xs ++ [p]))) → Kc (a.put o.dst v1) w1) :
    if Region.wanted o (yielded ops a.tmps) = true then Oper.wp P o a (W.alloc (.cells cs e)) Kc Q else Kc (a.put o.dst undef) (W.alloc (.cells cs e)) := by
  obtain ⟨h1, ow, h2⟩ := HS
  have hR := Kd.R_mono (h2 i _ hi) (fun k hk => Or.inl (b := W.heap.size ≤ k) hk)
  have hcs' : cs = (enc p).toArray := by rw [← hcs]
  subst hcs'
  exact Kd.R_append_step d (w0 := w0) w0.heap.size hw s x t e z bytes ho ht hinfo hz hs0 hb0 v xs p (enc p) _ (fun _ => False) hs hx (hf.M _ _ _ _) (fun _ h => h.elim) (fun k hk => .inr hk) hR h1 h1.size hl (fun v1 w1 hr hb hg _ => k v1 w1 (Sep.grow2 h1 h2 i hi hr hb hg))
/-- append(v, ys...) as one step of a region that draws. -/
theorem ev_append_rows_step (hf : FlatK d enc) (HS : Sep w0 W L) (i : Nat) {e : Nat} {v : Value} {xs ys : List α} (hi : L[i]? = some (Ob.row d e v xs)) (hw : Region.wanted o (yielded ops a.tmps) = true) (s x : Operand) (t : TypeId) (z : Value) (bytes : Nat)
    (ho : o.op = .call { callee := .builtin .append, args := #[s, x], argTypes := #[t, t] })
    (ht : P.underlying t = some (.slice e)) (hinfo : (P.info? e).map (fun i => (i.zero, i.size, i.bytes)) = some (some z, d.sz, bytes)) (hz : z.cells.size = d.sz) (hs0 : 0 < d.sz) (hb0 : 0 < bytes)
    {A : Option Addr} {m c : Nat} (hs : a.eval s = v) (hx : a.eval x = .slice A m c) (hC : d.C W A m ys) (hl : (xs.length + m) * bytes ≤ 140737488355328)
    (k : ∀ v1 w1, Sep w0 w1 (L.set i (Ob.row d e v1 (xs ++ ys))) → Kc (a.put o.dst v1) w1) :
    if Region.wanted o (yielded ops a.tmps) = true then Oper.wp P o a W Kc Q else Kc (a.put o.dst undef) W := by
  obtain ⟨h1, ow, h2⟩ := HS
  have hR := Kd.R_mono (h2 i _ hi) (fun k hk => Or.inl (b := W.heap.size ≤ k) hk)
  exact Kd.R_append_rows_step d (w0 := w0) w0.heap.size hw s x t e z bytes ho ht hinfo hz hs0 hb0 v xs ys A m c _ (fun _ => False) hs hx hR hC (fun x cs hk => by rw [hf.op _ _ _ hk]; exact hf.M _ _ _ _) (fun _ h => h.elim) (fun k hk => .inr hk) h1 h1.size hl (fun v1 w1 hr hb hg _ => k v1 w1 (Sep.grow2 h1 h2 i hi hr hb hg))
end
end Go.Proofs.Ytbbeaghhchjkgaa.Sp
