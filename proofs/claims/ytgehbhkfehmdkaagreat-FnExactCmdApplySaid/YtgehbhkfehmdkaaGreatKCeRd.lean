/- What came in, read by its kind: every value that reads as data at a type is told by that type's kind. -/
import Derived.Test.YtgehbhkfehmdkaaGreatKCeWT
import Derived.ChangeArms
import Derived.ChangeSlices
import Derived.DataReads
import Derived.Lib.SmallJoins
namespace Go.Proofs.YtgehbhkfehmdkaaGreat.Rd
open Go.RowKit Go.Proofs.YtgehbhkfehmdkaaGreatW.PrintWords Go.ChangeShapes Go.Joins Go.Deep
def Reads {α : Type} (P : Program) (t : TypeId) (d : Kd α) (good : α → Prop) : Prop :=
  P.cellsOf t = d.sz ∧ ∀ {H : Type} {enc : TypeId × Value → H} {w : World} {base : Nat} {spare : Nat → Bool} {held : Bool} {fuel : Nat} {cs : List Value} {y : DataW H × List MemPlace}, DataW.trod enc P w base spare held fuel t cs = some y → ∃ x, d.K w x cs ∧ good x
variable {P : Program} {α β : Type} {t e : TypeId}
theorem Reads_int {k : IntKind} (hu : P.underlying t = some (.int k)) (hc : P.cellsOf t = 1) : Reads P t (Kd.int k) (fun x => (Lit.int k x).wf = true) := by
  refine ⟨hc, fun h => ?_⟩
  obtain ⟨n, rfl, _, hw⟩ := DataW.trod_int hu h
  exact ⟨n, rfl, hw⟩
theorem addr_add_add (a : Addr) (i j : Nat) : (a.add i).add j = a.add (i + j) := by
  unfold Addr.add
  by_cases hi : i = 0 <;> by_cases hj : j = 0 <;> simp [hi, hj, Nat.add_assoc]
theorem cells_at {w : World} {base : Nat} {a : Addr} {n : Nat} {cs : List Value} (h : w.cells? base a n = some cs) : cs.length = n ∧ ∀ i u, cs[i]? = some u → w.cell? (a.add i) = some u := by
  unfold World.cells? at h
  split at h
  · have hl := mapM_some_length h
    rw [List.length_range] at hl
    refine ⟨hl, fun i u hu => ?_⟩
    have hi : i < n := by rw [← hl]; exact (List.getElem?_eq_some_iff.1 hu).1
    rw [mapM_some_get h i i (by simp [hi])]
    exact hu
  · cases h
theorem Reads_slice {d : Kd α} {good : α → Prop} (hu : P.underlying t = some (.slice e)) (hc : P.cellsOf t = 1) (hE : Reads P e d good) : Reads P t (Kd.slice e d) (fun xs => ∀ x ∈ xs, good x) := by
  refine ⟨hc, fun {H enc w base spare held fuel cs y} h => ?_⟩
  rcases DataW.trod_slice hu h with ⟨rfl, _⟩ | ⟨a, len, cap, elems, rest, n, _, rfl, _, _, hl, hm, hlen, hel, _, _⟩
  · exact ⟨[], ⟨none, 0, rfl, Nat.le_refl _, Kd.C_nil d w⟩, fun x hx => by cases hx⟩
  · have each : ∀ i : Fin len, ∃ x, good x ∧ ∃ c, c.length = d.sz ∧ d.K w x c ∧ ∀ j u, c[j]? = some u → w.cell? ((a.add (i.val * d.sz)).add j) = some u := by
      intro i
      have h1 := hel i.val i.isLt
      rw [List.getElem?_eq_getElem (by omega), hE.1, Option.bind_eq_some_iff] at h1
      obtain ⟨c, hc1, hc2⟩ := h1
      obtain ⟨x, hK, hg⟩ := hE.2 hc2
      obtain ⟨hl1, hcell⟩ := cells_at hc1
      exact ⟨x, hg, c, hl1, hK, hcell⟩
    let f := fun i : Fin len => (each i).choose
    have hf : ∀ i : Fin len, good (f i) ∧ ∃ c, c.length = d.sz ∧ d.K w (f i) c ∧ ∀ j u, c[j]? = some u → w.cell? ((a.add (i.val * d.sz)).add j) = some u := fun i => (each i).choose_spec
    have hlf : (List.ofFn f).length = len := by simp
    refine ⟨List.ofFn f, ⟨some a, cap, by rw [hlf], by rw [hlf]; exact hl, ?_⟩, fun x hx => ?_⟩
    · rw [hlf]
      refine ⟨hlf, by unfold maxLen at hm; omega, fun _ => ⟨a, rfl, fun j p hp => ?_⟩⟩
      rw [List.getElem?_ofFn] at hp
      split at hp
      · rename_i hj
        cases hp
        obtain ⟨_, c, h1, h2, h3⟩ := hf ⟨j, hj⟩
        refine ⟨c, h1, h2, fun i u hu => ?_⟩
        have := h3 i u hu
        rwa [addr_add_add] at this
      · cases hp
    · obtain ⟨i, rfl⟩ := List.mem_ofFn.1 hx
      exact (hf i).1
def Tail (P : Program) (fs : Array Field) (i : Nat) (d : Kd α) (good : α → Prop) : Prop :=
  d.sz = fs.size - i ∧ ∀ {H : Type} {enc : TypeId × Value → H} {w : World} {base : Nat} {spare : Nat → Bool} {held : Bool} {n : Nat} (cs : List Value) (xs : List (DataW H × List MemPlace)), cs.length = fs.size → xs.length = fs.size →
    (∀ (j : Nat) (f : Field), fs[j]? = some f → DataW.trod enc P w base spare held n f.type ((cs.drop f.offset).take (P.cellsOf f.type)) = xs[j]?) → ∃ x, d.K w x (cs.drop i) ∧ good x
theorem field_at {fs : Array Field} {i : Nat} {f : Field} {d : Kd α} {good : α → Prop} (hone : oneCellFields P fs = true) (hf : fs[i]? = some f) (hE : Reads P f.type d good) {H : Type} {enc : TypeId × Value → H} {w : World} {base : Nat} {spare : Nat → Bool} {held : Bool} {n : Nat} {cs : List Value} {xs : List (DataW H × List MemPlace)}
    (hl : cs.length = fs.size) (hx : xs.length = fs.size) (h : ∀ (j : Nat) (f : Field), fs[j]? = some f → DataW.trod enc P w base spare held n f.type ((cs.drop f.offset).take (P.cellsOf f.type)) = xs[j]?) : ∃ x c, cs.drop i = c :: cs.drop (i + 1) ∧ d.K w x [c] ∧ good x := by
  obtain ⟨ho, hk⟩ := hone_of hone i f hf
  have hi : i < fs.size := (Array.getElem?_eq_some_iff.1 hf).1
  have h1 := h i f hf
  rw [List.getElem?_eq_getElem (by omega), ho, hk] at h1
  have hd : cs.drop i = cs[i]'(by omega) :: cs.drop (i + 1) := List.drop_eq_getElem_cons (by omega)
  rw [hd] at h1
  obtain ⟨x, hK, hg⟩ := hE.2 h1
  exact ⟨x, _, hd, hK, hg⟩
theorem Tail_last {fs : Array Field} {i : Nat} {f : Field} {d : Kd α} {good : α → Prop} (_hs : P.underlying t = some (.struct fs)) (hone : oneCellFields P fs = true) (hf : fs[i]? = some f) (hi : i + 1 = fs.size) (hE : Reads P f.type d good) : Tail P fs i d good := by
  refine ⟨by rw [← hE.1, (hone_of hone i f hf).2]; omega, fun cs xs hl hx h => ?_⟩
  obtain ⟨x, c, hd, hK, hg⟩ := field_at hone hf hE hl hx h
  rw [hd, List.drop_eq_nil_of_le (by omega)]
  exact ⟨x, hK, hg⟩
theorem Tail_cons {fs : Array Field} {i : Nat} {f : Field} {d : Kd α} {d' : Kd β} {good : α → Prop} {good' : β → Prop} (_hs : P.underlying t = some (.struct fs)) (hone : oneCellFields P fs = true) (hf : fs[i]? = some f) (hE : Reads P f.type d good) (hT : Tail P fs (i + 1) d' good') : Tail P fs i (Kd.pair d d') (fun x => good x.1 ∧ good' x.2) := by
  have hi : i < fs.size := (Array.getElem?_eq_some_iff.1 hf).1
  refine ⟨by show d.sz + d'.sz = _; rw [← hE.1, (hone_of hone i f hf).2, hT.1]; omega, fun cs xs hl hx h => ?_⟩
  obtain ⟨x, c, hd, hK, hg⟩ := field_at hone hf hE hl hx h
  obtain ⟨x', hK', hg'⟩ := hT.2 cs xs hl hx h
  exact ⟨(x, x'), ⟨[c], cs.drop (i + 1), hd, hK, hK'⟩, hg, hg'⟩
theorem Reads_struct {fs : Array Field} {d : Kd α} {good : α → Prop} (hs : P.underlying t = some (.struct fs)) (hc : P.cellsOf t = fs.size) (hT : Tail P fs 0 d good) : Reads P t d good := by
  refine ⟨by rw [hc, hT.1]; rfl, fun h => ?_⟩
  obtain ⟨xs, n, _, _, hl, hlen, hf⟩ := DataW.trod_struct hs h
  simpa using hT.2 _ xs (hl.trans hc) hlen hf
theorem Reads_iso {d : Kd α} {good : α → Prop} (f : β → α) (g : α → β) (hfg : ∀ a, f (g a) = a) (h : Reads P t d good) : Reads P t (Kd.iso d f) (fun x => good (f x)) := by
  refine ⟨h.1, fun hh => ?_⟩
  obtain ⟨x, hK, hg⟩ := h.2 hh
  exact ⟨g x, by show d.K _ (f (g x)) _; rw [hfg]; exact hK, by show good (f (g x)); rw [hfg]; exact hg⟩
end Go.Proofs.YtgehbhkfehmdkaaGreat.Rd
