/- What came in, read by its kind: every value that reads as data at a type is told by that type's kind. -/
import Derived.Test.YtgehbhkfehmdkaaGreatKUWT
import Derived.ChangeArms
import Derived.ChangeSlices
import Derived.DataReads
import Derived.Lib.SmallJoins
namespace Go.Proofs.YtgehbhkfehmdkaaGreat.Rd
open Go.RowKit Go.Proofs.YtgehbhkfehmdkaaGreatW.PrintWords Go.ChangeShapes Go.Joins Go.Deep
def Reads {α : Type} (P : Program) (t : TypeId) (d : Kd α) (good : α → Prop) : Prop :=
  P.cellsOf t = d.sz ∧ ∀ {H : Type} {enc : TypeId × Value → H} {w : World} {base : Nat} {spare : Nat → Bool} {held : Bool} {fuel : Nat} {cs : List Value} {y : DataW H × List MemPlace}, DataW.trod enc P w base spare held fuel t cs = some y → ∃ x, d.K w x cs ∧ good x
variable {P : Program} {α β : Type} {t e : TypeId}
theorem Reads_int {k : IntKind} (hu : P.underlying t = some (.int k)) (hc : P.cellsOf t = 1) : Reads P t (Kd.int k) (fun x => (Lit.int k x).wf = true) := by
  refine ⟨hc, fun h => ?_⟩
  obtain ⟨n, rfl, _, hw⟩ := DataW.trod_int hu h
  exact ⟨n, rfl, hw⟩
theorem addr_add_add (a : Addr) (i j : Nat) : (a.add i).add j = a.add (i + j) := by
  unfold Addr.add
  by_cases hi : i = 0 <;> by_cases hj : j = 0 <;> simp [hi, hj, Nat.add_assoc]
theorem cells_at {w : World} {base : Nat} {a : Addr} {n : Nat} {cs : List Value} (h : w.cells? base a n = some cs) : cs.length = n ∧ ∀ i u, cs[i]? = some u → w.cell? (a.add i) = some u := by
  unfold World.cells? at h
  split at h
  · have hl := mapM_some_length h
    rw [List.length_range] at hl
    refine ⟨hl, fun i u hu => ?_⟩
    have hi : i < n := by rw [← hl]; exact (List.getElem?_eq_some_iff.1 hu).1
    rw [mapM_some_get h i i (by simp [hi])]
    exact hu
  · cases h
theorem Reads_slice {d : Kd α} {good : α → Prop} (hu : P.underlying t = some (.slice e)) (hc : P.cellsOf t = 1) (hE : Reads P e d good) : Reads P t (Kd.slice e d) (fun xs => ∀ x ∈ xs, good x) := by
  refine ⟨hc, fun {H enc w base spare held fuel cs y} h => ?_⟩
  rcases DataW.trod_slice hu h with ⟨rfl, _⟩ | ⟨a, len, cap, elems, rest, n, _, rfl, _, _, hl, hm, hlen, hel, _, _⟩
  · exact ⟨[], ⟨none, 0, rfl, Nat.le_refl _, Kd.C_nil d w⟩, fun x hx => by cases hx⟩
  · have each : ∀ i : Fin len, ∃ x, good x ∧ ∃ c, c.length = d.sz ∧ d.K w x c ∧ ∀ j u, c[j]? = some u → w.cell? ((a.add (i.val * d.sz)).add j) = some u := by
      intro i
      have h1 := hel i.val i.isLt
      rw [List.getElem?_eq_getElem (by omega), hE.1, Option.bind_eq_some_iff] at h1
      obtain ⟨c, hc1, hc2⟩ := h1
      obtain ⟨x, hK, hg⟩ := hE.2 hc2
      obtain ⟨hl1, hcell⟩ := cells_at hc1
      exact ⟨x, hg, c, hl1, hK, hcell⟩
    let f := fun i : Fin len => (each i).choose
    have hf : ∀ i : Fin len, good (f i) ∧ ∃ c, c.length = d.sz ∧ d.K w (f i) c ∧ ∀ j u, c[j]? = some u → w.cell? ((a.add (i.val * d.sz)).add j) = some u := fun i => (each i).choose_spec
    have hlf : (List.ofFn f).length = len := by simp
    refine ⟨List.ofFn f, ⟨some a, cap, by rw [hlf], by rw [hlf]; exact hl, ?_⟩, fun x hx => ?_⟩
    · rw [hlf]
      refine ⟨hlf, by unfold maxLen at hm; omega, fun _ => ⟨a, rfl, fun j p hp => ?_⟩⟩
      rw [List.getElem?_ofFn] at hp
      split at hp
      · rename_i hj
        cases hp
        obtain ⟨_, c, h1, h2, h3⟩ := hf ⟨j, hj⟩
        refine ⟨c, h1, h2, fun i u hu => ?_⟩
        have := h3 i u hu
        rwa [addr_add_add] at this
      · cases hp
    · obtain ⟨i, rfl⟩ := List.mem_ofFn.1 hx
      exact (hf i).1
end Go.Proofs.YtgehbhkfehmdkaaGreat.Rd
