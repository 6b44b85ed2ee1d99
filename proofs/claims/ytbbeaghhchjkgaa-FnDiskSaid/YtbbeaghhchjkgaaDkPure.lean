/- Files in order: plain lists. No condition. -/
import Derived.Test.YtbbeaghhchjkgaaDkPut
namespace Go.Proofs.Ytbbeaghhchjkgaa.Dk
open Go.RowKit Go.Proofs.Ytbbeaghhchjkgaa.Ty Go.Proofs.Ytbbeaghhchjkgaa.Im
set_option linter.unusedVariables false
def Sorted (l : List File) : Prop := l.Pairwise (fun a b => a.Name < b.Name)
theorem okFrom_lt {l : List File} : ∀ (d j : Nat), okFrom l d j = true → ∀ i, j ≤ i → i < j + d → isFile (rdFile l i).Name = true ∧ (i ≠ 0 → (rdFile l (i - 1)).Name < (rdFile l i).Name)
  | 0, j, _, i, h1, h2 => by omega
  | d + 1, j, h, i, h1, h2 => by
    obtain ⟨a, b, c⟩ := okFrom_step d j h
    by_cases e : i = j
    · subst e; exact ⟨a, b⟩
    · exact okFrom_lt d (j + 1) c i (by omega) (by omega)
theorem sorted_of_ok {l : List File} (h : okFrom l l.length 0 = true) : Sorted l := by
  have step : ∀ (k i : Nat), i + k < l.length → 0 < k → (rdFile l i).Name < (rdFile l (i + k)).Name := by
    intro k
    induction k with
    | zero => intro i _ h; omega
    | succ k ih =>
      intro i hi _
      have h1 := (okFrom_lt l.length 0 h (i + (k + 1)) (by omega) (by omega)).2 (by omega)
      rw [show i + (k + 1) - 1 = i + k from by omega] at h1
      by_cases e : k = 0
      · subst e; exact h1
      · exact Int.lt_trans (ih i (by omega) (by omega)) h1
  refine List.pairwise_iff_getElem.2 (fun i j hi hj hij => ?_)
  have := step (j - i) i (by omega) (by omega)
  rw [show i + (j - i) = j from by omega, rdFile_eq hi, rdFile_eq hj] at this
  exact this
theorem find_go {l : List File} {name : Int} : ∀ (post pre : List File), (∀ y ∈ pre, y.Name ≠ name) → l = pre ++ post → (idxP (fun i => (rdFile l i).Name == name) post.length pre.length = -1 ∧ ∀ x ∈ l, x.Name ≠ name) ∨ ∃ pre' x post', l = pre' ++ x :: post' ∧ x.Name = name ∧ (∀ y ∈ pre', y.Name ≠ name) ∧ idxP (fun i => (rdFile l i).Name == name) post.length pre.length = (pre'.length : Int)
  | [], pre, h1, h2 => .inl ⟨rfl, by rw [h2]; simpa using h1⟩
  | x :: post, pre, h1, h2 => by
    have hx : rdFile l pre.length = x := by rw [h2, rdFile]; simp
    by_cases e : x.Name = name
    · exact .inr ⟨pre, x, post, h2, e, h1, if_pos (by show ((rdFile l pre.length).Name == name) = true; rw [hx]; simpa using e)⟩
    · have h3 : ∀ y ∈ pre ++ [x], y.Name ≠ name := by
        intro y hy
        rcases List.mem_append.1 hy with hy | hy
        · exact h1 y hy
        · rw [List.mem_singleton.1 hy]; exact e
      have ih := find_go (l := l) post (pre ++ [x]) h3 (by rw [h2]; simp)
      rw [List.length_append, List.length_singleton] at ih
      rw [show idxP (fun i => (rdFile l i).Name == name) (x :: post).length pre.length = idxP (fun i => (rdFile l i).Name == name) post.length (pre.length + 1) from if_neg (by show ¬ ((rdFile l pre.length).Name == name) = true; rw [hx]; simpa using e)]
      exact ih
theorem fileAt_split (l : List File) (name : Int) : (fileAt l name = -1 ∧ ∀ x ∈ l, x.Name ≠ name) ∨ ∃ pre x post, l = pre ++ x :: post ∧ x.Name = name ∧ (∀ y ∈ pre, y.Name ≠ name) ∧ fileAt l name = (pre.length : Int) :=
  find_go l [] (by simp) rfl
theorem putFrom_true (f : File) : ∀ (l : List File), putFrom f l true = l.filter (fun x => decide (x.Name ≠ f.Name))
  | [] => rfl
  | x :: l => by
    rw [putFrom, Bool.true_or, putFrom_true f l, List.filter_cons]
    by_cases h : x.Name = f.Name <;> simp [h]
theorem putFrom_pre (f : File) : ∀ (pre post : List File), (∀ y ∈ pre, y.Name < f.Name) → putFrom f (pre ++ post) false = pre ++ putFrom f post false
  | [], post, _ => rfl
  | y :: pre, post, h => by
    have hy := h y (by simp)
    have e := putFrom_pre f pre post (fun z hz => h z (by simp [hz]))
    rw [List.cons_append, putFrom, show (false || decide (f.Name ≤ y.Name)) = false from by simp; omega, e]
    simp [show ¬ f.Name ≤ y.Name from by omega, show ¬ y.Name = f.Name from by omega]
theorem sorted_pre {pre post : List File} {x : File} (h : Sorted (pre ++ x :: post)) : (∀ y ∈ pre, y.Name < x.Name) ∧ ∀ y ∈ post, x.Name < y.Name := by
  have h := List.pairwise_append.1 h
  exact ⟨fun y hy => h.2.2 y hy x (by simp), fun y hy => (List.pairwise_cons.1 h.2.1).1 y hy⟩
/-- A file put in the place of one of its name. -/
theorem put_same {pre post : List File} {x f : File} (h : Sorted (pre ++ x :: post)) (hf : f.Name = x.Name) : putF (pre ++ x :: post) f = pre ++ f :: post := by
  obtain ⟨h1, h2⟩ := sorted_pre h
  unfold putF
  rw [putFrom_pre f pre _ (fun y hy => by rw [hf]; exact h1 y hy), putFrom]
  rw [show (false || decide (f.Name ≤ x.Name)) = true from by simp; omega, putFrom_true, List.filter_eq_self.2 (fun y hy => by have := h2 y hy; simp; omega)]
  simp [hf]
theorem set_mid (pre post : List File) (x f : File) : (pre ++ x :: post).set pre.length f = pre ++ f :: post := by
  rw [List.set_append_right _ _ (Nat.le_refl _), Nat.sub_self, List.set_cons_zero]
theorem put_set {l : List File} {name : Int} (h : okFrom l l.length 0 = true) (h0 : 0 ≤ fileAt l name) (f : File) (hf : f.Name = name) : putF l f = l.set (fileAt l name).toNat f := by
  rcases fileAt_split l name with ⟨h1, _⟩ | ⟨pre, x, post, h1, h2, _, h4⟩
  · omega
  · have hs := sorted_of_ok h
    rw [h4, Int.toNat_natCast]
    subst h1
    rw [put_same hs (hf.trans h2.symm), set_mid]
theorem putF_len (l : List File) (f : File) : (putF l f).length ≤ 2 * l.length + 1 := putFrom_len f l false
end Go.Proofs.Ytbbeaghhchjkgaa.Dk
