/- Files put into their places: plain lists. No condition. -/
import Derived.Test.YtbbeaghhchjkgaaDkDrop
namespace Go.Proofs.Ytbbeaghhchjkgaa.Dk
open Go.RowKit Go.Proofs.Ytbbeaghhchjkgaa.Ty Go.Proofs.Ytbbeaghhchjkgaa.Im
set_option linter.unusedVariables false
/-- How many files stand ahead of those of a name. -/
def lowK (l : List File) (f : File) : Nat := (l.takeWhile (fun x => decide (x.Name < f.Name))).length
theorem lowK_eq {l : List File} {f : File} : ∀ {k : Nat}, k ≤ l.length → (∀ j, j < k → (rdFile l j).Name < f.Name) → (k < l.length → ¬ (rdFile l k).Name < f.Name) → lowK l f = k := by
  unfold lowK
  induction l with
  | nil => intro k h _ _; simp at h; simp [h]
  | cons x l ih =>
    intro k h1 h2 h3
    cases k with
    | zero =>
      have h := h3 (by simp)
      rw [show rdFile (x :: l) 0 = x from rfl] at h
      rw [List.takeWhile_cons, if_neg (by simpa using h)]; rfl
    | succ k =>
      have h := h2 0 (by omega)
      rw [show rdFile (x :: l) 0 = x from rfl] at h
      rw [List.takeWhile_cons, if_pos (by simpa using h), List.length_cons, ih (k := k) (by simpa using h1) (fun j hj => h2 (j + 1) (by omega)) (fun hk => h3 (by simpa using hk))]
theorem lowK_le (l : List File) (f : File) : lowK l f ≤ l.length := by
  unfold lowK
  induction l with
  | nil => exact Nat.le_refl _
  | cons x l ih =>
    rw [List.takeWhile_cons]
    split
    · rw [List.length_cons, List.length_cons]; omega
    · exact Nat.zero_le _
def putAt (l : List File) (f : File) : List File := l.take (lowK l f) ++ f :: l.drop (lowK l f)
theorem putAt_len (l : List File) (f : File) : (putAt l f).length = l.length + 1 := by
  have h : lowK l f ≤ l.length := lowK_le l f
  unfold putAt
  rw [List.length_append, List.length_cons, List.length_take, List.length_drop]
  omega
theorem putAt_split {pre post : List File} {f : File} (h1 : ∀ y ∈ pre, y.Name < f.Name) (h2 : ∀ y ∈ post, ¬ y.Name < f.Name) : putAt (pre ++ post) f = pre ++ f :: post := by
  have h : lowK (pre ++ post) f = pre.length := by
    refine lowK_eq (by rw [List.length_append]; omega) (fun j hj => ?_) (fun hk => ?_)
    · rw [rdFile_eq (by rw [List.length_append]; omega), List.getElem_append_left hj]
      exact h1 _ (List.getElem_mem hj)
    · rw [List.length_append] at hk
      rw [rdFile_eq (by rw [List.length_append]; omega), List.getElem_append_right (Nat.le_refl _)]
      exact h2 _ (List.getElem_mem _)
  unfold putAt
  rw [h, List.take_left, List.drop_left]
theorem putF_none {l : List File} {f : File} (h : ∀ x ∈ l, x.Name ≠ f.Name) : putF l f = putAt l f := by
  have e : ∀ (m : List File), (∀ x ∈ m, x.Name ≠ f.Name) → putFrom f m false = putAt m f := by
    intro m
    induction m with
    | nil => intro _; rfl
    | cons x m ih =>
      intro hm
      have hx := hm x (by simp)
      have hm' : ∀ y ∈ m, y.Name ≠ f.Name := fun y hy => hm y (by simp [hy])
      by_cases hle : f.Name ≤ x.Name
      · rw [putFrom, show (false || decide (f.Name ≤ x.Name)) = true from by simpa using hle, putFrom_true, List.filter_eq_self.2 (fun y hy => by have := hm' y hy; simpa using this), if_pos ⟨rfl, hle⟩, if_pos hx]
        have hl : lowK (x :: m) f = 0 := lowK_eq (Nat.zero_le _) (fun j hj => absurd hj (Nat.not_lt_zero _)) (fun _ => by show ¬ x.Name < f.Name; omega)
        unfold putAt
        rw [hl]
        rfl
      · have hlt : x.Name < f.Name := by omega
        rw [putFrom, show (false || decide (f.Name ≤ x.Name)) = false from by simpa using hlt, ih hm', if_neg (fun hc => hle hc.2), if_pos hx]
        have hl : lowK (x :: m) f = lowK m f + 1 := by
          unfold lowK
          rw [List.takeWhile_cons, if_pos (by simpa using hlt), List.length_cons]
        unfold putAt
        rw [hl]
        rfl
  exact e l h
theorem putF_sorted {l : List File} (hs : Sorted l) (f : File) : putF l f = putAt (l.filter (fun x => !(x.Name == f.Name))) f := by
  rcases fileAt_split l f.Name with ⟨_, h⟩ | ⟨pre, x, post, h1, h2, h3, h4⟩
  · rw [putF_none h, List.filter_eq_self.2 (fun y hy => by have := h y hy; simpa using this)]
  · subst h1
    obtain ⟨s1, s2⟩ := sorted_pre hs
    rw [put_same hs h2.symm, List.filter_append, List.filter_cons, List.filter_eq_self.2 (fun y hy => by have := h3 y hy; simpa using this), List.filter_eq_self.2 (fun y hy => by have := s2 y hy; simp; omega)]
    rw [if_neg (by simp [h2])]
    exact (putAt_split (fun y hy => by rw [← h2]; exact s1 y hy) (fun y hy => by have := s2 y hy; omega)).symm
theorem fileAt_mid {a b : List File} {f : File} {name : Int} (hf : f.Name = name) (ha : ∀ y ∈ a, y.Name ≠ name) : fileAt (a ++ f :: b) name = (a.length : Int) := by
  rcases fileAt_split (a ++ f :: b) name with ⟨_, h⟩ | ⟨pre, x, post, h1, h2, h3, h4⟩
  · exact absurd hf (h f (by simp))
  · rw [h4]
    rcases List.append_eq_append_iff.1 h1 with ⟨q, e1, e2⟩ | ⟨q, e1, e2⟩
    · cases q with
      | nil => rw [e1]; simp
      | cons y q =>
        rw [List.cons_append] at e2
        injection e2 with e3 e4
        exact absurd (e3 ▸ hf) (h3 y (by rw [e1]; simp))
    · cases q with
      | nil => rw [e1]; simp
      | cons y q =>
        rw [List.cons_append] at e2
        injection e2 with e3 e4
        exact absurd (e3 ▸ h2) (ha y (by rw [e1]; simp))
theorem putAt_pre (l : List File) (f : File) : ∀ y ∈ l.take (lowK l f), y.Name < f.Name := by
  unfold lowK
  induction l with
  | nil => intro y hy; simp at hy
  | cons x l ih =>
    by_cases hx : x.Name < f.Name
    · rw [List.takeWhile_cons, if_pos (by simpa using hx), List.length_cons, List.take_succ_cons]
      intro y hy
      rcases List.mem_cons.1 hy with e | e
      · rw [e]; exact hx
      · exact ih y e
    · rw [List.takeWhile_cons, if_neg (by simpa using hx)]
      intro y hy
      simp at hy
theorem fileAt_putAt (l : List File) (f : File) : fileAt (putAt l f) f.Name = ((lowK l f : Nat) : Int) ∧ lowK l f < (putAt l f).length ∧ rdFile (putAt l f) (lowK l f) = f ∧ ∀ g : File, g.Name = f.Name → (putAt l f).set (lowK l f) g = putAt l g := by
  have hk : lowK l f ≤ l.length := lowK_le l f
  have e : (l.take (lowK l f)).length = lowK l f := by rw [List.length_take]; omega
  refine ⟨?_, by rw [putAt_len]; omega, ?_, fun g hg => ?_⟩
  · unfold putAt
    rw [fileAt_mid (f := f) rfl (fun y hy => by have := putAt_pre l f y hy; omega), e]
  · rw [rdFile_eq (by rw [putAt_len]; omega)]
    unfold putAt
    rw [List.getElem_append_right (by rw [e]; exact Nat.le_refl _)]
    simp [e]
  · have hg2 : lowK l g = lowK l f := by unfold lowK; rw [hg]
    unfold putAt
    rw [hg2, List.set_append_right _ _ (by rw [e]; exact Nat.le_refl _), e, Nat.sub_self]
    rfl
end Go.Proofs.Ytbbeaghhchjkgaa.Dk
