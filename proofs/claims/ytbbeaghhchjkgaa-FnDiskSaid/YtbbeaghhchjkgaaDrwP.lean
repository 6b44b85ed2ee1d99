/- How great a disk may become by one step. No condition. -/
import Derived.Test.YtbbeaghhchjkgaaDkMove
import Derived.Test.YtbbeaghhchjkgaaDkAppend
namespace Go.Proofs.Ytbbeaghhchjkgaa.Dk
open Go.RowKit Go.Proofs.Ytbbeaghhchjkgaa.Ty Go.Proofs.Ytbbeaghhchjkgaa.Im Go.Proofs.Ytbbeaghhchjkgaa.Lw
set_option linter.unusedVariables false
def mu (l : List File) : Int := (l.length : Int) + vol l
def fs (f : File) : Int := (f.Safe.size : Int) + f.Late.size
theorem mu_nonneg (l : List File) : 0 ≤ mu l := by have := vol_nonneg l; unfold mu; omega
theorem fs_nonneg (f : File) : 0 ≤ fs f := by unfold fs; omega
theorem mu_nil : mu [] = 0 := rfl
theorem mu_cons (x : File) (l : List File) : mu (x :: l) = 1 + fs x + mu l := by
  unfold mu fs
  rw [List.length_cons]
  have : vol (x :: l) = (x.Safe.size : Int) + x.Late.size + vol l := rfl
  rw [this]
  omega
theorem mu_app (a b : List File) : mu (a ++ b) = mu a + mu b := by
  induction a with
  | nil => rw [List.nil_append, mu_nil]; omega
  | cons x a ih => rw [List.cons_append, mu_cons, mu_cons, ih]; omega
theorem mu_putFrom (f : File) : ∀ (l : List File) (put : Bool), mu (putFrom f l put) ≤ mu l + (if put = true then 0 else 1 + fs f)
  | [], put => by
    have := fs_nonneg f
    unfold putFrom
    split
    · rw [mu_nil]; omega
    · rw [mu_cons, mu_nil]; omega
  | x :: xs, put => by
    have ih := mu_putFrom f xs (put || decide (f.Name ≤ x.Name))
    have h1 := fs_nonneg f
    have h2 := fs_nonneg x
    rw [putFrom, mu_app, mu_app, mu_cons]
    have h3 : mu (if x.Name ≠ f.Name then [x] else []) ≤ 1 + fs x := by
      split
      · rw [mu_cons, mu_nil]; omega
      · rw [mu_nil]; omega
    cases put
    · by_cases h : f.Name ≤ x.Name
      · rw [if_pos ⟨rfl, h⟩, mu_cons, mu_nil]
        rw [show (false || decide (f.Name ≤ x.Name)) = true from by simpa using h, if_pos rfl] at ih
        rw [show (false || decide (f.Name ≤ x.Name)) = true from by simpa using h, if_neg (show ¬ (false = true) from by decide)]
        omega
      · rw [if_neg (fun hc => h hc.2), mu_nil]
        rw [show (false || decide (f.Name ≤ x.Name)) = false from by simpa using h, if_neg (show ¬ (false = true) from by decide)] at ih
        rw [show (false || decide (f.Name ≤ x.Name)) = false from by simpa using h, if_neg (show ¬ (false = true) from by decide)]
        omega
    · rw [if_neg (fun hc => by cases hc.1), mu_nil]
      rw [Bool.true_or, if_pos rfl] at ih
      rw [Bool.true_or, if_pos rfl]
      omega
theorem mu_putF (l : List File) (f : File) : mu (putF l f) ≤ mu l + 1 + fs f := by
  have := mu_putFrom f l false
  rw [if_neg (by decide)] at this
  unfold putF
  omega
theorem mu_erase : ∀ (l : List File) (i : Nat), mu (l.eraseIdx i) ≤ mu l
  | [], _ => Int.le_refl _
  | x :: l, 0 => by
    have := fs_nonneg x
    rw [mu_cons]
    show mu l ≤ _
    omega
  | x :: l, i + 1 => by
    have := mu_erase l i
    rw [List.eraseIdx_cons_succ, mu_cons, mu_cons]
    omega
theorem fs_rd (l : List File) (i : Nat) : fs (rdFile l i) ≤ vol l := by
  by_cases h : i < l.length
  · exact vol_at h
  · have := vol_nonneg l
    unfold rdFile
    rw [List.getD_eq_getElem?_getD, List.getElem?_eq_none (by omega)]
    exact this
theorem mu_refuse (room : Int) (l : List File) (code : Int) : mu (refuse room l code).files ≤ mu l := by
  have := mu_nonneg l
  unfold refuse refused
  split
  · exact this
  · exact Int.le_refl _
theorem mu_append (room : Int) (l : List File) (name : Int) (s : ByteArray) (hs : (s.size : Int) ≤ 8) : mu (appendR room l name s).files ≤ 2 * mu l + 9 := by
  have h0 := mu_nonneg l
  unfold appendR
  split
  · split
    · show mu l ≤ _; omega
    · have h1 := mu_putF l (appFile l name s)
      have h2 : fs (appFile l name s) ≤ vol l + s.size := by
        have h3 := vol_nonneg l
        unfold appFile
        split
        · unfold fs; rw [ByteArray.size_append]; show ((0 : Nat) : Int) + ((0 + s.size : Nat) : Int) ≤ _; omega
        · have h4 := fs_rd l (fileAt l name).toNat
          unfold fs at h4 ⊢
          dsimp only
          rw [ByteArray.size_append]
          omega
      show mu (putF _ _) ≤ _
      unfold mu at h0 h1 ⊢
      omega
  · show (0 : Int) ≤ _; omega
theorem mu_sync (room : Int) (l : List File) (name : Int) : mu (syncR room l name).files ≤ 2 * mu l + 9 := by
  have h0 := mu_nonneg l
  unfold syncR
  split
  · have h1 := mu_putF l ⟨name, fileText l name, ⟨#[]⟩⟩
    have h4 := fs_rd l (fileAt l name).toNat
    have h2 : fs ⟨name, fileText l name, ⟨#[]⟩⟩ ≤ vol l := by
      unfold fs at h4 ⊢
      unfold fileText
      rw [ByteArray.size_append]
      show ((_ : Nat) : Int) + ((0 : Nat) : Int) ≤ _
      omega
    show mu (putF _ _) ≤ _
    unfold mu at h0 h1 ⊢
    omega
  · have := mu_refuse room l (atCode room l name); omega
theorem mu_move (room : Int) (l : List File) (from_ to_ : Int) : mu (moveR room l from_ to_).files ≤ 2 * mu l + 9 := by
  have h0 := mu_nonneg l
  unfold moveR
  split
  · have h1 := mu_putF (l.eraseIdx (fileAt l from_).toNat) (mvFile l from_ to_)
    have h2 := mu_erase l (fileAt l from_).toNat
    have h4 := fs_rd l (fileAt l from_).toNat
    have h3 : fs (mvFile l from_ to_) ≤ vol l := h4
    show mu (putF _ _) ≤ _
    unfold mu at h0 h1 h2 ⊢
    omega
  · have := mu_refuse room l (moveCode room l from_ to_); omega
theorem mu_drop (room : Int) (l : List File) (name : Int) : mu (dropR room l name).files ≤ 2 * mu l + 9 := by
  have h0 := mu_nonneg l
  unfold dropR
  split
  · have h2 := mu_erase l (fileAt l name).toNat
    show mu (List.eraseIdx _ _) ≤ _
    omega
  · have := mu_refuse room l (atCode room l name); omega
end Go.Proofs.Ytbbeaghhchjkgaa.Dk
