/- What a crash leaves: plain lists. No condition. -/
import Derived.Test.YtbbeaghhchjkgaaDkCrash
import Derived.Test.YtbbeaghhchjkgaaDkPutP
import Derived.Test.YtbbeaghhchjkgaaDrwP
namespace Go.Proofs.Ytbbeaghhchjkgaa.Dk
open Go.RowKit Go.Proofs.Ytbbeaghhchjkgaa.Ty Go.Proofs.Ytbbeaghhchjkgaa.Im Go.Proofs.Ytbbeaghhchjkgaa.Lw
set_option linter.unusedVariables false
theorem okFrom_congr {l l' : List File} (h : ∀ i, (rdFile l i).Name = (rdFile l' i).Name) : ∀ d j, okFrom l d j = okFrom l' d j
  | 0, _ => rfl
  | d + 1, j => by rw [okFrom, okFrom, okFrom_congr h d (j + 1), h j, h (j - 1)]
theorem idxP_congr {p q : Nat → Bool} (h : ∀ k, p k = q k) : ∀ d j, idxP p d j = idxP q d j
  | 0, _ => rfl
  | d + 1, j => by rw [idxP, idxP, idxP_congr h d (j + 1), h j]
theorem fileAt_congr {l l' : List File} (hl : l.length = l'.length) (h : ∀ i, (rdFile l i).Name = (rdFile l' i).Name) (name : Int) : fileAt l name = fileAt l' name := by
  unfold fileAt
  rw [hl]
  exact idxP_congr (fun k => by rw [h k]) _ _
theorem fileAt_own {l : List File} (h : okFrom l l.length 0 = true) {i : Nat} (hi : i < l.length) : fileAt l (rdFile l i).Name = (i : Int) := by
  have hs := sorted_of_ok h
  have e : l = l.take i ++ l[i] :: l.drop (i + 1) := by rw [← List.drop_eq_getElem_cons hi, List.take_append_drop]
  rw [rdFile_eq hi]
  have hs2 := hs
  rw [e] at hs2
  obtain ⟨s1, _⟩ := sorted_pre hs2
  have := fileAt_mid (a := l.take i) (b := l.drop (i + 1)) (f := l[i]) rfl (fun y hy => by have := s1 y hy; omega)
  rw [← e, List.length_take, Nat.min_eq_left (by omega)] at this
  exact this
theorem crash_name (keep : Int) (l : List File) (i : Nat) : (rdFile (crashL keep l) i).Name = (rdFile l i).Name := by
  unfold rdFile crashL
  rw [List.getD_eq_getElem?_getD, List.getD_eq_getElem?_getD, List.getElem?_map]
  cases l[i]? <;> rfl
theorem crash_at (keep : Int) {l : List File} {i : Nat} (hi : i < l.length) : rdFile (crashL keep l) i = crashFile keep (rdFile l i) := by
  rw [rdFile_eq (by unfold crashL; rw [List.length_map]; exact hi), rdFile_eq hi]
  unfold crashL
  rw [List.getElem_map]
theorem crash_len (keep : Int) (l : List File) : (crashL keep l).length = l.length := by unfold crashL; exact List.length_map _
theorem ext_size (s : ByteArray) (k : Int) (h0 : 0 ≤ k) (h1 : k ≤ s.size) : (s.extract 0 k.toNat).size = k.toNat := by rw [ByteArray.size_extract]; omega
theorem crash_size (keep : Int) (x : File) : (crashFile keep x).Safe.size = x.Safe.size + (keepN keep x.Late.size).toNat := by
  obtain ⟨h0, h1⟩ := keepN_range keep x.Late.size
  show (x.Safe ++ x.Late.extract 0 _).size = _
  rw [ByteArray.size_append, ext_size _ _ h0 h1]
theorem crash_vol (keep : Int) : ∀ l : List File, vol (crashL keep l) ≤ vol l
  | [] => Int.le_refl _
  | x :: l => by
    have ih := crash_vol keep l
    have h1 := crash_size keep x
    obtain ⟨h2, h3⟩ := keepN_range keep x.Late.size
    have e1 : vol (crashL keep (x :: l)) = ((crashFile keep x).Safe.size : Int) + ((0 : Nat) : Int) + vol (crashL keep l) := rfl
    have e2 : vol (x :: l) = (x.Safe.size : Int) + x.Late.size + vol l := rfl
    rw [e1, e2, h1]
    omega
theorem crash_ok {room : Int} {l : List File} (keep : Int) (h : diskOk room l = true) : diskOk room (crashL keep l) = true := by
  rw [diskOk, Bool.and_eq_true, Bool.and_eq_true, decide_eq_true_iff] at h ⊢
  have hv := crash_vol keep l
  exact ⟨by rw [crash_len, okFrom_congr (crash_name keep l)]; exact h.1, h.2.1, by omega⟩
theorem set_name {l : List File} {i : Nat} (hi : i < l.length) {f : File} (hf : f.Name = (rdFile l i).Name) (k : Nat) : (rdFile (l.set i f) k).Name = (rdFile l k).Name := by
  unfold rdFile
  rw [List.getD_eq_getElem?_getD, List.getD_eq_getElem?_getD]
  by_cases e : i = k
  · subst e
    rw [List.getElem?_set_self hi, List.getElem?_eq_getElem hi]
    rw [rdFile_eq hi] at hf
    exact hf
  · rw [List.getElem?_set_ne e]
theorem vol_set : ∀ {l : List File} {i : Nat} (hi : i < l.length) (f : File), vol (l.set i f) = vol l - fs (rdFile l i) + fs f
  | x :: l, 0, _, f => by
    show (f.Safe.size : Int) + f.Late.size + vol l = (x.Safe.size : Int) + x.Late.size + vol l - ((x.Safe.size : Int) + x.Late.size) + ((f.Safe.size : Int) + f.Late.size)
    omega
  | x :: l, i + 1, hi, f => by
    have ih := vol_set (l := l) (i := i) (by simpa using hi) f
    show (x.Safe.size : Int) + x.Late.size + vol (l.set i f) = (x.Safe.size : Int) + x.Late.size + vol l - fs (rdFile l i) + fs f
    omega
theorem set_ok {room : Int} {l : List File} {i : Nat} (h : diskOk room l = true) (hi : i < l.length) {f : File} (hf : f.Name = (rdFile l i).Name) (hz : fs f = fs (rdFile l i)) : diskOk room (l.set i f) = true := by
  rw [diskOk, Bool.and_eq_true, Bool.and_eq_true, decide_eq_true_iff] at h ⊢
  exact ⟨by rw [List.length_set, okFrom_congr (set_name hi hf)]; exact h.1, h.2.1, by rw [vol_set hi, hz]; omega⟩
theorem set_rd {l : List File} {i : Nat} (hi : i < l.length) (f : File) : rdFile (l.set i f) i = f := by
  rw [rdFile_eq (by rw [List.length_set]; exact hi), List.getElem_set_self]
/-- The file of number i, read behind a crash. -/
theorem read_crash {room : Int} {l : List File} (keep : Int) (h : diskOk room l = true) {i : Nat} (hi : i < l.length) :
    hasFile room (crashL keep l) (rdFile l i).Name = true ∧ readText room (crashL keep l) (rdFile l i).Name = (crashFile keep (rdFile l i)).Safe ++ ⟨#[]⟩ := by
  have h1 := h
  rw [diskOk, Bool.and_eq_true] at h1
  have e : fileAt (crashL keep l) (rdFile l i).Name = (i : Int) := by
    rw [fileAt_congr (crash_len keep l) (crash_name keep l), fileAt_own h1.1 hi]
  have a : hasFile room (crashL keep l) (rdFile l i).Name = true := by
    rw [hasFile, crash_ok keep h, e, Bool.true_and]; exact decide_eq_true (by omega)
  refine ⟨a, ?_⟩
  rw [readText, if_pos a, fileText, e, Int.toNat_natCast, crash_at keep hi]
  rfl
theorem app_nil (s : ByteArray) : s ++ ⟨#[]⟩ = s := by
  apply ByteArray.ext
  rw [ByteArray.data_append]
  simp
theorem ext_nil (a b : Nat) : (⟨#[]⟩ : ByteArray).extract a b = ⟨#[]⟩ := by
  apply ByteArray.ext
  rw [ByteArray.data_extract]
  simp
theorem ext_front (s t : ByteArray) (k : Nat) (h : k ≤ t.size) : (s ++ t).extract 0 (s.size + k) = s ++ t.extract 0 k := by
  apply ByteArray.ext
  rw [ByteArray.data_extract, ByteArray.data_append, ByteArray.data_append, ByteArray.data_extract]
  have e : s.data.size = s.size := rfl
  rw [Array.extract_append, e, Nat.zero_sub, show s.size + k - s.size = k by omega, Array.extract_eq_self_of_le (by omega)]
/-- A synced file, read behind a crash, is there whole. -/
theorem read_synced {room : Int} {l : List File} (keep : Int) (h : diskOk room l = true) {i : Nat} (hi : i < l.length) {T : ByteArray} (hT : (T.size : Int) = fs (rdFile l i)) :
    hasFile room (crashL keep (l.set i ⟨(rdFile l i).Name, T, ⟨#[]⟩⟩)) (rdFile l i).Name = true ∧ readText room (crashL keep (l.set i ⟨(rdFile l i).Name, T, ⟨#[]⟩⟩)) (rdFile l i).Name = T ∧ diskOk room (l.set i ⟨(rdFile l i).Name, T, ⟨#[]⟩⟩) = true := by
  have hz : fs ⟨(rdFile l i).Name, T, ⟨#[]⟩⟩ = fs (rdFile l i) := by
    rw [← hT]
    show ((T.size : Nat) : Int) + ((0 : Nat) : Int) = _
    omega
  have hok := set_ok h hi (f := ⟨(rdFile l i).Name, T, ⟨#[]⟩⟩) rfl hz
  have hr := read_crash keep hok (i := i) (by rw [List.length_set]; exact hi)
  rw [set_rd hi] at hr
  refine ⟨hr.1, hr.2.trans ?_, hok⟩
  rw [app_nil]
  show T ++ (⟨#[]⟩ : ByteArray).extract 0 _ = T
  rw [ext_nil, app_nil]
end Go.Proofs.Ytbbeaghhchjkgaa.Dk
