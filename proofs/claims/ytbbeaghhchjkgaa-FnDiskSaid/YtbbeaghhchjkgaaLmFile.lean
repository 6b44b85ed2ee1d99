/- Marks in rows of File, written and read. No condition. -/
import Derived.Test.YtbbeaghhchjkgaaLwFile
import Derived.Test.YtbbeaghhchjkgaaLwText
namespace Go.Proofs.Ytbbeaghhchjkgaa.Lw
open Go.RowKit Go.Proofs.YtbbeaghhchjkgaaW.PrintWords Go.Proofs.Ytbbeaghhchjkgaa.Sp Go.Proofs.Ytbbeaghhchjkgaa.Ty
set_option linter.unusedVariables false
set_option linter.unusedSimpArgs false
attribute [local go_sem ↓] Go.wp_at_zero Go.wp_at_succ
/-- What element i is told when the marks begin at k. -/
def mkFile (k : Int) : File := ⟨k, markT (k + 1), markT (k + 2)⟩
def markedFile : Nat → Int → List File
  | 0, _ => []
  | n + 1, k => mkFile k :: markedFile n (k + 3)
theorem markedFile_len : ∀ (n : Nat) (k : Int), (markedFile n k).length = n
  | 0, _ => rfl
  | n + 1, k => by simp [markedFile, markedFile_len n]
theorem markedFile_at : ∀ (n : Nat) (k : Int) (j : Nat) (h : j < (markedFile n k).length), (markedFile n k)[j] = mkFile (k + 3 * j)
  | 0, _, j, h => by simp [markedFile] at h
  | n + 1, k, 0, _ => by simp [markedFile]
  | n + 1, k, j + 1, h => by
    simp only [markedFile, List.getElem_cons_succ]
    rw [markedFile_at n]
    congr 1
    omega
theorem size1IntFile : (Try.prog.info? 3).map (·.size) = some 1 := by kernel_rfl
theorem size1StrFile : (Try.prog.info? 9).map (·.size) = some 1 := by kernel_rfl
set_option maxRecDepth 100000 in
set_option maxHeartbeats 1000000 in
theorem markFileS (A : Option Addr) (n c : Nat) (xs : List File) (k : Int) (w0 w : World) (L : List Ob) (i : Nat) (HS0 : Sep w0 w L) (hi : L[i]? = some (Ob.row kFile 44 (.slice A n c) xs)) (h0 : 0 < k) (h1 : k + 3 * xs.length < 900000000) :
    Calls Try.prog 55 #[.slice A n c, .int .i64 k] w fun e w' => e = .returned (.int .i64 (k + 3 * xs.length)) ∧ Sep w0 w' (L.set i (Ob.row kFile 44 (.slice A n c) (markedFile xs.length k))) := by
  have hn := (HS0.len i hi).1
  subst hn
  have hu := Try.underlying44
  have hiL : i < L.length := (List.getElem?_eq_some_iff.1 hi).1
  have HS := Aside0.mk (HS0.eqv (L' := L.set i (Ob.row kFile 44 (.slice A xs.length c) xs)) (by obtain ⟨h, e⟩ := List.getElem?_eq_some_iff.1 hi; rw [← e, List.set_getElem_self]))
  clear HS0 hi
  have hm : xs.length ≤ 1000000000 := by omega
  go_enter Try.func55, Try.ntmps55
  go_wp2
  go_loopw [1, 5] (fun x q wr => ∃ (j : Nat) (m : Int) (ys : List File), j ≤ xs.length ∧ q = .int .i64 j ∧ x = .int .i64 m ∧ Aside0 (m = k + 3 * j) ∧ Aside0 (ys.length = xs.length ∧ ∀ q, q < j → ys[q]? = some (mkFile (k + 3 * q))) ∧ Aside0 (Sep w0 wr (L.set i (Ob.row kFile 44 (.slice A xs.length c) ys)))) (fun _ q _ => xs.length - (intOf q).toNat)
  case atStart => exact ⟨0, k, xs, by omega, rfl, rfl, ⟨by omega⟩, ⟨rfl, fun q h => by omega⟩, HS⟩
  case round =>
    obtain ⟨j, m, ys, hj, rfl, rfl, HM, HY0, HS⟩ := hrel
    by_cases hlt : j < xs.length
    · obtain ⟨g, cap, hv⟩ := HS.out.form i (List.getElem?_set_self hiL) (by rw [HY0.out.1]; omega)
      rw [HY0.out.1] at hv
      injection hv with hA _ hc
      subst hA hc
      have hm0 : 0 < m := by have := HM.out; omega
      have hm1 : m + 3 < 900000001 := by have := HM.out; omega
      have HY : Aside0 (j < ys.length) := ⟨by rw [HY0.out.1]; exact hlt⟩
      have hys0 : j < ys.length := HY.out
      have hys1 : ∀ x, j < (ys.set j x).length := fun x => by rw [List.length_set]; exact hys0
      have hys1 := fun {x} => hys1 x
      go_wp2_with (first | (go_at_call 93; refine (markText _ _ ?_ ?_).mono ?_; (case refine_1 => omega); (case refine_2 => omega); rintro e w' ⟨rfl, hb⟩; have HS := Aside0.mk (HS.out.below hb)) | ((with_reducible refine gate_store (t := 3) (p := 16) (v := .tmp 14) rfl ?_); refine ev_field flatFile HS.out i (List.getElem?_set_self hiL) rfl rfl 3 _ _ rfl j 0 hys0 File.z (⟨m, (rdFile ys j).Safe, (rdFile ys j).Late⟩ : File) (.int .i64 (m)) rfl ?_ rfl rfl rfl size1IntFile (by decide) ?_ ?_; (case refine_1 => rfl); (case refine_2 => simp only [List.getD_eq_getElem?_getD, List.getElem?_set_self HY.out, rdFile]; rfl); intro w0 HS; simp only [List.set_set] at HS; have HS := Aside0.mk HS) | ((with_reducible refine gate_store (t := 9) (p := 24) (v := .tmp 22) rfl ?_); refine ev_field flatFile HS.out i (List.getElem?_set_self hiL) rfl rfl 9 _ _ rfl j 1 hys1 File.z (⟨m, markT (m + 1), (rdFile ys j).Late⟩ : File) (.string (markT (m + 1))) rfl ?_ rfl rfl rfl size1StrFile (by decide) ?_ ?_; (case refine_1 => rfl); (case refine_2 => simp only [List.getD_eq_getElem?_getD, List.getElem?_set_self HY.out, rdFile]; rfl); intro w1 HS; simp only [List.set_set] at HS; have HS := Aside0.mk HS) | ((with_reducible refine gate_store (t := 9) (p := 32) (v := .tmp 30) rfl ?_); refine ev_field flatFile HS.out i (List.getElem?_set_self hiL) rfl rfl 9 _ _ rfl j 2 hys1 File.z (⟨m, markT (m + 1), markT (m + 1 + 1)⟩ : File) (.string (markT (m + 1 + 1))) rfl ?_ rfl rfl rfl size1StrFile (by decide) ?_ ?_; (case refine_1 => rfl); (case refine_2 => simp only [List.getD_eq_getElem?_getD, List.getElem?_set_self HY.out, rdFile]; rfl); intro w2 HS; simp only [List.set_set] at HS; have HS := Aside0.mk HS))
      go_roundw
      case rel =>
        refine ⟨j + 1, _, _, by omega, by go_num, rfl, ⟨by have := HM.out; omega⟩, ⟨by rw [List.length_set]; exact HY0.out.1, fun q hq => ?_⟩, HS⟩
        by_cases e : q = j
        · subst e
          rw [List.getElem?_set_self HY.out, ← HM.out]
          simp only [mkFile, Int.add_assoc, Int.reduceAdd]
        · rw [List.getElem?_set_ne (fun h => e h.symm)]
          exact HY0.out.2 q (by omega)
      case measure => simp [intOf]; omega
    · have hj : j = xs.length := by omega
      subst hj
      go_wp2
      go_ret
      refine ⟨ret_int (by have := HM.out; omega), HS.out.eqv ?_⟩
      congr 2
      refine List.ext_getElem? (fun q => ?_)
      by_cases hq : q < xs.length
      · rw [HY0.out.2 q hq, List.getElem?_eq_getElem (by rw [markedFile_len]; exact hq), markedFile_at]
      · rw [List.getElem?_eq_none (by have := HY0.out.1; omega), List.getElem?_eq_none (by rw [markedFile_len]; omega)]
set_option maxRecDepth 100000 in
set_option maxHeartbeats 1000000 in
theorem heldFileS (A : Option Addr) (n c : Nat) (k : Int) (w : World) (hr : Kd.C kFile w A n (markedFile n k)) (h0 : 0 < k) (h1 : k + 3 * n < 900000000) :
    Calls Try.prog 56 #[.slice A n c, .int .i64 k] w fun e w' => e = .returned (.int .i64 (k + 3 * n)) ∧ Below w.heap.size w w' := by
  have HR := Aside0.mk hr
  clear hr
  have hu := Try.underlying44
  have hm : n ≤ 1000000000 := by omega
  go_enter Try.func56, Try.ntmps56
  go_wp2
  go_loopw [1, 5] (fun x q wr => ∃ (j : Nat) (m : Int), j ≤ n ∧ q = .int .i64 j ∧ x = .int .i64 m ∧ Aside0 (m = k + 3 * j) ∧ Aside0 (Below w.heap.size w wr)) (fun _ q _ => n - (intOf q).toNat)
  case atStart => exact ⟨0, k, by omega, rfl, rfl, ⟨by omega⟩, ⟨Below.refl _ _⟩⟩
  case round =>
    obtain ⟨j, m, hj, rfl, rfl, HM, HB⟩ := hrel
    by_cases hlt : j < n
    · obtain ⟨ad, rfl, x0, x1, x2⟩ := atFile (Kd.C_below HR.out HB.out) j hlt
      rw [rdFile_eq (by rw [markedFile_len]; exact hlt), markedFile_at, ← HM.out] at x0 x1 x2
      simp only [mkFile] at x0 x1 x2
      have hm0 : 0 < m := by have := HM.out; omega
      have hm1 : m + 3 < 900000001 := by have := HM.out; omega
      have p0 : (0 : Int) ≤ (j : Int) := by omega
      have p1 : (j : Int) < (n : Int) := by omega
      rw [show m + 2 = m + 1 + 1 from by omega] at x2
      go_wp2
      go_region_held3 (fun w' => w'.cell? (ad.add (j * 3)) = some (.int .i64 (m)) ∧ w'.cell? ⟨(ad.add (j * 3)).block, (ad.add (j * 3)).off + 1, none⟩ = some (.string (markT (m + 1))) ∧ w'.cell? ⟨(ad.add (j * 3)).block, (ad.add (j * 3)).off + 2, none⟩ = some (.string (markT (m + 1 + 1)))) (first | go_keep | (repeat' apply And.intro) <;> exact pw_cell_below hb (by assumption)) (first | (go_at_call 93; refine (markText _ _ ?_ ?_).mono ?_; (case refine_1 => omega); (case refine_2 => omega); rintro e w' ⟨rfl, hb⟩))
      have HB := Aside0.mk (below_step (below_drew1 HB.out) hb)
      replace x0 := pw_cell_below hb x0
      replace x1 := pw_cell_below hb x1
      replace x2 := pw_cell_below hb x2
      clear hb
      go_wp2
      go_region_held3 (fun w' => w'.cell? (ad.add (j * 3)) = some (.int .i64 (m)) ∧ w'.cell? ⟨(ad.add (j * 3)).block, (ad.add (j * 3)).off + 1, none⟩ = some (.string (markT (m + 1))) ∧ w'.cell? ⟨(ad.add (j * 3)).block, (ad.add (j * 3)).off + 2, none⟩ = some (.string (markT (m + 1 + 1)))) (first | go_keep | (repeat' apply And.intro) <;> exact pw_cell_below hb (by assumption)) (first | (go_at_call 93; refine (markText _ _ ?_ ?_).mono ?_; (case refine_1 => omega); (case refine_2 => omega); rintro e w' ⟨rfl, hb⟩))
      have HB := Aside0.mk (below_step (below_drew1 HB.out) hb)
      replace x0 := pw_cell_below hb x0
      replace x1 := pw_cell_below hb x1
      replace x2 := pw_cell_below hb x2
      clear hb
      go_wp2
      go_roundw
      case rel => exact ⟨j + 1, _, by omega, by go_num, rfl, ⟨by have := HM.out; omega⟩, HB⟩
      case measure => simp [intOf]; omega
    · have hj : j = n := by omega
      subst hj
      go_wp2
      go_ret
      exact ⟨ret_int (by have := HM.out; omega), HB.out⟩
end Go.Proofs.Ytbbeaghhchjkgaa.Lw
