/- The laws' helpers over disks. No condition. -/
import Derived.Test.YtbbeaghhchjkgaaLmFile
namespace Go.Proofs.Ytbbeaghhchjkgaa.Lw
open Go.RowKit Go.Proofs.YtbbeaghhchjkgaaW.PrintWords Go.Proofs.Ytbbeaghhchjkgaa.Sp Go.Proofs.Ytbbeaghhchjkgaa.Ty
set_option linter.unusedVariables false
set_option linter.unusedSimpArgs false
attribute [local go_sem ↓] Go.wp_at_zero Go.wp_at_succ
set_option maxRecDepth 100000 in
theorem szFile (x : File) (left : Int) (w : World) (h0 : 0 ≤ left) (h1 : left ≤ 1048576) (g1 : x.Safe.size ≤ 9223372036854775807) (g2 : x.Late.size ≤ 9223372036854775807) :
    Calls Try.prog 87 #[.agg (File.enc x).toArray, .int .i64 left] w fun e w' => ∃ r, e = .returned (.int .i64 r) ∧ (0 ≤ r → r = left - x.Safe.size - x.Late.size) ∧ Below w.heap.size w w' := by
  obtain ⟨a0, a1, a2⟩ := x
  simp only [File.enc] at *
  have hu := Try.underlying110
  by_cases c1 : left - a1.size < 0
  · go_enter Try.func87, Try.ntmps87
    go_wp2
    go_ret
    exact ⟨-1, rfl, by omega, by repeat (first | exact Below.refl _ _ | apply below_alloc)⟩
  · by_cases c2 : left - a1.size - a2.size < 0
    · go_enter Try.func87, Try.ntmps87
      go_wp2
      go_ret
      exact ⟨-1, rfl, by omega, by repeat (first | exact Below.refl _ _ | apply below_alloc)⟩
    · go_enter Try.func87, Try.ntmps87
      go_wp2
      go_ret
      exact ⟨_, rfl, fun _ => rfl, by repeat (first | exact Below.refl _ _ | apply below_alloc)⟩
/-- How many bytes files have. -/
def vol : List File → Int
  | [] => 0
  | x :: l => (x.Safe.size : Int) + x.Late.size + vol l
theorem vol_append : ∀ (a b : List File), vol (a ++ b) = vol a + vol b
  | [], b => by simp [vol]
  | x :: a, b => by simp only [List.cons_append, vol, vol_append a b]; omega
theorem vol_nonneg : ∀ (a : List File), 0 ≤ vol a
  | [] => by simp [vol]
  | x :: a => by have := vol_nonneg a; simp only [vol]; omega
set_option maxRecDepth 100000 in
theorem szFileS (A : Option Addr) (c : Nat) (l : List File) (left : Int) (w : World) (hr : Kd.C kFile w A l.length l) (h0 : 0 ≤ left) (h1 : left ≤ 1048576) (hg : ∀ x ∈ l, x.Safe.size ≤ 9223372036854775807 ∧ x.Late.size ≤ 9223372036854775807) :
    Calls Try.prog 41 #[.slice A l.length c, .int .i64 left] w fun e w' => ∃ r, e = .returned (.int .i64 r) ∧ (0 ≤ r → r = left - l.length - vol l) ∧ Below w.heap.size w w' := by
  have hm := Kd.C_max hr
  have HR := Aside0.mk hr
  have HG := Aside0.mk hg
  clear hr hg
  have hu := Try.underlying110
  by_cases c1 : left - l.length < 0
  · go_enter Try.func41, Try.ntmps41
    go_wp2
    go_ret
    exact ⟨-1, rfl, by omega, Below.refl _ _⟩
  · go_enter Try.func41, Try.ntmps41
    go_wp2
    go_loopw [1, 5] (fun x q wr => ∃ (j : Nat) (m : Int), j ≤ l.length ∧ q = .int .i64 j ∧ x = .int .i64 m ∧ 0 ≤ m ∧ m ≤ 1048576 ∧ Aside0 (m = left - l.length - vol (l.take j)) ∧ Aside0 (Below w.heap.size w wr)) (fun _ q _ => l.length - (intOf q).toNat)
    case atStart => exact ⟨0, _, by omega, rfl, rfl, by omega, by omega, ⟨by simp [vol]⟩, ⟨Below.refl _ _⟩⟩
    case round =>
      obtain ⟨j, m, hj, rfl, rfl, hm0, hm1, HM, HB⟩ := hrel
      by_cases hlt : j < l.length
      · obtain ⟨ad, rfl, x0, x1, x2⟩ := atFile (Kd.C_below HR.out HB.out) j hlt
        have HE := Aside0.mk (rdFile_eq hlt)
        go_wp2_with (go_at_call 87; refine (szFile (rdFile l j) m _ hm0 hm1 ?_ ?_).mono ?_; (case refine_1 => rw [HE.out]; exact (HG.out _ (List.getElem_mem hlt)).1); (case refine_2 => rw [HE.out]; exact (HG.out _ (List.getElem_mem hlt)).2); rintro e w' ⟨r, rfl, hr, hb⟩; have HB := Aside0.mk (below_step HB.out hb); clear hb; have HR' := Aside0.mk hr; clear hr)
        · go_ret
          exact ⟨-1, rfl, by omega, HB.out⟩
        · have hr0 : 0 ≤ r := by have h : ¬ r < 0 := by first | assumption | (rename_i h; exact of_decide_eq_false h) | omega
                                 omega
          have e1 := HR'.out hr0
          have e2 : vol (l.take (j + 1)) = vol (l.take j) + ((rdFile l j).Safe.size + (rdFile l j).Late.size) := by
            rw [List.take_succ_eq_append_getElem hlt, vol_append, ← HE.out]; simp only [vol]; omega
          have HE2 := Aside0.mk e1
          have HE3 := Aside0.mk e2
          clear e1 e2
          go_roundw
          case rel => exact ⟨j + 1, _, by omega, by go_num, rfl, hr0, by have := HE2.out; omega, ⟨by have := HE2.out; have := HE3.out; have := HM.out; omega⟩, HB⟩
          case measure => simp [intOf]; omega
      · have hj : j = l.length := by omega
        subst hj
        go_wp2
        go_ret
        exact ⟨_, rfl, fun _ => by have := HM.out; rwa [List.take_length] at this, HB.out⟩
set_option maxRecDepth 100000 in
theorem szDisk (room : Int) (A : Option Addr) (c : Nat) (l : List File) (w : World) (hr : Kd.C kFile w A l.length l) (hg : ∀ x ∈ l, x.Safe.size ≤ 9223372036854775807 ∧ x.Late.size ≤ 9223372036854775807) :
    Calls Try.prog 13 #[.agg #[.int .i64 room, .slice A l.length c], .int .i64 1048576] w fun e w' => ∃ r, e = .returned (.int .i64 r) ∧ (0 ≤ r → (l.length : Int) + vol l ≤ 1048576) ∧ Below w.heap.size w w' := by
  have hm := Kd.C_max hr
  have HR := Aside0.mk hr
  have HG := Aside0.mk hg
  clear hr hg
  have hu := Try.underlying24
  go_enter Try.func13, Try.ntmps13
  go_wp2_with (go_at_call 41; refine (szFileS A c l 1048576 _ (Kd.C_alloc HR.out _) (by decide) (by decide) HG.out).mono ?_; rintro e w' ⟨r, rfl, hr, hb⟩; have HB := Aside0.mk (below_step (below_alloc (Below.refl _ _) _) hb); clear hb; have HR' := Aside0.mk hr; clear hr)
  · go_ret
    exact ⟨-1, rfl, by omega, HB.out⟩
  · go_ret
    exact ⟨r, rfl, fun h => by have := HR'.out h; omega, HB.out⟩
set_option maxRecDepth 100000 in
theorem toDisk (room : Int) (A : Option Addr) (c : Nat) (l : List File) (w : World) (hl : l.length ≤ 1048576) (hr : Kd.C kFile w A l.length l) :
    Calls Try.prog 15 #[.agg #[.int .i64 room, .slice A l.length c]] w fun e w' => ∃ v, e = .returned (.agg #[.int .i64 room, v]) ∧ Sep w w' [Ob.row kFile 44 v l] := by
  have HR := Aside0.mk hr
  clear hr
  have hu := Try.underlying24
  have hu2 := Try.underlying29
  go_enter Try.func15, Try.ntmps15
  go_wp2_with (go_at_call 45; refine (toFileS A c l _ hl ?_).mono ?_; (case refine_1 => repeat (first | exact HR.out | refine Kd.C_alloc ?_ _)); rintro e w' ⟨v, rfl, hs⟩; obtain ⟨B, d, rfl, _, _⟩ := hs.reads 0 rfl; have HS := ((((Sep.nil w).alloc _ _).alloc _ _).alloc _ _).add hs; simp only [List.nil_append, List.cons_append, size_al] at HS; have F := HS.facts; simp only [facts_cons, facts_nil, fact_box, fact_row, fact_gone, cellsAt_cons, cellsAt_nil, Nat.zero_add, Nat.reduceAdd, true_and, and_true] at F; have HS := Aside0.mk HS; clear hs)
  refine bodyPost_ret (v := .agg #[.int .i64 room, .slice B l.length d]) (by simp [results, Try.results15, F, go_sem]) rfl ⟨_, rfl, ?_⟩
  exact ((((HS.out.set 2 rfl 1 _).set 1 rfl 0 _).set 1 rfl 1 _).pk [3] (by decide))
set_option maxRecDepth 100000 in
theorem eqDisk (room : Int) (A B : Option Addr) (c d : Nat) (l : List File) (w : World) (hr : Kd.C kFile w A l.length l) (hs : Kd.C kFile w B l.length l) :
    Calls Try.prog 17 #[.agg #[.int .i64 room, .slice A l.length c], .agg #[.int .i64 room, .slice B l.length d]] w fun e w' => e = .returned (.bool true) ∧ Below w.heap.size w w' := by
  have HR := Aside0.mk hr
  have HS := Aside0.mk hs
  clear hr hs
  have hu2 := Try.underlying29
  go_enter Try.func17, Try.ntmps17
  go_wp2_with (go_at_call 49; refine (eqFileS A B c d l _ (Kd.C_alloc (Kd.C_alloc HR.out _) _) (Kd.C_alloc (Kd.C_alloc HS.out _) _)).mono ?_; rintro e w' ⟨rfl, hb⟩)
  go_ret
  exact ⟨rfl, below_step (below_alloc (below_alloc (Below.refl _ _) _) _) hb⟩
set_option maxRecDepth 100000 in
theorem markDisk (room : Int) (A : Option Addr) (n c : Nat) (xs : List File) (k : Int) (w0 w : World) (L : List Ob) (i : Nat) (HS0 : Sep w0 w L) (hi : L[i]? = some (Ob.row kFile 44 (.slice A n c) xs)) (h0 : 0 < k) (h1 : k + 3 * xs.length < 900000000) :
    Calls Try.prog 22 #[.agg #[.int .i64 room, .slice A n c], .int .i64 k] w fun e w' => e = .returned (.int .i64 (k + 3 * xs.length)) ∧ Sep w0 w' (L.set i (Ob.row kFile 44 (.slice A n c) (markedFile xs.length k))) := by
  have HS := Aside0.mk HS0
  have hiL : i < L.length := (List.getElem?_eq_some_iff.1 hi).1
  have hu2 := Try.underlying29
  clear HS0
  go_enter Try.func22, Try.ntmps22
  go_wp2_with (go_at_call 55; refine (markFileS A n c xs k w0 _ _ i (HS.out.alloc _ _) (by rw [List.getElem?_append_left hiL]; exact hi) h0 h1).mono ?_; rintro e w' ⟨rfl, hs⟩)
  go_ret
  exact ⟨rfl, Sep.drop (L' := [_]) (hs.eqv (List.set_append_left _ _ hiL))⟩
set_option maxRecDepth 100000 in
theorem heldDisk (room : Int) (A : Option Addr) (n c : Nat) (k : Int) (w : World) (hr : Kd.C kFile w A n (markedFile n k)) (h0 : 0 < k) (h1 : k + 3 * n < 900000000) :
    Calls Try.prog 23 #[.agg #[.int .i64 room, .slice A n c], .int .i64 k] w fun e w' => e = .returned (.int .i64 (k + 3 * n)) ∧ Below w.heap.size w w' := by
  have HR := Aside0.mk hr
  clear hr
  have hu2 := Try.underlying29
  go_enter Try.func23, Try.ntmps23
  go_wp2_with (go_at_call 56; refine (heldFileS A n c k _ (Kd.C_alloc HR.out _) h0 h1).mono ?_; rintro e w' ⟨rfl, hb⟩)
  go_ret
  exact ⟨rfl, below_step (below_alloc (Below.refl _ _) _) hb⟩
end Go.Proofs.Ytbbeaghhchjkgaa.Lw
