/- Where a file stands, and what it holds. No condition. -/
import Derived.Test.YtbbeaghhchjkgaaDkOk
import Derived.Shelf.Abstract
namespace Go.Proofs.Ytbbeaghhchjkgaa.Dk
open Go.RowKit Go.Proofs.YtbbeaghhchjkgaaW.PrintWords Go.Proofs.Ytbbeaghhchjkgaa.Sp Go.Proofs.Ytbbeaghhchjkgaa.Ty Go.Proofs.Ytbbeaghhchjkgaa.Im Go.Proofs.Ytbbeaghhchjkgaa.Lw
set_option linter.unusedVariables false
set_option linter.unusedSimpArgs false
attribute [local go_sem ↓] Go.wp_at_zero Go.wp_at_succ
attribute [local go_sem] World.cell?_alloc_lt
/-- The first of d numbers from i on for which p holds, or -1. -/
def idxP (p : Nat → Bool) : Nat → Nat → Int
  | 0, _ => -1
  | d + 1, i => if p i = true then (i : Int) else idxP p d (i + 1)
theorem idxP_range {p : Nat → Bool} : ∀ (d i : Nat), idxP p d i = -1 ∨ ((i : Int) ≤ idxP p d i ∧ idxP p d i < (i : Int) + d ∧ p (idxP p d i).toNat = true)
  | 0, _ => .inl rfl
  | d + 1, i => by
    by_cases h : p i = true
    · refine .inr ?_
      rw [show idxP p (d + 1) i = (i : Int) from if_pos h]
      exact ⟨by omega, by omega, by simpa using h⟩
    · rw [show idxP p (d + 1) i = idxP p d (i + 1) from if_neg h]
      rcases idxP_range d (i + 1) with h1 | ⟨h1, h2, h3⟩
      · exact .inl h1
      · exact .inr ⟨by omega, by omega, h3⟩
set_option maxHeartbeats 1000000 in
set_option maxRecDepth 100000 in
/-- slices.IndexFunc at []File, at a predicate that may make memory of its own. -/
theorem IndexFunc_File (g : Nat) (lb : Array Value) (p : File → Bool) (eg : ∀ args w, (callFunc g args).run Try.prog w = .ok (.enter g args) w) (A : Option Addr) (c : Nat) (l : List File) (w : World) (hr : Kd.C kFile w A l.length l)
    (hp : ∀ W x, Below w.heap.size w W → Calls Try.prog g (#[.agg (File.enc x).toArray] ++ lb) W fun e w' => e = .returned (.bool (p x)) ∧ Below W.heap.size W w') :
    Calls Try.prog 90 #[.slice A l.length c, .func (.func g) #[] lb] w fun e w' => e = .returned (.int .i64 (idxP (fun i => p (rdFile l i)) l.length 0)) ∧ Below w.heap.size w w' := by
  have hm := Kd.C_max hr
  have HR := Aside0.mk hr
  have HP := Aside0.mk hp
  clear hr hp
  have hu2 := Try.underlying44
  go_enter Try.func90, Try.ntmps90
  go_wp2
  go_loopw [8] (fun q wr => ∃ (d j : Nat), d + j = l.length ∧ q = .int .i64 j ∧ Aside0 (idxP (fun i => p (rdFile l i)) d j = idxP (fun i => p (rdFile l i)) l.length 0) ∧ Aside0 (Below w.heap.size w wr)) (fun q _ => l.length - (intOf q).toNat)
  case atStart => exact ⟨l.length, 0, rfl, rfl, ⟨rfl⟩, ⟨Below.refl _ _⟩⟩
  case round =>
    obtain ⟨d, j, hj, rfl, HD, HB⟩ := hrel
    cases d with
    | zero =>
      have hj : j = l.length := by omega
      subst hj
      go_wp2
      go_ret
      exact ⟨ret_int (by rw [← HD.out]; rfl), HB.out⟩
    | succ d =>
      obtain ⟨ad, rfl, hx⟩ := atFile (Kd.C_below HR.out HB.out) j (by omega)
      have p1 : j < l.length := by omega
      have HC := Aside0.mk (HP.out wr (rdFile l j) HB.out)
      cases hb : p (rdFile l j)
      · rw [hb] at HC
        have HBB := Aside0.mk hb
        clear hb
        go_wp2_with (go_at_fn g; refine HC.out.mono ?_; rintro e w' ⟨rfl, hb⟩)
        go_roundw
        case rel => exact ⟨d, j + 1, by omega, by go_num, ⟨by rw [← HD.out]; exact (if_neg (show ¬ (p (rdFile l j) = true) by rw [HBB.out]; decide)).symm⟩, ⟨below_step HB.out hb⟩⟩
        case measure => simp [intOf]; omega
      · rw [hb] at HC
        have HBB := Aside0.mk hb
        clear hb
        go_wp2_with (go_at_fn g; refine HC.out.mono ?_; rintro e w' ⟨rfl, hb⟩)
        go_ret
        exact ⟨ret_int (by rw [← HD.out]; exact (if_pos HBB.out).symm), below_step HB.out hb⟩
set_option maxRecDepth 100000 in
theorem fileAt_1 (x : File) (name : Int) (b : Nat) (W : World) (h : W.cell? ⟨b, 0, none⟩ = some (.int .i64 name)) : Calls Try.prog 91 (#[.agg (File.enc x).toArray] ++ #[.pointer (some ⟨b, 0, none⟩)]) W fun e w' => e = .returned (.bool (x.Name == name)) ∧ Below W.heap.size W w' := by
  obtain ⟨a0, a1, a2⟩ := x
  simp only [File.enc]
  have hu := Try.underlying44
  have n1 := World.block_lt_of_cell? _ _ h
  go_enter Try.func91, Try.ntmps91
  go_wp2
  go_ret
  exact ⟨rfl, by repeat (first | exact Below.refl _ _ | apply below_alloc)⟩
/-- Where the file of a name stands, or -1. -/
def fileAt (l : List File) (name : Int) : Int := idxP (fun i => (rdFile l i).Name == name) l.length 0
set_option maxRecDepth 100000 in
theorem impl_fileAt (room : Int) (A : Option Addr) (c : Nat) (l : List File) (name : Int) (w : World) (hr : Kd.C kFile w A l.length l) :
    Calls Try.prog 51 #[.agg #[.int .i64 room, .slice A l.length c], .int .i64 name] w fun e w' => e = .returned (.int .i64 (fileAt l name)) ∧ Below w.heap.size w w' := by
  have HR := Aside0.mk hr
  clear hr
  have hu1 := Try.underlying29
  have eg := enters_of Try.func91 (by kernel_rfl) rfl
  go_enter Try.func51, Try.ntmps51
  go_wp2_with (go_at_call 90; refine (IndexFunc_File 91 _ (fun x => x.Name == name) eg A c l _ (Kd.C_alloc (Kd.C_alloc HR.out _) _) (fun W x hW => fileAt_1 x name _ W (pw_cell_below hW (World.cell?_alloc_at _ _ _ _ (by simp))))).mono ?_; rintro e w' ⟨rfl, hb⟩)
  go_ret
  exact ⟨rfl, below_step (below_alloc (below_alloc (Below.refl _ _) _) _) hb⟩
set_option maxRecDepth 100000 in
theorem spec_Find (room : Int) (A : Option Addr) (c : Nat) (l : List File) (name : Int) (w : World) (hr : Kd.C kFile w A l.length l) :
    Calls Try.prog 50 #[.agg #[.int .i64 room, .slice A l.length c], .int .i64 name] w fun e w' => e = .returned (.int .i64 (fileAt l name)) ∧ Below w.heap.size w w' := by
  have hm := Kd.C_max hr
  have HR := Aside0.mk hr
  clear hr
  have hu1 := Try.underlying29
  have hu2 := Try.underlying44
  go_enter Try.func50, Try.ntmps50
  go_wp2
  go_loopw [5] (fun q wr => ∃ (d j : Nat), d + j = l.length ∧ q = .int .i64 j ∧ Aside0 (idxP (fun i => (rdFile l i).Name == name) d j = fileAt l name) ∧ Aside0 (Sep w wr [Ob.box w.heap.size #[.int .i64 room, .slice A l.length c] 29])) (fun q _ => l.length - (intOf q).toNat)
  case atStart => exact ⟨l.length, 0, rfl, rfl, ⟨rfl⟩, ⟨(Sep.nil w).alloc _ _⟩⟩
  case round =>
    obtain ⟨d, j, hj, rfl, HD, HS⟩ := hrel
    have F := HS.out.facts
    simp only [facts_cons, facts_nil, fact_box, fact_row, fact_gone, cellsAt_cons, cellsAt_nil, Nat.zero_add, Nat.reduceAdd, true_and, and_true] at F
    cases d with
    | zero =>
      have hj : j = l.length := by omega
      subst hj
      go_wp2
      go_ret
      exact ⟨ret_int (by rw [← HD.out]; rfl), HS.out.old⟩
    | succ d =>
      obtain ⟨ad, rfl, hx⟩ := atFile (Kd.C_below HR.out HS.out.old) j (by omega)
      have p1 : j < l.length := by omega
      cases hb : (rdFile l j).Name == name
      · have HBB := Aside0.mk hb
        go_wp2
        go_roundw
        case rel => exact ⟨d, j + 1, by omega, by go_num, ⟨by rw [← HD.out]; exact (if_neg (show ¬ (((rdFile l j).Name == name) = true) by rw [HBB.out]; decide)).symm⟩, HS⟩
        case measure => simp [intOf]; omega
      · have HBB := Aside0.mk hb
        go_wp2
        go_ret
        exact ⟨ret_int (by rw [← HD.out]; exact (if_pos HBB.out).symm), HS.out.old⟩
end Go.Proofs.Ytbbeaghhchjkgaa.Dk
