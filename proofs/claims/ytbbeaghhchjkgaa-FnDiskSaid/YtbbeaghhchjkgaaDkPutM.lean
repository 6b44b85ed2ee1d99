/- (*Disk).put: a file put into its place. No condition. -/
import Derived.Test.YtbbeaghhchjkgaaDkIns2
import Derived.Test.YtbbeaghhchjkgaaDkPutP
namespace Go.Proofs.Ytbbeaghhchjkgaa.Dk
open Go.RowKit Go.Proofs.YtbbeaghhchjkgaaW Go.Proofs.YtbbeaghhchjkgaaW.PrintWords Go.Proofs.Ytbbeaghhchjkgaa.Sp Go.Proofs.Ytbbeaghhchjkgaa.Ty Go.Proofs.Ytbbeaghhchjkgaa.Im Go.Proofs.Ytbbeaghhchjkgaa.Lw
set_option linter.unusedVariables false
set_option linter.unusedSimpArgs false
attribute [local go_sem ↓] Go.wp_at_zero Go.wp_at_succ
attribute [local go_sem] World.cell?_alloc_lt
set_option maxRecDepth 100000 in
set_option maxHeartbeats 4000000 in
/-- d.put(f): the disk's files are the row number ir, the disk the box number ib. -/
theorem impl_put (w0 w : World) (L : List Ob) (ib ir gb : Nat) (hne : ib ≠ ir) (room : Int) (B : Option Addr) (cap : Nat) (l : List File) (f : File) (hs : Sep w0 w L) (hib : L[ib]? = some (Ob.box gb #[.int .i64 room, .slice B l.length cap] 29)) (hir : L[ir]? = some (Ob.row kFile 44 (.slice B l.length cap) l)) (hl : l.length ≤ 1048576) :
    Calls Try.prog 66 #[.pointer (some ⟨gb, 0, none⟩), .agg (File.enc f).toArray] w fun e w' => e = .returned (.tuple #[]) ∧ ∃ B' cap', Sep w0 w' ((L.set ir (Ob.row kFile 44 (.slice B' (l.length + 1) cap') (putAt l f))).set ib (Ob.box gb #[.int .i64 room, .slice B' (l.length + 1) cap'] 29)) := by
  have hirl := (List.getElem?_eq_some_iff.1 hir).1
  have hibl := (List.getElem?_eq_some_iff.1 hib).1
  have HS := Aside0.mk (hs.alloc (File.enc f).toArray 44)
  have hb1 : ∀ (r q : Ob), (((L ++ [Ob.box w.heap.size (File.enc f).toArray 44]) ++ [q]).set ir r)[ib]? = some (Ob.box gb #[.int .i64 room, .slice B l.length cap] 29) := fun r q => by
    rw [List.getElem?_set_ne (by omega), List.getElem?_append_left (by simp; omega), List.getElem?_append_left hibl]; exact hib
  have hb2 : ∀ (r q : Ob), (((L ++ [Ob.box w.heap.size (File.enc f).toArray 44]) ++ [q]).set ir r)[L.length]? = some (Ob.box w.heap.size (File.enc f).toArray 44) := fun r q => by
    rw [List.getElem?_set_ne (by omega), List.getElem?_append_left (by simp)]; exact get_last
  have hb3 : ∀ (q : Ob), ((L ++ [Ob.box w.heap.size (File.enc f).toArray 44]) ++ [q])[ir]? = some (Ob.row kFile 44 (.slice B l.length cap) l) := fun q => by
    rw [List.getElem?_append_left (by simp; omega), List.getElem?_append_left hirl]; exact hir
  have hb4 : ∀ (q : Ob), ((L ++ [Ob.box w.heap.size (File.enc f).toArray 44]) ++ [q])[L.length + 1]? = some q := fun q => by
    have := get_last (L := L ++ [Ob.box w.heap.size (File.enc f).toArray 44]) (o := q)
    rwa [List.length_append] at this
  have hb5 : (L ++ [Ob.box w.heap.size (File.enc f).toArray 44])[ib]? = some (Ob.box gb #[.int .i64 room, .slice B l.length cap] 29) := by rw [List.getElem?_append_left hibl]; exact hib
  have hb6 : (L ++ [Ob.box w.heap.size (File.enc f).toArray 44])[ir]? = some (Ob.row kFile 44 (.slice B l.length cap) l) := by rw [List.getElem?_append_left hirl]; exact hir
  have HB := Aside0.mk (And.intro hb1 (And.intro hb2 (And.intro (hb3 (Ob.box 0 #[] 0)) hb4)))
  have HB3 := Aside0.mk hb3
  have HB5 := Aside0.mk hb5
  have HB6 := Aside0.mk hb6
  have hu := Try.underlying29
  have hu2 := Try.underlying44
  have hu3 := Try.underlying27
  clear hs hib hir hb1 hb2 hb3 hb4 hb5 hb6
  simp only [File.enc]
  go_enter Try.func66, Try.ntmps66
  go_wp2
  go_loopw [4] (fun q wr => ∃ (k : Nat), k ≤ l.length ∧ q = .int .i64 k ∧ Aside0 (∀ j, j < k → (rdFile l j).Name < f.Name) ∧ Aside0 (Sep w0 wr (L ++ [Ob.box w.heap.size (File.enc f).toArray 44]))) (fun q _ => l.length - (intOf q).toNat)
  case atStart => exact ⟨0, Nat.zero_le _, rfl, ⟨fun j hj => absurd hj (Nat.not_lt_zero _)⟩, HS⟩
  case round =>
    clear HS
    obtain ⟨k, hk, rfl, HK, HS⟩ := hrel
    have y0 : wr.cell? ⟨gb, 1, none⟩ = some (.slice B l.length cap) := (HS.out.cells ib HB5.out).1 1
    have y1 : wr.cell? ⟨w.heap.size, 0, none⟩ = some (.int .i64 f.Name) := (HS.out.cells L.length get_last).1 0
    have y2 : wr.cell? ⟨w.heap.size, 1, none⟩ = some (.string f.Safe) := (HS.out.cells L.length get_last).1 1
    have y3 : wr.cell? ⟨w.heap.size, 2, none⟩ = some (.string f.Late) := (HS.out.cells L.length get_last).1 2
    have r0 : (0 : Int) ≤ (k : Int) := by omega
    by_cases hkl : k = l.length
    · have HFIN : Aside0 (lowK l f = k) := ⟨lowK_eq hk HK.out (fun h => by omega)⟩
      have c0 : decide ((k : Int) < (l.length : Int)) = false := decide_eq_false (by omega)
      have c01 : decide (k < l.length) = false := decide_eq_false (by omega)
      have c02 : ¬ k < l.length := by omega
      clear hkl
      go_wp2
      go_quiet (fail)
      replace HS := Aside0.mk (HS.out.drewN nq)
      clear y0 y1 y2 y3
      generalize hW_ : wr.drewN nq = W5 at HS ⊢
      clear hW_
      have y0 : W5.cell? ⟨gb, 1, none⟩ = some (.slice B l.length cap) := (HS.out.cells ib HB5.out).1 1
      have y1 : W5.cell? ⟨w.heap.size, 0, none⟩ = some (.int .i64 f.Name) := (HS.out.cells L.length get_last).1 0
      have y2 : W5.cell? ⟨w.heap.size, 1, none⟩ = some (.string f.Safe) := (HS.out.cells L.length get_last).1 1
      have y3 : W5.cell? ⟨w.heap.size, 2, none⟩ = some (.string f.Late) := (HS.out.cells L.length get_last).1 2
      go_wp2
      refine PrintLast.start_ (ds := [11]) (S := (fun W => W.cell? ⟨gb, 1, none⟩ = some (.slice B l.length cap) ∧ W.cell? ⟨w.heap.size, 0, none⟩ = some (.int .i64 f.Name) ∧ W.cell? ⟨w.heap.size, 1, none⟩ = some (.string f.Safe) ∧ W.cell? ⟨w.heap.size, 2, none⟩ = some (.string f.Late))) #[false, false, false, false, false, false, false, false, false, false, false, false] (by kernel_rfl) rfl rfl ⟨y0, y1, y2, y3⟩ (fun HH => ?_)
      refine PrintLast.pure_ (i := 0) (N := some 27) (v := ?_) #[true, false, false, false, false, false, false, false, false, false, false, false] rfl rfl (by kernel_rfl) (fun _ _ _ h => h) (Or.inl ⟨by rfl, ?_⟩) rfl ?_
      rotate_left 1
      · (intro w; go_simp; (try with_reducible rfl))
      (try simp only [Act.put, List.setIfInBounds_toArray, List.set_cons_zero, List.set_cons_succ])
      refine PrintLast.pure_ (i := 1) (N := some 28) (v := ?_) #[true, true, false, false, false, false, false, false, false, false, false, false] rfl rfl (by kernel_rfl) (fun _ _ _ h => h) (Or.inl ⟨by rfl, ?_⟩) rfl ?_
      rotate_left 1
      · (intro w; go_simp; (try with_reducible rfl))
      (try simp only [Act.put, List.setIfInBounds_toArray, List.set_cons_zero, List.set_cons_succ])
      refine PrintLast.pure_ (i := 2) (N := some 29) (v := ?_) #[true, true, true, false, false, false, false, false, false, false, false, false] rfl rfl (by kernel_rfl) (fun _ _ _ h => h) (Or.inl ⟨by rfl, ?_⟩) rfl ?_
      rotate_left 1
      · (intro w; go_simp; (try with_reducible rfl))
      (try simp only [Act.put, List.setIfInBounds_toArray, List.set_cons_zero, List.set_cons_succ])
      refine PrintLast.pure_ (i := 3) (N := some 30) (v := ?_) #[true, true, true, true, false, false, false, false, false, false, false, false] rfl rfl (by kernel_rfl) (fun _ _ _ h => h) (Or.inl ⟨by rfl, ?_⟩) rfl ?_
      rotate_left 1
      · (intro w; go_simp; (try with_reducible rfl))
      (try simp only [Act.put, List.setIfInBounds_toArray, List.set_cons_zero, List.set_cons_succ])
      refine PrintLast.take_ (i := 4) (N := some 31) (v := ?_) #[true, true, true, true, true, false, false, false, false, false, false, false] rfl rfl (by kernel_rfl) (fun _ _ _ h => h) (Or.inl ⟨by rfl, ?_⟩) HH rfl ?_
      rotate_left 1
      · (intro w hSw; (try dsimp only at hSw); go_simp; (try with_reducible rfl))
      (try simp only [Act.put, List.setIfInBounds_toArray, List.set_cons_zero, List.set_cons_succ])
      refine PrintLast.pure_ (i := 5) (N := some 32) (v := ?_) #[true, true, true, true, true, true, false, false, false, false, false, false] rfl rfl (by kernel_rfl) (fun _ _ _ h => h) (Or.inl ⟨by rfl, ?_⟩) rfl ?_
      rotate_left 1
      · (intro w; go_simp; (try with_reducible rfl))
      (try simp only [Act.put, List.setIfInBounds_toArray, List.set_cons_zero, List.set_cons_succ])
      refine PrintLast.take_ (i := 6) (N := some 33) (v := ?_) #[true, true, true, true, true, true, true, false, false, false, false, false] rfl rfl (by kernel_rfl) (fun _ _ _ h => h) (Or.inl ⟨by rfl, ?_⟩) HH rfl ?_
      rotate_left 1
      · (intro w hSw; (try dsimp only at hSw); go_simp; (try with_reducible rfl))
      (try simp only [Act.put, List.setIfInBounds_toArray, List.set_cons_zero, List.set_cons_succ])
      refine PrintLast.one_ (i := 7) (N := some 34) #[true, true, true, true, true, true, true, true, false, false, false, false] rfl rfl (by kernel_rfl) (by decide) (fun K hK => ?_)
      go_simp
      refine hK.out _ _ (by first | exact ⟨y0, y1, y2, y3⟩ | go_keep) (fun HH => ?_)
      clear hK K
      (try simp only [Act.put, List.setIfInBounds_toArray, List.set_cons_zero, List.set_cons_succ])
      refine PrintLast.one_ (i := 8) (N := some 35) #[true, true, true, true, true, true, true, true, true, false, false, false] rfl rfl (by kernel_rfl) (by decide) (fun K hK => ?_)
      go_simp
      refine (Insert_File w0 _ _ ir (L.length + 1) W5.heap.size (by omega) B cap l k hk f (HS.out.drew.alloc (File.enc f).toArray 44) (HB3.out _) (HB.out.2.2.2 _) hl).mono ?_
      rintro e w6 ⟨B', cap', rfl, hs⟩
      have y0 : w6.cell? ⟨gb, 1, none⟩ = some (.slice B l.length cap) := (hs.cells ib (HB.out.1 _ _)).1 1
      have z0 : w6.frozen? ⟨gb, 1, none⟩ = false := (hs.cells ib (HB.out.1 _ _)).2 1
      have y1 : w6.cell? ⟨w.heap.size, 0, none⟩ = some (.int .i64 f.Name) := (hs.cells L.length (HB.out.2.1 _ _)).1 0
      have y2 : w6.cell? ⟨w.heap.size, 1, none⟩ = some (.string f.Safe) := (hs.cells L.length (HB.out.2.1 _ _)).1 1
      have y3 : w6.cell? ⟨w.heap.size, 2, none⟩ = some (.string f.Late) := (hs.cells L.length (HB.out.2.1 _ _)).1 2
      have HS6 := Aside0.mk hs
      clear hs
      refine hK.out _ _ (by first | exact ⟨y0, y1, y2, y3⟩ | go_keep) (fun HH => ?_)
      clear hK K
      (try simp only [Act.put, List.setIfInBounds_toArray, List.set_cons_zero, List.set_cons_succ])
      refine PrintLast.pure_ (i := 9) (N := some 36) (v := ?_) #[true, true, true, true, true, true, true, true, true, true, false, false] rfl rfl (by kernel_rfl) (fun _ _ _ h => h) (Or.inl ⟨by rfl, ?_⟩) rfl ?_
      rotate_left 1
      · (intro w; go_simp; (try with_reducible rfl))
      (try simp only [Act.put, List.setIfInBounds_toArray, List.set_cons_zero, List.set_cons_succ])
      refine PrintLast.pure_ (i := 10) (N := some 37) (v := ?_) #[true, true, true, true, true, true, true, true, true, true, true, false] rfl rfl (by kernel_rfl) (fun _ _ _ h => h) (Or.inl ⟨by rfl, ?_⟩) rfl ?_
      rotate_left 1
      · (intro w; go_simp; (try with_reducible rfl))
      (try simp only [Act.put, List.setIfInBounds_toArray, List.set_cons_zero, List.set_cons_succ])
      refine PrintLast.last_ (i := 11) (N := none) #[true, true, true, true, true, true, true, true, true, true, true, true] rfl rfl (by kernel_rfl) (by decide) (fun K hK => ?_)
      go_simp
      refine hK.out _ _ ?_
      clear hK K
      refine PrintLast.done_ (by kernel_rfl) ?_
      go_wp2
      refine ⟨rfl, .tuple #[], by simp [results, Try.results66, go_sem], rfl, B', cap', ?_⟩
      have h := HS6.out.set ib (HB.out.1 _ _) 1 (.slice B' (l.length + 1) cap')
      rw [List.set_append_left _ _ (by rw [List.length_append]; omega), List.set_append_left _ _ hirl, List.set_append_left _ _ (by rw [List.length_append, List.length_set]; omega), List.set_append_left _ _ (by rw [List.length_set]; exact hibl)] at h
      have hk2 := HFIN.out
      rw [show putAt l f = l.take k ++ f :: l.drop k by unfold putAt; rw [hk2]]
      exact h.drop.drop
    · have p1 : k < l.length := by omega
      obtain ⟨ad, rfl, x0, x1, x2⟩ := atFile (HS.out.C ir HB6.out) k p1
      have r1 : (k : Int) < (l.length : Int) := by omega
      by_cases hlt : (rdFile l k).Name < f.Name
      · have c1 : decide ((rdFile l k).Name < f.Name) = true := decide_eq_true hlt
        have HLT := Aside0.mk hlt
        clear hlt
        go_wp2
        go_quiet (fail)
        replace HS := Aside0.mk (HS.out.drewN nq)
        go_wp2
        go_roundw
        case rel => exact ⟨k + 1, by omega, by go_num, ⟨fun j hj => by
          by_cases e : j = k
          · rw [e]; exact HLT.out
          · exact HK.out j (by omega)⟩, HS⟩
        case measure => simp [intOf]; omega
      · have c1 : decide ((rdFile l k).Name < f.Name) = false := decide_eq_false hlt
        have HFIN : Aside0 (lowK l f = k) := ⟨lowK_eq hk HK.out (fun _ => hlt)⟩
        clear hlt
        go_wp2
        go_quiet (fail)
        replace HS := Aside0.mk (HS.out.drewN nq)
        clear y0 y1 y2 y3
        generalize hW_ : wr.drewN nq = W5 at HS ⊢
        clear hW_
        have y0 : W5.cell? ⟨gb, 1, none⟩ = some (.slice (some ad) l.length cap) := (HS.out.cells ib HB5.out).1 1
        have y1 : W5.cell? ⟨w.heap.size, 0, none⟩ = some (.int .i64 f.Name) := (HS.out.cells L.length get_last).1 0
        have y2 : W5.cell? ⟨w.heap.size, 1, none⟩ = some (.string f.Safe) := (HS.out.cells L.length get_last).1 1
        have y3 : W5.cell? ⟨w.heap.size, 2, none⟩ = some (.string f.Late) := (HS.out.cells L.length get_last).1 2
        go_wp2
        refine PrintLast.start_ (ds := [11]) (S := (fun W => W.cell? ⟨gb, 1, none⟩ = some (.slice (some ad) l.length cap) ∧ W.cell? ⟨w.heap.size, 0, none⟩ = some (.int .i64 f.Name) ∧ W.cell? ⟨w.heap.size, 1, none⟩ = some (.string f.Safe) ∧ W.cell? ⟨w.heap.size, 2, none⟩ = some (.string f.Late))) #[false, false, false, false, false, false, false, false, false, false, false, false] (by kernel_rfl) rfl rfl ⟨y0, y1, y2, y3⟩ (fun HH => ?_)
        refine PrintLast.pure_ (i := 0) (N := some 27) (v := ?_) #[true, false, false, false, false, false, false, false, false, false, false, false] rfl rfl (by kernel_rfl) (fun _ _ _ h => h) (Or.inl ⟨by rfl, ?_⟩) rfl ?_
        rotate_left 1
        · (intro w; go_simp; (try with_reducible rfl))
        (try simp only [Act.put, List.setIfInBounds_toArray, List.set_cons_zero, List.set_cons_succ])
        refine PrintLast.pure_ (i := 1) (N := some 28) (v := ?_) #[true, true, false, false, false, false, false, false, false, false, false, false] rfl rfl (by kernel_rfl) (fun _ _ _ h => h) (Or.inl ⟨by rfl, ?_⟩) rfl ?_
        rotate_left 1
        · (intro w; go_simp; (try with_reducible rfl))
        (try simp only [Act.put, List.setIfInBounds_toArray, List.set_cons_zero, List.set_cons_succ])
        refine PrintLast.pure_ (i := 2) (N := some 29) (v := ?_) #[true, true, true, false, false, false, false, false, false, false, false, false] rfl rfl (by kernel_rfl) (fun _ _ _ h => h) (Or.inl ⟨by rfl, ?_⟩) rfl ?_
        rotate_left 1
        · (intro w; go_simp; (try with_reducible rfl))
        (try simp only [Act.put, List.setIfInBounds_toArray, List.set_cons_zero, List.set_cons_succ])
        refine PrintLast.pure_ (i := 3) (N := some 30) (v := ?_) #[true, true, true, true, false, false, false, false, false, false, false, false] rfl rfl (by kernel_rfl) (fun _ _ _ h => h) (Or.inl ⟨by rfl, ?_⟩) rfl ?_
        rotate_left 1
        · (intro w; go_simp; (try with_reducible rfl))
        (try simp only [Act.put, List.setIfInBounds_toArray, List.set_cons_zero, List.set_cons_succ])
        refine PrintLast.take_ (i := 4) (N := some 31) (v := ?_) #[true, true, true, true, true, false, false, false, false, false, false, false] rfl rfl (by kernel_rfl) (fun _ _ _ h => h) (Or.inl ⟨by rfl, ?_⟩) HH rfl ?_
        rotate_left 1
        · (intro w hSw; (try dsimp only at hSw); go_simp; (try with_reducible rfl))
        (try simp only [Act.put, List.setIfInBounds_toArray, List.set_cons_zero, List.set_cons_succ])
        refine PrintLast.pure_ (i := 5) (N := some 32) (v := ?_) #[true, true, true, true, true, true, false, false, false, false, false, false] rfl rfl (by kernel_rfl) (fun _ _ _ h => h) (Or.inl ⟨by rfl, ?_⟩) rfl ?_
        rotate_left 1
        · (intro w; go_simp; (try with_reducible rfl))
        (try simp only [Act.put, List.setIfInBounds_toArray, List.set_cons_zero, List.set_cons_succ])
        refine PrintLast.take_ (i := 6) (N := some 33) (v := ?_) #[true, true, true, true, true, true, true, false, false, false, false, false] rfl rfl (by kernel_rfl) (fun _ _ _ h => h) (Or.inl ⟨by rfl, ?_⟩) HH rfl ?_
        rotate_left 1
        · (intro w hSw; (try dsimp only at hSw); go_simp; (try with_reducible rfl))
        (try simp only [Act.put, List.setIfInBounds_toArray, List.set_cons_zero, List.set_cons_succ])
        refine PrintLast.one_ (i := 7) (N := some 34) #[true, true, true, true, true, true, true, true, false, false, false, false] rfl rfl (by kernel_rfl) (by decide) (fun K hK => ?_)
        go_simp
        refine hK.out _ _ (by first | exact ⟨y0, y1, y2, y3⟩ | go_keep) (fun HH => ?_)
        clear hK K
        (try simp only [Act.put, List.setIfInBounds_toArray, List.set_cons_zero, List.set_cons_succ])
        refine PrintLast.one_ (i := 8) (N := some 35) #[true, true, true, true, true, true, true, true, true, false, false, false] rfl rfl (by kernel_rfl) (by decide) (fun K hK => ?_)
        go_simp
        refine (Insert_File w0 _ _ ir (L.length + 1) W5.heap.size (by omega) (some ad) cap l k hk f (HS.out.drew.alloc (File.enc f).toArray 44) (HB3.out _) (HB.out.2.2.2 _) hl).mono ?_
        rintro e w6 ⟨B', cap', rfl, hs⟩
        have y0 : w6.cell? ⟨gb, 1, none⟩ = some (.slice (some ad) l.length cap) := (hs.cells ib (HB.out.1 _ _)).1 1
        have z0 : w6.frozen? ⟨gb, 1, none⟩ = false := (hs.cells ib (HB.out.1 _ _)).2 1
        have y1 : w6.cell? ⟨w.heap.size, 0, none⟩ = some (.int .i64 f.Name) := (hs.cells L.length (HB.out.2.1 _ _)).1 0
        have y2 : w6.cell? ⟨w.heap.size, 1, none⟩ = some (.string f.Safe) := (hs.cells L.length (HB.out.2.1 _ _)).1 1
        have y3 : w6.cell? ⟨w.heap.size, 2, none⟩ = some (.string f.Late) := (hs.cells L.length (HB.out.2.1 _ _)).1 2
        have HS6 := Aside0.mk hs
        clear hs
        refine hK.out _ _ (by first | exact ⟨y0, y1, y2, y3⟩ | go_keep) (fun HH => ?_)
        clear hK K
        (try simp only [Act.put, List.setIfInBounds_toArray, List.set_cons_zero, List.set_cons_succ])
        refine PrintLast.pure_ (i := 9) (N := some 36) (v := ?_) #[true, true, true, true, true, true, true, true, true, true, false, false] rfl rfl (by kernel_rfl) (fun _ _ _ h => h) (Or.inl ⟨by rfl, ?_⟩) rfl ?_
        rotate_left 1
        · (intro w; go_simp; (try with_reducible rfl))
        (try simp only [Act.put, List.setIfInBounds_toArray, List.set_cons_zero, List.set_cons_succ])
        refine PrintLast.pure_ (i := 10) (N := some 37) (v := ?_) #[true, true, true, true, true, true, true, true, true, true, true, false] rfl rfl (by kernel_rfl) (fun _ _ _ h => h) (Or.inl ⟨by rfl, ?_⟩) rfl ?_
        rotate_left 1
        · (intro w; go_simp; (try with_reducible rfl))
        (try simp only [Act.put, List.setIfInBounds_toArray, List.set_cons_zero, List.set_cons_succ])
        refine PrintLast.last_ (i := 11) (N := none) #[true, true, true, true, true, true, true, true, true, true, true, true] rfl rfl (by kernel_rfl) (by decide) (fun K hK => ?_)
        go_simp
        refine hK.out _ _ ?_
        clear hK K
        refine PrintLast.done_ (by kernel_rfl) ?_
        go_wp2
        refine ⟨rfl, .tuple #[], by simp [results, Try.results66, go_sem], rfl, B', cap', ?_⟩
        have h := HS6.out.set ib (HB.out.1 _ _) 1 (.slice B' (l.length + 1) cap')
        rw [List.set_append_left _ _ (by rw [List.length_append]; omega), List.set_append_left _ _ hirl, List.set_append_left _ _ (by rw [List.length_append, List.length_set]; omega), List.set_append_left _ _ (by rw [List.length_set]; exact hibl)] at h
        have hk2 := HFIN.out
        rw [show putAt l f = l.take k ++ f :: l.drop k by unfold putAt; rw [hk2]]
        exact h.drop.drop
end Go.Proofs.Ytbbeaghhchjkgaa.Dk
