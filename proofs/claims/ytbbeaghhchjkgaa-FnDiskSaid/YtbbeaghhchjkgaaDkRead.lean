/- What a file holds: the program and the reference. No condition. -/
import Derived.Test.YtbbeaghhchjkgaaDkFind
namespace Go.Proofs.Ytbbeaghhchjkgaa.Dk
open Go.RowKit Go.Proofs.YtbbeaghhchjkgaaW.PrintWords Go.Proofs.Ytbbeaghhchjkgaa.Sp Go.Proofs.Ytbbeaghhchjkgaa.Ty Go.Proofs.Ytbbeaghhchjkgaa.Im Go.Proofs.Ytbbeaghhchjkgaa.Lw
set_option linter.unusedVariables false
set_option linter.unusedSimpArgs false
attribute [local go_sem ↓] Go.wp_at_zero Go.wp_at_succ
attribute [local go_sem] World.cell?_alloc_lt
def hasFile (room : Int) (l : List File) (name : Int) : Bool := diskOk room l && decide (0 ≤ fileAt l name)
def fileText (l : List File) (name : Int) : ByteArray := (rdFile l (fileAt l name).toNat).Safe ++ (rdFile l (fileAt l name).toNat).Late
def readText (room : Int) (l : List File) (name : Int) : ByteArray := if hasFile room l name = true then fileText l name else ⟨#[]⟩
theorem fileAt_range (l : List File) (name : Int) : fileAt l name = -1 ∨ (0 ≤ fileAt l name ∧ fileAt l name < l.length ∧ (rdFile l (fileAt l name).toNat).Name = name) := by
  rcases idxP_range (p := fun i => (rdFile l i).Name == name) l.length 0 with h | ⟨h1, h2, h3⟩
  · exact .inl h
  · exact .inr ⟨h1, by unfold fileAt; omega, eq_of_beq h3⟩
theorem vol_at {l : List File} {j : Nat} (h : j < l.length) : ((rdFile l j).Safe.size : Int) + (rdFile l j).Late.size ≤ vol l := by
  have := vol_take h
  have := vol_le l (j + 1)
  have := vol_nonneg (l.take j)
  omega
theorem ret_two {a b a' b' : Go.Value} (h : a = a') (k : b = b') : Ending.returned (.tuple #[a, b]) = .returned (.tuple #[a', b']) := by rw [h, k]
set_option maxRecDepth 100000 in
set_option maxHeartbeats 1000000 in
theorem spec_DiskRead (room : Int) (A : Option Addr) (c : Nat) (l : List File) (name : Int) (w : World) (hr : Kd.C kFile w A l.length l) (hv : Small l) :
    Calls Try.prog 18 #[.agg #[.int .i64 room, .slice A l.length c], .int .i64 name] w fun e w' => e = .returned (.tuple #[.string (readText room l name), .bool (hasFile room l name)]) ∧ Below w.heap.size w w' := by
  have hm := Kd.C_max hr
  have HR := Aside0.mk hr
  clear hr
  have hu1 := Try.underlying29
  have hu2 := Try.underlying44
  have HV := Aside0.mk hv
  clear hv
  have stage : ∀ (B : Bool), diskOk room l = B → (B = true → 0 ≤ fileAt l name → False) → Calls Try.prog 18 #[.agg #[.int .i64 room, .slice A l.length c], .int .i64 name] w fun e w' => e = .returned (.tuple #[.string ⟨#[]⟩, .bool false]) ∧ Below w.heap.size w w' := by
    intro B hB hno
    have HBB := Aside0.mk hB
    clear hB
    obtain ⟨fa, hfa⟩ : ∃ x, x = fileAt l name := ⟨_, rfl⟩
    rw [← hfa] at hno
    have HFA := Aside0.mk hfa
    clear hfa
    cases B
    · clear hno
      by_cases hneg : fa < 0
      all_goals
        go_enter Try.func18, Try.ntmps18
        go_wp2_with (first | (go_at_call 50; refine (spec_Find room A c l name _ (Kd.C_alloc HR.out _)).mono ?_; rw [← HFA.out]; rintro e w1 ⟨rfl, hb⟩; have HS := Aside0.mk (((Sep.nil w).alloc _ _).below hb); simp only [List.nil_append] at HS; have F := HS.out.facts; simp only [facts_cons, facts_nil, fact_box, fact_row, fact_gone, cellsAt_cons, cellsAt_nil, Nat.zero_add, Nat.reduceAdd, true_and, and_true] at F; clear hb) | (go_at_call 14; refine (spec_DiskOk room A c l _ (Kd.C_below HR.out HS.out.old) HV.out).mono ?_; rw [HBB.out]; rintro e w2 ⟨rfl, hb⟩; replace HS := Aside0.mk (HS.out.below hb); replace F := HS.out.facts; simp only [facts_cons, facts_nil, fact_box, fact_row, fact_gone, cellsAt_cons, cellsAt_nil, Nat.zero_add, Nat.reduceAdd, true_and, and_true] at F; clear hb))
        go_ret2
        exact ⟨rfl, HS.out.old⟩
    · have hneg : fa < 0 := by
        by_cases h : fa < 0
        · exact h
        · exact (hno rfl (by omega)).elim
      clear hno
      go_enter Try.func18, Try.ntmps18
      go_wp2_with (first | (go_at_call 50; refine (spec_Find room A c l name _ (Kd.C_alloc HR.out _)).mono ?_; rw [← HFA.out]; rintro e w1 ⟨rfl, hb⟩; have HS := Aside0.mk (((Sep.nil w).alloc _ _).below hb); simp only [List.nil_append] at HS; have F := HS.out.facts; simp only [facts_cons, facts_nil, fact_box, fact_row, fact_gone, cellsAt_cons, cellsAt_nil, Nat.zero_add, Nat.reduceAdd, true_and, and_true] at F; clear hb) | (go_at_call 14; refine (spec_DiskOk room A c l _ (Kd.C_below HR.out HS.out.old) HV.out).mono ?_; rw [HBB.out]; rintro e w2 ⟨rfl, hb⟩; replace HS := Aside0.mk (HS.out.below hb); replace F := HS.out.facts; simp only [facts_cons, facts_nil, fact_box, fact_row, fact_gone, cellsAt_cons, cellsAt_nil, Nat.zero_add, Nat.reduceAdd, true_and, and_true] at F; clear hb))
      go_ret2
      exact ⟨rfl, HS.out.old⟩
  cases hh : hasFile room l name
  · rw [show readText room l name = ⟨#[]⟩ from if_neg (by rw [hh]; decide)]
    refine stage _ rfl (fun h1 h2 => ?_)
    rw [hasFile, h1, decide_eq_true h2] at hh
    exact absurd hh (by decide)
  · rw [show readText room l name = fileText l name from if_pos hh, fileText]
    clear stage
    rw [hasFile, Bool.and_eq_true, decide_eq_true_eq] at hh
    have HBB := Aside0.mk hh.1
    rcases fileAt_range l name with h | ⟨h1, h2, _⟩
    · omega
    obtain ⟨j, hj⟩ := Int.eq_ofNat_of_zero_le h1
    rw [hj, Int.toNat_natCast]
    have HFA := Aside0.mk hj.symm
    have p1 : j < l.length := by omega
    have hs := vol_at p1
    have hv := HV.out
    unfold Small at hv
    have hsz : (rdFile l j).Safe.size + (rdFile l j).Late.size ≤ 1048576 := by omega
    clear hh hj h1 h2 hs hv
    go_enter Try.func18, Try.ntmps18
    go_wp2_with (first | (go_at_call 50; refine (spec_Find room A c l name _ (Kd.C_alloc HR.out _)).mono ?_; rw [← HFA.out]; rintro e w1 ⟨rfl, hb⟩; have HS := Aside0.mk (((Sep.nil w).alloc _ _).below hb); simp only [List.nil_append] at HS; have F := HS.out.facts; simp only [facts_cons, facts_nil, fact_box, fact_row, fact_gone, cellsAt_cons, cellsAt_nil, Nat.zero_add, Nat.reduceAdd, true_and, and_true] at F; clear hb) | (go_at_call 14; refine (spec_DiskOk room A c l _ (Kd.C_below HR.out HS.out.old) HV.out).mono ?_; rw [HBB.out]; rintro e w2 ⟨rfl, hb⟩; replace HS := Aside0.mk (HS.out.below hb); replace F := HS.out.facts; simp only [facts_cons, facts_nil, fact_box, fact_row, fact_gone, cellsAt_cons, cellsAt_nil, Nat.zero_add, Nat.reduceAdd, true_and, and_true] at F; clear hb))
    obtain ⟨ad, rfl, x0, x1, x2⟩ := atFile (Kd.C_below HR.out HS.out.old) j p1
    go_quiet (fail)
    go_wp2
    go_ret2
    exact ⟨rfl, pw_below_drewN HS.out.old _⟩
set_option maxRecDepth 100000 in
set_option maxHeartbeats 1000000 in
theorem impl_DiskRead (room : Int) (A : Option Addr) (c : Nat) (l : List File) (name : Int) (w : World) (hr : Kd.C kFile w A l.length l) (hv : Small l) :
    Calls Try.prog 19 #[.agg #[.int .i64 room, .slice A l.length c], .int .i64 name] w fun e w' => e = .returned (.tuple #[.string (readText room l name), .bool (hasFile room l name)]) ∧ Below w.heap.size w w' := by
  have hm := Kd.C_max hr
  have HR := Aside0.mk hr
  clear hr
  have hu1 := Try.underlying29
  have hu2 := Try.underlying44
  have HV := Aside0.mk hv
  clear hv
  have stage : ∀ (B : Bool), diskOk room l = B → (B = true → 0 ≤ fileAt l name → False) → Calls Try.prog 19 #[.agg #[.int .i64 room, .slice A l.length c], .int .i64 name] w fun e w' => e = .returned (.tuple #[.string ⟨#[]⟩, .bool false]) ∧ Below w.heap.size w w' := by
    intro B hB hno
    have HBB := Aside0.mk hB
    clear hB
    obtain ⟨fa, hfa⟩ : ∃ x, x = fileAt l name := ⟨_, rfl⟩
    rw [← hfa] at hno
    have HFA := Aside0.mk hfa
    clear hfa
    cases B
    · clear hno
      by_cases hneg : fa < 0
      all_goals
        go_enter Try.func19, Try.ntmps19
        go_wp2_with (first | (go_at_call 51; refine (impl_fileAt room A c l name _ (Kd.C_alloc HR.out _)).mono ?_; rw [← HFA.out]; rintro e w1 ⟨rfl, hb⟩; have HS := Aside0.mk (((Sep.nil w).alloc _ _).below hb); simp only [List.nil_append] at HS; have F := HS.out.facts; simp only [facts_cons, facts_nil, fact_box, fact_row, fact_gone, cellsAt_cons, cellsAt_nil, Nat.zero_add, Nat.reduceAdd, true_and, and_true] at F; clear hb) | (go_at_call 16; refine (impl_DiskOk room A c l _ (Kd.C_below HR.out HS.out.old) HV.out).mono ?_; rw [HBB.out]; rintro e w2 ⟨rfl, hb⟩; replace HS := Aside0.mk (HS.out.below hb); replace F := HS.out.facts; simp only [facts_cons, facts_nil, fact_box, fact_row, fact_gone, cellsAt_cons, cellsAt_nil, Nat.zero_add, Nat.reduceAdd, true_and, and_true] at F; clear hb))
        go_ret2
        exact ⟨rfl, HS.out.old⟩
    · have hneg : fa < 0 := by
        by_cases h : fa < 0
        · exact h
        · exact (hno rfl (by omega)).elim
      clear hno
      go_enter Try.func19, Try.ntmps19
      go_wp2_with (first | (go_at_call 51; refine (impl_fileAt room A c l name _ (Kd.C_alloc HR.out _)).mono ?_; rw [← HFA.out]; rintro e w1 ⟨rfl, hb⟩; have HS := Aside0.mk (((Sep.nil w).alloc _ _).below hb); simp only [List.nil_append] at HS; have F := HS.out.facts; simp only [facts_cons, facts_nil, fact_box, fact_row, fact_gone, cellsAt_cons, cellsAt_nil, Nat.zero_add, Nat.reduceAdd, true_and, and_true] at F; clear hb) | (go_at_call 16; refine (impl_DiskOk room A c l _ (Kd.C_below HR.out HS.out.old) HV.out).mono ?_; rw [HBB.out]; rintro e w2 ⟨rfl, hb⟩; replace HS := Aside0.mk (HS.out.below hb); replace F := HS.out.facts; simp only [facts_cons, facts_nil, fact_box, fact_row, fact_gone, cellsAt_cons, cellsAt_nil, Nat.zero_add, Nat.reduceAdd, true_and, and_true] at F; clear hb))
      go_ret2
      exact ⟨rfl, HS.out.old⟩
  cases hh : hasFile room l name
  · rw [show readText room l name = ⟨#[]⟩ from if_neg (by rw [hh]; decide)]
    refine stage _ rfl (fun h1 h2 => ?_)
    rw [hasFile, h1, decide_eq_true h2] at hh
    exact absurd hh (by decide)
  · rw [show readText room l name = fileText l name from if_pos hh, fileText]
    clear stage
    rw [hasFile, Bool.and_eq_true, decide_eq_true_eq] at hh
    have HBB := Aside0.mk hh.1
    rcases fileAt_range l name with h | ⟨h1, h2, _⟩
    · omega
    obtain ⟨j, hj⟩ := Int.eq_ofNat_of_zero_le h1
    rw [hj, Int.toNat_natCast]
    have HFA := Aside0.mk hj.symm
    have p1 : j < l.length := by omega
    have hs := vol_at p1
    have hv := HV.out
    unfold Small at hv
    have hsz : (rdFile l j).Safe.size + (rdFile l j).Late.size ≤ 1048576 := by omega
    clear hh hj h1 h2 hs hv
    go_enter Try.func19, Try.ntmps19
    go_wp2_with (first | (go_at_call 51; refine (impl_fileAt room A c l name _ (Kd.C_alloc HR.out _)).mono ?_; rw [← HFA.out]; rintro e w1 ⟨rfl, hb⟩; have HS := Aside0.mk (((Sep.nil w).alloc _ _).below hb); simp only [List.nil_append] at HS; have F := HS.out.facts; simp only [facts_cons, facts_nil, fact_box, fact_row, fact_gone, cellsAt_cons, cellsAt_nil, Nat.zero_add, Nat.reduceAdd, true_and, and_true] at F; clear hb) | (go_at_call 16; refine (impl_DiskOk room A c l _ (Kd.C_below HR.out HS.out.old) HV.out).mono ?_; rw [HBB.out]; rintro e w2 ⟨rfl, hb⟩; replace HS := Aside0.mk (HS.out.below hb); replace F := HS.out.facts; simp only [facts_cons, facts_nil, fact_box, fact_row, fact_gone, cellsAt_cons, cellsAt_nil, Nat.zero_add, Nat.reduceAdd, true_and, and_true] at F; clear hb))
    obtain ⟨ad, rfl, x0, x1, x2⟩ := atFile (Kd.C_below HR.out HS.out.old) j p1
    go_quiet (fail)
    go_wp2
    go_ret2
    exact ⟨rfl, pw_below_drewN HS.out.old _⟩
end Go.Proofs.Ytbbeaghhchjkgaa.Dk
