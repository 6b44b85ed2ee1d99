/- A drawn disk, right or not. No condition. -/
import Derived.Test.YtbbeaghhchjkgaaDrwR
import Derived.Test.YtbbeaghhchjkgaaWLast
namespace Go.Proofs.Ytbbeaghhchjkgaa.Cu
open Go.RowKit Go.Proofs.YtbbeaghhchjkgaaW Go.Proofs.YtbbeaghhchjkgaaW.PrintWords Go.Proofs.Ytbbeaghhchjkgaa.Sp Go.Proofs.Ytbbeaghhchjkgaa.Ty Go.Proofs.Ytbbeaghhchjkgaa.Im Go.Proofs.Ytbbeaghhchjkgaa.Lw Go.Proofs.Ytbbeaghhchjkgaa.Dk
set_option linter.unusedVariables false
set_option linter.unusedSimpArgs false
attribute [local go_sem ↓] Go.wp_at_zero Go.wp_at_succ
attribute [local go_sem] World.cell?_alloc_lt
set_option maxRecDepth 100000 in
set_option maxHeartbeats 4000000 in
theorem cur_Disk (w0 w : World) (M : List Ob) (g cp : Nat) (A : Option Addr) (bs : List Int) (hs : Sep w0 w (Ob.cur g A bs.length cp :: M)) (hC : Kd.C (Kd.int .u8) w0 A bs.length bs) :
    Calls Try.prog 61 #[.pointer (some ⟨g, 0, none⟩)] w fun e w' => ∃ v room l, e = .returned (.agg #[.int .i64 room, v]) ∧ mu l ≤ 20001 ∧ Sep w0 w' (Ob.cur g A bs.length cp :: Ob.row kFile 44 v l :: M) := by
  have HC := Aside0.mk hC
  have HS := Aside0.mk (hs.alloc #[.int .i64 0, .slice none 0 0] 29).ins1
  have hu := Try.underlying29
  have hu2 := Try.underlying44
  obtain ⟨g2, hg2⟩ : ∃ g2, g2 = w.heap.size := ⟨_, rfl⟩
  clear hs hC
  go_enter Try.func61, Try.ntmps61
  go_wp2_with (first | (go_at_call 94; refine (cur_Right w0 _ _ g cp A bs HS.out HC.out).mono ?_; rintro e w2 ⟨v, room, l, rfl, hmu, hs⟩; obtain ⟨B, n, cap, rfl⟩ := hs.form3 1 rfl; obtain rfl := (hs.len 1 rfl).1; replace HS := Aside0.mk hs; clear hs) | (go_at_call 62; refine hold ?_))
  intro _
  have hs := (HS.out.alloc #[.int .i64 room, .slice B l.length cap] 29).ins1
  obtain ⟨g3, hg3⟩ : ∃ g3, g3 = w2.heap.size := ⟨_, rfl⟩
  have F0 := HS.out.facts
  simp only [fact_cur, facts_cons, facts_nil, fact_box, fact_row, fact_gone, cellsAt_cons, cellsAt_nil, Nat.zero_add, Nat.reduceAdd, true_and, and_true] at F0
  have M1 : g2 ≠ g3 := by rw [hg2, hg3]; exact Nat.ne_of_lt F0.1.1
  have M2 : g3 ≠ g2 := fun h => M1 h.symm
  clear F0
  rw [← hg2, ← hg3] at hs
  rw [← hg2, ← hg3]
  generalize w2.alloc _ = w3 at hs ⊢
  replace HS := Aside0.mk hs
  clear hs hg2 hg3
  refine (cur_Below w0 _ _ g cp A bs HS.out HC.out 25 (by decide) (by decide)).mono ?_
  rintro e w4 ⟨y, rfl, ⟨hy0, hy1⟩, hs⟩
  replace HS := Aside0.mk hs
  clear hs
  have hl : l.length ≤ 1048576 := by have := vol_nonneg l; unfold mu at hmu; omega
  have F := HS.out.facts
  simp only [fact_cur, facts_cons, facts_nil, fact_box, fact_row, fact_gone, cellsAt_cons, cellsAt_nil, Nat.zero_add, Nat.reduceAdd, true_and, and_true] at F
  by_cases h0 : y = 0
  case pos =>
    subst h0
    go_wp2_with (go_at_call 95; refine (cur_PickInt w0 _ _ g cp A bs _ 4 [-1, 0, 60001, 3] (by decide) (by decide) (HS.out.alloc #[.int .i64 (-1), .int .i64 0, .int .i64 60001, .int .i64 3] 3).ins1 HC.out).mono ?_; rintro e w5 ⟨r, rfl, hs⟩; replace HS := Aside0.mk hs.del1; clear hs; replace F := HS.out.facts; simp only [fact_cur, facts_cons, facts_nil, fact_box, fact_row, fact_gone, cellsAt_cons, cellsAt_nil, Nat.zero_add, Nat.reduceAdd, true_and, and_true] at F)
    have hs := HS.out.set 1 rfl 0 (.int .i64 r)
    refine bodyPost_ret (v := .agg #[.int .i64 r, .slice B l.length cap]) (by simp [results, Try.results61, F, go_sem]) rfl ⟨_, r, l, rfl, by omega, ?_⟩
    exact ((hs.set 3 rfl 0 (.int .i64 r)).set 3 rfl 1 (.slice B l.length cap)).del1.swap1.del1
  have k0 : (y == 0) = false := by simpa using h0
  by_cases h1 : y = 1
  case pos =>
    subst h1
    have y1 := F.1.2.2.1
    go_wp2
    refine PrintLast.start_ (ds := [9]) (S := (fun W => W.cell? ⟨g3, 1, none⟩ = some (.slice B l.length cap))) #[false, false, false, false, false, false, false, false, false, false] (by kernel_rfl) rfl rfl y1 (fun HH => ?_)
    refine PrintLast.pure_ (i := 0) (N := some 16) (v := ?_) #[true, false, false, false, false, false, false, false, false, false] rfl rfl (by kernel_rfl) (fun _ _ _ h => h) (Or.inl ⟨by rfl, ?_⟩) rfl ?_
    rotate_left 1
    · (intro w; go_simp; (try with_reducible rfl))
    (try simp only [Act.put, List.setIfInBounds_toArray, List.set_cons_zero, List.set_cons_succ])
    refine PrintLast.take_ (i := 1) (N := some 17) (v := ?_) #[true, true, false, false, false, false, false, false, false, false] rfl rfl (by kernel_rfl) (fun _ _ _ h => h) (Or.inl ⟨by rfl, ?_⟩) HH rfl ?_
    rotate_left 1
    · (intro w hSw; (try dsimp only at hSw); go_simp; (try with_reducible rfl))
    (try simp only [Act.put, List.setIfInBounds_toArray, List.set_cons_zero, List.set_cons_succ])
    refine PrintLast.pure_ (i := 2) (N := some 18) (v := ?_) #[true, true, true, false, false, false, false, false, false, false] rfl rfl (by kernel_rfl) (fun _ _ _ h => h) (Or.inl ⟨by rfl, ?_⟩) rfl ?_
    rotate_left 1
    · (intro w; go_simp; (try with_reducible rfl))
    (try simp only [Act.put, List.setIfInBounds_toArray, List.set_cons_zero, List.set_cons_succ])
    refine PrintLast.one_ (i := 3) (N := some 19) #[true, true, true, true, false, false, false, false, false, false] rfl rfl (by kernel_rfl) (by decide) (fun K hK => ?_)
    go_simp
    refine hK.out _ _ (by first | exact y1 | go_keep) (fun HH => ?_)
    clear hK K
    (try simp only [Act.put, List.setIfInBounds_toArray, List.set_cons_zero, List.set_cons_succ])
    refine PrintLast.one_ (i := 4) (N := some 20) #[true, true, true, true, true, false, false, false, false, false] rfl rfl (by kernel_rfl) (by decide) (fun K hK => ?_)
    go_simp
    refine (cur_PickInt w0 _ _ g cp A bs _ 4 [-1, 0, 22, 21] (by decide) (by decide) (HS.out.drew.alloc #[.int .i64 (-1), .int .i64 0, .int .i64 22, .int .i64 21] 3).ins1 HC.out).mono ?_
    rintro e w7 ⟨r, rfl, hs⟩
    replace HS := Aside0.mk hs.del1
    clear hs
    replace F := HS.out.facts
    simp only [fact_cur, facts_cons, facts_nil, fact_box, fact_row, fact_gone, cellsAt_cons, cellsAt_nil, Nat.zero_add, Nat.reduceAdd, true_and, and_true] at F
    have y1 := F.1.2.2.1
    refine hK.out _ _ (by first | exact y1 | go_keep) (fun HH => ?_)
    clear hK K
    (try simp only [Act.put, List.setIfInBounds_toArray, List.set_cons_zero, List.set_cons_succ])
    refine PrintLast.pure_ (i := 5) (N := some 21) (v := ?_) #[true, true, true, true, true, true, false, false, false, false] rfl rfl (by kernel_rfl) (fun _ _ _ h => h) (Or.inl ⟨by rfl, ?_⟩) rfl ?_
    rotate_left 1
    · (intro w; go_simp; (try with_reducible rfl))
    (try simp only [Act.put, List.setIfInBounds_toArray, List.set_cons_zero, List.set_cons_succ])
    refine PrintLast.one_ (i := 6) (N := some 22) #[true, true, true, true, true, true, true, false, false, false] rfl rfl (by kernel_rfl) (by decide) (fun K hK => ?_)
    go_simp
    refine hK.out _ _ (by first | exact y1 | go_keep) (fun HH => ?_)
    clear hK K
    (try simp only [Act.put, List.setIfInBounds_toArray, List.set_cons_zero, List.set_cons_succ])
    refine PrintLast.one_ (i := 7) (N := some 23) #[true, true, true, true, true, true, true, true, false, false] rfl rfl (by kernel_rfl) (by decide) (fun K hK => ?_)
    refine ev_append_step flatFile HS.out 2 rfl (by rfl) (.tmp 17) (.tmp 22) 27 _ _ (by rfl) Try.underlying27 infoFile rfl (by decide) (by decide) ⟨r, ⟨#[]⟩, ⟨#[]⟩⟩ _ rfl (by rfl) (by rfl) (by omega) ?_
    intro v8 w8 hs
    obtain ⟨B8, n8, e8, rfl⟩ := hs.form3 2 rfl
    simp only [List.set_cons_zero, List.set_cons_succ] at hs
    replace HS := Aside0.mk hs
    clear hs
    replace F := HS.out.facts
    simp only [fact_cur, facts_cons, facts_nil, fact_box, fact_row, fact_gone, cellsAt_cons, cellsAt_nil, Nat.zero_add, Nat.reduceAdd, true_and, and_true] at F
    have y1 := F.1.2.2.1
    refine hK.out _ _ (by first | exact y1 | go_keep) (fun HH => ?_)
    clear hK K
    (try simp only [Act.put, List.setIfInBounds_toArray, List.set_cons_zero, List.set_cons_succ])
    refine PrintLast.pure_ (i := 8) (N := some 24) (v := ?_) #[true, true, true, true, true, true, true, true, true, false] rfl rfl (by kernel_rfl) (fun _ _ _ h => h) (Or.inl ⟨by rfl, ?_⟩) rfl ?_
    rotate_left 1
    · (intro w; go_simp; (try with_reducible rfl))
    (try simp only [Act.put, List.setIfInBounds_toArray, List.set_cons_zero, List.set_cons_succ])
    refine PrintLast.last_ (i := 9) (N := none) #[true, true, true, true, true, true, true, true, true, true] rfl rfl (by kernel_rfl) (by decide) (fun K hK => ?_)
    go_simp
    refine hK.out _ _ ?_
    clear hK K
    refine PrintLast.done_ (by kernel_rfl) ?_
    go_wp2
    have hs := HS.out.set 1 rfl 1 (.slice B8 n8 e8)
    refine bodyPost_ret (v := .agg #[.int .i64 room, .slice B8 n8 e8]) (by simp [results, Try.results61, F, go_sem]) rfl ⟨_, room, l ++ [⟨r, ⟨#[]⟩, ⟨#[]⟩⟩], rfl, ?_, ?_⟩
    · rw [mu_app, mu_cons, mu_nil]
      show mu l + (1 + (((0 : Nat) : Int) + ((0 : Nat) : Int)) + 0) ≤ _
      omega
    exact ((hs.set 3 rfl 0 (.int .i64 room)).set 3 rfl 1 (.slice B8 n8 e8)).del1.swap1.del1
  have k1 : (y == 1) = false := by simpa using h1
  go_wp2
  refine bodyPost_ret (v := .agg #[.int .i64 room, .slice B l.length cap]) (by simp [results, Try.results61, F, go_sem]) rfl ⟨_, room, l, rfl, by omega, ?_⟩
  exact ((HS.out.set 3 rfl 0 (.int .i64 room)).set 3 rfl 1 (.slice B l.length cap)).del1.swap1.del1
end Go.Proofs.Ytbbeaghhchjkgaa.Cu
