/- Append to a file: the reference. No condition. -/
import Derived.Test.YtbbeaghhchjkgaaDkAppT
namespace Go.Proofs.Ytbbeaghhchjkgaa.Dk
open Go.RowKit Go.Proofs.YtbbeaghhchjkgaaW Go.Proofs.YtbbeaghhchjkgaaW.PrintWords Go.Proofs.Ytbbeaghhchjkgaa.Sp Go.Proofs.Ytbbeaghhchjkgaa.Ty Go.Proofs.Ytbbeaghhchjkgaa.Im Go.Proofs.Ytbbeaghhchjkgaa.Lw
set_option linter.unusedVariables false
set_option linter.unusedSimpArgs false
attribute [local go_sem ↓] Go.wp_at_zero Go.wp_at_succ
attribute [local go_sem] World.cell?_alloc_lt
set_option maxRecDepth 100000 in
set_option maxHeartbeats 4000000 in
theorem spec_Append (room : Int) (A : Option Addr) (c : Nat) (l : List File) (name : Int) (s : ByteArray) (w : World) (hr : Kd.C kFile w A l.length l) (hv : Small l) (hl : l.length ≤ 1048576) (hz : s.size ≤ 1048576) :
    Calls Try.prog 32 #[.agg #[.int .i64 room, .slice A l.length c], .int .i64 name, .string s] w fun e w' => ∃ v, e = .returned (.tuple #[.agg #[.int .i64 (appendR room l name s).room, v], .int .i64 (appendR room l name s).code]) ∧ Sep w w' [Ob.row kFile 44 v (appendR room l name s).files] := by
  have HR := Aside0.mk hr
  have HV := Aside0.mk hv
  clear hr hv
  have hu := Try.underlying29
  have hu2 := Try.underlying44
  cases hb : diskOk room l
  · have HBB := Aside0.mk hb
    rw [show appendR room l name s = ⟨0, [], 1⟩ from if_neg (by rw [hb]; simp)]
    clear hb
    go_enter Try.func32, Try.ntmps32
    go_wp2_with (go_at_call 14; refine (spec_DiskOk room A c l _ (Kd.C_alloc (Kd.C_alloc HR.out _) _) HV.out).mono ?_; rw [HBB.out]; rintro e w2 ⟨rfl, hb⟩; have HS := Aside0.mk (((((Sep.nil w).alloc _ _).alloc _ _).below hb).add (Sep.none_ kFile 44 _)); have F := HS.out.facts; (try simp only [List.cons_append, List.nil_append, List.set_cons_zero, List.set_cons_succ, size_al, size_set] at HS); replace F := HS.out.facts; simp only [facts_cons, facts_nil, fact_box, fact_row, fact_gone, cellsAt_cons, cellsAt_nil, Nat.zero_add, Nat.reduceAdd, true_and, and_true] at F; clear hb)
    refine bodyPost_ret (v := .tuple #[.agg #[.int .i64 0, .slice none 0 0], .int .i64 1]) (by simp [results, Try.results32, F, go_sem]) rfl ⟨_, rfl, ?_⟩
    exact (((HS.out.set 1 rfl 0 _).set 1 rfl 1 _).pk [2] (by decide))
  · cases hc : isFile name
    · have HBB := Aside0.mk hb
      have HCC := Aside0.mk hc
      rw [show appendR room l name s = ⟨0, [], 1⟩ from if_neg (by rw [hb, hc]; decide)]
      clear hb hc
      go_enter Try.func32, Try.ntmps32
      go_wp2_with (first | (go_at_call 14; refine (spec_DiskOk room A c l _ (Kd.C_alloc (Kd.C_alloc HR.out _) _) HV.out).mono ?_; rw [HBB.out]; rintro e w2 ⟨rfl, hb⟩; have HS := Aside0.mk (((((Sep.nil w).alloc _ _).alloc _ _).below hb).add (Sep.none_ kFile 44 _)); have F := HS.out.facts; (try simp only [List.cons_append, List.nil_append, List.set_cons_zero, List.set_cons_succ, size_al, size_set] at HS); replace F := HS.out.facts; simp only [facts_cons, facts_nil, fact_box, fact_row, fact_gone, cellsAt_cons, cellsAt_nil, Nat.zero_add, Nat.reduceAdd, true_and, and_true] at F; clear hb) | (go_at_call 44; refine (spec_isFile _ _).mono ?_; rw [HCC.out]; rintro e w' ⟨rfl, ⟨nd, rfl⟩⟩; replace HS := Aside0.mk (HS.out.drewN nd); (try simp only [List.cons_append, List.nil_append, List.set_cons_zero, List.set_cons_succ, size_al, size_set] at HS); replace F := HS.out.facts; simp only [facts_cons, facts_nil, fact_box, fact_row, fact_gone, cellsAt_cons, cellsAt_nil, Nat.zero_add, Nat.reduceAdd, true_and, and_true] at F))
      refine bodyPost_ret (v := .tuple #[.agg #[.int .i64 0, .slice none 0 0], .int .i64 1]) (by simp [results, Try.results32, F, go_sem]) rfl ⟨_, rfl, ?_⟩
      exact (((HS.out.set 1 rfl 0 _).set 1 rfl 1 _).pk [2] (by decide))
    · have HBB := Aside0.mk hb
      have HCC := Aside0.mk hc
      obtain ⟨hr0, hr1, hr2⟩ := ok_room hb
      have hr3 := vol_nonneg l
      have hw : IntKind.i64.wrap (room - vol l) = room - vol l := by rw [IntKind.wrap_i64]; omega
      have hA : appendR room l name s = if room - vol l < s.size then ⟨room, l, 3⟩ else ⟨room, putF l (appFile l name s), 0⟩ := if_pos (by rw [hb, hc]; rfl)
      clear hb hc
      by_cases hfull : room - vol l < s.size
      · rw [show appendR room l name s = ⟨room, l, 3⟩ from hA.trans (if_pos hfull)]
        clear hA
        have c1 : decide (room - vol l < (s.size : Int)) = true := decide_eq_true hfull
        clear hfull
        go_enter Try.func32, Try.ntmps32
        go_wp2_with (first | (go_at_call 14; refine (spec_DiskOk room A c l _ (Kd.C_alloc (Kd.C_alloc HR.out _) _) HV.out).mono ?_; rw [HBB.out]; rintro e w2 ⟨rfl, hb⟩; have HS := Aside0.mk ((((Sep.nil w).alloc _ _).alloc _ _).below hb); have F := HS.out.facts; (try simp only [List.cons_append, List.nil_append, List.set_cons_zero, List.set_cons_succ, size_al, size_set] at HS); replace F := HS.out.facts; simp only [facts_cons, facts_nil, fact_box, fact_row, fact_gone, cellsAt_cons, cellsAt_nil, Nat.zero_add, Nat.reduceAdd, true_and, and_true] at F; clear hb) | (go_at_call 44; refine (spec_isFile _ _).mono ?_; rw [HCC.out]; rintro e w' ⟨rfl, ⟨nd, rfl⟩⟩; replace HS := Aside0.mk (HS.out.drewN nd); (try simp only [List.cons_append, List.nil_append, List.set_cons_zero, List.set_cons_succ, size_al, size_set] at HS); replace F := HS.out.facts; simp only [facts_cons, facts_nil, fact_box, fact_row, fact_gone, cellsAt_cons, cellsAt_nil, Nat.zero_add, Nat.reduceAdd, true_and, and_true] at F))
        generalize hW_ : w2.drewN nd = w9 at HS ⊢
        clear hW_
        (try simp only [List.cons_append, List.nil_append, List.set_cons_zero, List.set_cons_succ, size_al, size_set] at HS); replace F := HS.out.facts; simp only [facts_cons, facts_nil, fact_box, fact_row, fact_gone, cellsAt_cons, cellsAt_nil, Nat.zero_add, Nat.reduceAdd, true_and, and_true] at F
        go_region_held3 (fun W => W.cell? ⟨w.heap.size, 0, none⟩ = some (.int .i64 room) ∧ W.cell? ⟨w.heap.size, 1, none⟩ = some (.slice A l.length c)) (first | go_keep | exact ⟨F.1.2.1.1, F.1.2.2.1⟩) (first | (go_at_call 43; refine (spec_size room A c l _ (Kd.C_below HR.out HS.out.drew.old) HV.out).mono ?_; rintro e w3 ⟨rfl, hb⟩; replace HS := Aside0.mk (HS.out.drew.below hb); (try simp only [List.cons_append, List.nil_append, List.set_cons_zero, List.set_cons_succ, size_al, size_set] at HS); replace F := HS.out.facts; simp only [facts_cons, facts_nil, fact_box, fact_row, fact_gone, cellsAt_cons, cellsAt_nil, Nat.zero_add, Nat.reduceAdd, true_and, and_true] at F; clear hb))
        go_wp2_with (go_at_call 65; refine (spec_Copy room A c l _ (Kd.C_below HR.out HS.out.old) hl).mono ?_; rintro e w5 ⟨v, rfl, hs⟩; obtain ⟨B, n, d, rfl⟩ := hs.form3 0 rfl; replace HS := Aside0.mk (HS.out.add hs); (try simp only [List.cons_append, List.nil_append, List.set_cons_zero, List.set_cons_succ, size_al, size_set] at HS); replace F := HS.out.facts; simp only [facts_cons, facts_nil, fact_box, fact_row, fact_gone, cellsAt_cons, cellsAt_nil, Nat.zero_add, Nat.reduceAdd, true_and, and_true] at F; clear hs)
        refine bodyPost_ret (v := .tuple #[.agg #[.int .i64 room, .slice B n d], .int .i64 3]) (by simp [results, Try.results32, F, go_sem]) rfl ⟨_, rfl, ?_⟩
        exact (((HS.out.set 1 rfl 0 _).set 1 rfl 1 _).pk [2] (by decide))
      · rw [show appendR room l name s = ⟨room, putF l (appFile l name s), 0⟩ from hA.trans (if_neg hfull)]
        clear hA
        by_cases hn : fileAt l name < 0
        · have c1 : decide (room - vol l < (s.size : Int)) = false := decide_eq_false hfull
          clear hfull
          rw [show appFile l name s = ⟨name, ⟨#[]⟩, ⟨#[]⟩ ++ s⟩ from if_pos hn]
          have c2 : decide (0 ≤ fileAt l name) = false := decide_eq_false (by omega)
          clear hn
          obtain ⟨E, hE⟩ : ∃ E : ByteArray, E = ⟨#[]⟩ ++ s := ⟨_, rfl⟩
          rw [← hE]
          have HE := Aside0.mk hE
          clear hE
          go_enter Try.func32, Try.ntmps32
          go_wp2_with (first | (go_at_call 14; refine (spec_DiskOk room A c l _ (Kd.C_alloc (Kd.C_alloc HR.out _) _) HV.out).mono ?_; rw [HBB.out]; rintro e w2 ⟨rfl, hb⟩; have HS := Aside0.mk ((((Sep.nil w).alloc _ _).alloc _ _).below hb); have F := HS.out.facts; (try simp only [List.cons_append, List.nil_append, List.set_cons_zero, List.set_cons_succ, size_al, size_set] at HS); replace F := HS.out.facts; simp only [facts_cons, facts_nil, fact_box, fact_row, fact_gone, cellsAt_cons, cellsAt_nil, Nat.zero_add, Nat.reduceAdd, true_and, and_true] at F; clear hb) | (go_at_call 44; refine (spec_isFile _ _).mono ?_; rw [HCC.out]; rintro e w' ⟨rfl, ⟨nd, rfl⟩⟩; replace HS := Aside0.mk (HS.out.drewN nd); (try simp only [List.cons_append, List.nil_append, List.set_cons_zero, List.set_cons_succ, size_al, size_set] at HS); replace F := HS.out.facts; simp only [facts_cons, facts_nil, fact_box, fact_row, fact_gone, cellsAt_cons, cellsAt_nil, Nat.zero_add, Nat.reduceAdd, true_and, and_true] at F))
          generalize hW_ : w2.drewN nd = w9 at HS ⊢
          clear hW_
          (try simp only [List.cons_append, List.nil_append, List.set_cons_zero, List.set_cons_succ, size_al, size_set] at HS); replace F := HS.out.facts; simp only [facts_cons, facts_nil, fact_box, fact_row, fact_gone, cellsAt_cons, cellsAt_nil, Nat.zero_add, Nat.reduceAdd, true_and, and_true] at F
          go_region_held3 (fun W => W.cell? ⟨w.heap.size, 0, none⟩ = some (.int .i64 room) ∧ W.cell? ⟨w.heap.size, 1, none⟩ = some (.slice A l.length c)) (first | go_keep | exact ⟨F.1.2.1.1, F.1.2.2.1⟩) (first | (go_at_call 43; refine (spec_size room A c l _ (Kd.C_below HR.out HS.out.drew.old) HV.out).mono ?_; rintro e w3 ⟨rfl, hb⟩; replace HS := Aside0.mk (HS.out.drew.below hb); (try simp only [List.cons_append, List.nil_append, List.set_cons_zero, List.set_cons_succ, size_al, size_set] at HS); replace F := HS.out.facts; simp only [facts_cons, facts_nil, fact_box, fact_row, fact_gone, cellsAt_cons, cellsAt_nil, Nat.zero_add, Nat.reduceAdd, true_and, and_true] at F; clear hb))
          go_wp2_with (first | (go_at_call 50; refine (spec_Find room A c l name _ (Kd.C_below HR.out (HS.out.alloc _ _).old)).mono ?_; rintro e w4 ⟨rfl, hb⟩; replace HS := Aside0.mk ((HS.out.alloc _ _).below hb); (try simp only [List.cons_append, List.nil_append, List.set_cons_zero, List.set_cons_succ, size_al, size_set] at HS); replace F := HS.out.facts; simp only [facts_cons, facts_nil, fact_box, fact_row, fact_gone, cellsAt_cons, cellsAt_nil, Nat.zero_add, Nat.reduceAdd, true_and, and_true] at F; clear hb))
          rw [← HE.out]
          have hs := HS.out.set 2 rfl 2 (.string E)
          simp only [List.set_cons_zero, List.set_cons_succ, List.setIfInBounds_toArray] at hs
          generalize w4.setCell ⟨w3.heap.size, 2, none⟩ (.string E) = w6 at hs ⊢
          replace HS := Aside0.mk hs
          clear hs
          (try simp only [List.cons_append, List.nil_append, List.set_cons_zero, List.set_cons_succ, size_al, size_set] at HS); replace F := HS.out.facts; simp only [facts_cons, facts_nil, fact_box, fact_row, fact_gone, cellsAt_cons, cellsAt_nil, Nat.zero_add, Nat.reduceAdd, true_and, and_true] at F
          refine (spec_Put room _ c l ⟨name, ⟨#[]⟩, E⟩ _ (Kd.C_below HR.out HS.out.old) hl).mono ?_
          rintro e w5 ⟨v, rfl, hs⟩
          obtain ⟨B, n, d, rfl⟩ := hs.form3 0 rfl
          replace HS := Aside0.mk (HS.out.add hs)
          (try simp only [List.cons_append, List.nil_append, List.set_cons_zero, List.set_cons_succ, size_al, size_set] at HS); replace F := HS.out.facts; simp only [facts_cons, facts_nil, fact_box, fact_row, fact_gone, cellsAt_cons, cellsAt_nil, Nat.zero_add, Nat.reduceAdd, true_and, and_true] at F
          clear hs
          go_wp2
          refine bodyPost_ret (v := .tuple #[.agg #[.int .i64 room, .slice B n d], .int .i64 0]) (by simp [results, Try.results32, F, go_sem]) rfl ⟨_, rfl, ?_⟩
          exact (((HS.out.set 1 rfl 0 _).set 1 rfl 1 _).pk [3] (by decide))
        · exact spec_App2 room A c l name s w HR HV hl hz HBB HCC hfull hn
end Go.Proofs.Ytbbeaghhchjkgaa.Dk
