/- The law FnExactDiskAppend, walked. No condition. -/
import Derived.Test.YtbbeaghhchjkgaaDkAppend
namespace Go.Proofs.Ytbbeaghhchjkgaa.Law
open Go.RowKit Go.Proofs.YtbbeaghhchjkgaaW.PrintWords Go.Proofs.Ytbbeaghhchjkgaa.Sp Go.Proofs.Ytbbeaghhchjkgaa.Ty Go.Proofs.Ytbbeaghhchjkgaa.Im Go.Proofs.Ytbbeaghhchjkgaa.Lw Go.Proofs.Ytbbeaghhchjkgaa.Dk
set_option linter.unusedVariables false
set_option linter.unusedSimpArgs false
attribute [local go_sem ↓] Go.wp_at_zero Go.wp_at_succ
attribute [local go_sem] World.cell?_alloc_lt
set_option maxRecDepth 100000 in
set_option maxHeartbeats 4000000 in
theorem FnExactDiskAppend (room : Int) (A : Option Addr) (c : Nat) (l : List File) (name : Int) (s : ByteArray) (w : World) (hr : Kd.C kFile w A l.length l) (_ : (Lit.int .i64 room).wf = true) (hg0 : ∀ x ∈ l, File.good x) (hg_name : (Lit.int .i64 name).wf = true) (hg_s : s.size ≤ maxLen) :
    Calls Try.prog 10 #[.agg #[.int .i64 room, .slice A l.length c], .int .i64 name, .string s] w fun e w' => e = .returned (.bool true) ∧ Below w.heap.size w w' := by
  have hg : ∀ x ∈ l, x.Safe.size ≤ 9223372036854775807 ∧ x.Late.size ≤ 9223372036854775807 := fun x hx => ⟨(hg0 x hx).2.1, (hg0 x hx).2.2⟩
  clear hg0
  have HR := Aside0.mk hr
  have HG := Aside0.mk hg
  clear hr hg
  have hu1 := Try.underlying29
  have hu2 := Try.underlying24
  by_cases hz_s : s.size ≤ 1048576
  case neg =>
    have z1_ : decide ((1048576 : Int) < (s.size : Int)) = true := decide_eq_true (by omega)
    have z2_ : decide (1048576 < s.size) = true := decide_eq_true (by omega)
    go_enter Try.func10, Try.ntmps10
    go_wp2
    go_ret
    exact ⟨rfl, by repeat (first | exact Below.refl _ _ | apply below_alloc)⟩
  have z1_s : decide ((1048576 : Int) < (s.size : Int)) = false := decide_eq_false (by omega)
  have z2_s : decide (1048576 < s.size) = false := decide_eq_false (by omega)
  go_enter Try.func10, Try.ntmps10
  go_wp2_with (go_at_call 13; refine (szDisk room A c l _ (Kd.C_alloc HR.out _) HG.out).mono ?_; rintro e W0 ⟨r, rfl, hr, hb⟩; have HS := Aside0.mk (((Sep.nil w).alloc _ _).below hb); have HV := Aside0.mk hr; clear hb hr; have F := HS.out.facts; (try simp only [List.cons_append, List.nil_append, List.set_cons_zero, List.set_cons_succ, size_al, size_set] at HS); replace F := HS.out.facts; simp only [facts_cons, facts_nil, fact_box, fact_row, fact_gone, cellsAt_cons, cellsAt_nil, Nat.zero_add, Nat.reduceAdd, true_and, and_true] at F; by_cases hr0 : r < 0)
  · go_ret
    exact ⟨rfl, HS.out.old⟩
  have hv := HV.out (by omega)
  have HSm : Aside0 (Small l) := ⟨hv⟩
  have hl : l.length ≤ 1048576 := by have := vol_nonneg l; omega
  clear HV hv
  obtain ⟨R, hR⟩ : ∃ R, R = (appendR room l name s) := ⟨_, rfl⟩
  have hlen := appendR_len room l name s
  rw [← hR] at hlen
  have HRR := Aside0.mk hR.symm
  clear hR
  obtain ⟨rr, lr, code⟩ := R
  dsimp only at hlen
  go_wp2_with (go_at_call 15; refine (toDisk room A c l _ hl (Kd.C_below HR.out (HS.out).old)).mono ?_; rintro e W1 ⟨v, rfl, hs⟩; obtain ⟨B1, n1, d1, rfl⟩ := hs.form3 0 rfl; obtain rfl := (hs.len 0 rfl).1; replace HS := Aside0.mk ((HS.out).add hs); (try simp only [List.cons_append, List.nil_append, List.set_cons_zero, List.set_cons_succ, size_al, size_set] at HS); replace F := HS.out.facts; simp only [facts_cons, facts_nil, fact_box, fact_row, fact_gone, cellsAt_cons, cellsAt_nil, Nat.zero_add, Nat.reduceAdd, true_and, and_true] at F; clear hs)
  go_wp2_with (go_at_call 32; refine (spec_Append room _ _ l name s _ ((HS.out).C 1 rfl) HSm.out hl hz_s).mono ?_; rw [HRR.out]; rintro e W2 ⟨v, rfl, hs⟩; obtain ⟨B2, n2, d2, rfl⟩ := hs.form3 0 rfl; obtain rfl := (hs.len 0 rfl).1; replace HS := Aside0.mk ((HS.out).add hs); (try simp only [List.cons_append, List.nil_append, List.set_cons_zero, List.set_cons_succ, size_al, size_set] at HS); replace F := HS.out.facts; simp only [facts_cons, facts_nil, fact_box, fact_row, fact_gone, cellsAt_cons, cellsAt_nil, Nat.zero_add, Nat.reduceAdd, true_and, and_true] at F; clear hs)
  go_wp2_with (go_at_call 15; refine (toDisk room A c l _ hl (Kd.C_below HR.out ((HS.out.alloc _ _)).old)).mono ?_; rintro e W3 ⟨v, rfl, hs⟩; obtain ⟨B3, n3, d3, rfl⟩ := hs.form3 0 rfl; obtain rfl := (hs.len 0 rfl).1; replace HS := Aside0.mk (((HS.out.alloc _ _)).add hs); (try simp only [List.cons_append, List.nil_append, List.set_cons_zero, List.set_cons_succ, size_al, size_set] at HS); replace F := HS.out.facts; simp only [facts_cons, facts_nil, fact_box, fact_row, fact_gone, cellsAt_cons, cellsAt_nil, Nat.zero_add, Nat.reduceAdd, true_and, and_true] at F; clear hs)
  go_wp2_with (go_at_call 33; refine (impl_Append room _ _ l name s _ (((HS.out.alloc _ _)).C 4 rfl) HSm.out hl hz_s).mono ?_; rw [HRR.out]; rintro e W4 ⟨v, rfl, hs⟩; obtain ⟨B4, n4, d4, rfl⟩ := hs.form3 0 rfl; obtain rfl := (hs.len 0 rfl).1; replace HS := Aside0.mk (((HS.out.alloc _ _)).add hs); (try simp only [List.cons_append, List.nil_append, List.set_cons_zero, List.set_cons_succ, size_al, size_set] at HS); replace F := HS.out.facts; simp only [facts_cons, facts_nil, fact_box, fact_row, fact_gone, cellsAt_cons, cellsAt_nil, Nat.zero_add, Nat.reduceAdd, true_and, and_true] at F; clear hs)

  go_wp2_with (go_at_call 17; refine (eqDisk rr _ _ _ _ _ _ (((HS.out.alloc _ _)).C 6 rfl) (((HS.out.alloc _ _)).C 2 rfl)).mono ?_; rintro e W5 ⟨rfl, hb⟩; replace HS := Aside0.mk (((HS.out.alloc _ _)).below hb); (try simp only [List.cons_append, List.nil_append, List.set_cons_zero, List.set_cons_succ, size_al, size_set] at HS); replace F := HS.out.facts; simp only [facts_cons, facts_nil, fact_box, fact_row, fact_gone, cellsAt_cons, cellsAt_nil, Nat.zero_add, Nat.reduceAdd, true_and, and_true] at F; clear hb)
  go_region_held3 (fun W => W.cell? ⟨w.heap.size, 0, none⟩ = some (.int .i64 room) ∧ W.cell? ⟨w.heap.size, 1, none⟩ = some (.slice A l.length c) ∧ W.cell? ⟨W3.heap.size, 0, none⟩ = some (.int .i64 room) ∧ W.cell? ⟨W3.heap.size, 1, none⟩ = some (.slice B3 l.length d3)) (exact ⟨F.1.2.1.1, F.1.2.2.1, F.2.2.1.2.1.1, F.2.2.1.2.2.1⟩) (first | (go_at_call 15; refine (toDisk room A c l _ hl (Kd.C_below HR.out (HS.out.drew).old)).mono ?_; rintro e W6 ⟨v, rfl, hs⟩; obtain ⟨B6, n6, d6, rfl⟩ := hs.form3 0 rfl; obtain rfl := (hs.len 0 rfl).1; replace HS := Aside0.mk ((HS.out.drew).add hs); (try simp only [List.cons_append, List.nil_append, List.set_cons_zero, List.set_cons_succ, size_al, size_set] at HS); replace F := HS.out.facts; simp only [facts_cons, facts_nil, fact_box, fact_row, fact_gone, cellsAt_cons, cellsAt_nil, Nat.zero_add, Nat.reduceAdd, true_and, and_true] at F; clear hs) | (go_at_call 17; refine (eqDisk room _ _ _ _ l _ (HS.out.C 4 rfl) (HS.out.C 8 rfl)).mono ?_; rintro e W7 ⟨rfl, hb⟩; replace HS := Aside0.mk (HS.out.below hb); (try simp only [List.cons_append, List.nil_append, List.set_cons_zero, List.set_cons_succ, size_al, size_set] at HS); replace F := HS.out.facts; simp only [facts_cons, facts_nil, fact_box, fact_row, fact_gone, cellsAt_cons, cellsAt_nil, Nat.zero_add, Nat.reduceAdd, true_and, and_true] at F; clear hb))
  go_wp2_with (go_at_call 22; refine (markDisk room _ _ _ l 1 w _ _ 4 (HS.out) rfl (by decide) (by omega)).mono ?_; rintro e W8 ⟨rfl, hs⟩; replace HS := Aside0.mk hs; (try simp only [List.cons_append, List.nil_append, List.set_cons_zero, List.set_cons_succ, size_al, size_set] at HS); replace F := HS.out.facts; simp only [facts_cons, facts_nil, fact_box, fact_row, fact_gone, cellsAt_cons, cellsAt_nil, Nat.zero_add, Nat.reduceAdd, true_and, and_true] at F; clear hs)
  go_wp2_with (go_at_call 17; refine (eqDisk rr _ _ _ _ _ _ ((HS.out).C 6 rfl) ((HS.out).C 2 rfl)).mono ?_; rintro e W9 ⟨rfl, hb⟩; replace HS := Aside0.mk ((HS.out).below hb); (try simp only [List.cons_append, List.nil_append, List.set_cons_zero, List.set_cons_succ, size_al, size_set] at HS); replace F := HS.out.facts; simp only [facts_cons, facts_nil, fact_box, fact_row, fact_gone, cellsAt_cons, cellsAt_nil, Nat.zero_add, Nat.reduceAdd, true_and, and_true] at F; clear hb)
  go_wp2_with (go_at_call 22; refine (markDisk rr _ _ _ lr 1 w _ _ 6 (HS.out) rfl (by decide) (by omega)).mono ?_; rintro e W10 ⟨rfl, hs⟩; replace HS := Aside0.mk hs; (try simp only [List.cons_append, List.nil_append, List.set_cons_zero, List.set_cons_succ, size_al, size_set] at HS); replace F := HS.out.facts; simp only [facts_cons, facts_nil, fact_box, fact_row, fact_gone, cellsAt_cons, cellsAt_nil, Nat.zero_add, Nat.reduceAdd, true_and, and_true] at F; clear hs)
  go_wp2_with (go_at_call 23; refine (heldDisk rr _ lr.length _ 1 _ (by have hC := (HS.out).C 6 rfl; rwa [markedFile_len] at hC) (by decide) (by omega)).mono ?_; rintro e W11 ⟨rfl, hb⟩; replace HS := Aside0.mk ((HS.out).below hb); (try simp only [List.cons_append, List.nil_append, List.set_cons_zero, List.set_cons_succ, size_al, size_set] at HS); replace F := HS.out.facts; simp only [facts_cons, facts_nil, fact_box, fact_row, fact_gone, cellsAt_cons, cellsAt_nil, Nat.zero_add, Nat.reduceAdd, true_and, and_true] at F; clear hb)
  go_wp2_with (go_at_call 15; refine (toDisk room A c l _ hl (Kd.C_below HR.out (HS.out).old)).mono ?_; rintro e W12 ⟨v, rfl, hs⟩; obtain ⟨B12, n12, d12, rfl⟩ := hs.form3 0 rfl; obtain rfl := (hs.len 0 rfl).1; replace HS := Aside0.mk ((HS.out).add hs); (try simp only [List.cons_append, List.nil_append, List.set_cons_zero, List.set_cons_succ, size_al, size_set] at HS); replace F := HS.out.facts; simp only [facts_cons, facts_nil, fact_box, fact_row, fact_gone, cellsAt_cons, cellsAt_nil, Nat.zero_add, Nat.reduceAdd, true_and, and_true] at F; clear hs)
  go_wp2_with (go_at_call 33; refine (impl_Append room _ _ l name s _ ((HS.out).C 9 rfl) HSm.out hl hz_s).mono ?_; rw [HRR.out]; rintro e W13 ⟨v, rfl, hs⟩; obtain ⟨B13, n13, d13, rfl⟩ := hs.form3 0 rfl; obtain rfl := (hs.len 0 rfl).1; replace HS := Aside0.mk ((HS.out).add hs); (try simp only [List.cons_append, List.nil_append, List.set_cons_zero, List.set_cons_succ, size_al, size_set] at HS); replace F := HS.out.facts; simp only [facts_cons, facts_nil, fact_box, fact_row, fact_gone, cellsAt_cons, cellsAt_nil, Nat.zero_add, Nat.reduceAdd, true_and, and_true] at F; clear hs)
  go_wp2_with (go_at_call 17; refine (eqDisk rr _ _ _ _ _ _ (((HS.out.alloc _ _)).C 10 rfl) (((HS.out.alloc _ _)).C 2 rfl)).mono ?_; rintro e W14 ⟨rfl, hb⟩; replace HS := Aside0.mk (((HS.out.alloc _ _)).below hb); (try simp only [List.cons_append, List.nil_append, List.set_cons_zero, List.set_cons_succ, size_al, size_set] at HS); replace F := HS.out.facts; simp only [facts_cons, facts_nil, fact_box, fact_row, fact_gone, cellsAt_cons, cellsAt_nil, Nat.zero_add, Nat.reduceAdd, true_and, and_true] at F; clear hb)
  go_wp2_with (go_at_call 23; refine (heldDisk rr _ lr.length _ 1 _ (by have hC := (HS.out).C 6 rfl; rwa [markedFile_len] at hC) (by decide) (by omega)).mono ?_; rintro e W15 ⟨rfl, hb⟩; replace HS := Aside0.mk ((HS.out).below hb); (try simp only [List.cons_append, List.nil_append, List.set_cons_zero, List.set_cons_succ, size_al, size_set] at HS); replace F := HS.out.facts; simp only [facts_cons, facts_nil, fact_box, fact_row, fact_gone, cellsAt_cons, cellsAt_nil, Nat.zero_add, Nat.reduceAdd, true_and, and_true] at F; clear hb)
  go_ret
  exact ⟨rfl, HS.out.old⟩
end Go.Proofs.Ytbbeaghhchjkgaa.Law
