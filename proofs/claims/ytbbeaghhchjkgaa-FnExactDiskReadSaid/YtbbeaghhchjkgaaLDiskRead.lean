/- The law FnExactDiskRead, walked. No condition. -/
import Derived.Test.YtbbeaghhchjkgaaDkRead
namespace Go.Proofs.Ytbbeaghhchjkgaa.Law
open Go.RowKit Go.Proofs.YtbbeaghhchjkgaaW.PrintWords Go.Proofs.Ytbbeaghhchjkgaa.Sp Go.Proofs.Ytbbeaghhchjkgaa.Ty Go.Proofs.Ytbbeaghhchjkgaa.Im Go.Proofs.Ytbbeaghhchjkgaa.Lw Go.Proofs.Ytbbeaghhchjkgaa.Dk
set_option linter.unusedVariables false
set_option linter.unusedSimpArgs false
attribute [local go_sem ↓] Go.wp_at_zero Go.wp_at_succ
attribute [local go_sem] World.cell?_alloc_lt
set_option maxRecDepth 100000 in
set_option maxHeartbeats 1000000 in
theorem FnExactDiskRead (room : Int) (A : Option Addr) (c : Nat) (l : List File) (name : Int) (w : World) (hr : Kd.C kFile w A l.length l) (_ : (Lit.int .i64 room).wf = true) (hg0 : ∀ x ∈ l, File.good x) (_ : (Lit.int .i64 name).wf = true) :
    Calls Try.prog 4 #[.agg #[.int .i64 room, .slice A l.length c], .int .i64 name] w fun e w' => e = .returned (.bool true) ∧ Below w.heap.size w w' := by
  have hg : ∀ x ∈ l, x.Safe.size ≤ 9223372036854775807 ∧ x.Late.size ≤ 9223372036854775807 := fun x hx => ⟨(hg0 x hx).2.1, (hg0 x hx).2.2⟩
  clear hg0
  have HR := Aside0.mk hr
  have HG := Aside0.mk hg
  clear hr hg
  have hu1 := Try.underlying29
  have hu2 := Try.underlying24
  go_enter Try.func4, Try.ntmps4
  go_wp2_with (go_at_call 13; refine (szDisk room A c l _ (Kd.C_alloc HR.out _) HG.out).mono ?_; rintro e w' ⟨r, rfl, hr, hb⟩; have HS := Aside0.mk (((Sep.nil w).alloc _ _).below hb); simp only [List.nil_append] at HS; have HV := Aside0.mk hr; clear hb hr; have F := HS.out.facts; simp only [facts_cons, facts_nil, fact_box, fact_row, fact_gone, cellsAt_cons, cellsAt_nil, Nat.zero_add, Nat.reduceAdd, true_and, and_true] at F; by_cases hr0 : r < 0)
  · go_ret
    exact ⟨rfl, HS.out.old⟩
  · have hv := HV.out (by omega)
    have hs0 : Small l := hv
    have hl : l.length ≤ 1048576 := by have := vol_nonneg l; omega
    have HSm := Aside0.mk hs0
    clear hs0 hv
    clear HV
    go_wp2_with (first | (go_at_call 15; refine (toDisk room A c l _ hl (Kd.C_below HR.out HS.out.old)).mono ?_; rintro e w' ⟨v, rfl, hs⟩; obtain ⟨B, d, rfl, _, _⟩ := hs.reads 0 rfl; replace HS := Aside0.mk (HS.out.add hs); simp only [List.cons_append, List.nil_append] at HS; replace F := HS.out.facts; simp only [facts_cons, facts_nil, fact_box, fact_row, fact_gone, cellsAt_cons, cellsAt_nil, Nat.zero_add, Nat.reduceAdd, true_and, and_true] at F; clear hs) | (go_at_call 18; refine (spec_DiskRead room B d l name _ (HS.out.C 1 rfl) HSm.out).mono ?_; rintro e w' ⟨rfl, hb⟩; replace HS := Aside0.mk (HS.out.below hb); replace F := HS.out.facts; simp only [facts_cons, facts_nil, fact_box, fact_row, fact_gone, cellsAt_cons, cellsAt_nil, Nat.zero_add, Nat.reduceAdd, true_and, and_true] at F; clear hb))
    go_wp2_with (go_at_call 19; refine (impl_DiskRead room _ _ l name _ (Kd.C_alloc (HS.out.C 2 rfl) _) HSm.out).mono ?_; rintro e w6 ⟨rfl, hb⟩; replace HS := Aside0.mk ((HS.out.alloc _ _).below hb); simp only [List.cons_append, List.nil_append] at HS; replace F := HS.out.facts; simp only [facts_cons, facts_nil, fact_box, fact_row, fact_gone, cellsAt_cons, cellsAt_nil, Nat.zero_add, Nat.reduceAdd, true_and, and_true] at F; clear hb)
    obtain ⟨⟨_, ⟨g0, _⟩, g1, _⟩, _, ⟨g2, _⟩, g3, _⟩ := F
    go_region_held3 (fun W => W.cell? ⟨w.heap.size, 0, none⟩ = some (.int .i64 room) ∧ W.cell? ⟨w.heap.size, 1, none⟩ = some (.slice A l.length c) ∧ W.cell? ⟨w'.heap.size, 0, none⟩ = some (.int .i64 room) ∧ W.cell? ⟨w'.heap.size, 1, none⟩ = some (.slice B l.length d)) (first | exact ⟨g0, g1, g2, g3⟩ | exact ⟨pw_cell_below hb1 (pw_cell_below hb0 g0), pw_cell_below hb1 (pw_cell_below hb0 g1), pw_cell_below hb1 (pw_cell_below hb0 g2), pw_cell_below hb1 (pw_cell_below hb0 g3)⟩ | exact ⟨pw_cell_below hb0 g0, pw_cell_below hb0 g1, pw_cell_below hb0 g2, pw_cell_below hb0 g3⟩)
      (first | (go_at_call 15; refine (toDisk room A c l _ hl (Kd.C_below HR.out (below_drew1 HS.out.old))).mono ?_; rintro e w7 ⟨v, rfl, hs⟩; obtain ⟨B7, d7, rfl, _, _⟩ := hs.reads 0 rfl; replace HS := Aside0.mk (HS.out.drew.add hs); simp only [List.cons_append, List.nil_append] at HS; have hb0 := hs.old; clear hs) | (go_at_call 17; refine (eqDisk room B B7 d d7 l _ (HS.out.C 2 rfl) (HS.out.C 4 rfl)).mono ?_; rintro e w8 ⟨rfl, hb1⟩))
    go_wp2
    go_ret
    exact ⟨rfl, below_step HS.out.old hb1⟩
end Go.Proofs.Ytbbeaghhchjkgaa.Law
