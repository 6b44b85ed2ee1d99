/- Where a file of a right disk stands, and what a refusal leaves: the reference; sync. No condition. -/
import Derived.Test.YtbbeaghhchjkgaaDkPure
namespace Go.Proofs.Ytbbeaghhchjkgaa.Dk
open Go.RowKit Go.Proofs.YtbbeaghhchjkgaaW.PrintWords Go.Proofs.Ytbbeaghhchjkgaa.Sp Go.Proofs.Ytbbeaghhchjkgaa.Ty Go.Proofs.Ytbbeaghhchjkgaa.Im Go.Proofs.Ytbbeaghhchjkgaa.Lw
set_option linter.unusedVariables false
set_option linter.unusedSimpArgs false
attribute [local go_sem ↓] Go.wp_at_zero Go.wp_at_succ
attribute [local go_sem] World.cell?_alloc_lt
def atCode (room : Int) (l : List File) (name : Int) : Int := if (diskOk room l && isFile name) = true then (if fileAt l name < 0 then 2 else 0) else 1
def atAt (room : Int) (l : List File) (name : Int) : Int := if (diskOk room l && isFile name) = true then fileAt l name else -1
set_option maxRecDepth 100000 in
set_option maxHeartbeats 1000000 in
theorem spec_At (room : Int) (A : Option Addr) (c : Nat) (l : List File) (name : Int) (w : World) (hr : Kd.C kFile w A l.length l) (hv : Small l) :
    Calls Try.prog 57 #[.agg #[.int .i64 room, .slice A l.length c], .int .i64 name] w fun e w' => e = .returned (.tuple #[.int .i64 (atAt room l name), .int .i64 (atCode room l name)]) ∧ Below w.heap.size w w' := by
  have HR := Aside0.mk hr
  have HV := Aside0.mk hv
  clear hr hv
  have hu := Try.underlying29
  cases hb : diskOk room l
  · have HBB := Aside0.mk hb
    rw [show atAt room l name = -1 from if_neg (by simp [hb]), show atCode room l name = 1 from if_neg (by simp [hb])]
    clear hb
    go_enter Try.func57, Try.ntmps57
    go_wp2_with (go_at_call 14; refine (spec_DiskOk room A c l _ (Kd.C_alloc HR.out _) HV.out).mono ?_; rw [HBB.out]; rintro e w2 ⟨rfl, hb⟩)
    go_ret2
    exact ⟨rfl, below_step (below_alloc (Below.refl _ _) _) hb⟩
  · have HBB := Aside0.mk hb
    cases hc : isFile name
    · have HCC := Aside0.mk hc
      rw [show atAt room l name = -1 from if_neg (by rw [hb, hc]; decide), show atCode room l name = 1 from if_neg (by rw [hb, hc]; decide)]
      clear hb hc
      go_enter Try.func57, Try.ntmps57
      go_wp2_with (first | (go_at_call 14; refine (spec_DiskOk room A c l _ (Kd.C_alloc HR.out _) HV.out).mono ?_; rw [HBB.out]; rintro e w2 ⟨rfl, hb⟩) | (go_at_call 44; refine (spec_isFile _ _).mono ?_; rw [HCC.out]; rintro e w' ⟨rfl, ⟨nd, rfl⟩⟩))
      go_ret2
      exact ⟨rfl, pw_below_drewN (below_step (below_alloc (Below.refl _ _) _) hb) _⟩
    · have HCC := Aside0.mk hc
      have e1 : atAt room l name = fileAt l name := if_pos (by rw [hb, hc]; decide)
      have e2 : atCode room l name = if fileAt l name < 0 then 2 else 0 := if_pos (by rw [hb, hc]; decide)
      rw [e1, e2]
      clear hb hc e1 e2
      by_cases hn : fileAt l name < 0
      · rw [if_pos hn]
        go_enter Try.func57, Try.ntmps57
        go_wp2_with (first | (go_at_call 14; refine (spec_DiskOk room A c l _ (Kd.C_alloc HR.out _) HV.out).mono ?_; rw [HBB.out]; rintro e w2 ⟨rfl, hb⟩; have HS := Aside0.mk (((Sep.nil w).alloc _ _).below hb); have F := HS.out.facts; (try simp only [List.cons_append, List.nil_append, List.set_cons_zero, List.set_cons_succ, size_al, size_set] at HS); replace F := HS.out.facts; simp only [facts_cons, facts_nil, fact_box, fact_row, fact_gone, cellsAt_cons, cellsAt_nil, Nat.zero_add, Nat.reduceAdd, true_and, and_true] at F; clear hb) | (go_at_call 44; refine (spec_isFile _ _).mono ?_; rw [HCC.out]; rintro e w' ⟨rfl, ⟨nd, rfl⟩⟩; replace HS := Aside0.mk (HS.out.drewN nd)) | (go_at_call 50; refine (spec_Find room A c l name _ (Kd.C_below HR.out HS.out.old)).mono ?_; rintro e w3 ⟨rfl, hb⟩; replace HS := Aside0.mk (HS.out.below hb)))
        go_ret2
        exact ⟨rfl, HS.out.old⟩
      · rw [if_neg hn]
        go_enter Try.func57, Try.ntmps57
        go_wp2_with (first | (go_at_call 14; refine (spec_DiskOk room A c l _ (Kd.C_alloc HR.out _) HV.out).mono ?_; rw [HBB.out]; rintro e w2 ⟨rfl, hb⟩; have HS := Aside0.mk (((Sep.nil w).alloc _ _).below hb); have F := HS.out.facts; (try simp only [List.cons_append, List.nil_append, List.set_cons_zero, List.set_cons_succ, size_al, size_set] at HS); replace F := HS.out.facts; simp only [facts_cons, facts_nil, fact_box, fact_row, fact_gone, cellsAt_cons, cellsAt_nil, Nat.zero_add, Nat.reduceAdd, true_and, and_true] at F; clear hb) | (go_at_call 44; refine (spec_isFile _ _).mono ?_; rw [HCC.out]; rintro e w' ⟨rfl, ⟨nd, rfl⟩⟩; replace HS := Aside0.mk (HS.out.drewN nd)) | (go_at_call 50; refine (spec_Find room A c l name _ (Kd.C_below HR.out HS.out.old)).mono ?_; rintro e w3 ⟨rfl, hb⟩; replace HS := Aside0.mk (HS.out.below hb)))
        go_ret2
        exact ⟨rfl, HS.out.old⟩
/-- What a disk is behind a refusal. -/
def refused (room : Int) (l : List File) (code : Int) : Int × List File := if code = 1 then (0, []) else (room, l)
set_option maxRecDepth 100000 in
theorem spec_Refused (room : Int) (A : Option Addr) (c : Nat) (l : List File) (code : Int) (w : World) (hr : Kd.C kFile w A l.length l) (hl : l.length ≤ 1048576) :
    Calls Try.prog 58 #[.agg #[.int .i64 room, .slice A l.length c], .int .i64 code] w fun e w' => ∃ v, e = .returned (.agg #[.int .i64 (refused room l code).1, v]) ∧ Sep w w' [Ob.row kFile 44 v (refused room l code).2] := by
  have HR := Aside0.mk hr
  clear hr
  have hu := Try.underlying29
  by_cases h : code = 1
  · rw [show refused room l code = (0, []) from if_pos h]
    subst h
    go_enter Try.func58, Try.ntmps58
    go_wp2
    refine bodyPost_ret (v := .agg #[.int .i64 0, .slice none 0 0]) (by simp [results, Try.results58, go_sem]) rfl ⟨_, rfl, ?_⟩
    exact (((((Sep.nil w).alloc _ _).alloc _ _).add (Sep.none_ _ _ _)).pk [2] (by decide))
  · rw [show refused room l code = (room, l) from if_neg h]
    have c1 : (code == 1) = false := by simpa using h
    clear h
    go_enter Try.func58, Try.ntmps58
    go_wp2_with (go_at_call 65; refine (spec_Copy room A c l _ (Kd.C_alloc (Kd.C_alloc HR.out _) _) hl).mono ?_; rintro e w2 ⟨v, rfl, hs⟩; obtain ⟨B, n, d, rfl⟩ := hs.form3 0 rfl; have HS := Aside0.mk ((((Sep.nil w).alloc _ _).alloc _ _).add hs); have F := HS.out.facts; (try simp only [List.cons_append, List.nil_append, List.set_cons_zero, List.set_cons_succ, size_al, size_set] at HS); replace F := HS.out.facts; simp only [facts_cons, facts_nil, fact_box, fact_row, fact_gone, cellsAt_cons, cellsAt_nil, Nat.zero_add, Nat.reduceAdd, true_and, and_true] at F; clear hs)
    refine bodyPost_ret (v := .agg #[.int .i64 room, .slice B n d]) (by simp [results, Try.results58, F, go_sem]) rfl ⟨_, rfl, ?_⟩
    exact (((HS.out.set 1 rfl 0 _).set 1 rfl 1 _).pk [2] (by decide))
end Go.Proofs.Ytbbeaghhchjkgaa.Dk
