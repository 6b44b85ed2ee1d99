/- A file cut short: the program and the reference. No condition. -/
import Derived.Test.YtbbeaghhchjkgaaDkSync
import Derived.Test.YtbbeaghhchjkgaaSepX
namespace Go.Proofs.Ytbbeaghhchjkgaa.Dk
open Go.RowKit Go.Proofs.YtbbeaghhchjkgaaW Go.Proofs.YtbbeaghhchjkgaaW.PrintWords Go.Proofs.Ytbbeaghhchjkgaa.Sp Go.Proofs.Ytbbeaghhchjkgaa.Ty Go.Proofs.Ytbbeaghhchjkgaa.Im Go.Proofs.Ytbbeaghhchjkgaa.Lw
set_option linter.unusedVariables false
set_option linter.unusedSimpArgs false
attribute [local go_sem ↓] Go.wp_at_zero Go.wp_at_succ
attribute [local go_sem] World.cell?_alloc_lt
def cutCode (room : Int) (l : List File) (name n : Int) : Int := if atCode room l name = 0 then (if inB n 0 (fileText l name).size = true then 0 else 2) else atCode room l name
def cutR (room : Int) (l : List File) (name n : Int) : Told :=
  if cutCode room l name n = 0 then ⟨room, putF l ⟨name, (fileText l name).extract 0 n.toNat, ⟨#[]⟩⟩, 0⟩ else refuse room l (cutCode room l name n)
theorem cutR_len (room : Int) (l : List File) (name n : Int) : (cutR room l name n).files.length ≤ 2 * l.length + 1 := by
  unfold cutR
  split
  · exact putF_len _ _
  · have := refuse_len room l (cutCode room l name n); omega
set_option maxRecDepth 100000 in
set_option maxHeartbeats 1000000 in
theorem spec_Cut (room : Int) (A : Option Addr) (c : Nat) (l : List File) (name n : Int) (w : World) (hr : Kd.C kFile w A l.length l) (hv : Small l) (hl : l.length ≤ 1048576) :
    Calls Try.prog 30 #[.agg #[.int .i64 room, .slice A l.length c], .int .i64 name, .int .i64 n] w fun e w' => ∃ v, e = .returned (.tuple #[.agg #[.int .i64 (cutR room l name n).room, v], .int .i64 (cutR room l name n).code]) ∧ Sep w w' [Ob.row kFile 44 v (cutR room l name n).files] := by
  have HR := Aside0.mk hr
  have HV := Aside0.mk hv
  clear hr hv
  have hu := Try.underlying29
  have hu2 := Try.underlying44
  by_cases h : atCode room l name = 0
  · obtain ⟨hok, hf, h0, hat⟩ := at_done h
    obtain ⟨j, hj⟩ := Int.eq_ofNat_of_zero_le h0
    rcases fileAt_range l name with h1 | ⟨_, h2, _⟩
    · omega
    have p1 : j < l.length := by omega
    have HAT := Aside0.mk (hat.trans hj)
    have HC := Aside0.mk h
    have hft : fileText l name = (rdFile l j).Safe ++ (rdFile l j).Late := by rw [fileText, hj, Int.toNat_natCast]
    have hs := vol_at p1
    have hv := HV.out
    unfold Small at hv
    have hsz : (rdFile l j).Safe.size + (rdFile l j).Late.size ≤ 1048576 := by omega
    have p0 : (0 : Int) ≤ (j : Int) := by omega
    have p2 : (j : Int) < (l.length : Int) := by omega
    have hcode : cutCode room l name n = if inB n 0 ((rdFile l j).Safe.size + (rdFile l j).Late.size) = true then 0 else 2 := by
      rw [cutCode, if_pos h, hft, ByteArray.size_append]; simp only [Int.natCast_add]
    clear hok hf h0 hat hj h h2 hs hv
    cases hin : inB n 0 ((rdFile l j).Safe.size + (rdFile l j).Late.size)
    · rw [show cutR room l name n = refuse room l 2 from by rw [cutR, hcode, hin]; rfl]
      have HIN := Aside0.mk hin
      clear hin hcode
      go_enter Try.func30, Try.ntmps30
      go_wp2_with (go_at_call 57; refine (spec_At room A c l name _ (Kd.C_alloc (Kd.C_alloc HR.out _) _) HV.out).mono ?_; rw [HAT.out, HC.out]; rintro e w2 ⟨rfl, hb⟩; have HS := Aside0.mk ((((Sep.nil w).alloc _ _).alloc _ _).below hb); have F := HS.out.facts; (try simp only [List.cons_append, List.nil_append, List.set_cons_zero, List.set_cons_succ, size_al, size_set] at HS); replace F := HS.out.facts; simp only [facts_cons, facts_nil, fact_box, fact_row, fact_gone, cellsAt_cons, cellsAt_nil, Nat.zero_add, Nat.reduceAdd, true_and, and_true] at F; clear hb; obtain ⟨ad, rfl, x0, x1, x2⟩ := atFile (Kd.C_below HR.out HS.out.old) j p1)
      go_quiet (first | (go_at_call 42; refine (spec_in _ _ _ _).mono ?_; rw [HIN.out]; rintro e w' ⟨rfl, ⟨nd, rfl⟩⟩; exact ⟨rfl, _, World.drewN_drewN _ _ _⟩))
      replace HS := Aside0.mk (HS.out.drewN nq)
      go_wp2_with (go_at_call 58; refine (spec_Refused room _ c l _ _ (Kd.C_below HR.out HS.out.old) hl).mono ?_; rintro e w3 ⟨v, rfl, hs⟩; obtain ⟨B, n1, d, rfl⟩ := hs.form3 0 rfl; replace HS := Aside0.mk (HS.out.add hs); (try simp only [List.cons_append, List.nil_append, List.set_cons_zero, List.set_cons_succ, size_al, size_set] at HS); replace F := HS.out.facts; simp only [facts_cons, facts_nil, fact_box, fact_row, fact_gone, cellsAt_cons, cellsAt_nil, Nat.zero_add, Nat.reduceAdd, true_and, and_true] at F; clear hs)
      refine bodyPost_ret (v := .tuple #[.agg #[.int .i64 (refused room l 2).1, .slice B n1 d], .int .i64 2]) (by simp [results, Try.results30, F, go_sem]) rfl ⟨_, rfl, ?_⟩
      exact (((HS.out.set 1 rfl 0 _).set 1 rfl 1 _).pk [2] (by decide))
    · rw [show cutR room l name n = ⟨room, putF l ⟨name, ((rdFile l j).Safe ++ (rdFile l j).Late).extract 0 n.toNat, ⟨#[]⟩⟩, 0⟩ from by rw [cutR, hcode, hin, hft]; rfl]
      have HIN := Aside0.mk hin
      have hn0 : 0 ≤ n := (inB_iff.1 hin).1
      have hn1 : n ≤ (rdFile l j).Safe.size + (rdFile l j).Late.size := (inB_iff.1 hin).2
      have hn2 : n ≤ ((rdFile l j).Safe ++ (rdFile l j).Late).size := by rw [ByteArray.size_append]; omega
      clear hin hcode
      go_enter Try.func30, Try.ntmps30
      go_wp2_with (go_at_call 57; refine (spec_At room A c l name _ (Kd.C_alloc (Kd.C_alloc HR.out _) _) HV.out).mono ?_; rw [HAT.out, HC.out]; rintro e w2 ⟨rfl, hb⟩; have HS := Aside0.mk ((((Sep.nil w).alloc _ _).alloc _ _).below hb); have F := HS.out.facts; (try simp only [List.cons_append, List.nil_append, List.set_cons_zero, List.set_cons_succ, size_al, size_set] at HS); replace F := HS.out.facts; simp only [facts_cons, facts_nil, fact_box, fact_row, fact_gone, cellsAt_cons, cellsAt_nil, Nat.zero_add, Nat.reduceAdd, true_and, and_true] at F; clear hb; obtain ⟨ad, rfl, x0, x1, x2⟩ := atFile (Kd.C_below HR.out HS.out.old) j p1)
      go_quiet (first | (go_at_call 42; refine (spec_in _ _ _ _).mono ?_; rw [HIN.out]; rintro e w' ⟨rfl, ⟨nd, rfl⟩⟩; exact ⟨rfl, _, World.drewN_drewN _ _ _⟩))
      replace HS := Aside0.mk (HS.out.drewN nq)
      generalize hW_ : w2.drewN nq = w5 at HS ⊢
      clear hW_
      (try simp only [List.cons_append, List.nil_append, List.set_cons_zero, List.set_cons_succ, size_al, size_set] at HS); replace F := HS.out.facts; simp only [facts_cons, facts_nil, fact_box, fact_row, fact_gone, cellsAt_cons, cellsAt_nil, Nat.zero_add, Nat.reduceAdd, true_and, and_true] at F
      obtain ⟨ad', e_, x0, x1, x2⟩ := atFile (Kd.C_below HR.out HS.out.old) j p1
      injection e_ with e_
      subst e_
      have HLT := Aside0.mk F.2.1
      go_wp2
      replace HS := Aside0.mk (HS.out.alloc #[.int .i64 (rdFile l j).Name, .string (rdFile l j).Safe, .string (rdFile l j).Late] 44)
      generalize hW_ : w5.alloc _ = W3 at HS ⊢
      clear hW_
      (try simp only [List.cons_append, List.nil_append, List.set_cons_zero, List.set_cons_succ, size_al, size_set] at HS); replace F := HS.out.facts; simp only [facts_cons, facts_nil, fact_box, fact_row, fact_gone, cellsAt_cons, cellsAt_nil, Nat.zero_add, Nat.reduceAdd, true_and, and_true] at F
      have M1 : w.heap.size ≠ w.heap.size + 1 := by omega
      have M2 : w5.heap.size ≠ w.heap.size + 1 := by have := HLT.out; omega
      have hcat : ¬ 9223372036854775807 < (rdFile l j).Safe.size + (rdFile l j).Late.size := by omega
      go_region_held3 (fun W => W.cell? ⟨w.heap.size, 0, none⟩ = some (.int .i64 room) ∧ W.cell? ⟨w.heap.size, 1, none⟩ = some (.slice (some ad) l.length c) ∧ W.cell? ⟨w5.heap.size, 1, none⟩ = some (.string (rdFile l j).Safe) ∧ W.cell? ⟨w5.heap.size, 2, none⟩ = some (.string (rdFile l j).Late)) (first | exact ⟨F.1.2.1.1, F.1.2.2.1, F.2.2.2.2.1.1, F.2.2.2.2.2.1⟩ | exact ⟨(cell_far (p := ⟨w.heap.size + 1, 1, none⟩) (a := ⟨w.heap.size, 0, none⟩) M1 _).trans ((cell_far (p := ⟨w.heap.size + 1, 0, none⟩) (a := ⟨w.heap.size, 0, none⟩) M1 _).trans F.1.2.1.1), (cell_far (p := ⟨w.heap.size + 1, 1, none⟩) (a := ⟨w.heap.size, 1, none⟩) M1 _).trans ((cell_far (p := ⟨w.heap.size + 1, 0, none⟩) (a := ⟨w.heap.size, 1, none⟩) M1 _).trans F.1.2.2.1), (cell_far (p := ⟨w.heap.size + 1, 1, none⟩) (a := ⟨w5.heap.size, 1, none⟩) M2 _).trans ((cell_far (p := ⟨w.heap.size + 1, 0, none⟩) (a := ⟨w5.heap.size, 1, none⟩) M2 _).trans F.2.2.2.2.1.1), (cell_far (p := ⟨w.heap.size + 1, 1, none⟩) (a := ⟨w5.heap.size, 2, none⟩) M2 _).trans ((cell_far (p := ⟨w.heap.size + 1, 0, none⟩) (a := ⟨w5.heap.size, 2, none⟩) M2 _).trans F.2.2.2.2.2.1)⟩ | go_keep)
        (first | (go_at_call 59; refine (spec_Put room _ c l ⟨name, ((rdFile l j).Safe ++ (rdFile l j).Late).extract 0 n.toNat, ⟨#[]⟩⟩ _ (Kd.C_below HR.out HS.out.drew.old) hl).mono ?_; rintro e w6 ⟨v, rfl, hs⟩; obtain ⟨B, n1, d, rfl⟩ := hs.form3 0 rfl; replace HS := Aside0.mk (HS.out.drew.add hs); (try simp only [List.cons_append, List.nil_append, List.set_cons_zero, List.set_cons_succ, size_al, size_set] at HS); replace F := HS.out.facts; simp only [facts_cons, facts_nil, fact_box, fact_row, fact_gone, cellsAt_cons, cellsAt_nil, Nat.zero_add, Nat.reduceAdd, true_and, and_true] at F; clear hs))
      go_wp2
      refine bodyPost_ret (v := .tuple #[.agg #[.int .i64 room, .slice B n1 d], .int .i64 0]) (by simp [results, Try.results30, F, go_sem]) rfl ⟨_, rfl, ?_⟩
      exact (((HS.out.set 1 rfl 0 _).set 1 rfl 1 _).pk [3] (by decide))
  · rw [show cutR room l name n = refuse room l (atCode room l name) from by rw [cutR, cutCode, if_neg h, if_neg h]]
    have c1 : (atCode room l name == 0) = false := by simpa using h
    have c2 : (atCode room l name != 0) = true := by simpa using h
    clear h
    go_enter Try.func30, Try.ntmps30
    go_wp2_with (go_at_call 57; refine (spec_At room A c l name _ (Kd.C_alloc (Kd.C_alloc HR.out _) _) HV.out).mono ?_; rintro e w2 ⟨rfl, hb⟩; have HS := Aside0.mk ((((Sep.nil w).alloc _ _).alloc _ _).below hb); have F := HS.out.facts; (try simp only [List.cons_append, List.nil_append, List.set_cons_zero, List.set_cons_succ, size_al, size_set] at HS); replace F := HS.out.facts; simp only [facts_cons, facts_nil, fact_box, fact_row, fact_gone, cellsAt_cons, cellsAt_nil, Nat.zero_add, Nat.reduceAdd, true_and, and_true] at F; clear hb)
    go_quiet (fail)
    replace HS := Aside0.mk (HS.out.drewN nq)
    go_wp2_with (go_at_call 58; refine (spec_Refused room A c l _ _ (Kd.C_below HR.out HS.out.old) hl).mono ?_; rintro e w3 ⟨v, rfl, hs⟩; obtain ⟨B, n1, d, rfl⟩ := hs.form3 0 rfl; replace HS := Aside0.mk (HS.out.add hs); (try simp only [List.cons_append, List.nil_append, List.set_cons_zero, List.set_cons_succ, size_al, size_set] at HS); replace F := HS.out.facts; simp only [facts_cons, facts_nil, fact_box, fact_row, fact_gone, cellsAt_cons, cellsAt_nil, Nat.zero_add, Nat.reduceAdd, true_and, and_true] at F; clear hs)
    refine bodyPost_ret (v := .tuple #[.agg #[.int .i64 (refused room l (atCode room l name)).1, .slice B n1 d], .int .i64 (atCode room l name)]) (by simp [results, Try.results30, F, go_sem]) rfl ⟨_, rfl, ?_⟩
    exact (((HS.out.set 1 rfl 0 _).set 1 rfl 1 _).pk [2] (by decide))
set_option maxRecDepth 100000 in
set_option maxHeartbeats 4000000 in
theorem impl_Cut (room : Int) (A : Option Addr) (c : Nat) (l : List File) (name n : Int) (w : World) (hr : Kd.C kFile w A l.length l) (hv : Small l) (hl : l.length ≤ 1048576) :
    Calls Try.prog 31 #[.agg #[.int .i64 room, .slice A l.length c], .int .i64 name, .int .i64 n] w fun e w' => ∃ v, e = .returned (.tuple #[.agg #[.int .i64 (cutR room l name n).room, v], .int .i64 (cutR room l name n).code]) ∧ Sep w w' [Ob.row kFile 44 v (cutR room l name n).files] := by
  have HR := Aside0.mk hr
  have HV := Aside0.mk hv
  clear hr hv
  have hu := Try.underlying29
  have hu2 := Try.underlying44
  have bad : (diskOk room l && isFile name) = false → cutR room l name n = ⟨0, [], 1⟩ := fun h => by
    have hc : cutCode room l name n = 1 := by rw [cutCode, bad_code h, if_neg (by decide)]
    rw [cutR, hc, if_neg (by decide)]; rfl
  cases hb : diskOk room l
  · have HBB := Aside0.mk hb
    rw [bad (by rw [hb]; rfl)]
    clear hb bad
    go_enter Try.func31, Try.ntmps31
    go_wp2_with (go_at_call 16; refine (impl_DiskOk room A c l _ (Kd.C_alloc (Kd.C_alloc HR.out _) _) HV.out).mono ?_; rw [HBB.out]; rintro e w2 ⟨rfl, hb⟩; have HS := Aside0.mk (((((Sep.nil w).alloc _ _).alloc _ _).below hb).add (Sep.none_ kFile 44 _)); have F := HS.out.facts; (try simp only [List.cons_append, List.nil_append, List.set_cons_zero, List.set_cons_succ, size_al, size_set] at HS); replace F := HS.out.facts; simp only [facts_cons, facts_nil, fact_box, fact_row, fact_gone, cellsAt_cons, cellsAt_nil, Nat.zero_add, Nat.reduceAdd, true_and, and_true] at F; clear hb)
    refine bodyPost_ret (v := .tuple #[.agg #[.int .i64 0, .slice none 0 0], .int .i64 1]) (by simp [results, Try.results31, F, go_sem]) rfl ⟨_, rfl, ?_⟩
    exact (((HS.out.set 1 rfl 0 _).set 1 rfl 1 _).pk [2] (by decide))
  · cases hc : isFile name
    · have HBB := Aside0.mk hb
      have HCC := Aside0.mk hc
      rw [bad (by rw [hb, hc]; rfl)]
      clear hb hc bad
      go_enter Try.func31, Try.ntmps31
      go_wp2_with (first | (go_at_call 16; refine (impl_DiskOk room A c l _ (Kd.C_alloc (Kd.C_alloc HR.out _) _) HV.out).mono ?_; rw [HBB.out]; rintro e w2 ⟨rfl, hb⟩; have HS := Aside0.mk (((((Sep.nil w).alloc _ _).alloc _ _).below hb).add (Sep.none_ kFile 44 _)); have F := HS.out.facts; (try simp only [List.cons_append, List.nil_append, List.set_cons_zero, List.set_cons_succ, size_al, size_set] at HS); replace F := HS.out.facts; simp only [facts_cons, facts_nil, fact_box, fact_row, fact_gone, cellsAt_cons, cellsAt_nil, Nat.zero_add, Nat.reduceAdd, true_and, and_true] at F; clear hb) | (go_at_call 46; refine (impl_isFile _ _).mono ?_; rw [HCC.out]; rintro e w' ⟨rfl, ⟨nd, rfl⟩⟩; replace HS := Aside0.mk (HS.out.drewN nd); (try simp only [List.cons_append, List.nil_append, List.set_cons_zero, List.set_cons_succ, size_al, size_set] at HS); replace F := HS.out.facts; simp only [facts_cons, facts_nil, fact_box, fact_row, fact_gone, cellsAt_cons, cellsAt_nil, Nat.zero_add, Nat.reduceAdd, true_and, and_true] at F))
      refine bodyPost_ret (v := .tuple #[.agg #[.int .i64 0, .slice none 0 0], .int .i64 1]) (by simp [results, Try.results31, F, go_sem]) rfl ⟨_, rfl, ?_⟩
      exact (((HS.out.set 1 rfl 0 _).set 1 rfl 1 _).pk [2] (by decide))
    · have HBB := Aside0.mk hb
      have HCC := Aside0.mk hc
      clear bad
      have hok : okFrom l l.length 0 = true := by rw [diskOk, Bool.and_eq_true] at hb; exact hb.1
      have e2 : atCode room l name = if fileAt l name < 0 then 2 else 0 := if_pos (by rw [hb, hc]; decide)
      obtain ⟨T, hT⟩ : ∃ T, readText room l name = T := ⟨_, rfl⟩
      have HT := Aside0.mk hT
      by_cases hn : fileAt l name < 0
      · have hh : hasFile room l name = false := by rw [hasFile, hb, Bool.true_and]; exact decide_eq_false (by omega)
        rw [show cutR room l name n = ⟨room, l, 2⟩ from by
          have hc : cutCode room l name n = 2 := by rw [cutCode, e2, if_pos hn, if_neg (by decide)]
          rw [cutR, hc, if_neg (by decide)]; rfl]
        have HH := Aside0.mk hh
        clear e2 hok hn hT hh hb hc
        go_enter Try.func31, Try.ntmps31
        go_wp2_with (first | (go_at_call 16; refine (impl_DiskOk room A c l _ (Kd.C_alloc (Kd.C_alloc HR.out _) _) HV.out).mono ?_; rw [HBB.out]; rintro e w2 ⟨rfl, hb⟩; have HS := Aside0.mk ((((Sep.nil w).alloc _ _).alloc _ _).below hb); have F := HS.out.facts; (try simp only [List.cons_append, List.nil_append, List.set_cons_zero, List.set_cons_succ, size_al, size_set] at HS); replace F := HS.out.facts; simp only [facts_cons, facts_nil, fact_box, fact_row, fact_gone, cellsAt_cons, cellsAt_nil, Nat.zero_add, Nat.reduceAdd, true_and, and_true] at F; clear hb) | (go_at_call 46; refine (impl_isFile _ _).mono ?_; rw [HCC.out]; rintro e w' ⟨rfl, ⟨nd, rfl⟩⟩; replace HS := Aside0.mk (HS.out.drewN nd); (try simp only [List.cons_append, List.nil_append, List.set_cons_zero, List.set_cons_succ, size_al, size_set] at HS); replace F := HS.out.facts; simp only [facts_cons, facts_nil, fact_box, fact_row, fact_gone, cellsAt_cons, cellsAt_nil, Nat.zero_add, Nat.reduceAdd, true_and, and_true] at F) | (go_at_call 54; refine (cloneDisk room A c l _ (Kd.C_below HR.out HS.out.old) hl).mono ?_; rintro e w3 ⟨v, rfl, hs⟩; obtain ⟨B, n1, d, rfl⟩ := hs.form3 0 rfl; replace HS := Aside0.mk (HS.out.add hs); (try simp only [List.cons_append, List.nil_append, List.set_cons_zero, List.set_cons_succ, size_al, size_set] at HS); replace F := HS.out.facts; simp only [facts_cons, facts_nil, fact_box, fact_row, fact_gone, cellsAt_cons, cellsAt_nil, Nat.zero_add, Nat.reduceAdd, true_and, and_true] at F; clear hs) | (go_at_call 19; refine (impl_DiskRead room A c l name _ (Kd.C_below HR.out (HS.out.alloc _ _).old) HV.out).mono ?_; rw [HT.out, HH.out]; rintro e w4 ⟨rfl, hb⟩; replace HS := Aside0.mk ((HS.out.alloc _ _).below hb); (try simp only [List.cons_append, List.nil_append, List.set_cons_zero, List.set_cons_succ, size_al, size_set] at HS); replace F := HS.out.facts; simp only [facts_cons, facts_nil, fact_box, fact_row, fact_gone, cellsAt_cons, cellsAt_nil, Nat.zero_add, Nat.reduceAdd, true_and, and_true] at F; clear hb) )
        refine bodyPost_ret (v := .tuple #[.agg #[.int .i64 room, .slice B n1 d], .int .i64 2]) (by simp [results, Try.results31, F, go_sem]) rfl ⟨_, rfl, ?_⟩
        exact (((HS.out.set 1 rfl 0 _).set 1 rfl 1 _).pk [2] (by decide))
      · have hh : hasFile room l name = true := by rw [hasFile, hb, Bool.true_and]; exact decide_eq_true (by omega)
        have hft : fileText l name = T := by rw [← hT, readText, if_pos hh]
        obtain ⟨j, hj⟩ := Int.eq_ofNat_of_zero_le (show 0 ≤ fileAt l name by omega)
        rcases fileAt_range l name with h1 | ⟨_, h2, _⟩
        · omega
        have p1 : j < l.length := by omega
        have HJ := Aside0.mk hj
        have HH := Aside0.mk hh
        have hs := vol_at p1
        have hv := HV.out
        unfold Small at hv
        have hsz : T.size ≤ 1048576 := by rw [← hft, fileText, hj, Int.toNat_natCast, ByteArray.size_append]; omega
        cases hin : inB n 0 T.size
        · rw [show cutR room l name n = ⟨room, l, 2⟩ from by
            have hc : cutCode room l name n = 2 := by rw [cutCode, e2, if_neg hn, if_pos rfl, hft, hin]; rfl
            rw [cutR, hc, if_neg (by decide)]; rfl]
          have HIN := Aside0.mk hin
          clear e2 hok hn hT hh hb hc hin hft hj h2 hs hv
          go_enter Try.func31, Try.ntmps31
          go_wp2_with (first | (go_at_call 16; refine (impl_DiskOk room A c l _ (Kd.C_alloc (Kd.C_alloc HR.out _) _) HV.out).mono ?_; rw [HBB.out]; rintro e w2 ⟨rfl, hb⟩; have HS := Aside0.mk ((((Sep.nil w).alloc _ _).alloc _ _).below hb); have F := HS.out.facts; (try simp only [List.cons_append, List.nil_append, List.set_cons_zero, List.set_cons_succ, size_al, size_set] at HS); replace F := HS.out.facts; simp only [facts_cons, facts_nil, fact_box, fact_row, fact_gone, cellsAt_cons, cellsAt_nil, Nat.zero_add, Nat.reduceAdd, true_and, and_true] at F; clear hb) | (go_at_call 46; refine (impl_isFile _ _).mono ?_; rw [HCC.out]; rintro e w' ⟨rfl, ⟨nd, rfl⟩⟩; replace HS := Aside0.mk (HS.out.drewN nd); (try simp only [List.cons_append, List.nil_append, List.set_cons_zero, List.set_cons_succ, size_al, size_set] at HS); replace F := HS.out.facts; simp only [facts_cons, facts_nil, fact_box, fact_row, fact_gone, cellsAt_cons, cellsAt_nil, Nat.zero_add, Nat.reduceAdd, true_and, and_true] at F) | (go_at_call 54; refine (cloneDisk room A c l _ (Kd.C_below HR.out HS.out.old) hl).mono ?_; rintro e w3 ⟨v, rfl, hs⟩; obtain ⟨B, n1, d, rfl⟩ := hs.form3 0 rfl; replace HS := Aside0.mk (HS.out.add hs); (try simp only [List.cons_append, List.nil_append, List.set_cons_zero, List.set_cons_succ, size_al, size_set] at HS); replace F := HS.out.facts; simp only [facts_cons, facts_nil, fact_box, fact_row, fact_gone, cellsAt_cons, cellsAt_nil, Nat.zero_add, Nat.reduceAdd, true_and, and_true] at F; clear hs) | (go_at_call 19; refine (impl_DiskRead room A c l name _ (Kd.C_below HR.out (HS.out.alloc _ _).old) HV.out).mono ?_; rw [HT.out, HH.out]; rintro e w4 ⟨rfl, hb⟩; replace HS := Aside0.mk ((HS.out.alloc _ _).below hb); (try simp only [List.cons_append, List.nil_append, List.set_cons_zero, List.set_cons_succ, size_al, size_set] at HS); replace F := HS.out.facts; simp only [facts_cons, facts_nil, fact_box, fact_row, fact_gone, cellsAt_cons, cellsAt_nil, Nat.zero_add, Nat.reduceAdd, true_and, and_true] at F; clear hb) | (go_at_call 47; refine (impl_in _ _ _ _).mono ?_; rw [HIN.out]; rintro e w' ⟨rfl, ⟨nd2, rfl⟩⟩; replace HS := Aside0.mk (HS.out.drewN nd2); (try simp only [List.cons_append, List.nil_append, List.set_cons_zero, List.set_cons_succ, size_al, size_set] at HS); replace F := HS.out.facts; simp only [facts_cons, facts_nil, fact_box, fact_row, fact_gone, cellsAt_cons, cellsAt_nil, Nat.zero_add, Nat.reduceAdd, true_and, and_true] at F))
          refine bodyPost_ret (v := .tuple #[.agg #[.int .i64 room, .slice B n1 d], .int .i64 2]) (by simp [results, Try.results31, F, go_sem]) rfl ⟨_, rfl, ?_⟩
          exact (((HS.out.set 1 rfl 0 _).set 1 rfl 1 _).pk [2] (by decide))
        · rw [show cutR room l name n = ⟨room, l.set j ⟨name, T.extract 0 n.toNat, ⟨#[]⟩⟩, 0⟩ from by
            have hc : cutCode room l name n = 0 := by rw [cutCode, e2, if_neg hn, if_pos rfl, hft, hin]; rfl
            rw [cutR, if_pos hc, put_set hok (by omega) ⟨name, _, _⟩ rfl, hft, hj, Int.toNat_natCast]]
          have HIN := Aside0.mk hin
          have hn0 : 0 ≤ n := (inB_iff.1 hin).1
          have hn1 : n ≤ T.size := (inB_iff.1 hin).2
          clear e2 hok hn hT hh hb hc hin hft hj h2 hs hv
          go_enter Try.func31, Try.ntmps31
          go_wp2_with (first | (go_at_call 16; refine (impl_DiskOk room A c l _ (Kd.C_alloc (Kd.C_alloc HR.out _) _) HV.out).mono ?_; rw [HBB.out]; rintro e w2 ⟨rfl, hb⟩; have HS := Aside0.mk ((((Sep.nil w).alloc _ _).alloc _ _).below hb); have F := HS.out.facts; (try simp only [List.cons_append, List.nil_append, List.set_cons_zero, List.set_cons_succ, size_al, size_set] at HS); replace F := HS.out.facts; simp only [facts_cons, facts_nil, fact_box, fact_row, fact_gone, cellsAt_cons, cellsAt_nil, Nat.zero_add, Nat.reduceAdd, true_and, and_true] at F; clear hb) | (go_at_call 46; refine (impl_isFile _ _).mono ?_; rw [HCC.out]; rintro e w' ⟨rfl, ⟨nd, rfl⟩⟩; replace HS := Aside0.mk (HS.out.drewN nd); (try simp only [List.cons_append, List.nil_append, List.set_cons_zero, List.set_cons_succ, size_al, size_set] at HS); replace F := HS.out.facts; simp only [facts_cons, facts_nil, fact_box, fact_row, fact_gone, cellsAt_cons, cellsAt_nil, Nat.zero_add, Nat.reduceAdd, true_and, and_true] at F) | (go_at_call 54; refine (cloneDisk room A c l _ (Kd.C_below HR.out HS.out.old) hl).mono ?_; rintro e w3 ⟨v, rfl, hs⟩; obtain ⟨B, n1, d, rfl⟩ := hs.form3 0 rfl; replace HS := Aside0.mk (HS.out.add hs); (try simp only [List.cons_append, List.nil_append, List.set_cons_zero, List.set_cons_succ, size_al, size_set] at HS); replace F := HS.out.facts; simp only [facts_cons, facts_nil, fact_box, fact_row, fact_gone, cellsAt_cons, cellsAt_nil, Nat.zero_add, Nat.reduceAdd, true_and, and_true] at F; clear hs) | (go_at_call 19; refine (impl_DiskRead room A c l name _ (Kd.C_below HR.out (HS.out.alloc _ _).old) HV.out).mono ?_; rw [HT.out, HH.out]; rintro e w4 ⟨rfl, hb⟩; replace HS := Aside0.mk ((HS.out.alloc _ _).below hb); (try simp only [List.cons_append, List.nil_append, List.set_cons_zero, List.set_cons_succ, size_al, size_set] at HS); replace F := HS.out.facts; simp only [facts_cons, facts_nil, fact_box, fact_row, fact_gone, cellsAt_cons, cellsAt_nil, Nat.zero_add, Nat.reduceAdd, true_and, and_true] at F; clear hb) | (go_at_call 47; refine (impl_in _ _ _ _).mono ?_; rw [HIN.out]; rintro e w' ⟨rfl, ⟨nd2, rfl⟩⟩; replace HS := Aside0.mk (HS.out.drewN nd2); (try simp only [List.cons_append, List.nil_append, List.set_cons_zero, List.set_cons_succ, size_al, size_set] at HS); replace F := HS.out.facts; simp only [facts_cons, facts_nil, fact_box, fact_row, fact_gone, cellsAt_cons, cellsAt_nil, Nat.zero_add, Nat.reduceAdd, true_and, and_true] at F))
          obtain ⟨ad, rfl, x0, x1, x2⟩ := atFile (Kd.C_below HR.out HS.out.old) j p1
          obtain ⟨g, cap, hv⟩ := HS.out.form 2 rfl (by omega)
          injection hv with hv1 hv2 hv3
          subst hv1 hv2 hv3
          refine PrintLast.start_ (ds := [11]) (S := (fun W => W.cell? ⟨w.heap.size, 0, none⟩ = some (.int .i64 room) ∧ W.cell? ⟨w.heap.size, 1, none⟩ = some (.slice (some ad) l.length c) ∧ W.cell? ⟨w3.heap.size, 0, none⟩ = some (.int .i64 room) ∧ W.cell? ⟨w3.heap.size, 1, none⟩ = some (.slice (some ⟨g, 0, none⟩) l.length d))) #[false, false, false, false, false, false, false, false, false, false, false, false] (by kernel_rfl) rfl rfl ⟨F.1.2.1.1, F.1.2.2.1, F.2.2.2.1.1, F.2.2.2.2.1⟩ (fun HH => ?_)
          refine PrintLast.pure_ (i := 0) (N := some 38) (v := ?_) #[true, false, false, false, false, false, false, false, false, false, false, false] rfl rfl (by kernel_rfl) (fun _ _ _ h => h) (Or.inl ⟨by rfl, ?_⟩) rfl ?_
          rotate_left 1
          · (intro w; go_simp; (try with_reducible rfl))
          (try simp only [Act.put, List.setIfInBounds_toArray, List.set_cons_zero, List.set_cons_succ])
          refine PrintLast.take_ (i := 1) (N := some 39) (v := ?_) #[true, true, false, false, false, false, false, false, false, false, false, false] rfl rfl (by kernel_rfl) (fun _ _ _ h => h) (Or.inl ⟨by rfl, ?_⟩) HH rfl ?_
          rotate_left 1
          · (intro w hSw; (try dsimp only at hSw); go_simp; (try with_reducible rfl))
          (try simp only [Act.put, List.setIfInBounds_toArray, List.set_cons_zero, List.set_cons_succ])
          refine PrintLast.take_ (i := 2) (N := some 40) (v := ?_) #[true, true, true, false, false, false, false, false, false, false, false, false] rfl rfl (by kernel_rfl) (fun _ _ _ h => h) (Or.inl ⟨by rfl, ?_⟩) HH rfl ?_
          rotate_left 1
          · (intro w hSw; (try dsimp only at hSw); go_simp; (try with_reducible rfl))
          (try simp only [Act.put, List.setIfInBounds_toArray, List.set_cons_zero, List.set_cons_succ])
          refine PrintLast.pure_ (i := 3) (N := some 41) (v := ?_) #[true, true, true, true, false, false, false, false, false, false, false, false] rfl rfl (by kernel_rfl) (fun _ _ _ h => h) (Or.inl ⟨by rfl, ?_⟩) rfl ?_
          rotate_left 1
          · (intro w; go_simp; (try with_reducible rfl))
          (try simp only [Act.put, List.setIfInBounds_toArray, List.set_cons_zero, List.set_cons_succ])
          refine PrintLast.pure_ (i := 5) (N := some 43) (v := ?_) #[true, true, true, true, false, true, false, false, false, false, false, false] rfl rfl (by kernel_rfl) (fun _ _ _ h => h) (Or.inl ⟨by rfl, ?_⟩) rfl ?_
          rotate_left 1
          · (intro w; go_simp; (try with_reducible rfl))
          (try simp only [Act.put, List.setIfInBounds_toArray, List.set_cons_zero, List.set_cons_succ])
          refine PrintLast.pure_ (i := 6) (N := some 44) (v := ?_) #[true, true, true, true, false, true, true, false, false, false, false, false] rfl rfl (by kernel_rfl) (fun _ _ _ h => h) (Or.inl ⟨by rfl, ?_⟩) rfl ?_
          rotate_left 1
          · (intro w; go_simp; (try with_reducible rfl))
          (try simp only [Act.put, List.setIfInBounds_toArray, List.set_cons_zero, List.set_cons_succ])
          refine PrintLast.pure_ (i := 7) (N := some 45) (v := ?_) #[true, true, true, true, false, true, true, true, false, false, false, false] rfl rfl (by kernel_rfl) (fun _ _ _ h => h) (Or.inl ⟨by rfl, ?_⟩) rfl ?_
          rotate_left 1
          · (intro w; go_simp; (try with_reducible rfl))
          (try simp only [Act.put, List.setIfInBounds_toArray, List.set_cons_zero, List.set_cons_succ])
          refine PrintLast.pure_ (i := 8) (N := some 46) (v := ?_) #[true, true, true, true, false, true, true, true, true, false, false, false] rfl rfl (by kernel_rfl) (fun _ _ _ h => h) (Or.inl ⟨by rfl, ?_⟩) rfl ?_
          rotate_left 1
          · (intro w; go_simp; (try with_reducible rfl))
          (try simp only [Act.put, List.setIfInBounds_toArray, List.set_cons_zero, List.set_cons_succ])
          refine PrintLast.pure_ (i := 9) (N := some 47) (v := ?_) #[true, true, true, true, false, true, true, true, true, true, false, false] rfl rfl (by kernel_rfl) (fun _ _ _ h => h) (Or.inl ⟨by rfl, ?_⟩) rfl ?_
          rotate_left 1
          · (intro w; go_simp; (try with_reducible rfl))
          (try simp only [Act.put, List.setIfInBounds_toArray, List.set_cons_zero, List.set_cons_succ])
          refine PrintLast.one_ (i := 4) (N := some 42) #[true, true, true, true, true, true, true, true, true, true, false, false] rfl rfl (by kernel_rfl) (by decide) (fun K hK => ?_)
          go_simp
          refine (impl_fileAt room _ c l name _ (Kd.C_below HR.out HS.out.drew.old)).mono ?_
          rw [HJ.out]
          rintro e w4 ⟨rfl, hb⟩
          replace HS := Aside0.mk (HS.out.drew.below hb)
          (try simp only [List.cons_append, List.nil_append, List.set_cons_zero, List.set_cons_succ, size_al, size_set] at HS); replace F := HS.out.facts; simp only [facts_cons, facts_nil, fact_box, fact_row, fact_gone, cellsAt_cons, cellsAt_nil, Nat.zero_add, Nat.reduceAdd, true_and, and_true] at F
          clear hb
          refine hK.out _ _ ⟨F.1.2.1.1, F.1.2.2.1, F.2.2.2.1.1, F.2.2.2.2.1⟩ (fun HH => ?_)
          clear hK K
          (try simp only [Act.put, List.setIfInBounds_toArray, List.set_cons_zero, List.set_cons_succ])
          refine PrintLast.pure_ (i := 10) (N := some 48) (v := ?_) #[true, true, true, true, true, true, true, true, true, true, true, false] rfl rfl (by kernel_rfl) (fun _ _ _ h => h) (Or.inl ⟨by rfl, ?_⟩) rfl ?_
          rotate_left 1
          · (intro w; go_simp; (try with_reducible rfl))
          (try simp only [Act.put, List.setIfInBounds_toArray, List.set_cons_zero, List.set_cons_succ])
          refine PrintLast.last_ (i := 11) (N := none) #[true, true, true, true, true, true, true, true, true, true, true, true] rfl rfl (by kernel_rfl) (by decide) (fun K hK => ?_)
          rw [if_pos (by rfl)]
          refine wp_of_list rfl ?_
          refine ev_put flatFile HS.out 2 rfl rfl rfl 44 (.tmp 48) (.tmp 47) rfl j p1 ⟨name, T.extract 0 n.toNat, ⟨#[]⟩⟩ rfl ?_ rfl sizeFile ?_
          · rfl
          intro w5 hs
          replace HS := Aside0.mk hs
          (try simp only [List.cons_append, List.nil_append, List.set_cons_zero, List.set_cons_succ, size_al, size_set] at HS); replace F := HS.out.facts; simp only [facts_cons, facts_nil, fact_box, fact_row, fact_gone, cellsAt_cons, cellsAt_nil, Nat.zero_add, Nat.reduceAdd, true_and, and_true] at F
          clear hs
          show K _ w5
          refine hK.out _ _ ?_
          clear hK K
          refine PrintLast.done_ (by kernel_rfl) ?_
          go_wp2
          refine bodyPost_ret (v := .tuple #[.agg #[.int .i64 room, .slice (some ⟨g, 0, none⟩) l.length d], .int .i64 0]) (by simp [results, Try.results31, F, go_sem]) rfl ⟨_, rfl, ?_⟩
          exact (((HS.out.set 1 rfl 0 _).set 1 rfl 1 _).pk [2] (by decide))
end Go.Proofs.Ytbbeaghhchjkgaa.Dk
