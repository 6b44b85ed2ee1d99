/- Sync of a file: the program and the reference. No condition. -/
import Derived.Test.YtbbeaghhchjkgaaDkAt
namespace Go.Proofs.Ytbbeaghhchjkgaa.Dk
open Go.RowKit Go.Proofs.YtbbeaghhchjkgaaW.PrintWords Go.Proofs.Ytbbeaghhchjkgaa.Sp Go.Proofs.Ytbbeaghhchjkgaa.Ty Go.Proofs.Ytbbeaghhchjkgaa.Im Go.Proofs.Ytbbeaghhchjkgaa.Lw
set_option linter.unusedVariables false
set_option linter.unusedSimpArgs false
attribute [local go_sem ↓] Go.wp_at_zero Go.wp_at_succ
attribute [local go_sem] World.cell?_alloc_lt
/-- What a call tells of a disk: its room, its files, a code. -/
structure Told where
  room : Int
  files : List File
  code : Int
def refuse (room : Int) (l : List File) (code : Int) : Told := ⟨(refused room l code).1, (refused room l code).2, code⟩
def syncR (room : Int) (l : List File) (name : Int) : Told :=
  if atCode room l name = 0 then ⟨room, putF l ⟨name, fileText l name, ⟨#[]⟩⟩, 0⟩ else refuse room l (atCode room l name)
theorem refuse_len (room : Int) (l : List File) (code : Int) : (refuse room l code).files.length ≤ l.length := by
  unfold refuse refused
  split <;> simp
theorem syncR_len (room : Int) (l : List File) (name : Int) : (syncR room l name).files.length ≤ 2 * l.length + 1 := by
  unfold syncR
  split
  · exact putF_len _ _
  · have := refuse_len room l (atCode room l name); omega
theorem ret_disk {r r' : Int} {v : Go.Value} {c c' : Int} (h : r = r') (k : c = c') : Ending.returned (.tuple #[.agg #[.int .i64 r, v], .int .i64 c]) = .returned (.tuple #[.agg #[.int .i64 r', v], .int .i64 c']) := by rw [h, k]
theorem at_done {room : Int} {l : List File} {name : Int} (h : atCode room l name = 0) : diskOk room l = true ∧ isFile name = true ∧ 0 ≤ fileAt l name ∧ atAt room l name = fileAt l name := by
  unfold atCode at h
  split at h
  · rename_i h1
    rw [Bool.and_eq_true] at h1
    split at h
    · omega
    · exact ⟨h1.1, h1.2, by omega, if_pos (by rw [h1.1, h1.2]; rfl)⟩
  · omega
set_option maxRecDepth 100000 in
set_option maxHeartbeats 1000000 in
theorem spec_Sync (room : Int) (A : Option Addr) (c : Nat) (l : List File) (name : Int) (w : World) (hr : Kd.C kFile w A l.length l) (hv : Small l) (hl : l.length ≤ 1048576) :
    Calls Try.prog 24 #[.agg #[.int .i64 room, .slice A l.length c], .int .i64 name] w fun e w' => ∃ v, e = .returned (.tuple #[.agg #[.int .i64 (syncR room l name).room, v], .int .i64 (syncR room l name).code]) ∧ Sep w w' [Ob.row kFile 44 v (syncR room l name).files] := by
  have HR := Aside0.mk hr
  have HV := Aside0.mk hv
  clear hr hv
  have hu := Try.underlying29
  have hu2 := Try.underlying44
  by_cases h : atCode room l name = 0
  · rw [show syncR room l name = ⟨room, putF l ⟨name, fileText l name, ⟨#[]⟩⟩, 0⟩ from if_pos h]
    obtain ⟨hok, hf, h0, hat⟩ := at_done h
    obtain ⟨j, hj⟩ := Int.eq_ofNat_of_zero_le h0
    rcases fileAt_range l name with h1 | ⟨_, h2, _⟩
    · omega
    have p1 : j < l.length := by omega
    have HAT := Aside0.mk (hat.trans hj)
    have HC := Aside0.mk h
    have hft : fileText l name = (rdFile l j).Safe ++ (rdFile l j).Late := by rw [fileText, hj, Int.toNat_natCast]
    rw [hft]
    have hs := vol_at p1
    have hv := HV.out
    unfold Small at hv
    have hsz : (rdFile l j).Safe.size + (rdFile l j).Late.size ≤ 1048576 := by omega
    clear hok hf h0 hat hj h h2 hft hs hv
    go_enter Try.func24, Try.ntmps24
    go_wp2_with (go_at_call 57; refine (spec_At room A c l name _ (Kd.C_alloc (Kd.C_alloc HR.out _) _) HV.out).mono ?_; rw [HAT.out, HC.out]; rintro e w2 ⟨rfl, hb⟩; have HS := Aside0.mk ((((Sep.nil w).alloc _ _).alloc _ _).below hb); have F := HS.out.facts; (try simp only [List.cons_append, List.nil_append, List.set_cons_zero, List.set_cons_succ, size_al, size_set] at HS); replace F := HS.out.facts; simp only [facts_cons, facts_nil, fact_box, fact_row, fact_gone, cellsAt_cons, cellsAt_nil, Nat.zero_add, Nat.reduceAdd, true_and, and_true] at F; clear hb; obtain ⟨ad, rfl, x0, x1, x2⟩ := atFile (Kd.C_below HR.out HS.out.old) j p1)
    go_wp2_with (go_at_call 59; refine (spec_Put room _ c l ⟨name, (rdFile l j).Safe ++ (rdFile l j).Late, ⟨#[]⟩⟩ _ (Kd.C_alloc (Kd.C_below HR.out HS.out.old) _) hl).mono ?_; rintro e w3 ⟨v, rfl, hs⟩; obtain ⟨B, n, d, rfl⟩ := hs.form3 0 rfl; replace HS := Aside0.mk ((HS.out.alloc _ _).add hs); (try simp only [List.cons_append, List.nil_append, List.set_cons_zero, List.set_cons_succ, size_al, size_set] at HS); replace F := HS.out.facts; simp only [facts_cons, facts_nil, fact_box, fact_row, fact_gone, cellsAt_cons, cellsAt_nil, Nat.zero_add, Nat.reduceAdd, true_and, and_true] at F; clear hs)
    refine bodyPost_ret (v := .tuple #[.agg #[.int .i64 room, .slice B n d], .int .i64 0]) (by simp [results, Try.results24, F, go_sem]) rfl ⟨_, rfl, ?_⟩
    exact (((HS.out.set 1 rfl 0 _).set 1 rfl 1 _).pk [3] (by decide))
  · rw [show syncR room l name = refuse room l (atCode room l name) from if_neg h]
    have c1 : (atCode room l name == 0) = false := by simpa using h
    have c2 : (atCode room l name != 0) = true := by simpa using h
    clear h
    go_enter Try.func24, Try.ntmps24
    go_wp2_with (first | (go_at_call 57; refine (spec_At room A c l name _ (Kd.C_alloc (Kd.C_alloc HR.out _) _) HV.out).mono ?_; rintro e w2 ⟨rfl, hb⟩; have HS := Aside0.mk ((((Sep.nil w).alloc _ _).alloc _ _).below hb); have F := HS.out.facts; (try simp only [List.cons_append, List.nil_append, List.set_cons_zero, List.set_cons_succ, size_al, size_set] at HS); replace F := HS.out.facts; simp only [facts_cons, facts_nil, fact_box, fact_row, fact_gone, cellsAt_cons, cellsAt_nil, Nat.zero_add, Nat.reduceAdd, true_and, and_true] at F; clear hb) | (go_at_call 58; refine (spec_Refused room A c l _ _ (Kd.C_below HR.out HS.out.old) hl).mono ?_; rintro e w3 ⟨v, rfl, hs⟩; obtain ⟨B, n, d, rfl⟩ := hs.form3 0 rfl; replace HS := Aside0.mk (HS.out.add hs); (try simp only [List.cons_append, List.nil_append, List.set_cons_zero, List.set_cons_succ, size_al, size_set] at HS); replace F := HS.out.facts; simp only [facts_cons, facts_nil, fact_box, fact_row, fact_gone, cellsAt_cons, cellsAt_nil, Nat.zero_add, Nat.reduceAdd, true_and, and_true] at F; clear hs))
    refine bodyPost_ret (v := .tuple #[.agg #[.int .i64 (refused room l (atCode room l name)).1, .slice B n d], .int .i64 (atCode room l name)]) (by simp [results, Try.results24, F, go_sem]) rfl ⟨_, rfl, ?_⟩
    exact (((HS.out.set 1 rfl 0 _).set 1 rfl 1 _).pk [2] (by decide))
theorem bad_code {room : Int} {l : List File} {name : Int} (h : (diskOk room l && isFile name) = false) : atCode room l name = 1 := if_neg (by rw [h]; decide)
set_option maxRecDepth 100000 in
set_option maxHeartbeats 1000000 in
theorem impl_Sync (room : Int) (A : Option Addr) (c : Nat) (l : List File) (name : Int) (w : World) (hr : Kd.C kFile w A l.length l) (hv : Small l) (hl : l.length ≤ 1048576) :
    Calls Try.prog 25 #[.agg #[.int .i64 room, .slice A l.length c], .int .i64 name] w fun e w' => ∃ v, e = .returned (.tuple #[.agg #[.int .i64 (syncR room l name).room, v], .int .i64 (syncR room l name).code]) ∧ Sep w w' [Ob.row kFile 44 v (syncR room l name).files] := by
  have HR := Aside0.mk hr
  have HV := Aside0.mk hv
  clear hr hv
  have hu := Try.underlying29
  have hu2 := Try.underlying44
  have bad : (diskOk room l && isFile name) = false → syncR room l name = ⟨0, [], 1⟩ := fun h => by
    rw [syncR, bad_code h, if_neg (by decide)]; rfl
  cases hb : diskOk room l
  · have HBB := Aside0.mk hb
    rw [bad (by rw [hb]; rfl)]
    clear hb bad
    go_enter Try.func25, Try.ntmps25
    go_wp2_with (go_at_call 16; refine (impl_DiskOk room A c l _ (Kd.C_alloc (Kd.C_alloc HR.out _) _) HV.out).mono ?_; rw [HBB.out]; rintro e w2 ⟨rfl, hb⟩; have HS := Aside0.mk (((((Sep.nil w).alloc _ _).alloc _ _).below hb).add (Sep.none_ kFile 44 _)); have F := HS.out.facts; (try simp only [List.cons_append, List.nil_append, List.set_cons_zero, List.set_cons_succ, size_al, size_set] at HS); replace F := HS.out.facts; simp only [facts_cons, facts_nil, fact_box, fact_row, fact_gone, cellsAt_cons, cellsAt_nil, Nat.zero_add, Nat.reduceAdd, true_and, and_true] at F; clear hb)
    refine bodyPost_ret (v := .tuple #[.agg #[.int .i64 0, .slice none 0 0], .int .i64 1]) (by simp [results, Try.results25, F, go_sem]) rfl ⟨_, rfl, ?_⟩
    exact (((HS.out.set 1 rfl 0 _).set 1 rfl 1 _).pk [2] (by decide))
  · cases hc : isFile name
    · have HBB := Aside0.mk hb
      have HCC := Aside0.mk hc
      rw [bad (by rw [hb, hc]; rfl)]
      clear hb hc bad
      go_enter Try.func25, Try.ntmps25
      go_wp2_with (first | (go_at_call 16; refine (impl_DiskOk room A c l _ (Kd.C_alloc (Kd.C_alloc HR.out _) _) HV.out).mono ?_; rw [HBB.out]; rintro e w2 ⟨rfl, hb⟩; have HS := Aside0.mk (((((Sep.nil w).alloc _ _).alloc _ _).below hb).add (Sep.none_ kFile 44 _)); have F := HS.out.facts; (try simp only [List.cons_append, List.nil_append, List.set_cons_zero, List.set_cons_succ, size_al, size_set] at HS); replace F := HS.out.facts; simp only [facts_cons, facts_nil, fact_box, fact_row, fact_gone, cellsAt_cons, cellsAt_nil, Nat.zero_add, Nat.reduceAdd, true_and, and_true] at F; clear hb) | (go_at_call 46; refine (impl_isFile _ _).mono ?_; rw [HCC.out]; rintro e w' ⟨rfl, ⟨nd, rfl⟩⟩; replace HS := Aside0.mk (HS.out.drewN nd); (try simp only [List.cons_append, List.nil_append, List.set_cons_zero, List.set_cons_succ, size_al, size_set] at HS); replace F := HS.out.facts; simp only [facts_cons, facts_nil, fact_box, fact_row, fact_gone, cellsAt_cons, cellsAt_nil, Nat.zero_add, Nat.reduceAdd, true_and, and_true] at F))
      refine bodyPost_ret (v := .tuple #[.agg #[.int .i64 0, .slice none 0 0], .int .i64 1]) (by simp [results, Try.results25, F, go_sem]) rfl ⟨_, rfl, ?_⟩
      exact (((HS.out.set 1 rfl 0 _).set 1 rfl 1 _).pk [2] (by decide))
    · have HBB := Aside0.mk hb
      have HCC := Aside0.mk hc
      clear bad
      have hok : okFrom l l.length 0 = true := by rw [diskOk, Bool.and_eq_true] at hb; exact hb.1
      have e2 : atCode room l name = if fileAt l name < 0 then 2 else 0 := if_pos (by rw [hb, hc]; decide)
      clear hb hc
      by_cases hn : fileAt l name < 0
      · rw [show syncR room l name = ⟨room, l, 2⟩ from by rw [syncR, e2, if_pos hn, if_neg (by decide)]; rfl]
        clear e2 hok
        have c1 : decide (fileAt l name < 0) = true := decide_eq_true hn
        clear hn
        go_enter Try.func25, Try.ntmps25
        go_wp2_with (first | (go_at_call 16; refine (impl_DiskOk room A c l _ (Kd.C_alloc (Kd.C_alloc HR.out _) _) HV.out).mono ?_; rw [HBB.out]; rintro e w2 ⟨rfl, hb⟩; have HS := Aside0.mk ((((Sep.nil w).alloc _ _).alloc _ _).below hb); have F := HS.out.facts; (try simp only [List.cons_append, List.nil_append, List.set_cons_zero, List.set_cons_succ, size_al, size_set] at HS); replace F := HS.out.facts; simp only [facts_cons, facts_nil, fact_box, fact_row, fact_gone, cellsAt_cons, cellsAt_nil, Nat.zero_add, Nat.reduceAdd, true_and, and_true] at F; clear hb) | (go_at_call 46; refine (impl_isFile _ _).mono ?_; rw [HCC.out]; rintro e w' ⟨rfl, ⟨nd, rfl⟩⟩; replace HS := Aside0.mk (HS.out.drewN nd); (try simp only [List.cons_append, List.nil_append, List.set_cons_zero, List.set_cons_succ, size_al, size_set] at HS); replace F := HS.out.facts; simp only [facts_cons, facts_nil, fact_box, fact_row, fact_gone, cellsAt_cons, cellsAt_nil, Nat.zero_add, Nat.reduceAdd, true_and, and_true] at F) | (go_at_call 54; refine (cloneDisk room A c l _ (Kd.C_below HR.out HS.out.old) hl).mono ?_; rintro e w3 ⟨v, rfl, hs⟩; obtain ⟨B, n, d, rfl⟩ := hs.form3 0 rfl; replace HS := Aside0.mk (HS.out.add hs); (try simp only [List.cons_append, List.nil_append, List.set_cons_zero, List.set_cons_succ, size_al, size_set] at HS); replace F := HS.out.facts; simp only [facts_cons, facts_nil, fact_box, fact_row, fact_gone, cellsAt_cons, cellsAt_nil, Nat.zero_add, Nat.reduceAdd, true_and, and_true] at F; clear hs) | (go_at_call 51; refine (impl_fileAt room A c l name _ (Kd.C_alloc (Kd.C_below HR.out HS.out.old) _)).mono ?_; rintro e w4 ⟨rfl, hb⟩; replace HS := Aside0.mk ((HS.out.alloc _ _).below hb); (try simp only [List.cons_append, List.nil_append, List.set_cons_zero, List.set_cons_succ, size_al, size_set] at HS); replace F := HS.out.facts; simp only [facts_cons, facts_nil, fact_box, fact_row, fact_gone, cellsAt_cons, cellsAt_nil, Nat.zero_add, Nat.reduceAdd, true_and, and_true] at F; clear hb))
        refine bodyPost_ret (v := .tuple #[.agg #[.int .i64 room, .slice B n d], .int .i64 2]) (by simp [results, Try.results25, F, go_sem]) rfl ⟨_, rfl, ?_⟩
        exact (((HS.out.set 1 rfl 0 _).set 1 rfl 1 _).pk [2] (by decide))
      · obtain ⟨j, hj⟩ := Int.eq_ofNat_of_zero_le (show 0 ≤ fileAt l name by omega)
        rcases fileAt_range l name with h1 | ⟨_, h2, _⟩
        · omega
        have p1 : j < l.length := by omega
        rw [show syncR room l name = ⟨room, l.set j ⟨name, (rdFile l j).Safe ++ (rdFile l j).Late, ⟨#[]⟩⟩, 0⟩ from by
          rw [syncR, e2, if_neg hn, if_pos rfl, put_set hok (by omega) ⟨name, _, _⟩ rfl, fileText, hj, Int.toNat_natCast]]
        have HJ := Aside0.mk hj
        have hs := vol_at p1
        have hv := HV.out
        unfold Small at hv
        have hsz : (rdFile l j).Safe.size + (rdFile l j).Late.size ≤ 1048576 := by omega
        clear e2 hok hn hj h2 hs hv
        go_enter Try.func25, Try.ntmps25
        go_wp2_with (first | (go_at_call 16; refine (impl_DiskOk room A c l _ (Kd.C_alloc (Kd.C_alloc HR.out _) _) HV.out).mono ?_; rw [HBB.out]; rintro e w2 ⟨rfl, hb⟩; have HS := Aside0.mk ((((Sep.nil w).alloc _ _).alloc _ _).below hb); have F := HS.out.facts; (try simp only [List.cons_append, List.nil_append, List.set_cons_zero, List.set_cons_succ, size_al, size_set] at HS); replace F := HS.out.facts; simp only [facts_cons, facts_nil, fact_box, fact_row, fact_gone, cellsAt_cons, cellsAt_nil, Nat.zero_add, Nat.reduceAdd, true_and, and_true] at F; clear hb) | (go_at_call 46; refine (impl_isFile _ _).mono ?_; rw [HCC.out]; rintro e w' ⟨rfl, ⟨nd, rfl⟩⟩; replace HS := Aside0.mk (HS.out.drewN nd); (try simp only [List.cons_append, List.nil_append, List.set_cons_zero, List.set_cons_succ, size_al, size_set] at HS); replace F := HS.out.facts; simp only [facts_cons, facts_nil, fact_box, fact_row, fact_gone, cellsAt_cons, cellsAt_nil, Nat.zero_add, Nat.reduceAdd, true_and, and_true] at F) | (go_at_call 54; refine (cloneDisk room A c l _ (Kd.C_below HR.out HS.out.old) hl).mono ?_; rintro e w3 ⟨v, rfl, hs⟩; obtain ⟨B, n, d, rfl⟩ := hs.form3 0 rfl; replace HS := Aside0.mk (HS.out.add hs); (try simp only [List.cons_append, List.nil_append, List.set_cons_zero, List.set_cons_succ, size_al, size_set] at HS); replace F := HS.out.facts; simp only [facts_cons, facts_nil, fact_box, fact_row, fact_gone, cellsAt_cons, cellsAt_nil, Nat.zero_add, Nat.reduceAdd, true_and, and_true] at F; clear hs) | (go_at_call 51; refine (impl_fileAt room A c l name _ (Kd.C_alloc (Kd.C_below HR.out HS.out.old) _)).mono ?_; rw [HJ.out]; rintro e w4 ⟨rfl, hb⟩; replace HS := Aside0.mk ((HS.out.alloc _ _).below hb); (try simp only [List.cons_append, List.nil_append, List.set_cons_zero, List.set_cons_succ, size_al, size_set] at HS); replace F := HS.out.facts; simp only [facts_cons, facts_nil, fact_box, fact_row, fact_gone, cellsAt_cons, cellsAt_nil, Nat.zero_add, Nat.reduceAdd, true_and, and_true] at F; clear hb; obtain ⟨ad, rfl, x0, x1, x2⟩ := atFile (Kd.C_below HR.out HS.out.old) j p1; obtain ⟨g, cap, hv⟩ := HS.out.form 2 rfl (by omega); injection hv with hv1 hv2 hv3; subst hv1 hv2 hv3) | ((with_reducible refine gate_store (t := 44) (p := 41) (v := .tmp 40) rfl ?_); refine ev_put flatFile (HS.out.alloc _ _) 2 rfl rfl rfl 44 _ _ rfl j p1 ⟨name, (rdFile l j).Safe ++ (rdFile l j).Late, ⟨#[]⟩⟩ rfl ?_ rfl sizeFile ?_; (case refine_1 => rfl); intro w5 hs; replace HS := Aside0.mk hs; (try simp only [List.cons_append, List.nil_append, List.set_cons_zero, List.set_cons_succ, size_al, size_set] at HS); replace F := HS.out.facts; simp only [facts_cons, facts_nil, fact_box, fact_row, fact_gone, cellsAt_cons, cellsAt_nil, Nat.zero_add, Nat.reduceAdd, true_and, and_true] at F; clear hs))
        refine bodyPost_ret (v := .tuple #[.agg #[.int .i64 room, .slice (some ⟨g, 0, none⟩) l.length d], .int .i64 0]) (by simp [results, Try.results25, F, go_sem]) rfl ⟨_, rfl, ?_⟩
        exact (((HS.out.set 1 rfl 0 _).set 1 rfl 1 _).pk [2] (by decide))
end Go.Proofs.Ytbbeaghhchjkgaa.Dk
