/- The law FnDisk, walked. No condition. -/
import Derived.Test.YtbbeaghhchjkgaaDrwN
import Derived.Test.YtbbeaghhchjkgaaDkLaw
namespace Go.Proofs.Ytbbeaghhchjkgaa.Law
open Go.RowKit Go.Proofs.YtbbeaghhchjkgaaW.PrintWords Go.Proofs.Ytbbeaghhchjkgaa.Sp Go.Proofs.Ytbbeaghhchjkgaa.Ty Go.Proofs.Ytbbeaghhchjkgaa.Im Go.Proofs.Ytbbeaghhchjkgaa.Lw Go.Proofs.Ytbbeaghhchjkgaa.Dk Go.Proofs.Ytbbeaghhchjkgaa.Cu
set_option linter.unusedVariables false
set_option linter.unusedSimpArgs false
attribute [local go_sem ↓] Go.wp_at_zero Go.wp_at_succ
attribute [local go_sem] World.cell?_alloc_lt
theorem big_ok (A : Option Addr) (n c : Nat) (w : World) : Calls Try.prog 26 #[.slice A n c] w fun e w' => e = .returned (.bool (decide ((1048576 : Int) < (n : Int)))) ∧ Below w.heap.size w w' := by
  go_enter Try.func26, Try.ntmps26
  go_wp2
  go_ret
  exact ⟨by first | rfl | simp, Below.refl _ _⟩
/-- What a crash leaves of a file is a beginning of it. -/
theorem front {room : Int} {l : List File} (keep : Int) (h : diskOk room l = true) {i : Nat} (hi : i < l.length) : ∃ s, readText room (crashL keep l) (rdFile l i).Name = s ∧ (rdFile l i).Safe.size ≤ s.size ∧ s.size ≤ (rdFile l i).Safe.size + (rdFile l i).Late.size ∧ ((rdFile l i).Safe ++ (rdFile l i).Late).extract 0 s.size = s := by
  have h1 := (read_crash keep h hi).2
  rw [app_nil] at h1
  obtain ⟨k0, k1⟩ := keepN_range keep (rdFile l i).Late.size
  have h2 := crash_size keep (rdFile l i)
  refine ⟨_, h1, by omega, by omega, ?_⟩
  rw [h2]
  exact ext_front _ _ _ (by omega)
theorem sync_own {room : Int} {l : List File} (h : diskOk room l = true) {i : Nat} (hi : i < l.length) : syncR room l (rdFile l i).Name = ⟨room, l.set i ⟨(rdFile l i).Name, (rdFile l i).Safe ++ (rdFile l i).Late, ⟨#[]⟩⟩, 0⟩ := by
  have h1 := h
  rw [diskOk, Bool.and_eq_true] at h1
  have e := fileAt_own h1.1 hi
  have hf : isFile (rdFile l i).Name = true := (okFrom_lt l.length 0 h1.1 i (Nat.zero_le _) (by omega)).1
  have hc : atCode room l (rdFile l i).Name = 0 := by rw [atCode, h, hf, if_pos (by decide), if_neg (by omega)]
  rw [syncR, if_pos hc, put_set (name := (rdFile l i).Name) h1.1 (by omega) ⟨(rdFile l i).Name, fileText l (rdFile l i).Name, ⟨#[]⟩⟩ rfl, e, Int.toNat_natCast, fileText, e, Int.toNat_natCast]
set_option maxRecDepth 100000 in
set_option maxHeartbeats 4000000 in
theorem FnDisk (A : Option Addr) (c : Nat) (bs : List Int) (w : World) (hC : Kd.C (Kd.int .u8) w A bs.length bs) (_ : ∀ y ∈ bs, (Lit.int .u8 y).wf = true) :
    Calls Try.prog 7 #[.slice A bs.length c] w fun e w' => e = .returned (.bool true) ∧ Below w.heap.size w w' := by
  have HC := Aside0.mk hC
  have hu := Try.underlying29
  have hu2 := Try.underlying44
  clear hC
  by_cases hbig : (1048576 : Int) < (bs.length : Int)
  case pos =>
    have c1 : decide ((1048576 : Int) < (bs.length : Int)) = true := decide_eq_true hbig
    have HS := Aside0.mk (Sep.nil w)
    clear hbig
    go_enter Try.func7, Try.ntmps7
    go_wp2_with (go_at_call 26; refine (big_ok _ _ _ _).mono ?_; rw [c1]; rintro e w2 ⟨rfl, hb⟩; replace HS := Aside0.mk (HS.out.below hb); clear hb)
    go_ret
    exact ⟨rfl, HS.out.old⟩
  have c1 : decide ((1048576 : Int) < (bs.length : Int)) = false := decide_eq_false hbig
  clear hbig
  have HS := Aside0.mk (Sep.nil w)
  go_enter Try.func7, Try.ntmps7
  go_wp2_with (first | (go_at_call 26; refine (big_ok _ _ _ _).mono ?_; rw [c1]; rintro e w2 ⟨rfl, hb⟩; replace HS := Aside0.mk (HS.out.below hb); clear hb) | (go_at_call 27; refine (draw_Crash _ c A bs (Kd.C_below HC.out HS.out.old)).mono ?_; rintro e w3 ⟨v, room, l, keep, rfl, hmu, hs⟩; obtain ⟨B, n, cap, rfl⟩ := hs.form3 0 rfl; obtain rfl := (hs.len 0 rfl).1; replace HS := Aside0.mk (HS.out.add hs); clear hs; (try simp only [List.cons_append, List.nil_append, List.set_cons_zero, List.set_cons_succ, size_al, size_set] at HS); replace F := HS.out.facts; simp only [facts_cons, facts_nil, fact_box, fact_row, fact_gone, cellsAt_cons, cellsAt_nil, Nat.zero_add, Nat.reduceAdd, true_and, and_true] at F) | (go_at_call 21; refine hold ?_))
  intro _
  have hsm : Small l := by show mu l ≤ 1048576; omega
  have hl : l.length ≤ 1048576 := by have := vol_nonneg l; unfold Small at hsm; omega
  have hs := HS.out.alloc #[.int .i64 room, .slice B l.length cap] 29
  obtain ⟨g3, hg3⟩ : ∃ g3, g3 = w3.heap.size := ⟨_, rfl⟩
  rw [← hg3] at hs
  rw [← hg3]
  generalize w3.alloc _ = w4 at hs ⊢
  replace HS := Aside0.mk hs
  clear hs hg3 c1
  refine (impl_Crash room B cap l keep _ (HS.out.C 0 rfl) hsm hl).mono ?_
  cases hok : diskOk room l
  case false =>
    have HBB := Aside0.mk hok
    rw [show crashR room l keep = (0, []) from if_neg (by rw [hok]; decide)]
    clear hok
    rintro e w5 ⟨v, rfl, hs⟩
    obtain ⟨B3, n3, d3, rfl⟩ := hs.form3 0 rfl
    obtain rfl : n3 = 0 := (hs.len 0 rfl).1
    replace HS := Aside0.mk (HS.out.add hs)
    clear hs
    (try simp only [List.cons_append, List.nil_append, List.set_cons_zero, List.set_cons_succ, size_al, size_set] at HS); replace F := HS.out.facts; simp only [facts_cons, facts_nil, fact_box, fact_row, fact_gone, cellsAt_cons, cellsAt_nil, Nat.zero_add, Nat.reduceAdd, true_and, and_true] at F
    go_wp2_with (go_at_call 14; refine (spec_DiskOk room B cap l _ ((HS.out.alloc _ _).C 0 rfl) hsm).mono ?_; rw [HBB.out]; rintro e w6 ⟨rfl, hb⟩; replace HS := Aside0.mk ((HS.out.alloc _ _).below hb); clear hb; (try simp only [List.cons_append, List.nil_append, List.set_cons_zero, List.set_cons_succ, size_al, size_set] at HS); replace F := HS.out.facts; simp only [facts_cons, facts_nil, fact_box, fact_row, fact_gone, cellsAt_cons, cellsAt_nil, Nat.zero_add, Nat.reduceAdd, true_and, and_true] at F)
    go_ret
    exact ⟨rfl, HS.out.old⟩
  rw [show crashR room l keep = (room, crashL keep l) from if_pos hok]
  have HBB := Aside0.mk hok
  have HLC : Aside0 ((crashL keep l).length = l.length) := ⟨crash_len keep l⟩
  have HLO : Aside0 (diskOk room (crashL keep l) = true) := ⟨crash_ok keep hok⟩
  have HFR : Aside0 (∀ i, i < l.length → ∃ s, readText room (crashL keep l) (rdFile l i).Name = s ∧ (rdFile l i).Safe.size ≤ s.size ∧ s.size ≤ (rdFile l i).Safe.size + (rdFile l i).Late.size ∧ ((rdFile l i).Safe ++ (rdFile l i).Late).extract 0 s.size = s) := ⟨fun i hi => front keep hok hi⟩
  have HHF : Aside0 (∀ i, i < l.length → hasFile room (crashL keep l) (rdFile l i).Name = true) := ⟨fun i hi => (read_crash keep hok hi).1⟩
  have HLS : Aside0 (Small (crashL keep l)) := ⟨by have h1 := crash_vol keep l; have h2 := crash_len keep l; unfold Small at hsm ⊢; omega⟩
  generalize crashL keep l = lc at HLC HLO HFR HHF HLS ⊢
  clear hok
  rintro e w5 ⟨v, rfl, hs⟩
  obtain ⟨B3, n3, d3, rfl⟩ := hs.form3 0 rfl
  obtain rfl := (hs.len 0 rfl).1
  replace HS := Aside0.mk (HS.out.add hs)
  clear hs
  (try simp only [List.cons_append, List.nil_append, List.set_cons_zero, List.set_cons_succ, size_al, size_set] at HS); replace F := HS.out.facts; simp only [facts_cons, facts_nil, fact_box, fact_row, fact_gone, cellsAt_cons, cellsAt_nil, Nat.zero_add, Nat.reduceAdd, true_and, and_true] at F
  go_wp2_with (go_at_call 14; refine (spec_DiskOk room B cap l _ ((HS.out.alloc _ _).C 0 rfl) hsm).mono ?_; rw [HBB.out]; rintro e w6 ⟨rfl, hb⟩; replace HS := Aside0.mk ((HS.out.alloc _ _).below hb); clear hb; (try simp only [List.cons_append, List.nil_append, List.set_cons_zero, List.set_cons_succ, size_al, size_set] at HS); replace F := HS.out.facts; simp only [facts_cons, facts_nil, fact_box, fact_row, fact_gone, cellsAt_cons, cellsAt_nil, Nat.zero_add, Nat.reduceAdd, true_and, and_true] at F)
  obtain ⟨g5, hg5⟩ : ∃ g5, g5 = w5.heap.size := ⟨_, rfl⟩
  rw [← hg5] at HS F
  rw [← hg5]
  clear hg5
  go_loopw [6] (fun q wr => ∃ (i : Nat), q = .int .i64 i ∧ i ≤ l.length ∧ Aside0 (Sep w wr [Ob.row kFile 44 (.slice B l.length cap) l, Ob.box g3 #[.int .i64 room, .slice B l.length cap] 29, Ob.row kFile 44 (.slice B3 lc.length d3) lc, Ob.box g5 #[.int .i64 room, .slice B3 lc.length d3] 29])) (fun q _ => l.length - (intOf q).toNat)
  case atStart => exact ⟨0, rfl, Nat.zero_le _, HS⟩
  case round =>
    clear HS F
    obtain ⟨i, rfl, hi, HS⟩ := hrel
    have F := HS.out.facts
    simp only [facts_cons, facts_nil, fact_box, fact_row, fact_gone, cellsAt_cons, cellsAt_nil, Nat.zero_add, Nat.reduceAdd, true_and, and_true] at F
    by_cases hlt : i < l.length
    case neg =>
      have c1 : decide ((i : Int) < (l.length : Int)) = false := decide_eq_false (by omega)
      have c2 : decide (i < l.length) = false := decide_eq_false hlt
      have c3 : ((lc.length : Int) == (l.length : Int)) = true := by rw [HLC.out]; exact beq_self_eq_true _
      have c4 : decide ((lc.length : Int) = (l.length : Int)) = true := by rw [HLC.out]; exact decide_eq_true rfl
      go_wp2_with (go_at_call 16; refine (impl_DiskOk room B3 d3 lc _ (HS.out.C 2 rfl) HLS.out).mono ?_; rw [HLO.out]; rintro e w6 ⟨rfl, hb⟩; replace HS := Aside0.mk (HS.out.below hb); clear hb; (try simp only [List.cons_append, List.nil_append, List.set_cons_zero, List.set_cons_succ, size_al, size_set] at HS); replace F := HS.out.facts; simp only [facts_cons, facts_nil, fact_box, fact_row, fact_gone, cellsAt_cons, cellsAt_nil, Nat.zero_add, Nat.reduceAdd, true_and, and_true] at F)
      go_ret
      exact ⟨rfl, HS.out.old⟩
    have c1 : decide ((i : Int) < (l.length : Int)) = true := decide_eq_true (by omega)
    have c2 : decide (i < l.length) = true := decide_eq_true hlt
    obtain ⟨s, hs1, hs2, hs3, hs4⟩ := HFR.out i hlt
    have hs5 := HHF.out i hlt
    have hs6 := sync_own HBB.out hlt
    have hz : (((rdFile l i).Safe ++ (rdFile l i).Late).size : Int) = fs (rdFile l i) := by rw [ByteArray.size_append]; unfold fs; omega
    obtain ⟨hs7, hs8, hs9⟩ := read_synced keep HBB.out hlt hz
    have hsz := fs_rd l i
    obtain ⟨ad, rfl, x0, x1, x2⟩ := atFile (HS.out.C 0 rfl) i hlt
    obtain ⟨T, hT⟩ : ∃ T, (rdFile l i).Safe ++ (rdFile l i).Late = T := ⟨_, rfl⟩
    have hTs : T.size = (rdFile l i).Safe.size + (rdFile l i).Late.size := by rw [← hT, ByteArray.size_append]
    rw [hT] at hs4 hs6 hs7 hs8 hs9 hz
    have HLE : Aside0 (Small (l.set i ⟨(rdFile l i).Name, T, ⟨#[]⟩⟩)) := ⟨by
      have h1 := vol_set hlt ⟨(rdFile l i).Name, T, ⟨#[]⟩⟩
      have h2 : fs ⟨(rdFile l i).Name, T, ⟨#[]⟩⟩ = fs (rdFile l i) := by rw [← hz]; show ((T.size : Nat) : Int) + ((0 : Nat) : Int) = _; omega
      unfold Small at hsm ⊢
      rw [List.length_set]
      omega⟩
    have HLL : Aside0 ((l.set i ⟨(rdFile l i).Name, T, ⟨#[]⟩⟩).length ≤ 1048576) := ⟨by rw [List.length_set]; exact hl⟩
    generalize l.set i ⟨(rdFile l i).Name, T, ⟨#[]⟩⟩ = le at hs6 hs7 hs8 hs9 HLE HLL
    have HCE : Aside0 (crashR room le keep = (room, crashL keep le)) := ⟨if_pos hs9⟩
    have HCV : Aside0 (Small (crashL keep le)) := ⟨by have h1 := crash_vol keep le; have h2 := crash_len keep le; have h3 := HLE.out; unfold Small at h3 ⊢; omega⟩
    generalize crashL keep le = lce at hs7 hs8 HCE HCV
    have HT := Aside0.mk hT
    have H1 := Aside0.mk hs1
    have H5 := Aside0.mk hs5
    have H6 := Aside0.mk hs6
    have H7 := Aside0.mk hs7
    have H8 := Aside0.mk hs8
    unfold fs at hsz
    have hcat : ¬ 9223372036854775807 < (rdFile l i).Safe.size + (rdFile l i).Late.size := by unfold Small at hsm; omega
    have d1 : decide ((s.size : Int) < ((rdFile l i).Safe.size : Int)) = false := decide_eq_false (by omega)
    have d2 : decide (s.size < (rdFile l i).Safe.size) = false := decide_eq_false (by omega)
    have d3_ : decide ((T.size : Int) < (s.size : Int)) = false := decide_eq_false (by omega)
    have d4 : decide (T.size < s.size) = false := decide_eq_false (by omega)
    have d5 : (0 : Int) ≤ (s.size : Int) := by omega
    have d6 : (s.size : Int) ≤ (T.size : Int) := by omega
    have d7 : s.size ≤ T.size := by omega
    have p0 : (0 : Int) ≤ (i : Int) := by omega
    have p2 : (i : Int) < (l.length : Int) := by omega
    clear hs1 hs5 hs6 hs7 hs8 hs9 hz hsz hTs hlt
    go_wp2_with (first | (go_at_call 19; refine hold ?_))
    intro _
    have hs := HS.out.alloc #[.int .i64 (rdFile l i).Name, .string (rdFile l i).Safe, .string (rdFile l i).Late] 44
    obtain ⟨g7, hg7⟩ : ∃ g7, g7 = wr.heap.size := ⟨_, rfl⟩
    rw [← hg7] at hs
    rw [← hg7]
    generalize wr.alloc _ = w5 at hs ⊢
    replace HS := Aside0.mk hs
    clear hs hg7 x0 x1 x2
    refine (impl_DiskRead room B3 d3 lc _ _ (HS.out.C 2 rfl) HLS.out).mono ?_
    rw [H1.out, H5.out]
    rintro e w6 ⟨rfl, hb⟩
    replace HS := Aside0.mk (HS.out.below hb)
    clear hb
    (try simp only [List.cons_append, List.nil_append, List.set_cons_zero, List.set_cons_succ, size_al, size_set] at HS); replace F := HS.out.facts; simp only [facts_cons, facts_nil, fact_box, fact_row, fact_gone, cellsAt_cons, cellsAt_nil, Nat.zero_add, Nat.reduceAdd, true_and, and_true] at F
    go_wp2_with (first | (go_at_call 25; refine hold ?_))
    intro _
    refine (impl_Sync room (some ad) cap l _ _ (HS.out.C 0 rfl) hsm hl).mono ?_
    rw [H6.out]
    rintro e w7 ⟨v, rfl, hs⟩
    obtain ⟨B4, n4, d8, rfl⟩ := hs.form3 0 rfl
    obtain rfl := (hs.len 0 rfl).1
    replace HS := Aside0.mk (HS.out.add hs)
    clear hs
    (try simp only [List.cons_append, List.nil_append, List.set_cons_zero, List.set_cons_succ, size_al, size_set] at HS); replace F := HS.out.facts; simp only [facts_cons, facts_nil, fact_box, fact_row, fact_gone, cellsAt_cons, cellsAt_nil, Nat.zero_add, Nat.reduceAdd, true_and, and_true] at F
    go_wp2
    have hs := HS.out.alloc #[.int .i64 room, .slice B4 le.length d8] 29
    obtain ⟨g11, hg11⟩ : ∃ g11, g11 = w7.heap.size := ⟨_, rfl⟩
    rw [← hg11] at hs
    rw [← hg11]
    generalize w7.alloc _ = w8 at hs ⊢
    replace HS := Aside0.mk hs
    clear hs hg11
    (try simp only [List.cons_append, List.nil_append, List.set_cons_zero, List.set_cons_succ, size_al, size_set] at HS); replace F := HS.out.facts; simp only [facts_cons, facts_nil, fact_box, fact_row, fact_gone, cellsAt_cons, cellsAt_nil, Nat.zero_add, Nat.reduceAdd, true_and, and_true] at F
    go_region_held3 (fun W => W.cell? ⟨g11, 0, none⟩ = some (.int .i64 room) ∧ W.cell? ⟨g11, 1, none⟩ = some (.slice B4 le.length d8) ∧ W.cell? ⟨g7, 0, none⟩ = some (.int .i64 (rdFile l i).Name)) (first | exact ⟨F.2.2.2.2.1.1, F.2.2.2.2.2.1, F.2.2.1.2.1.1⟩ | go_keep)
      (first | (go_at_call 21; refine (impl_Crash room B4 d8 le keep _ (HS.out.drew.C 5 rfl) HLE.out HLL.out).mono ?_; rw [HCE.out]; rintro e w9 ⟨v, rfl, hs⟩; obtain ⟨B5, n5, d9, rfl⟩ := hs.form3 0 rfl; obtain rfl := (hs.len 0 rfl).1; replace HS := Aside0.mk (HS.out.drew.add hs); clear hs; (try simp only [List.cons_append, List.nil_append, List.set_cons_zero, List.set_cons_succ, size_al, size_set] at HS); replace F := HS.out.facts; simp only [facts_cons, facts_nil, fact_box, fact_row, fact_gone, cellsAt_cons, cellsAt_nil, Nat.zero_add, Nat.reduceAdd, true_and, and_true] at F) | (go_at_call 19; refine (impl_DiskRead room B5 d9 lce _ _ (HS.out.C 7 rfl) HCV.out).mono ?_; rw [H8.out, H7.out]; rintro e w10 ⟨rfl, hb⟩; replace HS := Aside0.mk (HS.out.below hb); clear hb; (try simp only [List.cons_append, List.nil_append, List.set_cons_zero, List.set_cons_succ, size_al, size_set] at HS); replace F := HS.out.facts; simp only [facts_cons, facts_nil, fact_box, fact_row, fact_gone, cellsAt_cons, cellsAt_nil, Nat.zero_add, Nat.reduceAdd, true_and, and_true] at F))
    go_wp2
    go_roundw
    case rel => exact ⟨i + 1, by go_num, by omega, ⟨HS.out.pk [0, 1, 2, 3] (by decide)⟩⟩
    case measure => simp [intOf]; omega
end Go.Proofs.Ytbbeaghhchjkgaa.Law
