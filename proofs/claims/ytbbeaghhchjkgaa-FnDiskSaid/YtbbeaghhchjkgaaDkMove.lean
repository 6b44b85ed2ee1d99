/- A file moved: the program. No condition. -/
import Derived.Test.YtbbeaghhchjkgaaDkMovS
namespace Go.Proofs.Ytbbeaghhchjkgaa.Dk
open Go.RowKit Go.Proofs.YtbbeaghhchjkgaaW Go.Proofs.YtbbeaghhchjkgaaW.PrintWords Go.Proofs.Ytbbeaghhchjkgaa.Sp Go.Proofs.Ytbbeaghhchjkgaa.Ty Go.Proofs.Ytbbeaghhchjkgaa.Im Go.Proofs.Ytbbeaghhchjkgaa.Lw
set_option linter.unusedVariables false
set_option linter.unusedSimpArgs false
attribute [local go_sem ↓] Go.wp_at_zero Go.wp_at_succ
attribute [local go_sem] World.cell?_alloc_lt
set_option maxRecDepth 100000 in
set_option maxHeartbeats 4000000 in
theorem impl_Move (room : Int) (A : Option Addr) (c : Nat) (l : List File) (from_ to_ : Int) (w : World) (hr : Kd.C kFile w A l.length l) (hv : Small l) (hl : l.length ≤ 1048576) :
    Calls Try.prog 35 #[.agg #[.int .i64 room, .slice A l.length c], .int .i64 from_, .int .i64 to_] w fun e w' => ∃ v, e = .returned (.tuple #[.agg #[.int .i64 (moveR room l from_ to_).room, v], .int .i64 (moveR room l from_ to_).code]) ∧ Sep w w' [Ob.row kFile 44 v (moveR room l from_ to_).files] := by
  have HR := Aside0.mk hr
  have HV := Aside0.mk hv
  clear hr hv
  have hu := Try.underlying29
  have hu2 := Try.underlying44
  have bad : moveCode room l from_ to_ = 1 → moveR room l from_ to_ = ⟨0, [], 1⟩ := fun h => by
    rw [moveR, h, if_neg (by decide)]; rfl
  have bad2 : (diskOk room l && isFile from_) = false → moveCode room l from_ to_ = 1 := fun h => by
    unfold moveCode
    split
    · exact bad_code h
    · rfl
  cases hb : diskOk room l
  case false =>
    have HBB := Aside0.mk hb
    rw [bad (bad2 (by rw [hb]; rfl))]
    clear hb bad bad2
    go_enter Try.func35, Try.ntmps35
    go_wp2_with (first | (go_at_call 16; refine (impl_DiskOk room A c l _ (Kd.C_alloc (Kd.C_alloc HR.out _) _) HV.out).mono ?_; rw [HBB.out]; rintro e w2 ⟨rfl, hb⟩; have HS := Aside0.mk (((((Sep.nil w).alloc _ _).alloc _ _).below hb).add (Sep.none_ kFile 44 _)); have F := HS.out.facts; (try simp only [List.cons_append, List.nil_append, List.set_cons_zero, List.set_cons_succ, size_al, size_set] at HS); replace F := HS.out.facts; simp only [facts_cons, facts_nil, fact_box, fact_row, fact_gone, cellsAt_cons, cellsAt_nil, Nat.zero_add, Nat.reduceAdd, true_and, and_true] at F; clear hb))
    refine bodyPost_ret (v := .tuple #[.agg #[.int .i64 0, .slice none 0 0], .int .i64 1]) (by simp [results, Try.results35, F, go_sem]) rfl ⟨_, rfl, ?_⟩
    exact (((HS.out.set 1 rfl 0 _).set 1 rfl 1 _).pk [2] (by decide))
  have HBB := Aside0.mk hb
  cases hc : isFile from_
  case false =>
    have HCC := Aside0.mk hc
    rw [bad (bad2 (by rw [hb, hc]; rfl))]
    clear hb hc bad bad2
    go_enter Try.func35, Try.ntmps35
    go_wp2_with (first | (go_at_call 16; refine (impl_DiskOk room A c l _ (Kd.C_alloc (Kd.C_alloc HR.out _) _) HV.out).mono ?_; rw [HBB.out]; rintro e w2 ⟨rfl, hb⟩; have HS := Aside0.mk (((((Sep.nil w).alloc _ _).alloc _ _).below hb).add (Sep.none_ kFile 44 _)); have F := HS.out.facts; (try simp only [List.cons_append, List.nil_append, List.set_cons_zero, List.set_cons_succ, size_al, size_set] at HS); replace F := HS.out.facts; simp only [facts_cons, facts_nil, fact_box, fact_row, fact_gone, cellsAt_cons, cellsAt_nil, Nat.zero_add, Nat.reduceAdd, true_and, and_true] at F; clear hb) | (go_at_call 46; refine (impl_isFile from_ _).mono ?_; rw [HCC.out]; rintro e w' ⟨rfl, ⟨nd, rfl⟩⟩; replace HS := Aside0.mk (HS.out.drewN nd); generalize hW_ : World.drewN _ nd = w8 at HS ⊢; clear hW_; (try simp only [List.cons_append, List.nil_append, List.set_cons_zero, List.set_cons_succ, size_al, size_set] at HS); replace F := HS.out.facts; simp only [facts_cons, facts_nil, fact_box, fact_row, fact_gone, cellsAt_cons, cellsAt_nil, Nat.zero_add, Nat.reduceAdd, true_and, and_true] at F))
    refine bodyPost_ret (v := .tuple #[.agg #[.int .i64 0, .slice none 0 0], .int .i64 1]) (by simp [results, Try.results35, F, go_sem]) rfl ⟨_, rfl, ?_⟩
    exact (((HS.out.set 1 rfl 0 _).set 1 rfl 1 _).pk [2] (by decide))
  have HCC := Aside0.mk hc
  cases hd : isFile to_
  case false =>
    have HDD := Aside0.mk hd
    rw [bad (if_neg (by rw [hd]; simp))]
    clear hb hc hd bad bad2
    go_enter Try.func35, Try.ntmps35
    go_wp2_with (first | (go_at_call 16; refine (impl_DiskOk room A c l _ (Kd.C_alloc (Kd.C_alloc HR.out _) _) HV.out).mono ?_; rw [HBB.out]; rintro e w2 ⟨rfl, hb⟩; have HS := Aside0.mk (((((Sep.nil w).alloc _ _).alloc _ _).below hb).add (Sep.none_ kFile 44 _)); have F := HS.out.facts; (try simp only [List.cons_append, List.nil_append, List.set_cons_zero, List.set_cons_succ, size_al, size_set] at HS); replace F := HS.out.facts; simp only [facts_cons, facts_nil, fact_box, fact_row, fact_gone, cellsAt_cons, cellsAt_nil, Nat.zero_add, Nat.reduceAdd, true_and, and_true] at F; clear hb) | (go_at_call 46; refine (impl_isFile from_ _).mono ?_; rw [HCC.out]; rintro e w' ⟨rfl, ⟨nd, rfl⟩⟩; replace HS := Aside0.mk (HS.out.drewN nd); generalize hW_ : World.drewN _ nd = w8 at HS ⊢; clear hW_; (try simp only [List.cons_append, List.nil_append, List.set_cons_zero, List.set_cons_succ, size_al, size_set] at HS); replace F := HS.out.facts; simp only [facts_cons, facts_nil, fact_box, fact_row, fact_gone, cellsAt_cons, cellsAt_nil, Nat.zero_add, Nat.reduceAdd, true_and, and_true] at F) | (go_at_call 46; refine (impl_isFile to_ _).mono ?_; rw [HDD.out]; rintro e w' ⟨rfl, ⟨nd, rfl⟩⟩; replace HS := Aside0.mk (HS.out.drewN nd); generalize hW_ : World.drewN _ nd = w9 at HS ⊢; clear hW_; (try simp only [List.cons_append, List.nil_append, List.set_cons_zero, List.set_cons_succ, size_al, size_set] at HS); replace F := HS.out.facts; simp only [facts_cons, facts_nil, fact_box, fact_row, fact_gone, cellsAt_cons, cellsAt_nil, Nat.zero_add, Nat.reduceAdd, true_and, and_true] at F))
    refine bodyPost_ret (v := .tuple #[.agg #[.int .i64 0, .slice none 0 0], .int .i64 1]) (by simp [results, Try.results35, F, go_sem]) rfl ⟨_, rfl, ?_⟩
    exact (((HS.out.set 1 rfl 0 _).set 1 rfl 1 _).pk [2] (by decide))
  have HDD := Aside0.mk hd
  by_cases hft : from_ = to_
  case pos =>
    have c3 : (from_ == to_) = true := by simpa using hft
    have hmc : moveCode room l from_ to_ = 1 := if_neg (fun h => h.2 hft)
    clear hft
    rw [bad hmc]
    clear hb hc hd bad bad2 hmc
    go_enter Try.func35, Try.ntmps35
    go_wp2_with (first | (go_at_call 16; refine (impl_DiskOk room A c l _ (Kd.C_alloc (Kd.C_alloc HR.out _) _) HV.out).mono ?_; rw [HBB.out]; rintro e w2 ⟨rfl, hb⟩; have HS := Aside0.mk (((((Sep.nil w).alloc _ _).alloc _ _).below hb).add (Sep.none_ kFile 44 _)); have F := HS.out.facts; (try simp only [List.cons_append, List.nil_append, List.set_cons_zero, List.set_cons_succ, size_al, size_set] at HS); replace F := HS.out.facts; simp only [facts_cons, facts_nil, fact_box, fact_row, fact_gone, cellsAt_cons, cellsAt_nil, Nat.zero_add, Nat.reduceAdd, true_and, and_true] at F; clear hb) | (go_at_call 46; refine (impl_isFile from_ _).mono ?_; rw [HCC.out]; rintro e w' ⟨rfl, ⟨nd, rfl⟩⟩; replace HS := Aside0.mk (HS.out.drewN nd); generalize hW_ : World.drewN _ nd = w8 at HS ⊢; clear hW_; (try simp only [List.cons_append, List.nil_append, List.set_cons_zero, List.set_cons_succ, size_al, size_set] at HS); replace F := HS.out.facts; simp only [facts_cons, facts_nil, fact_box, fact_row, fact_gone, cellsAt_cons, cellsAt_nil, Nat.zero_add, Nat.reduceAdd, true_and, and_true] at F) | (go_at_call 46; refine (impl_isFile to_ _).mono ?_; rw [HDD.out]; rintro e w' ⟨rfl, ⟨nd, rfl⟩⟩; replace HS := Aside0.mk (HS.out.drewN nd); generalize hW_ : World.drewN _ nd = w9 at HS ⊢; clear hW_; (try simp only [List.cons_append, List.nil_append, List.set_cons_zero, List.set_cons_succ, size_al, size_set] at HS); replace F := HS.out.facts; simp only [facts_cons, facts_nil, fact_box, fact_row, fact_gone, cellsAt_cons, cellsAt_nil, Nat.zero_add, Nat.reduceAdd, true_and, and_true] at F))
    refine bodyPost_ret (v := .tuple #[.agg #[.int .i64 0, .slice none 0 0], .int .i64 1]) (by simp [results, Try.results35, F, go_sem]) rfl ⟨_, rfl, ?_⟩
    exact (((HS.out.set 1 rfl 0 _).set 1 rfl 1 _).pk [2] (by decide))
  have c3 : (from_ == to_) = false := by simpa using hft
  have e1 : moveCode room l from_ to_ = atCode room l from_ := if_pos ⟨hd, hft⟩
  have e2 : atCode room l from_ = if fileAt l from_ < 0 then 2 else 0 := if_pos (by rw [hb, hc]; decide)
  have hok : okFrom l l.length 0 = true := by rw [diskOk, Bool.and_eq_true] at hb; exact hb.1
  clear hb hc hd bad bad2 hft
  by_cases hn : fileAt l from_ < 0
  · rw [show moveR room l from_ to_ = ⟨room, l, 2⟩ from by rw [moveR, e1, e2, if_pos hn, if_neg (by decide)]; rfl]
    clear e1 e2 hok
    have c1 : decide (fileAt l from_ < 0) = true := decide_eq_true hn
    clear hn
    go_enter Try.func35, Try.ntmps35
    go_wp2_with (first | (go_at_call 16; refine (impl_DiskOk room A c l _ (Kd.C_alloc (Kd.C_alloc HR.out _) _) HV.out).mono ?_; rw [HBB.out]; rintro e w2 ⟨rfl, hb⟩; have HS := Aside0.mk ((((Sep.nil w).alloc _ _).alloc _ _).below hb); have F := HS.out.facts; (try simp only [List.cons_append, List.nil_append, List.set_cons_zero, List.set_cons_succ, size_al, size_set] at HS); replace F := HS.out.facts; simp only [facts_cons, facts_nil, fact_box, fact_row, fact_gone, cellsAt_cons, cellsAt_nil, Nat.zero_add, Nat.reduceAdd, true_and, and_true] at F; clear hb) | (go_at_call 46; refine (impl_isFile from_ _).mono ?_; rw [HCC.out]; rintro e w' ⟨rfl, ⟨nd, rfl⟩⟩; replace HS := Aside0.mk (HS.out.drewN nd); generalize hW_ : World.drewN _ nd = w8 at HS ⊢; clear hW_; (try simp only [List.cons_append, List.nil_append, List.set_cons_zero, List.set_cons_succ, size_al, size_set] at HS); replace F := HS.out.facts; simp only [facts_cons, facts_nil, fact_box, fact_row, fact_gone, cellsAt_cons, cellsAt_nil, Nat.zero_add, Nat.reduceAdd, true_and, and_true] at F) | (go_at_call 46; refine (impl_isFile to_ _).mono ?_; rw [HDD.out]; rintro e w' ⟨rfl, ⟨nd, rfl⟩⟩; replace HS := Aside0.mk (HS.out.drewN nd); generalize hW_ : World.drewN _ nd = w9 at HS ⊢; clear hW_; (try simp only [List.cons_append, List.nil_append, List.set_cons_zero, List.set_cons_succ, size_al, size_set] at HS); replace F := HS.out.facts; simp only [facts_cons, facts_nil, fact_box, fact_row, fact_gone, cellsAt_cons, cellsAt_nil, Nat.zero_add, Nat.reduceAdd, true_and, and_true] at F) | (go_at_call 54; refine (cloneDisk room A c l _ (Kd.C_below HR.out HS.out.old) hl).mono ?_; rintro e w3 ⟨v, rfl, hs⟩; obtain ⟨B, d, rfl, _, _⟩ := hs.reads 0 rfl; replace HS := Aside0.mk (HS.out.add hs); (try simp only [List.cons_append, List.nil_append, List.set_cons_zero, List.set_cons_succ, size_al, size_set] at HS); replace F := HS.out.facts; simp only [facts_cons, facts_nil, fact_box, fact_row, fact_gone, cellsAt_cons, cellsAt_nil, Nat.zero_add, Nat.reduceAdd, true_and, and_true] at F; clear hs) | (go_at_call 51; refine (impl_fileAt room A c l from_ _ (Kd.C_below HR.out (HS.out.alloc _ _).old)).mono ?_; rintro e w4 ⟨rfl, hb⟩; replace HS := Aside0.mk ((HS.out.alloc _ _).below hb); (try simp only [List.cons_append, List.nil_append, List.set_cons_zero, List.set_cons_succ, size_al, size_set] at HS); replace F := HS.out.facts; simp only [facts_cons, facts_nil, fact_box, fact_row, fact_gone, cellsAt_cons, cellsAt_nil, Nat.zero_add, Nat.reduceAdd, true_and, and_true] at F; clear hb))
    refine bodyPost_ret (v := .tuple #[.agg #[.int .i64 room, .slice B l.length d], .int .i64 2]) (by simp [results, Try.results35, F, go_sem]) rfl ⟨_, rfl, ?_⟩
    exact (((HS.out.set 1 rfl 0 _).set 1 rfl 1 _).pk [2] (by decide))
  · obtain ⟨j, hj⟩ := Int.eq_ofNat_of_zero_le (show 0 ≤ fileAt l from_ by omega)
    rcases fileAt_range l from_ with h1 | ⟨_, h2, _⟩
    · omega
    have p1 : j < l.length := by omega
    obtain ⟨l1, hl1⟩ : ∃ l1, l.filter (fun x => !(x.Name == from_)) = l1 := ⟨_, rfl⟩
    obtain ⟨l2, hl2⟩ : ∃ l2, l1.filter (fun x => !(x.Name == to_)) = l2 := ⟨_, rfl⟩
    have hz1 : l1.length ≤ 1048576 := by have := List.length_filter_le (fun x : File => !(x.Name == from_)) l; rw [hl1] at this; omega
    have hz2 : l2.length ≤ 1048576 := by have := List.length_filter_le (fun x : File => !(x.Name == to_)) l1; rw [hl2] at this; omega
    have hput : moveR room l from_ to_ = ⟨room, putAt l2 ⟨to_, (rdFile l j).Safe, (rdFile l j).Late⟩, 0⟩ := by
      rw [moveR, e1, e2, if_neg hn, if_pos rfl, ← drop_filter hok (by omega), putF_sorted ((sorted_of_ok hok).sublist List.filter_sublist), hl1, mvFile, hl2, hj, Int.toNat_natCast]
    rw [hput]
    have HJ := Aside0.mk hj
    have HL1 := Aside0.mk hl1
    have HL2 := Aside0.mk hl2
    have p0 : (0 : Int) ≤ (j : Int) := by omega
    have p2 : (j : Int) < (l.length : Int) := by omega
    clear e1 e2 hok hn hj h2 hput hl1 hl2
    go_enter Try.func35, Try.ntmps35
    go_wp2_with (first | (go_at_call 16; refine (impl_DiskOk room A c l _ (Kd.C_alloc (Kd.C_alloc HR.out _) _) HV.out).mono ?_; rw [HBB.out]; rintro e w2 ⟨rfl, hb⟩; have HS := Aside0.mk ((((Sep.nil w).alloc _ _).alloc _ _).below hb); have F := HS.out.facts; (try simp only [List.cons_append, List.nil_append, List.set_cons_zero, List.set_cons_succ, size_al, size_set] at HS); replace F := HS.out.facts; simp only [facts_cons, facts_nil, fact_box, fact_row, fact_gone, cellsAt_cons, cellsAt_nil, Nat.zero_add, Nat.reduceAdd, true_and, and_true] at F; clear hb) | (go_at_call 46; refine (impl_isFile from_ _).mono ?_; rw [HCC.out]; rintro e w' ⟨rfl, ⟨nd, rfl⟩⟩; replace HS := Aside0.mk (HS.out.drewN nd); generalize hW_ : World.drewN _ nd = w8 at HS ⊢; clear hW_; (try simp only [List.cons_append, List.nil_append, List.set_cons_zero, List.set_cons_succ, size_al, size_set] at HS); replace F := HS.out.facts; simp only [facts_cons, facts_nil, fact_box, fact_row, fact_gone, cellsAt_cons, cellsAt_nil, Nat.zero_add, Nat.reduceAdd, true_and, and_true] at F) | (go_at_call 46; refine (impl_isFile to_ _).mono ?_; rw [HDD.out]; rintro e w' ⟨rfl, ⟨nd, rfl⟩⟩; replace HS := Aside0.mk (HS.out.drewN nd); generalize hW_ : World.drewN _ nd = w9 at HS ⊢; clear hW_; (try simp only [List.cons_append, List.nil_append, List.set_cons_zero, List.set_cons_succ, size_al, size_set] at HS); replace F := HS.out.facts; simp only [facts_cons, facts_nil, fact_box, fact_row, fact_gone, cellsAt_cons, cellsAt_nil, Nat.zero_add, Nat.reduceAdd, true_and, and_true] at F) | (go_at_call 54; refine (cloneDisk room A c l _ (Kd.C_below HR.out HS.out.old) hl).mono ?_; rintro e w3 ⟨v, rfl, hs⟩; obtain ⟨B, d, rfl, _, _⟩ := hs.reads 0 rfl; replace HS := Aside0.mk (HS.out.add hs); (try simp only [List.cons_append, List.nil_append, List.set_cons_zero, List.set_cons_succ, size_al, size_set] at HS); replace F := HS.out.facts; simp only [facts_cons, facts_nil, fact_box, fact_row, fact_gone, cellsAt_cons, cellsAt_nil, Nat.zero_add, Nat.reduceAdd, true_and, and_true] at F; clear hs) | (go_at_call 51; refine (impl_fileAt room A c l from_ _ (Kd.C_below HR.out (HS.out.alloc _ _).old)).mono ?_; rw [HJ.out]; rintro e w4 ⟨rfl, hb⟩; replace HS := Aside0.mk ((HS.out.alloc _ _).below hb); (try simp only [List.cons_append, List.nil_append, List.set_cons_zero, List.set_cons_succ, size_al, size_set] at HS); replace F := HS.out.facts; simp only [facts_cons, facts_nil, fact_box, fact_row, fact_gone, cellsAt_cons, cellsAt_nil, Nat.zero_add, Nat.reduceAdd, true_and, and_true] at F; clear hb; obtain ⟨ad, rfl, x0, x1, x2⟩ := atFile (Kd.C_below HR.out HS.out.old) j p1))
    refine (impl_drop w _ _ 3 2 w3.heap.size (by decide) room B d l from_ (HS.out.alloc _ _) rfl rfl hl).mono ?_
    rintro e w5 ⟨rfl, m, hs⟩
    rw [HL1.out] at hs
    obtain rfl := (hs.len 2 rfl).1
    replace HS := Aside0.mk hs
    (try simp only [List.cons_append, List.nil_append, List.set_cons_zero, List.set_cons_succ, size_al, size_set] at HS); replace F := HS.out.facts; simp only [facts_cons, facts_nil, fact_box, fact_row, fact_gone, cellsAt_cons, cellsAt_nil, Nat.zero_add, Nat.reduceAdd, true_and, and_true] at F
    clear hs x0 x1 x2
    go_wp2_with (first | (go_at_call 64; refine (impl_drop w _ _ 3 2 w3.heap.size (by decide) room B d l1 to_ HS.out rfl rfl hz1).mono ?_; rintro e w6 ⟨rfl, m2, hs⟩; rw [HL2.out] at hs; obtain rfl := (hs.len 2 rfl).1; replace HS := Aside0.mk hs; (try simp only [List.cons_append, List.nil_append, List.set_cons_zero, List.set_cons_succ, size_al, size_set] at HS); replace F := HS.out.facts; simp only [facts_cons, facts_nil, fact_box, fact_row, fact_gone, cellsAt_cons, cellsAt_nil, Nat.zero_add, Nat.reduceAdd, true_and, and_true] at F; clear hs) | (go_at_call 66; refine (impl_put w _ _ 3 2 w3.heap.size (by decide) room B d l2 ⟨to_, (rdFile l j).Safe, (rdFile l j).Late⟩ HS.out rfl rfl hz2).mono ?_; rintro e w7 ⟨rfl, B2, d2, hs⟩; replace HS := Aside0.mk hs; (try simp only [List.cons_append, List.nil_append, List.set_cons_zero, List.set_cons_succ, size_al, size_set] at HS); replace F := HS.out.facts; simp only [facts_cons, facts_nil, fact_box, fact_row, fact_gone, cellsAt_cons, cellsAt_nil, Nat.zero_add, Nat.reduceAdd, true_and, and_true] at F; clear hs))
    refine bodyPost_ret (v := .tuple #[.agg #[.int .i64 room, .slice B2 (l2.length + 1) d2], .int .i64 0]) (by simp [results, Try.results35, F, go_sem]) rfl ⟨_, rfl, ?_⟩
    exact (((HS.out.set 1 rfl 0 _).set 1 rfl 1 _).pk [2] (by decide))
end Go.Proofs.Ytbbeaghhchjkgaa.Dk
