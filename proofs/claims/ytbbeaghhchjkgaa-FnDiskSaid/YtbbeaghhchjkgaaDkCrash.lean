/- A crash: the program and the reference. No condition. -/
import Derived.Test.YtbbeaghhchjkgaaDkSync
import Derived.Test.YtbbeaghhchjkgaaSepX
namespace Go.Proofs.Ytbbeaghhchjkgaa.Dk
open Go.RowKit Go.Proofs.YtbbeaghhchjkgaaW Go.Proofs.YtbbeaghhchjkgaaW.PrintWords Go.Proofs.Ytbbeaghhchjkgaa.Sp Go.Proofs.Ytbbeaghhchjkgaa.Ty Go.Proofs.Ytbbeaghhchjkgaa.Im Go.Proofs.Ytbbeaghhchjkgaa.Lw
set_option linter.unusedVariables false
set_option linter.unusedSimpArgs false
attribute [local go_sem ↓] Go.wp_at_zero Go.wp_at_succ
attribute [local go_sem] World.cell?_alloc_lt
/-- How much of what is late is kept. -/
def keepN (keep n : Int) : Int := if keep < 0 then 0 else if keep < n then keep else n
theorem keepN_range (keep : Int) (n : Nat) : 0 ≤ keepN keep n ∧ keepN keep n ≤ n := by unfold keepN; split <;> (try split) <;> omega
def crashFile (keep : Int) (x : File) : File := ⟨x.Name, x.Safe ++ x.Late.extract 0 (keepN keep x.Late.size).toNat, ⟨#[]⟩⟩
def crashL (keep : Int) (l : List File) : List File := l.map (crashFile keep)
def crashR (room : Int) (l : List File) (keep : Int) : Int × List File := if diskOk room l = true then (room, crashL keep l) else (0, [])
theorem crashR_len (room : Int) (l : List File) (keep : Int) : (crashR room l keep).2.length ≤ l.length := by
  unfold crashR
  split
  · simp [crashL]
  · simp
def maxI (a b : Int) : Int := if b < a then a else b
def minI (a b : Int) : Int := if a < b then a else b
theorem spec_max (a b : Int) (w : World) : Calls Try.prog 53 #[.int .i64 a, .int .i64 b] w fun e w' => e = .returned (.int .i64 (maxI a b)) ∧ w' = w := by
  by_cases h : b < a
  · rw [maxI, if_pos h]
    have h1 : decide (b < a) = true := decide_eq_true h
    clear h
    go_enter Try.func53, Try.ntmps53
    go_wp2
    go_ret
    exact ⟨rfl, rfl⟩
  · rw [maxI, if_neg h]
    have h1 : decide (b < a) = false := decide_eq_false h
    clear h
    go_enter Try.func53, Try.ntmps53
    go_wp2
    go_ret
    exact ⟨rfl, rfl⟩
theorem spec_min (a b : Int) (w : World) : Calls Try.prog 52 #[.int .i64 a, .int .i64 b] w fun e w' => e = .returned (.int .i64 (minI a b)) ∧ w' = w := by
  by_cases h : a < b
  · rw [minI, if_pos h]
    have h1 : decide (a < b) = true := decide_eq_true h
    clear h
    go_enter Try.func52, Try.ntmps52
    go_wp2
    go_ret
    exact ⟨rfl, rfl⟩
  · rw [minI, if_neg h]
    have h1 : decide (a < b) = false := decide_eq_false h
    clear h
    go_enter Try.func52, Try.ntmps52
    go_wp2
    go_ret
    exact ⟨rfl, rfl⟩
theorem keepN_spec (keep : Int) (n : Nat) : minI (maxI keep 0) (n : Int) = keepN keep n := by
  unfold minI maxI keepN
  split <;> split <;> (try split) <;> omega
theorem keepN_impl (keep : Int) (n : Nat) : (if 0 < if (n : Int) < keep then (n : Int) else keep then if (n : Int) < keep then (n : Int) else keep else 0) = keepN keep n := by
  unfold keepN
  split <;> (try split) <;> (try split) <;> (try split) <;> omega
set_option maxRecDepth 100000 in
set_option maxHeartbeats 4000000 in
theorem spec_Crash (room : Int) (A : Option Addr) (c : Nat) (l : List File) (keep : Int) (w : World) (hr : Kd.C kFile w A l.length l) (hv : Small l) (hl : l.length ≤ 1048576) :
    Calls Try.prog 20 #[.agg #[.int .i64 room, .slice A l.length c], .int .i64 keep] w fun e w' => ∃ v, e = .returned (.agg #[.int .i64 (crashR room l keep).1, v]) ∧ Sep w w' [Ob.row kFile 44 v (crashR room l keep).2] := by
  have HR := Aside0.mk hr
  have HV := Aside0.mk hv
  clear hr hv
  have hu := Try.underlying29
  have hu2 := Try.underlying44
  cases hb : diskOk room l
  · have HBB := Aside0.mk hb
    rw [show crashR room l keep = (0, []) from if_neg (by rw [hb]; decide)]
    clear hb
    go_enter Try.func20, Try.ntmps20
    go_wp2_with (go_at_call 14; refine (spec_DiskOk room A c l _ (Kd.C_alloc (Kd.C_alloc HR.out _) _) HV.out).mono ?_; rw [HBB.out]; rintro e w2 ⟨rfl, hb⟩; have HS := Aside0.mk (((((Sep.nil w).alloc _ _).alloc _ _).below hb).add (Sep.none_ kFile 44 _)); have F := HS.out.facts; (try simp only [List.cons_append, List.nil_append, List.set_cons_zero, List.set_cons_succ, size_al, size_set] at HS); replace F := HS.out.facts; simp only [facts_cons, facts_nil, fact_box, fact_row, fact_gone, cellsAt_cons, cellsAt_nil, Nat.zero_add, Nat.reduceAdd, true_and, and_true] at F; clear hb)
    refine bodyPost_ret (v := .agg #[.int .i64 0, .slice none 0 0]) (by simp [results, Try.results20, F, go_sem]) rfl ⟨_, rfl, ?_⟩
    exact (((HS.out.set 1 rfl 0 _).set 1 rfl 1 _).pk [2] (by decide))
  · have HBB := Aside0.mk hb
    rw [show crashR room l keep = (room, crashL keep l) from if_pos hb]
    clear hb
    go_enter Try.func20, Try.ntmps20
    go_wp2_with (go_at_call 14; refine (spec_DiskOk room A c l _ (Kd.C_alloc (Kd.C_alloc HR.out _) _) HV.out).mono ?_; rw [HBB.out]; rintro e w2 ⟨rfl, hb⟩; have HS := Aside0.mk ((((Sep.nil w).alloc _ _).alloc _ _).below hb); have F := HS.out.facts; (try simp only [List.cons_append, List.nil_append, List.set_cons_zero, List.set_cons_succ, size_al, size_set] at HS); replace F := HS.out.facts; simp only [facts_cons, facts_nil, fact_box, fact_row, fact_gone, cellsAt_cons, cellsAt_nil, Nat.zero_add, Nat.reduceAdd, true_and, and_true] at F; clear hb)
    replace HS := Aside0.mk ((HS.out.alloc #[.int .i64 room, .slice none 0 0] 29).add (Sep.none_ kFile 44 _))
    simp only [List.nil_append, List.cons_append, size_al] at HS
    go_loopw [6] (fun q wr => ∃ (d j : Nat) (B : Option Addr) (n e : Nat) (acc : List File), d + j = l.length ∧ q = .int .i64 j ∧ Aside0 (acc ++ crashL keep (l.drop j) = crashL keep l) ∧ Aside0 (Sep w wr [Ob.box w.heap.size #[.int .i64 room, .slice A l.length c] 29, Ob.box (w.heap.size + 1) #[.int .i64 0, .slice none 0 0] 29, Ob.box w2.heap.size #[.int .i64 room, .slice B n e] 29, Ob.row kFile 44 (.slice B n e) acc])) (fun q _ => l.length - (intOf q).toNat)
    case atStart => exact ⟨l.length, 0, none, 0, 0, [], rfl, rfl, ⟨rfl⟩, HS⟩
    case round =>
      clear HS F
      obtain ⟨d, j, B, n, e, acc, hj, rfl, HD, HS⟩ := hrel
      have F := HS.out.facts
      simp only [facts_cons, facts_nil, fact_box, fact_row, fact_gone, cellsAt_cons, cellsAt_nil, Nat.zero_add, Nat.reduceAdd, true_and, and_true] at F
      have hacc : acc.length ≤ l.length := by
        have h2 := congrArg List.length HD.out
        simp only [List.length_append, crashL, List.length_map] at h2
        omega
      have HA := Aside0.mk hacc
      clear hacc
      cases d with
      | zero =>
        have hj : j = l.length := by omega
        subst hj
        have HD2 : Aside0 (acc = crashL keep l) := ⟨by have := HD.out; rwa [List.drop_length, crashL, List.map_nil, List.append_nil] at this⟩
        go_wp2
        refine bodyPost_ret (v := .agg #[.int .i64 room, .slice B n e]) (by simp [results, Try.results20, F, go_sem]) rfl ⟨_, rfl, ?_⟩
        have := (((HS.out.set 1 rfl 0 (.int .i64 room)).set 1 rfl 1 (.slice B n e)).pk [3] (by decide))
        rw [← HD2.out]
        exact this
      | succ d =>
        obtain ⟨ad, rfl, x0, x1, x2⟩ := atFile (Kd.C_below HR.out HS.out.old) j (by omega)
        have p1 : j < l.length := by omega
        have hdrop : crashL keep (l.drop j) = crashFile keep (rdFile l j) :: crashL keep (l.drop (j + 1)) := by rw [List.drop_eq_getElem_cons p1, rdFile_eq p1]; rfl
        have HD2 : Aside0 (acc ++ crashFile keep (rdFile l j) :: crashL keep (l.drop (j + 1)) = crashL keep l) := ⟨by rw [← HD.out, hdrop]⟩
        have hs := vol_at p1
        have hv := HV.out
        unfold Small at hv
        have hsz : (rdFile l j).Safe.size + (rdFile l j).Late.size ≤ 1048576 := by omega
        clear hdrop HD hs hv
        have p0 : (0 : Int) ≤ (j : Int) := by omega
        have p2 : (j : Int) < (l.length : Int) := by omega
        go_wp2
        replace HS := Aside0.mk (HS.out.alloc #[.int .i64 (rdFile l j).Name, .string (rdFile l j).Safe, .string (rdFile l j).Late] 44)
        generalize hW_ : wr.alloc _ = W3 at HS ⊢
        clear hW_ x0 x1 x2
        (try simp only [List.cons_append, List.nil_append, List.set_cons_zero, List.set_cons_succ, size_al, size_set] at HS); replace F := HS.out.facts; simp only [facts_cons, facts_nil, fact_box, fact_row, fact_gone, cellsAt_cons, cellsAt_nil, Nat.zero_add, Nat.reduceAdd, true_and, and_true] at F
        go_region_held3 (fun W => W.cell? ⟨wr.heap.size, 2, none⟩ = some (.string (rdFile l j).Late)) (first | exact F.2.2.2.2.2.2.1 | go_keep)
          (first | (go_at_call 53; refine (spec_max keep 0 _).mono ?_; rintro e w' ⟨rfl, rfl⟩) | (go_at_call 52; refine (spec_min _ _ _).mono ?_; rw [keepN_spec]; rintro e w' ⟨rfl, rfl⟩))
        go_wp2
        replace HS := Aside0.mk HS.out.drew
        generalize hW_ : W3.drew = W4 at HS ⊢
        clear hW_
        (try simp only [List.cons_append, List.nil_append, List.set_cons_zero, List.set_cons_succ, size_al, size_set] at HS); replace F := HS.out.facts; simp only [facts_cons, facts_nil, fact_box, fact_row, fact_gone, cellsAt_cons, cellsAt_nil, Nat.zero_add, Nat.reduceAdd, true_and, and_true] at F
        have hk0 := (keepN_range keep (rdFile l j).Late.size).1
        have hk1 := (keepN_range keep (rdFile l j).Late.size).2
        have hcat : ¬ 9223372036854775807 < (rdFile l j).Safe.size + (keepN keep (rdFile l j).Late.size).toNat := by omega
        refine PrintLast.start_ (ds := [15]) (S := (fun W => W.cell? ⟨w2.heap.size, 1, none⟩ = some (.slice B n e) ∧ W.cell? ⟨wr.heap.size, 0, none⟩ = some (.int .i64 (rdFile l j).Name) ∧ W.cell? ⟨wr.heap.size, 1, none⟩ = some (.string (rdFile l j).Safe) ∧ W.cell? ⟨wr.heap.size, 2, none⟩ = some (.string (rdFile l j).Late))) #[false, false, false, false, false, false, false, false, false, false, false, false, false, false, false, false] (by kernel_rfl) rfl rfl ⟨F.2.2.1.2.2.1, F.2.2.2.2.1.1, F.2.2.2.2.2.1.1, F.2.2.2.2.2.2.1⟩ (fun HH => ?_)
        refine PrintLast.pure_ (i := 0) (N := some 34) (v := ?_) #[true, false, false, false, false, false, false, false, false, false, false, false, false, false, false, false] rfl rfl (by kernel_rfl) (fun _ _ _ h => h) (Or.inl ⟨by rfl, ?_⟩) rfl ?_
        rotate_left 1
        · (intro w; go_simp; (try with_reducible rfl))
        (try simp only [Act.put, List.setIfInBounds_toArray, List.set_cons_zero, List.set_cons_succ])
        refine PrintLast.take_ (i := 1) (N := some 35) (v := ?_) #[true, true, false, false, false, false, false, false, false, false, false, false, false, false, false, false] rfl rfl (by kernel_rfl) (fun _ _ _ h => h) (Or.inl ⟨by rfl, ?_⟩) HH rfl ?_
        rotate_left 1
        · (intro w hSw; (try dsimp only at hSw); go_simp; (try with_reducible rfl))
        (try simp only [Act.put, List.setIfInBounds_toArray, List.set_cons_zero, List.set_cons_succ])
        refine PrintLast.pure_ (i := 2) (N := some 36) (v := ?_) #[true, true, true, false, false, false, false, false, false, false, false, false, false, false, false, false] rfl rfl (by kernel_rfl) (fun _ _ _ h => h) (Or.inl ⟨by rfl, ?_⟩) rfl ?_
        rotate_left 1
        · (intro w; go_simp; (try with_reducible rfl))
        (try simp only [Act.put, List.setIfInBounds_toArray, List.set_cons_zero, List.set_cons_succ])
        refine PrintLast.take_ (i := 3) (N := some 37) (v := ?_) #[true, true, true, true, false, false, false, false, false, false, false, false, false, false, false, false] rfl rfl (by kernel_rfl) (fun _ _ _ h => h) (Or.inl ⟨by rfl, ?_⟩) HH rfl ?_
        rotate_left 1
        · (intro w hSw; (try dsimp only at hSw); go_simp; (try with_reducible rfl))
        (try simp only [Act.put, List.setIfInBounds_toArray, List.set_cons_zero, List.set_cons_succ])
        refine PrintLast.pure_ (i := 4) (N := some 38) (v := ?_) #[true, true, true, true, true, false, false, false, false, false, false, false, false, false, false, false] rfl rfl (by kernel_rfl) (fun _ _ _ h => h) (Or.inl ⟨by rfl, ?_⟩) rfl ?_
        rotate_left 1
        · (intro w; go_simp; (try with_reducible rfl))
        (try simp only [Act.put, List.setIfInBounds_toArray, List.set_cons_zero, List.set_cons_succ])
        refine PrintLast.take_ (i := 5) (N := some 39) (v := ?_) #[true, true, true, true, true, true, false, false, false, false, false, false, false, false, false, false] rfl rfl (by kernel_rfl) (fun _ _ _ h => h) (Or.inl ⟨by rfl, ?_⟩) HH rfl ?_
        rotate_left 1
        · (intro w hSw; (try dsimp only at hSw); go_simp; (try with_reducible rfl))
        (try simp only [Act.put, List.setIfInBounds_toArray, List.set_cons_zero, List.set_cons_succ])
        refine PrintLast.pure_ (i := 6) (N := some 40) (v := ?_) #[true, true, true, true, true, true, true, false, false, false, false, false, false, false, false, false] rfl rfl (by kernel_rfl) (fun _ _ _ h => h) (Or.inl ⟨by rfl, ?_⟩) rfl ?_
        rotate_left 1
        · (intro w; go_simp; (try with_reducible rfl))
        (try simp only [Act.put, List.setIfInBounds_toArray, List.set_cons_zero, List.set_cons_succ])
        refine PrintLast.take_ (i := 7) (N := some 41) (v := ?_) #[true, true, true, true, true, true, true, true, false, false, false, false, false, false, false, false] rfl rfl (by kernel_rfl) (fun _ _ _ h => h) (Or.inl ⟨by rfl, ?_⟩) HH rfl ?_
        rotate_left 1
        · (intro w hSw; (try dsimp only at hSw); go_simp; (try with_reducible rfl))
        (try simp only [Act.put, List.setIfInBounds_toArray, List.set_cons_zero, List.set_cons_succ])
        refine PrintLast.pure_ (i := 8) (N := some 42) (v := ?_) #[true, true, true, true, true, true, true, true, true, false, false, false, false, false, false, false] rfl rfl (by kernel_rfl) (fun _ _ _ h => h) (Or.inl ⟨by rfl, ?_⟩) rfl ?_
        rotate_left 1
        · (intro w; go_simp; (try with_reducible rfl))
        (try simp only [Act.put, List.setIfInBounds_toArray, List.set_cons_zero, List.set_cons_succ])
        refine PrintLast.pure_ (i := 9) (N := some 43) (v := ?_) #[true, true, true, true, true, true, true, true, true, true, false, false, false, false, false, false] rfl rfl (by kernel_rfl) (fun _ _ _ h => h) (Or.inl ⟨by rfl, ?_⟩) rfl ?_
        rotate_left 1
        · (intro w; go_simp; (try with_reducible rfl))
        (try simp only [Act.put, List.setIfInBounds_toArray, List.set_cons_zero, List.set_cons_succ])
        refine PrintLast.pure_ (i := 10) (N := some 44) (v := ?_) #[true, true, true, true, true, true, true, true, true, true, true, false, false, false, false, false] rfl rfl (by kernel_rfl) (fun _ _ _ h => h) (Or.inl ⟨by rfl, ?_⟩) rfl ?_
        rotate_left 1
        · (intro w; go_simp; (try with_reducible rfl))
        (try simp only [Act.put, List.setIfInBounds_toArray, List.set_cons_zero, List.set_cons_succ])
        refine PrintLast.pure_ (i := 11) (N := some 45) (v := ?_) #[true, true, true, true, true, true, true, true, true, true, true, true, false, false, false, false] rfl rfl (by kernel_rfl) (fun _ _ _ h => h) (Or.inl ⟨by rfl, ?_⟩) rfl ?_
        rotate_left 1
        · (intro w; go_simp; (try with_reducible rfl))
        (try simp only [Act.put, List.setIfInBounds_toArray, List.set_cons_zero, List.set_cons_succ])
        refine PrintLast.one_ (i := 12) (N := some 46) #[true, true, true, true, true, true, true, true, true, true, true, true, true, false, false, false] rfl rfl (by kernel_rfl) (by decide) (fun K hK => ?_)
        go_simp
        refine hK.out _ _ (by first | exact ⟨F.2.2.1.2.2.1, F.2.2.2.2.1.1, F.2.2.2.2.2.1.1, F.2.2.2.2.2.2.1⟩ | go_keep) (fun HH => ?_)
        clear hK K
        (try simp only [Act.put, List.setIfInBounds_toArray, List.set_cons_zero, List.set_cons_succ])
        refine PrintLast.one_ (i := 13) (N := some 47) #[true, true, true, true, true, true, true, true, true, true, true, true, true, true, false, false] rfl rfl (by kernel_rfl) (by decide) (fun K hK => ?_)
        refine ev_append_step flatFile HS.out.drew 3 rfl (by rfl) (.tmp 35) (.tmp 46) 27 _ _ (by rfl) Try.underlying27 infoFile rfl (by decide) (by decide) (crashFile keep (rdFile l j)) _ rfl (by rfl) (by rfl) (by have := HA.out; omega) ?_
        intro v7 w7 hs
        obtain ⟨B7, n7, e7, rfl⟩ := hs.form3 3 rfl
        replace HS := Aside0.mk hs
        (try simp only [List.cons_append, List.nil_append, List.set_cons_zero, List.set_cons_succ, size_al, size_set] at HS); replace F := HS.out.facts; simp only [facts_cons, facts_nil, fact_box, fact_row, fact_gone, cellsAt_cons, cellsAt_nil, Nat.zero_add, Nat.reduceAdd, true_and, and_true] at F
        clear hs
        refine hK.out _ _ (by first | exact ⟨F.2.2.1.2.2.1, F.2.2.2.2.1.1, F.2.2.2.2.2.1.1, F.2.2.2.2.2.2.1⟩ | go_keep) (fun HH => ?_)
        clear hK K
        (try simp only [Act.put, List.setIfInBounds_toArray, List.set_cons_zero, List.set_cons_succ])
        refine PrintLast.pure_ (i := 14) (N := some 48) (v := ?_) #[true, true, true, true, true, true, true, true, true, true, true, true, true, true, true, false] rfl rfl (by kernel_rfl) (fun _ _ _ h => h) (Or.inl ⟨by rfl, ?_⟩) rfl ?_
        rotate_left 1
        · (intro w; go_simp; (try with_reducible rfl))
        (try simp only [Act.put, List.setIfInBounds_toArray, List.set_cons_zero, List.set_cons_succ])
        refine PrintLast.last_ (i := 15) (N := none) #[true, true, true, true, true, true, true, true, true, true, true, true, true, true, true, true] rfl rfl (by kernel_rfl) (by decide) (fun K hK => ?_)
        go_simp
        refine hK.out _ _ ?_
        clear hK K
        refine PrintLast.done_ (by kernel_rfl) ?_
        go_wp2
        go_roundw
        case rel => exact ⟨d, j + 1, B7, n7, e7, _, by omega, by go_num, ⟨by rw [← HD2.out]; simp⟩, ⟨(HS.out.set 2 rfl 1 (.slice B7 n7 e7)).pk [0, 1, 2, 3] (by decide)⟩⟩
        case measure => simp [intOf]; omega
set_option maxRecDepth 100000 in
set_option maxHeartbeats 4000000 in
theorem impl_Crash (room : Int) (A : Option Addr) (c : Nat) (l : List File) (keep : Int) (w : World) (hr : Kd.C kFile w A l.length l) (hv : Small l) (hl : l.length ≤ 1048576) :
    Calls Try.prog 21 #[.agg #[.int .i64 room, .slice A l.length c], .int .i64 keep] w fun e w' => ∃ v, e = .returned (.agg #[.int .i64 (crashR room l keep).1, v]) ∧ Sep w w' [Ob.row kFile 44 v (crashR room l keep).2] := by
  have HR := Aside0.mk hr
  have HV := Aside0.mk hv
  clear hr hv
  have hu := Try.underlying29
  have hu2 := Try.underlying44
  cases hb : diskOk room l
  · have HBB := Aside0.mk hb
    rw [show crashR room l keep = (0, []) from if_neg (by rw [hb]; decide)]
    clear hb
    go_enter Try.func21, Try.ntmps21
    go_wp2_with (go_at_call 16; refine (impl_DiskOk room A c l _ (Kd.C_alloc (Kd.C_alloc HR.out _) _) HV.out).mono ?_; rw [HBB.out]; rintro e w2 ⟨rfl, hb⟩; have HS := Aside0.mk (((((Sep.nil w).alloc _ _).alloc _ _).below hb).add (Sep.none_ kFile 44 _)); have F := HS.out.facts; (try simp only [List.cons_append, List.nil_append, List.set_cons_zero, List.set_cons_succ, size_al, size_set] at HS); replace F := HS.out.facts; simp only [facts_cons, facts_nil, fact_box, fact_row, fact_gone, cellsAt_cons, cellsAt_nil, Nat.zero_add, Nat.reduceAdd, true_and, and_true] at F; clear hb)
    refine bodyPost_ret (v := .agg #[.int .i64 0, .slice none 0 0]) (by simp [results, Try.results21, F, go_sem]) rfl ⟨_, rfl, ?_⟩
    exact (((HS.out.set 1 rfl 0 _).set 1 rfl 1 _).pk [2] (by decide))
  · have HBB := Aside0.mk hb
    rw [show crashR room l keep = (room, crashL keep l) from if_pos hb]
    clear hb
    go_enter Try.func21, Try.ntmps21
    go_wp2_with (first | (go_at_call 16; refine (impl_DiskOk room A c l _ (Kd.C_alloc (Kd.C_alloc HR.out _) _) HV.out).mono ?_; rw [HBB.out]; rintro e w2 ⟨rfl, hb⟩; have HS := Aside0.mk ((((Sep.nil w).alloc _ _).alloc _ _).below hb); have F := HS.out.facts; (try simp only [List.cons_append, List.nil_append, List.set_cons_zero, List.set_cons_succ, size_al, size_set] at HS); replace F := HS.out.facts; simp only [facts_cons, facts_nil, fact_box, fact_row, fact_gone, cellsAt_cons, cellsAt_nil, Nat.zero_add, Nat.reduceAdd, true_and, and_true] at F; clear hb) | (go_at_call 54; refine (cloneDisk room A c l _ (Kd.C_below HR.out HS.out.old) hl).mono ?_; rintro e w3 ⟨v, rfl, hs⟩; obtain ⟨B, d0, rfl, _, _⟩ := hs.reads 0 rfl; replace HS := Aside0.mk (HS.out.add hs); (try simp only [List.cons_append, List.nil_append, List.set_cons_zero, List.set_cons_succ, size_al, size_set] at HS); replace F := HS.out.facts; simp only [facts_cons, facts_nil, fact_box, fact_row, fact_gone, cellsAt_cons, cellsAt_nil, Nat.zero_add, Nat.reduceAdd, true_and, and_true] at F; clear hs))
    replace HS := Aside0.mk (HS.out.alloc #[.int .i64 room, .slice B l.length d0] 29)
    simp only [List.nil_append, List.cons_append, size_al] at HS
    go_loopw [17] (fun q wr => ∃ (d j : Nat), d + j = l.length ∧ q = .int .i64 j ∧ Aside0 (Sep w wr [Ob.box w.heap.size #[.int .i64 room, .slice A l.length c] 29, Ob.box (w.heap.size + 1) #[.int .i64 0, .slice none 0 0] 29, Ob.row kFile 44 (.slice B l.length d0) (crashL keep (l.take j) ++ l.drop j), Ob.box w3.heap.size #[.int .i64 room, .slice B l.length d0] 29])) (fun q _ => l.length - (intOf q).toNat)
    case atStart => exact ⟨l.length, 0, rfl, rfl, HS⟩
    case round =>
      clear HS F
      obtain ⟨d, j, hj, rfl, HS⟩ := hrel
      have F := HS.out.facts
      simp only [facts_cons, facts_nil, fact_box, fact_row, fact_gone, cellsAt_cons, cellsAt_nil, Nat.zero_add, Nat.reduceAdd, true_and, and_true] at F
      cases d with
      | zero =>
        have hj : j = l.length := by omega
        subst hj
        go_wp2
        refine bodyPost_ret (v := .agg #[.int .i64 room, .slice B l.length d0]) (by simp [results, Try.results21, F, go_sem]) rfl ⟨_, rfl, ?_⟩
        have := (((HS.out.set 1 rfl 0 (.int .i64 room)).set 1 rfl 1 (.slice B l.length d0)).pk [2] (by decide))
        rw [show crashL keep l = crashL keep (l.take l.length) ++ l.drop l.length from by simp]
        exact this
      | succ d =>
        obtain ⟨ad, rfl, x0, x1, x2⟩ := atFile (Kd.C_below HR.out HS.out.old) j (by omega)
        have p1 : j < l.length := by omega
        have p1' : j < (crashL keep (l.take j) ++ l.drop j).length := by simp [crashL]; omega
        have hset : (crashL keep (l.take j) ++ l.drop j).set j (crashFile keep (rdFile l j)) = crashL keep (l.take (j + 1)) ++ l.drop (j + 1) := by
          have e1 : l.drop j = rdFile l j :: l.drop (j + 1) := by rw [List.drop_eq_getElem_cons p1, rdFile_eq p1]
          have e2 : l.take (j + 1) = l.take j ++ [rdFile l j] := by rw [List.take_succ_eq_append_getElem p1, rdFile_eq p1]
          have e3 : (crashL keep (l.take j)).length = j := by simp [crashL]; omega
          rw [e1, e2, List.set_append_right _ _ (by rw [e3]; exact Nat.le_refl _), e3, Nat.sub_self, List.set_cons_zero]
          unfold crashL
          rw [List.map_append]
          simp only [List.map_cons, List.map_nil, List.append_assoc, List.cons_append, List.nil_append]
        have hs := vol_at p1
        have hv := HV.out
        unfold Small at hv
        have hsz : (rdFile l j).Safe.size + (rdFile l j).Late.size ≤ 1048576 := by omega
        obtain ⟨g, cap, hv2⟩ := HS.out.form 2 rfl (by omega)
        injection hv2 with hv1 hv2 hv3
        subst hv1
        have HSET := Aside0.mk hset
        have HL := Aside0.mk hv2
        clear hs hv hv2 hv3 hset
        have p0 : (0 : Int) ≤ (j : Int) := by omega
        have p2 : (j : Int) < (l.length : Int) := by omega
        go_wp2
        replace HS := Aside0.mk (HS.out.alloc #[.int .i64 (rdFile l j).Name, .string (rdFile l j).Safe, .string (rdFile l j).Late] 44)
        generalize hW_ : wr.alloc _ = W3 at HS ⊢
        clear hW_ x0 x1 x2
        (try simp only [List.cons_append, List.nil_append, List.set_cons_zero, List.set_cons_succ, size_al, size_set] at HS); replace F := HS.out.facts; simp only [facts_cons, facts_nil, fact_box, fact_row, fact_gone, cellsAt_cons, cellsAt_nil, Nat.zero_add, Nat.reduceAdd, true_and, and_true] at F
        have hk0 := (keepN_range keep (rdFile l j).Late.size).1
        have hk1 := (keepN_range keep (rdFile l j).Late.size).2
        have hcat : ¬ 9223372036854775807 < (rdFile l j).Safe.size + (keepN keep (rdFile l j).Late.size).toNat := by omega
        refine PrintLast.start_ (ds := [19]) (S := (fun W => W.cell? ⟨w3.heap.size, 1, none⟩ = some (.slice (some ⟨g, 0, none⟩) l.length d0) ∧ W.cell? ⟨wr.heap.size, 0, none⟩ = some (.int .i64 (rdFile l j).Name) ∧ W.cell? ⟨wr.heap.size, 1, none⟩ = some (.string (rdFile l j).Safe) ∧ W.cell? ⟨wr.heap.size, 2, none⟩ = some (.string (rdFile l j).Late))) #[false, false, false, false, false, false, false, false, false, false, false, false, false, false, false, false, false, false, false, false] (by kernel_rfl) rfl rfl ⟨F.2.2.1.2.2.1, F.2.2.2.2.1.1, F.2.2.2.2.2.1.1, F.2.2.2.2.2.2.1⟩ (fun HH => ?_)
        refine PrintLast.pure_ (i := 0) (N := some 22) (v := ?_) #[true, false, false, false, false, false, false, false, false, false, false, false, false, false, false, false, false, false, false, false] rfl rfl (by kernel_rfl) (fun _ _ _ h => h) (Or.inl ⟨by rfl, ?_⟩) rfl ?_
        rotate_left 1
        · (intro w; go_simp; (try with_reducible rfl))
        (try simp only [keepN_impl, Act.put, List.setIfInBounds_toArray, List.set_cons_zero, List.set_cons_succ])
        refine PrintLast.take_ (i := 1) (N := some 23) (v := ?_) #[true, true, false, false, false, false, false, false, false, false, false, false, false, false, false, false, false, false, false, false] rfl rfl (by kernel_rfl) (fun _ _ _ h => h) (Or.inl ⟨by rfl, ?_⟩) HH rfl ?_
        rotate_left 1
        · (intro w hSw; (try dsimp only at hSw); go_simp; (try with_reducible rfl))
        (try simp only [keepN_impl, Act.put, List.setIfInBounds_toArray, List.set_cons_zero, List.set_cons_succ])
        refine PrintLast.pure_ (i := 2) (N := some 24) (v := ?_) #[true, true, true, false, false, false, false, false, false, false, false, false, false, false, false, false, false, false, false, false] rfl rfl (by kernel_rfl) (fun _ _ _ h => h) (Or.inl ⟨by rfl, ?_⟩) rfl ?_
        rotate_left 1
        · (intro w; go_simp; (try with_reducible rfl))
        (try simp only [keepN_impl, Act.put, List.setIfInBounds_toArray, List.set_cons_zero, List.set_cons_succ])
        refine PrintLast.pure_ (i := 3) (N := some 25) (v := ?_) #[true, true, true, true, false, false, false, false, false, false, false, false, false, false, false, false, false, false, false, false] rfl rfl (by kernel_rfl) (fun _ _ _ h => h) (Or.inl ⟨by rfl, ?_⟩) rfl ?_
        rotate_left 1
        · (intro w; go_simp; (try with_reducible rfl))
        (try simp only [keepN_impl, Act.put, List.setIfInBounds_toArray, List.set_cons_zero, List.set_cons_succ])
        refine PrintLast.take_ (i := 4) (N := some 26) (v := ?_) #[true, true, true, true, true, false, false, false, false, false, false, false, false, false, false, false, false, false, false, false] rfl rfl (by kernel_rfl) (fun _ _ _ h => h) (Or.inl ⟨by rfl, ?_⟩) HH rfl ?_
        rotate_left 1
        · (intro w hSw; (try dsimp only at hSw); go_simp; (try with_reducible rfl))
        (try simp only [keepN_impl, Act.put, List.setIfInBounds_toArray, List.set_cons_zero, List.set_cons_succ])
        refine PrintLast.pure_ (i := 5) (N := some 27) (v := ?_) #[true, true, true, true, true, true, false, false, false, false, false, false, false, false, false, false, false, false, false, false] rfl rfl (by kernel_rfl) (fun _ _ _ h => h) (Or.inl ⟨by rfl, ?_⟩) rfl ?_
        rotate_left 1
        · (intro w; go_simp; (try with_reducible rfl))
        (try simp only [keepN_impl, Act.put, List.setIfInBounds_toArray, List.set_cons_zero, List.set_cons_succ])
        refine PrintLast.take_ (i := 6) (N := some 28) (v := ?_) #[true, true, true, true, true, true, true, false, false, false, false, false, false, false, false, false, false, false, false, false] rfl rfl (by kernel_rfl) (fun _ _ _ h => h) (Or.inl ⟨by rfl, ?_⟩) HH rfl ?_
        rotate_left 1
        · (intro w hSw; (try dsimp only at hSw); go_simp; (try with_reducible rfl))
        (try simp only [keepN_impl, Act.put, List.setIfInBounds_toArray, List.set_cons_zero, List.set_cons_succ])
        refine PrintLast.pure_ (i := 7) (N := some 29) (v := ?_) #[true, true, true, true, true, true, true, true, false, false, false, false, false, false, false, false, false, false, false, false] rfl rfl (by kernel_rfl) (fun _ _ _ h => h) (Or.inl ⟨by rfl, ?_⟩) rfl ?_
        rotate_left 1
        · (intro w; go_simp; (try with_reducible rfl))
        (try simp only [keepN_impl, Act.put, List.setIfInBounds_toArray, List.set_cons_zero, List.set_cons_succ])
        refine PrintLast.take_ (i := 8) (N := some 30) (v := ?_) #[true, true, true, true, true, true, true, true, true, false, false, false, false, false, false, false, false, false, false, false] rfl rfl (by kernel_rfl) (fun _ _ _ h => h) (Or.inl ⟨by rfl, ?_⟩) HH rfl ?_
        rotate_left 1
        · (intro w hSw; (try dsimp only at hSw); go_simp; (try with_reducible rfl))
        (try simp only [keepN_impl, Act.put, List.setIfInBounds_toArray, List.set_cons_zero, List.set_cons_succ])
        refine PrintLast.pure_ (i := 9) (N := some 31) (v := ?_) #[true, true, true, true, true, true, true, true, true, true, false, false, false, false, false, false, false, false, false, false] rfl rfl (by kernel_rfl) (fun _ _ _ h => h) (Or.inl ⟨by rfl, ?_⟩) rfl ?_
        rotate_left 1
        · (intro w; go_simp; (try with_reducible rfl))
        (try simp only [keepN_impl, Act.put, List.setIfInBounds_toArray, List.set_cons_zero, List.set_cons_succ])
        refine PrintLast.pure_ (i := 10) (N := some 32) (v := ?_) #[true, true, true, true, true, true, true, true, true, true, true, false, false, false, false, false, false, false, false, false] rfl rfl (by kernel_rfl) (fun _ _ _ h => h) (Or.inl ⟨by rfl, ?_⟩) rfl ?_
        rotate_left 1
        · (intro w; go_simp; (try with_reducible rfl))
        (try simp only [keepN_impl, Act.put, List.setIfInBounds_toArray, List.set_cons_zero, List.set_cons_succ])
        refine PrintLast.take_ (i := 11) (N := some 33) (v := ?_) #[true, true, true, true, true, true, true, true, true, true, true, true, false, false, false, false, false, false, false, false] rfl rfl (by kernel_rfl) (fun _ _ _ h => h) (Or.inl ⟨by rfl, ?_⟩) HH rfl ?_
        rotate_left 1
        · (intro w hSw; (try dsimp only at hSw); go_simp; (try with_reducible rfl))
        (try simp only [keepN_impl, Act.put, List.setIfInBounds_toArray, List.set_cons_zero, List.set_cons_succ])
        refine PrintLast.pure_ (i := 12) (N := some 34) (v := ?_) #[true, true, true, true, true, true, true, true, true, true, true, true, true, false, false, false, false, false, false, false] rfl rfl (by kernel_rfl) (fun _ _ _ h => h) (Or.inl ⟨by rfl, ?_⟩) rfl ?_
        rotate_left 1
        · (intro w; go_simp; (try with_reducible rfl))
        (try simp only [keepN_impl, Act.put, List.setIfInBounds_toArray, List.set_cons_zero, List.set_cons_succ])
        refine PrintLast.pure_ (i := 13) (N := some 35) (v := ?_) #[true, true, true, true, true, true, true, true, true, true, true, true, true, true, false, false, false, false, false, false] rfl rfl (by kernel_rfl) (fun _ _ _ h => h) (Or.inl ⟨by rfl, ?_⟩) rfl ?_
        rotate_left 1
        · (intro w; go_simp; (try with_reducible rfl))
        (try simp only [keepN_impl, Act.put, List.setIfInBounds_toArray, List.set_cons_zero, List.set_cons_succ])
        refine PrintLast.pure_ (i := 14) (N := some 36) (v := ?_) #[true, true, true, true, true, true, true, true, true, true, true, true, true, true, true, false, false, false, false, false] rfl rfl (by kernel_rfl) (fun _ _ _ h => h) (Or.inl ⟨by rfl, ?_⟩) rfl ?_
        rotate_left 1
        · (intro w; go_simp; (try with_reducible rfl))
        (try simp only [keepN_impl, Act.put, List.setIfInBounds_toArray, List.set_cons_zero, List.set_cons_succ])
        refine PrintLast.pure_ (i := 15) (N := some 37) (v := ?_) #[true, true, true, true, true, true, true, true, true, true, true, true, true, true, true, true, false, false, false, false] rfl rfl (by kernel_rfl) (fun _ _ _ h => h) (Or.inl ⟨by rfl, ?_⟩) rfl ?_
        rotate_left 1
        · (intro w; go_simp; (try with_reducible rfl))
        (try simp only [keepN_impl, Act.put, List.setIfInBounds_toArray, List.set_cons_zero, List.set_cons_succ])
        refine PrintLast.pure_ (i := 16) (N := some 38) (v := ?_) #[true, true, true, true, true, true, true, true, true, true, true, true, true, true, true, true, true, false, false, false] rfl rfl (by kernel_rfl) (fun _ _ _ h => h) (Or.inl ⟨by rfl, ?_⟩) rfl ?_
        rotate_left 1
        · (intro w; go_simp; (try with_reducible rfl))
        (try simp only [keepN_impl, Act.put, List.setIfInBounds_toArray, List.set_cons_zero, List.set_cons_succ])
        refine PrintLast.pure_ (i := 17) (N := some 39) (v := ?_) #[true, true, true, true, true, true, true, true, true, true, true, true, true, true, true, true, true, true, false, false] rfl rfl (by kernel_rfl) (fun _ _ _ h => h) (Or.inl ⟨by rfl, ?_⟩) rfl ?_
        rotate_left 1
        · (intro w; go_simp; (try with_reducible rfl))
        (try simp only [keepN_impl, Act.put, List.setIfInBounds_toArray, List.set_cons_zero, List.set_cons_succ])
        refine PrintLast.pure_ (i := 18) (N := some 40) (v := ?_) #[true, true, true, true, true, true, true, true, true, true, true, true, true, true, true, true, true, true, true, false] rfl rfl (by kernel_rfl) (fun _ _ _ h => h) (Or.inl ⟨by rfl, ?_⟩) rfl ?_
        rotate_left 1
        · (intro w; go_simp; (try with_reducible rfl))
        (try simp only [keepN_impl, Act.put, List.setIfInBounds_toArray, List.set_cons_zero, List.set_cons_succ])
        refine PrintLast.last_ (i := 19) (N := none) #[true, true, true, true, true, true, true, true, true, true, true, true, true, true, true, true, true, true, true, true] rfl rfl (by kernel_rfl) (by decide) (fun K hK => ?_)
        rw [if_pos (by rfl)]
        refine wp_of_list rfl ?_
        refine ev_put flatFile HS.out.drew 2 rfl rfl rfl 44 (.tmp 40) (.tmp 39) rfl j p1' (crashFile keep (rdFile l j)) rfl ?_ rfl sizeFile ?_
        · rfl
        intro w5 hs
        replace HS := Aside0.mk hs
        (try simp only [List.cons_append, List.nil_append, List.set_cons_zero, List.set_cons_succ, size_al, size_set] at HS); replace F := HS.out.facts; simp only [facts_cons, facts_nil, fact_box, fact_row, fact_gone, cellsAt_cons, cellsAt_nil, Nat.zero_add, Nat.reduceAdd, true_and, and_true] at F
        clear hs
        show K _ w5
        refine hK.out _ _ ?_
        clear hK K
        refine PrintLast.done_ (by kernel_rfl) ?_
        go_wp2
        go_roundw
        case rel => exact ⟨d, j + 1, by omega, by go_num, ⟨by rw [← HSET.out]; exact HS.out.pk [0, 1, 2, 3] (by decide)⟩⟩
        case measure => simp [intOf]; omega
end Go.Proofs.Ytbbeaghhchjkgaa.Dk
