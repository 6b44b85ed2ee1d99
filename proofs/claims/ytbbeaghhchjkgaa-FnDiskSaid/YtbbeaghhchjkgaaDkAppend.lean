/- Append to a file: the program. No condition. -/
import Derived.Test.YtbbeaghhchjkgaaDkAppS
namespace Go.Proofs.Ytbbeaghhchjkgaa.Dk
open Go.RowKit Go.Proofs.YtbbeaghhchjkgaaW Go.Proofs.YtbbeaghhchjkgaaW.PrintWords Go.Proofs.Ytbbeaghhchjkgaa.Sp Go.Proofs.Ytbbeaghhchjkgaa.Ty Go.Proofs.Ytbbeaghhchjkgaa.Im Go.Proofs.Ytbbeaghhchjkgaa.Lw
set_option linter.unusedVariables false
set_option linter.unusedSimpArgs false
attribute [local go_sem ↓] Go.wp_at_zero Go.wp_at_succ
attribute [local go_sem] World.cell?_alloc_lt
set_option maxRecDepth 100000 in
set_option maxHeartbeats 4000000 in
theorem impl_Append (room : Int) (A : Option Addr) (c : Nat) (l : List File) (name : Int) (s : ByteArray) (w : World) (hr : Kd.C kFile w A l.length l) (hv : Small l) (hl : l.length ≤ 1048576) (hz : s.size ≤ 1048576) :
    Calls Try.prog 33 #[.agg #[.int .i64 room, .slice A l.length c], .int .i64 name, .string s] w fun e w' => ∃ v, e = .returned (.tuple #[.agg #[.int .i64 (appendR room l name s).room, v], .int .i64 (appendR room l name s).code]) ∧ Sep w w' [Ob.row kFile 44 v (appendR room l name s).files] := by
  have HR := Aside0.mk hr
  have HV := Aside0.mk hv
  clear hr hv
  have hu := Try.underlying29
  have hu2 := Try.underlying44
  cases hb : diskOk room l
  · have HBB := Aside0.mk hb
    rw [show appendR room l name s = ⟨0, [], 1⟩ from if_neg (by rw [hb]; simp)]
    clear hb
    go_enter Try.func33, Try.ntmps33
    go_wp2_with (go_at_call 16; refine (impl_DiskOk room A c l _ (Kd.C_alloc (Kd.C_alloc HR.out _) _) HV.out).mono ?_; rw [HBB.out]; rintro e w2 ⟨rfl, hb⟩; have HS := Aside0.mk (((((Sep.nil w).alloc _ _).alloc _ _).below hb).add (Sep.none_ kFile 44 _)); have F := HS.out.facts; (try simp only [List.cons_append, List.nil_append, List.set_cons_zero, List.set_cons_succ, size_al, size_set] at HS); replace F := HS.out.facts; simp only [facts_cons, facts_nil, fact_box, fact_row, fact_gone, cellsAt_cons, cellsAt_nil, Nat.zero_add, Nat.reduceAdd, true_and, and_true] at F; clear hb)
    refine bodyPost_ret (v := .tuple #[.agg #[.int .i64 0, .slice none 0 0], .int .i64 1]) (by simp [results, Try.results33, F, go_sem]) rfl ⟨_, rfl, ?_⟩
    exact (((HS.out.set 1 rfl 0 _).set 1 rfl 1 _).pk [2] (by decide))
  · cases hc : isFile name
    · have HBB := Aside0.mk hb
      have HCC := Aside0.mk hc
      rw [show appendR room l name s = ⟨0, [], 1⟩ from if_neg (by rw [hb, hc]; decide)]
      clear hb hc
      go_enter Try.func33, Try.ntmps33
      go_wp2_with (first | (go_at_call 16; refine (impl_DiskOk room A c l _ (Kd.C_alloc (Kd.C_alloc HR.out _) _) HV.out).mono ?_; rw [HBB.out]; rintro e w2 ⟨rfl, hb⟩; have HS := Aside0.mk (((((Sep.nil w).alloc _ _).alloc _ _).below hb).add (Sep.none_ kFile 44 _)); have F := HS.out.facts; (try simp only [List.cons_append, List.nil_append, List.set_cons_zero, List.set_cons_succ, size_al, size_set] at HS); replace F := HS.out.facts; simp only [facts_cons, facts_nil, fact_box, fact_row, fact_gone, cellsAt_cons, cellsAt_nil, Nat.zero_add, Nat.reduceAdd, true_and, and_true] at F; clear hb) | (go_at_call 46; refine (impl_isFile _ _).mono ?_; rw [HCC.out]; rintro e w' ⟨rfl, ⟨nd, rfl⟩⟩; replace HS := Aside0.mk (HS.out.drewN nd); (try simp only [List.cons_append, List.nil_append, List.set_cons_zero, List.set_cons_succ, size_al, size_set] at HS); replace F := HS.out.facts; simp only [facts_cons, facts_nil, fact_box, fact_row, fact_gone, cellsAt_cons, cellsAt_nil, Nat.zero_add, Nat.reduceAdd, true_and, and_true] at F))
      refine bodyPost_ret (v := .tuple #[.agg #[.int .i64 0, .slice none 0 0], .int .i64 1]) (by simp [results, Try.results33, F, go_sem]) rfl ⟨_, rfl, ?_⟩
      exact (((HS.out.set 1 rfl 0 _).set 1 rfl 1 _).pk [2] (by decide))
    · have HBB := Aside0.mk hb
      have HCC := Aside0.mk hc
      obtain ⟨hr0, hr1, hr2⟩ := ok_room hb
      have hr3 := vol_nonneg l
      have hok : okFrom l l.length 0 = true := by rw [diskOk, Bool.and_eq_true] at hb; exact hb.1
      have hw : IntKind.i64.wrap (vol l + (s.size : Int)) = vol l + (s.size : Int) := by rw [IntKind.wrap_i64]; omega
      have hA : appendR room l name s = if room - vol l < s.size then ⟨room, l, 3⟩ else ⟨room, putF l (appFile l name s), 0⟩ := if_pos (by rw [hb, hc]; rfl)
      clear hb hc
      by_cases hfull : room - vol l < s.size
      · rw [show appendR room l name s = ⟨room, l, 3⟩ from hA.trans (if_pos hfull)]
        clear hA
        have c1 : decide (room < vol l + (s.size : Int)) = true := decide_eq_true (by omega)
        clear hfull hok
        go_enter Try.func33, Try.ntmps33
        go_wp2_with (first | (go_at_call 16; refine (impl_DiskOk room A c l _ (Kd.C_alloc (Kd.C_alloc HR.out _) _) HV.out).mono ?_; rw [HBB.out]; rintro e w2 ⟨rfl, hb⟩; have HS := Aside0.mk ((((Sep.nil w).alloc _ _).alloc _ _).below hb); have F := HS.out.facts; (try simp only [List.cons_append, List.nil_append, List.set_cons_zero, List.set_cons_succ, size_al, size_set] at HS); replace F := HS.out.facts; simp only [facts_cons, facts_nil, fact_box, fact_row, fact_gone, cellsAt_cons, cellsAt_nil, Nat.zero_add, Nat.reduceAdd, true_and, and_true] at F; clear hb) | (go_at_call 46; refine (impl_isFile _ _).mono ?_; rw [HCC.out]; rintro e w' ⟨rfl, ⟨nd, rfl⟩⟩; replace HS := Aside0.mk (HS.out.drewN nd); (try simp only [List.cons_append, List.nil_append, List.set_cons_zero, List.set_cons_succ, size_al, size_set] at HS); replace F := HS.out.facts; simp only [facts_cons, facts_nil, fact_box, fact_row, fact_gone, cellsAt_cons, cellsAt_nil, Nat.zero_add, Nat.reduceAdd, true_and, and_true] at F) | (go_at_call 54; refine (cloneDisk room A c l _ (Kd.C_below HR.out HS.out.old) hl).mono ?_; rintro e w3 ⟨v, rfl, hs⟩; obtain ⟨B, d, rfl, _, _⟩ := hs.reads 0 rfl; replace HS := Aside0.mk (HS.out.add hs); (try simp only [List.cons_append, List.nil_append, List.set_cons_zero, List.set_cons_succ, size_al, size_set] at HS); replace F := HS.out.facts; simp only [facts_cons, facts_nil, fact_box, fact_row, fact_gone, cellsAt_cons, cellsAt_nil, Nat.zero_add, Nat.reduceAdd, true_and, and_true] at F; clear hs))
        replace HS := Aside0.mk (HS.out.alloc #[.int .i64 room, .slice B l.length d] 29)
        generalize hW_ : w3.alloc _ = w4 at HS ⊢
        clear hW_
        (try simp only [List.cons_append, List.nil_append, List.set_cons_zero, List.set_cons_succ, size_al, size_set] at HS); replace F := HS.out.facts; simp only [facts_cons, facts_nil, fact_box, fact_row, fact_gone, cellsAt_cons, cellsAt_nil, Nat.zero_add, Nat.reduceAdd, true_and, and_true] at F
        go_region_held3 (fun W => W.cell? ⟨w.heap.size, 0, none⟩ = some (.int .i64 room) ∧ W.cell? ⟨w.heap.size, 1, none⟩ = some (.slice A l.length c)) (first | go_keep | exact ⟨F.1.2.1.1, F.1.2.2.1⟩) (first | (go_at_call 48; refine (impl_usedRoom room A c l _ (Kd.C_below HR.out HS.out.drew.old) HV.out).mono ?_; rintro e w5 ⟨rfl, hb⟩; replace HS := Aside0.mk (HS.out.drew.below hb); (try simp only [List.cons_append, List.nil_append, List.set_cons_zero, List.set_cons_succ, size_al, size_set] at HS); replace F := HS.out.facts; simp only [facts_cons, facts_nil, fact_box, fact_row, fact_gone, cellsAt_cons, cellsAt_nil, Nat.zero_add, Nat.reduceAdd, true_and, and_true] at F; clear hb))
        go_wp2
        refine bodyPost_ret (v := .tuple #[.agg #[.int .i64 room, .slice B l.length d], .int .i64 3]) (by simp [results, Try.results33, F, go_sem]) rfl ⟨_, rfl, ?_⟩
        exact (((HS.out.set 1 rfl 0 _).set 1 rfl 1 _).pk [2] (by decide))
      · rw [show appendR room l name s = ⟨room, putF l (appFile l name s), 0⟩ from hA.trans (if_neg hfull)]
        clear hA
        have c1 : decide (room < vol l + (s.size : Int)) = false := decide_eq_false (by omega)
        clear hfull
        by_cases hn : fileAt l name < 0
        · obtain ⟨f0, hf0⟩ : ∃ f0 : File, f0 = ⟨name, ⟨#[]⟩, ⟨#[]⟩⟩ := ⟨_, rfl⟩
          have hno : ∀ x ∈ l, x.Name ≠ name := by
            rcases fileAt_split l name with ⟨_, h⟩ | ⟨pre, x, post, h1, h2, h3, h4⟩
            · exact h
            · omega
          obtain ⟨k1, k2, k3, k4⟩ := fileAt_putAt l f0
          obtain ⟨a2, ha2⟩ : ∃ a2 : ByteArray, a2 = ⟨#[]⟩ := ⟨_, rfl⟩
          have hput : putF l (appFile l name s) = (putAt l f0).set (lowK l f0) ⟨name, a2, a2 ++ s⟩ := by
            rw [ha2, k4 ⟨name, ⟨#[]⟩, ⟨#[]⟩ ++ s⟩ (by rw [hf0]), appFile, if_pos hn]
            exact putF_none hno
          have hx : rdFile (putAt l f0) (lowK l f0) = ⟨name, a2, a2⟩ := by rw [k3, hf0, ha2]
          rw [hput]
          rw [show f0.Name = name by rw [hf0]] at k1
          obtain ⟨l2, hl2⟩ : ∃ l2, putAt l f0 = l2 := ⟨_, rfl⟩
          obtain ⟨k, hkk⟩ : ∃ k, lowK l f0 = k := ⟨_, rfl⟩
          rw [hl2, hkk] at hx k1 k2
          rw [hl2, hkk]
          have HK := Aside0.mk k1
          have hk := k2
          have HX := Aside0.mk hx
          have HF0 := Aside0.mk hf0
          have HL2 := Aside0.mk hl2
          have HLEN : Aside0 (l2.length = l.length + 1) := ⟨by rw [← hl2, putAt_len]⟩
          have hcat : ¬ 9223372036854775807 < a2.size + s.size := by rw [ha2]; show ¬ 9223372036854775807 < 0 + s.size; omega
          have c2 : decide (fileAt l name < 0) = true := decide_eq_true hn
          have p0 : (0 : Int) ≤ (k : Int) := by omega
          have p2 : (k : Int) < (l2.length : Int) := by omega
          clear hn hput hx k1 k2 k3 k4 hf0 hl2 hno hkk ha2 hok
          go_enter Try.func33, Try.ntmps33
          go_wp2_with (first | (go_at_call 16; refine (impl_DiskOk room A c l _ (Kd.C_alloc (Kd.C_alloc HR.out _) _) HV.out).mono ?_; rw [HBB.out]; rintro e w2 ⟨rfl, hb⟩; have HS := Aside0.mk ((((Sep.nil w).alloc _ _).alloc _ _).below hb); have F := HS.out.facts; (try simp only [List.cons_append, List.nil_append, List.set_cons_zero, List.set_cons_succ, size_al, size_set] at HS); replace F := HS.out.facts; simp only [facts_cons, facts_nil, fact_box, fact_row, fact_gone, cellsAt_cons, cellsAt_nil, Nat.zero_add, Nat.reduceAdd, true_and, and_true] at F; clear hb) | (go_at_call 46; refine (impl_isFile _ _).mono ?_; rw [HCC.out]; rintro e w' ⟨rfl, ⟨nd, rfl⟩⟩; replace HS := Aside0.mk (HS.out.drewN nd); (try simp only [List.cons_append, List.nil_append, List.set_cons_zero, List.set_cons_succ, size_al, size_set] at HS); replace F := HS.out.facts; simp only [facts_cons, facts_nil, fact_box, fact_row, fact_gone, cellsAt_cons, cellsAt_nil, Nat.zero_add, Nat.reduceAdd, true_and, and_true] at F) | (go_at_call 54; refine (cloneDisk room A c l _ (Kd.C_below HR.out HS.out.old) hl).mono ?_; rintro e w3 ⟨v, rfl, hs⟩; obtain ⟨B, d, rfl, _, _⟩ := hs.reads 0 rfl; replace HS := Aside0.mk (HS.out.add hs); (try simp only [List.cons_append, List.nil_append, List.set_cons_zero, List.set_cons_succ, size_al, size_set] at HS); replace F := HS.out.facts; simp only [facts_cons, facts_nil, fact_box, fact_row, fact_gone, cellsAt_cons, cellsAt_nil, Nat.zero_add, Nat.reduceAdd, true_and, and_true] at F; clear hs))
          replace HS := Aside0.mk (HS.out.alloc #[.int .i64 room, .slice B l.length d] 29)
          generalize hW_ : w3.alloc _ = w4 at HS ⊢
          clear hW_
          (try simp only [List.cons_append, List.nil_append, List.set_cons_zero, List.set_cons_succ, size_al, size_set] at HS); replace F := HS.out.facts; simp only [facts_cons, facts_nil, fact_box, fact_row, fact_gone, cellsAt_cons, cellsAt_nil, Nat.zero_add, Nat.reduceAdd, true_and, and_true] at F
          go_region_held3 (fun W => W.cell? ⟨w.heap.size, 0, none⟩ = some (.int .i64 room) ∧ W.cell? ⟨w.heap.size, 1, none⟩ = some (.slice A l.length c)) (first | go_keep | exact ⟨F.1.2.1.1, F.1.2.2.1⟩) (first | (go_at_call 48; refine (impl_usedRoom room A c l _ (Kd.C_below HR.out HS.out.drew.old) HV.out).mono ?_; rintro e w5 ⟨rfl, hb⟩; replace HS := Aside0.mk (HS.out.drew.below hb); (try simp only [List.cons_append, List.nil_append, List.set_cons_zero, List.set_cons_succ, size_al, size_set] at HS); replace F := HS.out.facts; simp only [facts_cons, facts_nil, fact_box, fact_row, fact_gone, cellsAt_cons, cellsAt_nil, Nat.zero_add, Nat.reduceAdd, true_and, and_true] at F; clear hb))
          go_wp2_with (first | (go_at_call 51; refine (impl_fileAt room A c l name _ (Kd.C_below HR.out HS.out.old)).mono ?_; rintro e w6 ⟨rfl, hb⟩; replace HS := Aside0.mk (HS.out.below hb); (try simp only [List.cons_append, List.nil_append, List.set_cons_zero, List.set_cons_succ, size_al, size_set] at HS); replace F := HS.out.facts; simp only [facts_cons, facts_nil, fact_box, fact_row, fact_gone, cellsAt_cons, cellsAt_nil, Nat.zero_add, Nat.reduceAdd, true_and, and_true] at F; clear hb) | (go_at_call 66; refine (impl_put w _ _ 3 2 w3.heap.size (by decide) room B d l ⟨name, ⟨#[]⟩, ⟨#[]⟩⟩ HS.out rfl rfl hl).mono ?_; rintro e w7 ⟨rfl, B2, d2, hs⟩; rw [← HF0.out, ← putAt_len l f0, HL2.out] at hs; replace HS := Aside0.mk hs; (try simp only [List.cons_append, List.nil_append, List.set_cons_zero, List.set_cons_succ, size_al, size_set] at HS); replace F := HS.out.facts; simp only [facts_cons, facts_nil, fact_box, fact_row, fact_gone, cellsAt_cons, cellsAt_nil, Nat.zero_add, Nat.reduceAdd, true_and, and_true] at F; clear hs))
          obtain ⟨g, cap_, hv⟩ := HS.out.form 2 rfl (Nat.lt_of_le_of_lt (Nat.zero_le _) hk)
          injection hv with hv1 hv2 hv3
          subst hv1 hv3
          obtain ⟨ad, e_, _, _, x2⟩ := atFile (HS.out.C 2 rfl) k hk
          injection e_ with e_
          subst e_
          simp only [Addr.add_lit, Nat.zero_add, HX.out] at x2
          refine PrintLast.start_ (ds := [12]) (S := (fun W => W.cell? ⟨w3.heap.size, 0, none⟩ = some (.int .i64 room) ∧ W.cell? ⟨w3.heap.size, 1, none⟩ = some (.slice (some ⟨g, 0, none⟩) l2.length d2) ∧ W.cell? ⟨g, k * 3 + 2, none⟩ = some (.string a2))) #[false, false, false, false, false, false, false, false, false, false, false, false, false] (by kernel_rfl) rfl rfl ⟨F.2.2.2.1.1, F.2.2.2.2.1, x2⟩ (fun HH => ?_)
          refine PrintLast.pure_ (i := 0) (N := some 36) (v := ?_) #[true, false, false, false, false, false, false, false, false, false, false, false, false] rfl rfl (by kernel_rfl) (fun _ _ _ h => h) (Or.inl ⟨by rfl, ?_⟩) rfl ?_
          rotate_left 1
          · (intro w; go_simp; (try with_reducible rfl))
          (try simp only [Act.put, List.setIfInBounds_toArray, List.set_cons_zero, List.set_cons_succ])
          refine PrintLast.take_ (i := 1) (N := some 37) (v := ?_) #[true, true, false, false, false, false, false, false, false, false, false, false, false] rfl rfl (by kernel_rfl) (fun _ _ _ h => h) (Or.inl ⟨by rfl, ?_⟩) HH rfl ?_
          rotate_left 1
          · (intro w hSw; (try dsimp only at hSw); go_simp; (try with_reducible rfl))
          (try simp only [Act.put, List.setIfInBounds_toArray, List.set_cons_zero, List.set_cons_succ])
          refine PrintLast.take_ (i := 2) (N := some 38) (v := ?_) #[true, true, true, false, false, false, false, false, false, false, false, false, false] rfl rfl (by kernel_rfl) (fun _ _ _ h => h) (Or.inl ⟨by rfl, ?_⟩) HH rfl ?_
          rotate_left 1
          · (intro w hSw; (try dsimp only at hSw); go_simp; (try with_reducible rfl))
          (try simp only [Act.put, List.setIfInBounds_toArray, List.set_cons_zero, List.set_cons_succ])
          refine PrintLast.pure_ (i := 3) (N := some 39) (v := ?_) #[true, true, true, true, false, false, false, false, false, false, false, false, false] rfl rfl (by kernel_rfl) (fun _ _ _ h => h) (Or.inl ⟨by rfl, ?_⟩) rfl ?_
          rotate_left 1
          · (intro w; go_simp; (try with_reducible rfl))
          (try simp only [Act.put, List.setIfInBounds_toArray, List.set_cons_zero, List.set_cons_succ])
          refine PrintLast.pure_ (i := 8) (N := some 44) (v := ?_) #[true, true, true, true, false, false, false, false, true, false, false, false, false] rfl rfl (by kernel_rfl) (fun _ _ _ h => h) (Or.inl ⟨by rfl, ?_⟩) rfl ?_
          rotate_left 1
          · (intro w; go_simp; (try with_reducible rfl))
          (try simp only [Act.put, List.setIfInBounds_toArray, List.set_cons_zero, List.set_cons_succ])
          refine PrintLast.one_ (i := 4) (N := some 40) #[true, true, true, true, true, false, false, false, true, false, false, false, false] rfl rfl (by kernel_rfl) (by decide) (fun K hK => ?_)
          go_simp
          refine (impl_fileAt room _ d2 l2 name _ (HS.out.drew.C 2 rfl)).mono ?_
          rw [HK.out]
          rintro e w8 ⟨rfl, hb⟩
          replace HS := Aside0.mk (HS.out.drew.below hb)
          (try simp only [List.cons_append, List.nil_append, List.set_cons_zero, List.set_cons_succ, size_al, size_set] at HS); replace F := HS.out.facts; simp only [facts_cons, facts_nil, fact_box, fact_row, fact_gone, cellsAt_cons, cellsAt_nil, Nat.zero_add, Nat.reduceAdd, true_and, and_true] at F
          clear hb x2
          obtain ⟨ad', e_, _, _, x2⟩ := atFile (HS.out.C 2 rfl) k hk
          injection e_ with e_
          subst e_
          simp only [Addr.add_lit, Nat.zero_add, HX.out] at x2
          refine hK.out _ _ ⟨F.2.2.2.1.1, F.2.2.2.2.1, x2⟩ (fun HH => ?_)
          clear hK K
          (try simp only [Act.put, List.setIfInBounds_toArray, List.set_cons_zero, List.set_cons_succ])
          refine PrintLast.pure_ (i := 5) (N := some 41) (v := ?_) #[true, true, true, true, true, true, false, false, true, false, false, false, false] rfl rfl (by kernel_rfl) (fun _ _ _ h => h) (Or.inl ⟨by rfl, ?_⟩) rfl ?_
          rotate_left 1
          · (intro w; go_simp; (try with_reducible rfl))
          (try simp only [Act.put, List.setIfInBounds_toArray, List.set_cons_zero, List.set_cons_succ])
          refine PrintLast.pure_ (i := 6) (N := some 42) (v := ?_) #[true, true, true, true, true, true, true, false, true, false, false, false, false] rfl rfl (by kernel_rfl) (fun _ _ _ h => h) (Or.inl ⟨by rfl, ?_⟩) rfl ?_
          rotate_left 1
          · (intro w; go_simp; (try with_reducible rfl))
          (try simp only [Act.put, List.setIfInBounds_toArray, List.set_cons_zero, List.set_cons_succ])
          refine PrintLast.take_ (i := 7) (N := some 43) (v := ?_) #[true, true, true, true, true, true, true, true, true, false, false, false, false] rfl rfl (by kernel_rfl) (fun _ _ _ h => h) (Or.inl ⟨by rfl, ?_⟩) HH rfl ?_
          rotate_left 1
          · (intro w hSw; (try dsimp only at hSw); go_simp; (try with_reducible rfl))
          (try simp only [Act.put, List.setIfInBounds_toArray, List.set_cons_zero, List.set_cons_succ])
          refine PrintLast.pure_ (i := 9) (N := some 45) (v := ?_) #[true, true, true, true, true, true, true, true, true, true, false, false, false] rfl rfl (by kernel_rfl) (fun _ _ _ h => h) (Or.inl ⟨by rfl, ?_⟩) rfl ?_
          rotate_left 1
          · (intro w; go_simp; (try with_reducible rfl))
          (try simp only [Act.put, List.setIfInBounds_toArray, List.set_cons_zero, List.set_cons_succ])
          refine PrintLast.pure_ (i := 10) (N := some 46) (v := ?_) #[true, true, true, true, true, true, true, true, true, true, true, false, false] rfl rfl (by kernel_rfl) (fun _ _ _ h => h) (Or.inl ⟨by rfl, ?_⟩) rfl ?_
          rotate_left 1
          · (intro w; go_simp; (try with_reducible rfl))
          (try simp only [Act.put, List.setIfInBounds_toArray, List.set_cons_zero, List.set_cons_succ])
          refine PrintLast.pure_ (i := 11) (N := some 47) (v := ?_) #[true, true, true, true, true, true, true, true, true, true, true, true, false] rfl rfl (by kernel_rfl) (fun _ _ _ h => h) (Or.inl ⟨by rfl, ?_⟩) rfl ?_
          rotate_left 1
          · (intro w; go_simp; (try with_reducible rfl))
          (try simp only [Act.put, List.setIfInBounds_toArray, List.set_cons_zero, List.set_cons_succ])
          refine PrintLast.last_ (i := 12) (N := none) #[true, true, true, true, true, true, true, true, true, true, true, true, true] rfl rfl (by kernel_rfl) (by decide) (fun K hK => ?_)
          rw [if_pos (by rfl)]
          refine wp_of_list rfl ?_
          refine ev_field flatFile HS.out 2 rfl rfl rfl 9 (.tmp 47) (.tmp 45) rfl k 2 hk File.z ⟨name, a2, a2 ++ s⟩ (.string (a2 ++ s)) rfl ?_ rfl rfl rfl (by kernel_rfl) (by decide) ?_ ?_
          · rfl
          · have hx := HX.out
            unfold rdFile at hx
            rw [hx]
            rfl
          intro w9 hs
          replace HS := Aside0.mk hs
          (try simp only [List.cons_append, List.nil_append, List.set_cons_zero, List.set_cons_succ, size_al, size_set] at HS); replace F := HS.out.facts; simp only [facts_cons, facts_nil, fact_box, fact_row, fact_gone, cellsAt_cons, cellsAt_nil, Nat.zero_add, Nat.reduceAdd, true_and, and_true] at F
          clear hs
          show K _ w9
          refine hK.out _ _ ?_
          clear hK K
          refine PrintLast.done_ (by kernel_rfl) ?_
          go_wp2
          refine bodyPost_ret (v := .tuple #[.agg #[.int .i64 room, .slice (some ⟨g, 0, none⟩) l2.length d2], .int .i64 0]) (by simp [results, Try.results33, F, go_sem]) rfl ⟨_, rfl, ?_⟩
          exact (((HS.out.set 1 rfl 0 _).set 1 rfl 1 _).pk [2] (by decide))
        · obtain ⟨j, hj⟩ := Int.eq_ofNat_of_zero_le (show 0 ≤ fileAt l name by omega)
          rcases fileAt_range l name with h1 | ⟨_, h2, h3⟩
          · omega
          have hk : j < l.length := by omega
          rw [hj, Int.toNat_natCast] at h3
          have hsz := vol_at hk
          obtain ⟨X, hX⟩ : ∃ X, rdFile l j = X := ⟨_, rfl⟩
          have hput : putF l (appFile l name s) = l.set j ⟨X.Name, X.Safe, X.Late ++ s⟩ := by
            rw [put_set hok (by omega) (appFile l name s) (by rw [appFile, if_neg hn, hj, Int.toNat_natCast]; exact h3), appFile, if_neg hn, hj, Int.toNat_natCast, hX]
          rw [hput]
          rw [hX] at h3 hsz
          obtain ⟨a0, a1, a2⟩ := X
          dsimp only at h3 hsz ⊢
          have HK := Aside0.mk hj
          have HX := Aside0.mk hX
          have hcat : ¬ 9223372036854775807 < a2.size + s.size := by omega
          have p0 : (0 : Int) ≤ (j : Int) := by omega
          have p2 : (j : Int) < (l.length : Int) := by omega
          clear hn hput h2 h3 hok hj hX hsz
          go_enter Try.func33, Try.ntmps33
          go_wp2_with (first | (go_at_call 16; refine (impl_DiskOk room A c l _ (Kd.C_alloc (Kd.C_alloc HR.out _) _) HV.out).mono ?_; rw [HBB.out]; rintro e w2 ⟨rfl, hb⟩; have HS := Aside0.mk ((((Sep.nil w).alloc _ _).alloc _ _).below hb); have F := HS.out.facts; (try simp only [List.cons_append, List.nil_append, List.set_cons_zero, List.set_cons_succ, size_al, size_set] at HS); replace F := HS.out.facts; simp only [facts_cons, facts_nil, fact_box, fact_row, fact_gone, cellsAt_cons, cellsAt_nil, Nat.zero_add, Nat.reduceAdd, true_and, and_true] at F; clear hb) | (go_at_call 46; refine (impl_isFile _ _).mono ?_; rw [HCC.out]; rintro e w' ⟨rfl, ⟨nd, rfl⟩⟩; replace HS := Aside0.mk (HS.out.drewN nd); (try simp only [List.cons_append, List.nil_append, List.set_cons_zero, List.set_cons_succ, size_al, size_set] at HS); replace F := HS.out.facts; simp only [facts_cons, facts_nil, fact_box, fact_row, fact_gone, cellsAt_cons, cellsAt_nil, Nat.zero_add, Nat.reduceAdd, true_and, and_true] at F) | (go_at_call 54; refine (cloneDisk room A c l _ (Kd.C_below HR.out HS.out.old) hl).mono ?_; rintro e w3 ⟨v, rfl, hs⟩; obtain ⟨B, d, rfl, _, _⟩ := hs.reads 0 rfl; replace HS := Aside0.mk (HS.out.add hs); (try simp only [List.cons_append, List.nil_append, List.set_cons_zero, List.set_cons_succ, size_al, size_set] at HS); replace F := HS.out.facts; simp only [facts_cons, facts_nil, fact_box, fact_row, fact_gone, cellsAt_cons, cellsAt_nil, Nat.zero_add, Nat.reduceAdd, true_and, and_true] at F; clear hs))
          replace HS := Aside0.mk (HS.out.alloc #[.int .i64 room, .slice B l.length d] 29)
          generalize hW_ : w3.alloc _ = w4 at HS ⊢
          clear hW_
          (try simp only [List.cons_append, List.nil_append, List.set_cons_zero, List.set_cons_succ, size_al, size_set] at HS); replace F := HS.out.facts; simp only [facts_cons, facts_nil, fact_box, fact_row, fact_gone, cellsAt_cons, cellsAt_nil, Nat.zero_add, Nat.reduceAdd, true_and, and_true] at F
          go_region_held3 (fun W => W.cell? ⟨w.heap.size, 0, none⟩ = some (.int .i64 room) ∧ W.cell? ⟨w.heap.size, 1, none⟩ = some (.slice A l.length c)) (first | go_keep | exact ⟨F.1.2.1.1, F.1.2.2.1⟩) (first | (go_at_call 48; refine (impl_usedRoom room A c l _ (Kd.C_below HR.out HS.out.drew.old) HV.out).mono ?_; rintro e w5 ⟨rfl, hb⟩; replace HS := Aside0.mk (HS.out.drew.below hb); (try simp only [List.cons_append, List.nil_append, List.set_cons_zero, List.set_cons_succ, size_al, size_set] at HS); replace F := HS.out.facts; simp only [facts_cons, facts_nil, fact_box, fact_row, fact_gone, cellsAt_cons, cellsAt_nil, Nat.zero_add, Nat.reduceAdd, true_and, and_true] at F; clear hb))
          go_wp2_with (first | (go_at_call 51; refine (impl_fileAt room A c l name _ (Kd.C_below HR.out HS.out.old)).mono ?_; rw [HK.out]; rintro e w6 ⟨rfl, hb⟩; replace HS := Aside0.mk (HS.out.below hb); (try simp only [List.cons_append, List.nil_append, List.set_cons_zero, List.set_cons_succ, size_al, size_set] at HS); replace F := HS.out.facts; simp only [facts_cons, facts_nil, fact_box, fact_row, fact_gone, cellsAt_cons, cellsAt_nil, Nat.zero_add, Nat.reduceAdd, true_and, and_true] at F; clear hb))
          obtain ⟨g, cap_, hv⟩ := HS.out.form 2 rfl (Nat.lt_of_le_of_lt (Nat.zero_le _) hk)
          injection hv with hv1 hv2 hv3
          subst hv1 hv3
          obtain ⟨ad, e_, _, _, x2⟩ := atFile (HS.out.C 2 rfl) j hk
          injection e_ with e_
          subst e_
          simp only [Addr.add_lit, Nat.zero_add, HX.out] at x2
          refine PrintLast.start_ (ds := [12]) (S := (fun W => W.cell? ⟨w3.heap.size, 0, none⟩ = some (.int .i64 room) ∧ W.cell? ⟨w3.heap.size, 1, none⟩ = some (.slice (some ⟨g, 0, none⟩) l.length d) ∧ W.cell? ⟨g, j * 3 + 2, none⟩ = some (.string a2))) #[false, false, false, false, false, false, false, false, false, false, false, false, false] (by kernel_rfl) rfl rfl ⟨F.2.2.2.1.1, F.2.2.2.2.1, x2⟩ (fun HH => ?_)
          refine PrintLast.pure_ (i := 0) (N := some 36) (v := ?_) #[true, false, false, false, false, false, false, false, false, false, false, false, false] rfl rfl (by kernel_rfl) (fun _ _ _ h => h) (Or.inl ⟨by rfl, ?_⟩) rfl ?_
          rotate_left 1
          · (intro w; go_simp; (try with_reducible rfl))
          (try simp only [Act.put, List.setIfInBounds_toArray, List.set_cons_zero, List.set_cons_succ])
          refine PrintLast.take_ (i := 1) (N := some 37) (v := ?_) #[true, true, false, false, false, false, false, false, false, false, false, false, false] rfl rfl (by kernel_rfl) (fun _ _ _ h => h) (Or.inl ⟨by rfl, ?_⟩) HH rfl ?_
          rotate_left 1
          · (intro w hSw; (try dsimp only at hSw); go_simp; (try with_reducible rfl))
          (try simp only [Act.put, List.setIfInBounds_toArray, List.set_cons_zero, List.set_cons_succ])
          refine PrintLast.take_ (i := 2) (N := some 38) (v := ?_) #[true, true, true, false, false, false, false, false, false, false, false, false, false] rfl rfl (by kernel_rfl) (fun _ _ _ h => h) (Or.inl ⟨by rfl, ?_⟩) HH rfl ?_
          rotate_left 1
          · (intro w hSw; (try dsimp only at hSw); go_simp; (try with_reducible rfl))
          (try simp only [Act.put, List.setIfInBounds_toArray, List.set_cons_zero, List.set_cons_succ])
          refine PrintLast.pure_ (i := 3) (N := some 39) (v := ?_) #[true, true, true, true, false, false, false, false, false, false, false, false, false] rfl rfl (by kernel_rfl) (fun _ _ _ h => h) (Or.inl ⟨by rfl, ?_⟩) rfl ?_
          rotate_left 1
          · (intro w; go_simp; (try with_reducible rfl))
          (try simp only [Act.put, List.setIfInBounds_toArray, List.set_cons_zero, List.set_cons_succ])
          refine PrintLast.pure_ (i := 8) (N := some 44) (v := ?_) #[true, true, true, true, false, false, false, false, true, false, false, false, false] rfl rfl (by kernel_rfl) (fun _ _ _ h => h) (Or.inl ⟨by rfl, ?_⟩) rfl ?_
          rotate_left 1
          · (intro w; go_simp; (try with_reducible rfl))
          (try simp only [Act.put, List.setIfInBounds_toArray, List.set_cons_zero, List.set_cons_succ])
          refine PrintLast.one_ (i := 4) (N := some 40) #[true, true, true, true, true, false, false, false, true, false, false, false, false] rfl rfl (by kernel_rfl) (by decide) (fun K hK => ?_)
          go_simp
          refine (impl_fileAt room _ d l name _ (HS.out.drew.C 2 rfl)).mono ?_
          rw [HK.out]
          rintro e w8 ⟨rfl, hb⟩
          replace HS := Aside0.mk (HS.out.drew.below hb)
          (try simp only [List.cons_append, List.nil_append, List.set_cons_zero, List.set_cons_succ, size_al, size_set] at HS); replace F := HS.out.facts; simp only [facts_cons, facts_nil, fact_box, fact_row, fact_gone, cellsAt_cons, cellsAt_nil, Nat.zero_add, Nat.reduceAdd, true_and, and_true] at F
          clear hb x2
          obtain ⟨ad', e_, _, _, x2⟩ := atFile (HS.out.C 2 rfl) j hk
          injection e_ with e_
          subst e_
          simp only [Addr.add_lit, Nat.zero_add, HX.out] at x2
          refine hK.out _ _ ⟨F.2.2.2.1.1, F.2.2.2.2.1, x2⟩ (fun HH => ?_)
          clear hK K
          (try simp only [Act.put, List.setIfInBounds_toArray, List.set_cons_zero, List.set_cons_succ])
          refine PrintLast.pure_ (i := 5) (N := some 41) (v := ?_) #[true, true, true, true, true, true, false, false, true, false, false, false, false] rfl rfl (by kernel_rfl) (fun _ _ _ h => h) (Or.inl ⟨by rfl, ?_⟩) rfl ?_
          rotate_left 1
          · (intro w; go_simp; (try with_reducible rfl))
          (try simp only [Act.put, List.setIfInBounds_toArray, List.set_cons_zero, List.set_cons_succ])
          refine PrintLast.pure_ (i := 6) (N := some 42) (v := ?_) #[true, true, true, true, true, true, true, false, true, false, false, false, false] rfl rfl (by kernel_rfl) (fun _ _ _ h => h) (Or.inl ⟨by rfl, ?_⟩) rfl ?_
          rotate_left 1
          · (intro w; go_simp; (try with_reducible rfl))
          (try simp only [Act.put, List.setIfInBounds_toArray, List.set_cons_zero, List.set_cons_succ])
          refine PrintLast.take_ (i := 7) (N := some 43) (v := ?_) #[true, true, true, true, true, true, true, true, true, false, false, false, false] rfl rfl (by kernel_rfl) (fun _ _ _ h => h) (Or.inl ⟨by rfl, ?_⟩) HH rfl ?_
          rotate_left 1
          · (intro w hSw; (try dsimp only at hSw); go_simp; (try with_reducible rfl))
          (try simp only [Act.put, List.setIfInBounds_toArray, List.set_cons_zero, List.set_cons_succ])
          refine PrintLast.pure_ (i := 9) (N := some 45) (v := ?_) #[true, true, true, true, true, true, true, true, true, true, false, false, false] rfl rfl (by kernel_rfl) (fun _ _ _ h => h) (Or.inl ⟨by rfl, ?_⟩) rfl ?_
          rotate_left 1
          · (intro w; go_simp; (try with_reducible rfl))
          (try simp only [Act.put, List.setIfInBounds_toArray, List.set_cons_zero, List.set_cons_succ])
          refine PrintLast.pure_ (i := 10) (N := some 46) (v := ?_) #[true, true, true, true, true, true, true, true, true, true, true, false, false] rfl rfl (by kernel_rfl) (fun _ _ _ h => h) (Or.inl ⟨by rfl, ?_⟩) rfl ?_
          rotate_left 1
          · (intro w; go_simp; (try with_reducible rfl))
          (try simp only [Act.put, List.setIfInBounds_toArray, List.set_cons_zero, List.set_cons_succ])
          refine PrintLast.pure_ (i := 11) (N := some 47) (v := ?_) #[true, true, true, true, true, true, true, true, true, true, true, true, false] rfl rfl (by kernel_rfl) (fun _ _ _ h => h) (Or.inl ⟨by rfl, ?_⟩) rfl ?_
          rotate_left 1
          · (intro w; go_simp; (try with_reducible rfl))
          (try simp only [Act.put, List.setIfInBounds_toArray, List.set_cons_zero, List.set_cons_succ])
          refine PrintLast.last_ (i := 12) (N := none) #[true, true, true, true, true, true, true, true, true, true, true, true, true] rfl rfl (by kernel_rfl) (by decide) (fun K hK => ?_)
          rw [if_pos (by rfl)]
          refine wp_of_list rfl ?_
          refine ev_field flatFile HS.out 2 rfl rfl rfl 9 (.tmp 47) (.tmp 45) rfl j 2 hk File.z ⟨a0, a1, a2 ++ s⟩ (.string (a2 ++ s)) rfl ?_ rfl rfl rfl (by kernel_rfl) (by decide) ?_ ?_
          · rfl
          · have hx := HX.out
            unfold rdFile at hx
            rw [hx]
            rfl
          intro w9 hs
          replace HS := Aside0.mk hs
          (try simp only [List.cons_append, List.nil_append, List.set_cons_zero, List.set_cons_succ, size_al, size_set] at HS); replace F := HS.out.facts; simp only [facts_cons, facts_nil, fact_box, fact_row, fact_gone, cellsAt_cons, cellsAt_nil, Nat.zero_add, Nat.reduceAdd, true_and, and_true] at F
          clear hs
          show K _ w9
          refine hK.out _ _ ?_
          clear hK K
          refine PrintLast.done_ (by kernel_rfl) ?_
          go_wp2
          refine bodyPost_ret (v := .tuple #[.agg #[.int .i64 room, .slice (some ⟨g, 0, none⟩) l.length d], .int .i64 0]) (by simp [results, Try.results33, F, go_sem]) rfl ⟨_, rfl, ?_⟩
          exact (((HS.out.set 1 rfl 0 _).set 1 rfl 1 _).pk [2] (by decide))
end Go.Proofs.Ytbbeaghhchjkgaa.Dk
