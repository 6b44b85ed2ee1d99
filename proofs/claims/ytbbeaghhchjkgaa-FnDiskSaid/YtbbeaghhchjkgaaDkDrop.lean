/- A file dropped: the program and the reference. No condition. -/
import Derived.Test.YtbbeaghhchjkgaaDkDel
namespace Go.Proofs.Ytbbeaghhchjkgaa.Dk
open Go.RowKit Go.Proofs.YtbbeaghhchjkgaaW Go.Proofs.YtbbeaghhchjkgaaW.PrintWords Go.Proofs.Ytbbeaghhchjkgaa.Sp Go.Proofs.Ytbbeaghhchjkgaa.Ty Go.Proofs.Ytbbeaghhchjkgaa.Im Go.Proofs.Ytbbeaghhchjkgaa.Lw
set_option linter.unusedVariables false
set_option linter.unusedSimpArgs false
attribute [local go_sem ↓] Go.wp_at_zero Go.wp_at_succ
attribute [local go_sem] World.cell?_alloc_lt
/-- Files without the one at a place. -/
def lessFrom : List File → Nat → Int → List File
  | [], _, _ => []
  | x :: xs, j, p => (if (j : Int) ≠ p then [x] else []) ++ lessFrom xs (j + 1) p
theorem lessFrom_after : ∀ (l : List File) (j : Nat) (p : Int), p < j → lessFrom l j p = l
  | [], _, _, _ => rfl
  | x :: xs, j, p, h => by rw [lessFrom, if_pos (by omega), lessFrom_after xs (j + 1) p (by omega)]; rfl
theorem lessFrom_erase : ∀ (l : List File) (j i : Nat), lessFrom l j ((j + i : Nat) : Int) = l.eraseIdx i
  | [], _, _ => by simp [lessFrom]
  | x :: xs, j, 0 => by rw [lessFrom, if_neg (by simp), lessFrom_after xs (j + 1) _ (by omega)]; rfl
  | x :: xs, j, i + 1 => by
    rw [lessFrom, if_pos (by omega), show j + (i + 1) = j + 1 + i by omega, lessFrom_erase xs (j + 1) i]; rfl
theorem lessFrom_len : ∀ (l : List File) (j : Nat) (p : Int), (lessFrom l j p).length ≤ l.length
  | [], _, _ => by simp [lessFrom]
  | x :: xs, j, p => by
    have := lessFrom_len xs (j + 1) p
    rw [lessFrom, List.length_append, List.length_cons]
    have h2 := ite_len (p := (j : Int) ≠ p) x
    omega
def lessF (l : List File) (i : Nat) : List File := l.eraseIdx i
theorem drop_filter {l : List File} {name : Int} (h : okFrom l l.length 0 = true) (h0 : 0 ≤ fileAt l name) : l.filter (fun x => !(x.Name == name)) = l.eraseIdx (fileAt l name).toNat := by
  rcases fileAt_split l name with ⟨h1, _⟩ | ⟨pre, x, post, h1, h2, h3, h4⟩
  · omega
  · have hs := sorted_of_ok h
    rw [h4, Int.toNat_natCast]
    subst h1
    obtain ⟨s1, s2⟩ := sorted_pre hs
    rw [List.filter_append, List.filter_cons, List.filter_eq_self.2 (fun y hy => by have := h3 y hy; simpa using this), List.filter_eq_self.2 (fun y hy => by have := s2 y hy; simp; omega), List.eraseIdx_append_of_length_le (Nat.le_refl _), Nat.sub_self]
    simp [h2]
set_option maxRecDepth 100000 in
set_option maxHeartbeats 4000000 in
theorem spec_Less (room : Int) (A : Option Addr) (c : Nat) (l : List File) (p : Int) (w : World) (hr : Kd.C kFile w A l.length l) (hl : l.length ≤ 1048576) :
    Calls Try.prog 63 #[.agg #[.int .i64 room, .slice A l.length c], .int .i64 p] w fun e w' => ∃ v, e = .returned (.agg #[.int .i64 room, v]) ∧ Sep w w' [Ob.row kFile 44 v (lessFrom l 0 p)] := by
  have HR := Aside0.mk hr
  clear hr
  have hu := Try.underlying29
  have hu2 := Try.underlying44
  go_enter Try.func63, Try.ntmps63
  go_wp2
  have HS := ((((Sep.nil w).alloc #[.int .i64 room, .slice A l.length c] 29).alloc #[.int .i64 0, .slice none 0 0] 29).alloc #[.int .i64 room, .slice none 0 0] 29).add (Sep.none_ kFile 44 _)
  simp only [List.nil_append, List.cons_append, size_al] at HS
  replace HS := Aside0.mk HS
  go_loopw [6] (fun q wr => ∃ (d j : Nat) (B : Option Addr) (n e : Nat) (acc : List File), d + j = l.length ∧ q = .int .i64 j ∧ Aside0 (acc ++ lessFrom (l.drop j) j p = lessFrom l 0 p) ∧ Aside0 (Sep w wr [Ob.box w.heap.size #[.int .i64 room, .slice A l.length c] 29, Ob.box (w.heap.size + 1) #[.int .i64 0, .slice none 0 0] 29, Ob.box (w.heap.size + 1 + 1) #[.int .i64 room, .slice B n e] 29, Ob.row kFile 44 (.slice B n e) acc])) (fun q _ => l.length - (intOf q).toNat)
  case atStart => exact ⟨l.length, 0, none, 0, 0, [], rfl, rfl, ⟨rfl⟩, HS⟩
  case round =>
    clear HS
    obtain ⟨d, j, B, n, e, acc, hj, rfl, HD, HS⟩ := hrel
    have F := HS.out.facts
    simp only [facts_cons, facts_nil, fact_box, fact_row, fact_gone, cellsAt_cons, cellsAt_nil, Nat.zero_add, Nat.reduceAdd, true_and, and_true] at F
    have hacc : acc.length ≤ l.length := by
      have h1 := lessFrom_len l 0 p
      have h2 := congrArg List.length HD.out
      rw [List.length_append] at h2
      omega
    have HA := Aside0.mk hacc
    clear hacc
    cases d with
    | zero =>
      have hj : j = l.length := by omega
      subst hj
      have HD2 : Aside0 (acc = lessFrom l 0 p) := ⟨by have := HD.out; rwa [List.drop_length, lessFrom, List.append_nil] at this⟩
      go_wp2
      refine bodyPost_ret (v := .agg #[.int .i64 room, .slice B n e]) (by simp [results, Try.results63, F, go_sem]) rfl ⟨_, rfl, ?_⟩
      have := (((HS.out.set 1 rfl 0 (.int .i64 room)).set 1 rfl 1 (.slice B n e)).pk [3] (by decide))
      rw [← HD2.out]
      exact this
    | succ d =>
      obtain ⟨ad, rfl, x0, x1, x2⟩ := atFile (Kd.C_below HR.out HS.out.old) j (by omega)
      have p1 : j < l.length := by omega
      have hdrop : l.drop j = rdFile l j :: l.drop (j + 1) := by rw [List.drop_eq_getElem_cons p1, rdFile_eq p1]
      have HD2 : Aside0 (acc ++ ((if (j : Int) ≠ p then [rdFile l j] else []) ++ lessFrom (l.drop (j + 1)) (j + 1) p) = lessFrom l 0 p) := ⟨by rw [← HD.out, hdrop]; rfl⟩
      clear hdrop HD
      have HX : Aside0 (∀ W, Below w.heap.size w W → W.cell? (ad.add (j * 3)) = some (.int .i64 (rdFile l j).Name) ∧ W.cell? ⟨(ad.add (j * 3)).block, (ad.add (j * 3)).off + 1, none⟩ = some (.string (rdFile l j).Safe) ∧ W.cell? ⟨(ad.add (j * 3)).block, (ad.add (j * 3)).off + 2, none⟩ = some (.string (rdFile l j).Late)) :=
        ⟨fun W hW => by obtain ⟨ad', e, h⟩ := atFile (Kd.C_below HR.out hW) j p1; injection e with e; subst e; exact h⟩
      have p0 : (0 : Int) ≤ (j : Int) := by omega
      have p2 : (j : Int) < (l.length : Int) := by omega
      by_cases hne : (j : Int) = p
      · have c3 : ((j : Int) != p) = false := by simpa using hne
        have HNE := Aside0.mk hne
        clear hne
        go_wp2
        go_roundw
        case rel => exact ⟨d, j + 1, B, n, e, acc, by omega, by go_num, ⟨by rw [← HD2.out]; simp [HNE.out]⟩, HS⟩
        case measure => simp [intOf]; omega
      · have c3 : ((j : Int) != p) = true := by simpa using hne
        have HNE := Aside0.mk hne
        clear hne
        go_wp2
        refine PrintLast.start_ (ds := [10]) (S := (fun W => W.cell? (ad.add (j * 3)) = some (.int .i64 (rdFile l j).Name) ∧ W.cell? ⟨(ad.add (j * 3)).block, (ad.add (j * 3)).off + 1, none⟩ = some (.string (rdFile l j).Safe) ∧ W.cell? ⟨(ad.add (j * 3)).block, (ad.add (j * 3)).off + 2, none⟩ = some (.string (rdFile l j).Late) ∧ W.cell? ⟨w.heap.size, 1, none⟩ = some (.slice (some ad) l.length c) ∧ W.cell? ⟨w.heap.size + 1 + 1, 1, none⟩ = some (.slice B n e))) #[false, false, false, false, false, false, false, false, false, false, false] (by kernel_rfl) rfl rfl ⟨x0, x1, x2, F.1.2.2.1, F.2.2.2.2.1⟩ (fun HH => ?_)
        refine PrintLast.pure_ (i := 0) (N := some 20) (v := ?_) #[true, false, false, false, false, false, false, false, false, false, false] rfl rfl (by kernel_rfl) (fun _ _ _ h => h) (Or.inl ⟨by rfl, ?_⟩) rfl ?_
        rotate_left 1
        · (intro w; go_simp; (try with_reducible rfl))
        (try simp only [Act.put, List.setIfInBounds_toArray, List.set_cons_zero, List.set_cons_succ])
        refine PrintLast.take_ (i := 1) (N := some 21) (v := ?_) #[true, true, false, false, false, false, false, false, false, false, false] rfl rfl (by kernel_rfl) (fun _ _ _ h => h) (Or.inl ⟨by rfl, ?_⟩) HH rfl ?_
        rotate_left 1
        · (intro w hSw; (try dsimp only at hSw); go_simp; (try with_reducible rfl))
        (try simp only [Act.put, List.setIfInBounds_toArray, List.set_cons_zero, List.set_cons_succ])
        refine PrintLast.pure_ (i := 2) (N := some 22) (v := ?_) #[true, true, true, false, false, false, false, false, false, false, false] rfl rfl (by kernel_rfl) (fun _ _ _ h => h) (Or.inl ⟨by rfl, ?_⟩) rfl ?_
        rotate_left 1
        · (intro w; go_simp; (try with_reducible rfl))
        (try simp only [Act.put, List.setIfInBounds_toArray, List.set_cons_zero, List.set_cons_succ])
        refine PrintLast.take_ (i := 3) (N := some 23) (v := ?_) #[true, true, true, true, false, false, false, false, false, false, false] rfl rfl (by kernel_rfl) (fun _ _ _ h => h) (Or.inl ⟨by rfl, ?_⟩) HH rfl ?_
        rotate_left 1
        · (intro w hSw; (try dsimp only at hSw); go_simp; (try with_reducible rfl))
        (try simp only [Act.put, List.setIfInBounds_toArray, List.set_cons_zero, List.set_cons_succ])
        refine PrintLast.pure_ (i := 4) (N := some 24) (v := ?_) #[true, true, true, true, true, false, false, false, false, false, false] rfl rfl (by kernel_rfl) (fun _ _ _ h => h) (Or.inl ⟨by rfl, ?_⟩) rfl ?_
        rotate_left 1
        · (intro w; go_simp; (try with_reducible rfl))
        (try simp only [Act.put, List.setIfInBounds_toArray, List.set_cons_zero, List.set_cons_succ])
        refine PrintLast.pure_ (i := 5) (N := some 25) (v := ?_) #[true, true, true, true, true, true, false, false, false, false, false] rfl rfl (by kernel_rfl) (fun _ _ _ h => h) (Or.inl ⟨by rfl, ?_⟩) rfl ?_
        rotate_left 1
        · (intro w; go_simp; (try with_reducible rfl))
        (try simp only [Act.put, List.setIfInBounds_toArray, List.set_cons_zero, List.set_cons_succ])
        refine PrintLast.take_ (i := 6) (N := some 26) (v := ?_) #[true, true, true, true, true, true, true, false, false, false, false] rfl rfl (by kernel_rfl) (fun _ _ _ h => h) (Or.inl ⟨by rfl, ?_⟩) HH rfl ?_
        rotate_left 1
        · (intro w hSw; (try dsimp only at hSw); go_simp; (try with_reducible rfl))
        (try simp only [Act.put, List.setIfInBounds_toArray, List.set_cons_zero, List.set_cons_succ])
        refine PrintLast.one_ (i := 7) (N := some 27) #[true, true, true, true, true, true, true, true, false, false, false] rfl rfl (by kernel_rfl) (by decide) (fun K hK => ?_)
        go_simp
        refine hK.out _ _ (by first | exact ⟨x0, x1, x2, F.1.2.2.1, F.2.2.2.2.1⟩ | go_keep) (fun HH => ?_)
        clear hK K
        (try simp only [Act.put, List.setIfInBounds_toArray, List.set_cons_zero, List.set_cons_succ])
        refine PrintLast.one_ (i := 8) (N := some 28) #[true, true, true, true, true, true, true, true, true, false, false] rfl rfl (by kernel_rfl) (by decide) (fun K hK => ?_)
        refine ev_append_step flatFile HS.out.drew 3 rfl (by rfl) (.tmp 21) (.tmp 27) 27 _ _ (by rfl) Try.underlying27 infoFile rfl (by decide) (by decide) (rdFile l j) _ rfl (by rfl) (by rfl) (by have := HA.out; omega) ?_
        intro v7 w7 hs
        obtain ⟨B7, n7, e7, rfl⟩ := hs.form3 3 rfl
        replace HS := Aside0.mk hs
        (try simp only [List.cons_append, List.nil_append, List.set_cons_zero, List.set_cons_succ, size_al, size_set] at HS); replace F := HS.out.facts; simp only [facts_cons, facts_nil, fact_box, fact_row, fact_gone, cellsAt_cons, cellsAt_nil, Nat.zero_add, Nat.reduceAdd, true_and, and_true] at F
        obtain ⟨x0, x1, x2⟩ := HX.out _ HS.out.old
        clear hs
        refine hK.out _ _ (by first | exact ⟨x0, x1, x2, F.1.2.2.1, F.2.2.2.2.1⟩ | go_keep) (fun HH => ?_)
        clear hK K
        (try simp only [Act.put, List.setIfInBounds_toArray, List.set_cons_zero, List.set_cons_succ])
        refine PrintLast.pure_ (i := 9) (N := some 29) (v := ?_) #[true, true, true, true, true, true, true, true, true, true, false] rfl rfl (by kernel_rfl) (fun _ _ _ h => h) (Or.inl ⟨by rfl, ?_⟩) rfl ?_
        rotate_left 1
        · (intro w; go_simp; (try with_reducible rfl))
        (try simp only [Act.put, List.setIfInBounds_toArray, List.set_cons_zero, List.set_cons_succ])
        refine PrintLast.last_ (i := 10) (N := none) #[true, true, true, true, true, true, true, true, true, true, true] rfl rfl (by kernel_rfl) (by decide) (fun K hK => ?_)
        go_simp
        refine hK.out _ _ ?_
        clear hK K
        refine PrintLast.done_ (by kernel_rfl) ?_
        go_wp2
        go_roundw
        case rel => exact ⟨d, j + 1, B7, n7, e7, _, by omega, by go_num, ⟨by rw [← HD2.out]; simp [HNE.out]⟩, ⟨HS.out.set 2 rfl 1 (.slice B7 n7 e7)⟩⟩
        case measure => simp [intOf]; omega
def dropR (room : Int) (l : List File) (name : Int) : Told :=
  if atCode room l name = 0 then ⟨room, l.eraseIdx (fileAt l name).toNat, 0⟩ else refuse room l (atCode room l name)
theorem dropR_len (room : Int) (l : List File) (name : Int) : (dropR room l name).files.length ≤ l.length := by
  unfold dropR
  split
  · exact List.length_eraseIdx_le _ _
  · exact refuse_len room l _
set_option maxRecDepth 100000 in
set_option maxHeartbeats 1000000 in
theorem spec_Drop (room : Int) (A : Option Addr) (c : Nat) (l : List File) (name : Int) (w : World) (hr : Kd.C kFile w A l.length l) (hv : Small l) (hl : l.length ≤ 1048576) :
    Calls Try.prog 28 #[.agg #[.int .i64 room, .slice A l.length c], .int .i64 name] w fun e w' => ∃ v, e = .returned (.tuple #[.agg #[.int .i64 (dropR room l name).room, v], .int .i64 (dropR room l name).code]) ∧ Sep w w' [Ob.row kFile 44 v (dropR room l name).files] := by
  have HR := Aside0.mk hr
  have HV := Aside0.mk hv
  clear hr hv
  have hu := Try.underlying29
  have hu2 := Try.underlying44
  by_cases h : atCode room l name = 0
  · rw [show dropR room l name = ⟨room, l.eraseIdx (fileAt l name).toNat, 0⟩ from if_pos h]
    obtain ⟨hok, hf, h0, hat⟩ := at_done h
    obtain ⟨j, hj⟩ := Int.eq_ofNat_of_zero_le h0
    have HAT := Aside0.mk (hat.trans hj)
    have HC := Aside0.mk h
    rw [hj, Int.toNat_natCast]
    have HE := Aside0.mk (lessFrom_erase l 0 j)
    rw [Nat.zero_add] at HE
    clear hok hf h0 hat hj h
    go_enter Try.func28, Try.ntmps28
    go_wp2_with (first | (go_at_call 57; refine (spec_At room A c l name _ (Kd.C_alloc (Kd.C_alloc HR.out _) _) HV.out).mono ?_; rw [HAT.out, HC.out]; rintro e w2 ⟨rfl, hb⟩; have HS := Aside0.mk ((((Sep.nil w).alloc _ _).alloc _ _).below hb); have F := HS.out.facts; (try simp only [List.cons_append, List.nil_append, List.set_cons_zero, List.set_cons_succ, size_al, size_set] at HS); replace F := HS.out.facts; simp only [facts_cons, facts_nil, fact_box, fact_row, fact_gone, cellsAt_cons, cellsAt_nil, Nat.zero_add, Nat.reduceAdd, true_and, and_true] at F; clear hb) | (go_at_call 63; refine (spec_Less room A c l _ _ (Kd.C_below HR.out HS.out.old) hl).mono ?_; rw [HE.out]; rintro e w3 ⟨v, rfl, hs⟩; obtain ⟨B, n, d, rfl⟩ := hs.form3 0 rfl; replace HS := Aside0.mk (HS.out.add hs); (try simp only [List.cons_append, List.nil_append, List.set_cons_zero, List.set_cons_succ, size_al, size_set] at HS); replace F := HS.out.facts; simp only [facts_cons, facts_nil, fact_box, fact_row, fact_gone, cellsAt_cons, cellsAt_nil, Nat.zero_add, Nat.reduceAdd, true_and, and_true] at F; clear hs))
    refine bodyPost_ret (v := .tuple #[.agg #[.int .i64 room, .slice B n d], .int .i64 0]) (by simp [results, Try.results28, F, go_sem]) rfl ⟨_, rfl, ?_⟩
    exact (((HS.out.set 1 rfl 0 _).set 1 rfl 1 _).pk [2] (by decide))
  · rw [show dropR room l name = refuse room l (atCode room l name) from if_neg h]
    have c1 : (atCode room l name == 0) = false := by simpa using h
    have c2 : (atCode room l name != 0) = true := by simpa using h
    clear h
    go_enter Try.func28, Try.ntmps28
    go_wp2_with (first | (go_at_call 57; refine (spec_At room A c l name _ (Kd.C_alloc (Kd.C_alloc HR.out _) _) HV.out).mono ?_; rintro e w2 ⟨rfl, hb⟩; have HS := Aside0.mk ((((Sep.nil w).alloc _ _).alloc _ _).below hb); have F := HS.out.facts; (try simp only [List.cons_append, List.nil_append, List.set_cons_zero, List.set_cons_succ, size_al, size_set] at HS); replace F := HS.out.facts; simp only [facts_cons, facts_nil, fact_box, fact_row, fact_gone, cellsAt_cons, cellsAt_nil, Nat.zero_add, Nat.reduceAdd, true_and, and_true] at F; clear hb) | (go_at_call 58; refine (spec_Refused room A c l _ _ (Kd.C_below HR.out HS.out.old) hl).mono ?_; rintro e w3 ⟨v, rfl, hs⟩; obtain ⟨B, n, d, rfl⟩ := hs.form3 0 rfl; replace HS := Aside0.mk (HS.out.add hs); (try simp only [List.cons_append, List.nil_append, List.set_cons_zero, List.set_cons_succ, size_al, size_set] at HS); replace F := HS.out.facts; simp only [facts_cons, facts_nil, fact_box, fact_row, fact_gone, cellsAt_cons, cellsAt_nil, Nat.zero_add, Nat.reduceAdd, true_and, and_true] at F; clear hs))
    refine bodyPost_ret (v := .tuple #[.agg #[.int .i64 (refused room l (atCode room l name)).1, .slice B n d], .int .i64 (atCode room l name)]) (by simp [results, Try.results28, F, go_sem]) rfl ⟨_, rfl, ?_⟩
    exact (((HS.out.set 1 rfl 0 _).set 1 rfl 1 _).pk [2] (by decide))
set_option maxRecDepth 100000 in
theorem drop_1 (x : File) (name : Int) (b : Nat) (W : World) (h : W.cell? ⟨b, 0, none⟩ = some (.int .i64 name)) : Calls Try.prog 98 (#[.agg (File.enc x).toArray] ++ #[.pointer (some ⟨b, 0, none⟩)]) W fun e w' => e = .returned (.bool (x.Name == name)) ∧ Below W.heap.size W w' := by
  obtain ⟨a0, a1, a2⟩ := x
  simp only [File.enc]
  have hu := Try.underlying44
  have n1 := World.block_lt_of_cell? _ _ h
  go_enter Try.func98, Try.ntmps98
  go_wp2
  go_ret
  exact ⟨rfl, by repeat (first | exact Below.refl _ _ | apply below_alloc)⟩
set_option maxRecDepth 100000 in
set_option maxHeartbeats 4000000 in
/-- d.drop(name): the disk's files are the row number ir, the disk the box number ib. -/
theorem impl_drop (w0 w : World) (L : List Ob) (ib ir gb : Nat) (hne : ib ≠ ir) (room : Int) (B : Option Addr) (cap : Nat) (l : List File) (name : Int) (hs : Sep w0 w L) (hib : L[ib]? = some (Ob.box gb #[.int .i64 room, .slice B l.length cap] 29)) (hir : L[ir]? = some (Ob.row kFile 44 (.slice B l.length cap) l)) (hl : l.length ≤ 1048576) :
    Calls Try.prog 64 #[.pointer (some ⟨gb, 0, none⟩), .int .i64 name] w fun e w' => e = .returned (.tuple #[]) ∧ ∃ m, Sep w0 w' ((L.set ir (Ob.row kFile 44 (.slice B m cap) (l.filter (fun x => !(x.Name == name))))).set ib (Ob.box gb #[.int .i64 room, .slice B m cap] 29)) := by
  have hirl := (List.getElem?_eq_some_iff.1 hir).1
  have hibl := (List.getElem?_eq_some_iff.1 hib).1
  have HS := Aside0.mk (hs.alloc #[.int .i64 name] 3)
  have HIB := Aside0.mk hib
  have HIR := Aside0.mk hir
  have hb1 : ∀ r, ((L ++ [Ob.box w.heap.size #[.int .i64 name] 3]).set ir r)[L.length]? = some (Ob.box w.heap.size #[.int .i64 name] 3) := fun r => by rw [List.getElem?_set_ne (by omega)]; exact get_last
  have hb2 : ∀ r, ((L ++ [Ob.box w.heap.size #[.int .i64 name] 3]).set ir r)[ib]? = some (Ob.box gb #[.int .i64 room, .slice B l.length cap] 29) := fun r => by rw [List.getElem?_set_ne (by omega), List.getElem?_append_left hibl]; exact hib
  have hb3 : (L ++ [Ob.box w.heap.size #[.int .i64 name] 3])[ir]? = some (Ob.row kFile 44 (.slice B l.length cap) l) := by rw [List.getElem?_append_left hirl]; exact hir
  have hb4 : (L ++ [Ob.box w.heap.size #[.int .i64 name] 3])[ib]? = some (Ob.box gb #[.int .i64 room, .slice B l.length cap] 29) := by rw [List.getElem?_append_left hibl]; exact hib
  have g1 : (w.alloc (.cells #[.int .i64 name] 3)).cell? ⟨gb, 1, none⟩ = some (.slice B l.length cap) := (HS.out.cells ib hb4).1 1
  have HB := Aside0.mk (And.intro hb1 (And.intro hb2 hb3))
  have hu := Try.underlying29
  clear hs hib hir hb1 hb2 hb3 hb4
  go_enter Try.func64, Try.ntmps64
  go_wp2_with (go_at_call 97; refine (DeleteFunc_File 98 #[.pointer (some ⟨w.heap.size, 0, none⟩)] (fun x => x.Name == name) (fun _ _ => rfl) w0 _ _ ir B cap l HS.out HB.out.2.2 hl (fun W xs x hW => drop_1 x name w.heap.size W ((hW.cells _ (HB.out.1 _)).1 0))).mono ?_; rintro e w3 ⟨m, rfl, hs⟩; have h1 := (hs.cells _ (HB.out.2.1 _)).1 1; have h2 := (hs.cells _ (HB.out.2.1 _)).2 1; replace h1 : w3.cell? ⟨gb, 1, none⟩ = some (.slice B l.length cap) := h1; replace HS := Aside0.mk hs; clear hs)
  refine ⟨rfl, .tuple #[], by simp [results, Try.results64, go_sem], rfl, m, ?_⟩
  have h := HS.out.set ib (HB.out.2.1 _) 1 (.slice B m cap)
  rw [List.set_append_left _ _ hirl, List.set_append_left _ _ (by rw [List.length_set]; exact hibl)] at h
  exact h.drop
set_option maxRecDepth 100000 in
set_option maxHeartbeats 4000000 in
theorem impl_Drop (room : Int) (A : Option Addr) (c : Nat) (l : List File) (name : Int) (w : World) (hr : Kd.C kFile w A l.length l) (hv : Small l) (hl : l.length ≤ 1048576) :
    Calls Try.prog 29 #[.agg #[.int .i64 room, .slice A l.length c], .int .i64 name] w fun e w' => ∃ v, e = .returned (.tuple #[.agg #[.int .i64 (dropR room l name).room, v], .int .i64 (dropR room l name).code]) ∧ Sep w w' [Ob.row kFile 44 v (dropR room l name).files] := by
  have HR := Aside0.mk hr
  have HV := Aside0.mk hv
  clear hr hv
  have hu := Try.underlying29
  have hu2 := Try.underlying44
  have bad : (diskOk room l && isFile name) = false → dropR room l name = ⟨0, [], 1⟩ := fun h => by
    rw [dropR, bad_code h, if_neg (by decide)]; rfl
  cases hb : diskOk room l
  · have HBB := Aside0.mk hb
    rw [bad (by rw [hb]; rfl)]
    clear hb bad
    go_enter Try.func29, Try.ntmps29
    go_wp2_with (go_at_call 16; refine (impl_DiskOk room A c l _ (Kd.C_alloc (Kd.C_alloc HR.out _) _) HV.out).mono ?_; rw [HBB.out]; rintro e w2 ⟨rfl, hb⟩; have HS := Aside0.mk (((((Sep.nil w).alloc _ _).alloc _ _).below hb).add (Sep.none_ kFile 44 _)); have F := HS.out.facts; (try simp only [List.cons_append, List.nil_append, List.set_cons_zero, List.set_cons_succ, size_al, size_set] at HS); replace F := HS.out.facts; simp only [facts_cons, facts_nil, fact_box, fact_row, fact_gone, cellsAt_cons, cellsAt_nil, Nat.zero_add, Nat.reduceAdd, true_and, and_true] at F; clear hb)
    refine bodyPost_ret (v := .tuple #[.agg #[.int .i64 0, .slice none 0 0], .int .i64 1]) (by simp [results, Try.results29, F, go_sem]) rfl ⟨_, rfl, ?_⟩
    exact (((HS.out.set 1 rfl 0 _).set 1 rfl 1 _).pk [2] (by decide))
  · cases hc : isFile name
    · have HBB := Aside0.mk hb
      have HCC := Aside0.mk hc
      rw [bad (by rw [hb, hc]; rfl)]
      clear hb hc bad
      go_enter Try.func29, Try.ntmps29
      go_wp2_with (first | (go_at_call 16; refine (impl_DiskOk room A c l _ (Kd.C_alloc (Kd.C_alloc HR.out _) _) HV.out).mono ?_; rw [HBB.out]; rintro e w2 ⟨rfl, hb⟩; have HS := Aside0.mk (((((Sep.nil w).alloc _ _).alloc _ _).below hb).add (Sep.none_ kFile 44 _)); have F := HS.out.facts; (try simp only [List.cons_append, List.nil_append, List.set_cons_zero, List.set_cons_succ, size_al, size_set] at HS); replace F := HS.out.facts; simp only [facts_cons, facts_nil, fact_box, fact_row, fact_gone, cellsAt_cons, cellsAt_nil, Nat.zero_add, Nat.reduceAdd, true_and, and_true] at F; clear hb) | (go_at_call 46; refine (impl_isFile _ _).mono ?_; rw [HCC.out]; rintro e w' ⟨rfl, ⟨nd, rfl⟩⟩; replace HS := Aside0.mk (HS.out.drewN nd); (try simp only [List.cons_append, List.nil_append, List.set_cons_zero, List.set_cons_succ, size_al, size_set] at HS); replace F := HS.out.facts; simp only [facts_cons, facts_nil, fact_box, fact_row, fact_gone, cellsAt_cons, cellsAt_nil, Nat.zero_add, Nat.reduceAdd, true_and, and_true] at F))
      refine bodyPost_ret (v := .tuple #[.agg #[.int .i64 0, .slice none 0 0], .int .i64 1]) (by simp [results, Try.results29, F, go_sem]) rfl ⟨_, rfl, ?_⟩
      exact (((HS.out.set 1 rfl 0 _).set 1 rfl 1 _).pk [2] (by decide))
    · have HBB := Aside0.mk hb
      have HCC := Aside0.mk hc
      clear bad
      have hok : okFrom l l.length 0 = true := by rw [diskOk, Bool.and_eq_true] at hb; exact hb.1
      have e2 : atCode room l name = if fileAt l name < 0 then 2 else 0 := if_pos (by rw [hb, hc]; decide)
      clear hb hc
      by_cases hn : fileAt l name < 0
      · rw [show dropR room l name = ⟨room, l, 2⟩ from by rw [dropR, e2, if_pos hn, if_neg (by decide)]; rfl]
        clear e2 hok
        have c1 : decide (fileAt l name < 0) = true := decide_eq_true hn
        clear hn
        go_enter Try.func29, Try.ntmps29
        go_wp2_with (first | (go_at_call 16; refine (impl_DiskOk room A c l _ (Kd.C_alloc (Kd.C_alloc HR.out _) _) HV.out).mono ?_; rw [HBB.out]; rintro e w2 ⟨rfl, hb⟩; have HS := Aside0.mk ((((Sep.nil w).alloc _ _).alloc _ _).below hb); have F := HS.out.facts; (try simp only [List.cons_append, List.nil_append, List.set_cons_zero, List.set_cons_succ, size_al, size_set] at HS); replace F := HS.out.facts; simp only [facts_cons, facts_nil, fact_box, fact_row, fact_gone, cellsAt_cons, cellsAt_nil, Nat.zero_add, Nat.reduceAdd, true_and, and_true] at F; clear hb) | (go_at_call 46; refine (impl_isFile _ _).mono ?_; rw [HCC.out]; rintro e w' ⟨rfl, ⟨nd, rfl⟩⟩; replace HS := Aside0.mk (HS.out.drewN nd); (try simp only [List.cons_append, List.nil_append, List.set_cons_zero, List.set_cons_succ, size_al, size_set] at HS); replace F := HS.out.facts; simp only [facts_cons, facts_nil, fact_box, fact_row, fact_gone, cellsAt_cons, cellsAt_nil, Nat.zero_add, Nat.reduceAdd, true_and, and_true] at F) | (go_at_call 54; refine (cloneDisk room A c l _ (Kd.C_below HR.out HS.out.old) hl).mono ?_; rintro e w3 ⟨v, rfl, hs⟩; obtain ⟨B, d, rfl, _, _⟩ := hs.reads 0 rfl; replace HS := Aside0.mk (HS.out.add hs); (try simp only [List.cons_append, List.nil_append, List.set_cons_zero, List.set_cons_succ, size_al, size_set] at HS); replace F := HS.out.facts; simp only [facts_cons, facts_nil, fact_box, fact_row, fact_gone, cellsAt_cons, cellsAt_nil, Nat.zero_add, Nat.reduceAdd, true_and, and_true] at F; clear hs) | (go_at_call 51; refine (impl_fileAt room A c l name _ (Kd.C_below HR.out (HS.out.alloc _ _).old)).mono ?_; rintro e w4 ⟨rfl, hb⟩; replace HS := Aside0.mk ((HS.out.alloc _ _).below hb); (try simp only [List.cons_append, List.nil_append, List.set_cons_zero, List.set_cons_succ, size_al, size_set] at HS); replace F := HS.out.facts; simp only [facts_cons, facts_nil, fact_box, fact_row, fact_gone, cellsAt_cons, cellsAt_nil, Nat.zero_add, Nat.reduceAdd, true_and, and_true] at F; clear hb))
        refine bodyPost_ret (v := .tuple #[.agg #[.int .i64 room, .slice B l.length d], .int .i64 2]) (by simp [results, Try.results29, F, go_sem]) rfl ⟨_, rfl, ?_⟩
        exact (((HS.out.set 1 rfl 0 _).set 1 rfl 1 _).pk [2] (by decide))
      · rw [show dropR room l name = ⟨room, l.filter (fun x => !(x.Name == name)), 0⟩ from by rw [dropR, e2, if_neg hn, if_pos rfl, drop_filter hok (by omega)]]
        clear e2 hok
        have c1 : decide (fileAt l name < 0) = false := decide_eq_false hn
        clear hn
        go_enter Try.func29, Try.ntmps29
        go_wp2_with (first | (go_at_call 16; refine (impl_DiskOk room A c l _ (Kd.C_alloc (Kd.C_alloc HR.out _) _) HV.out).mono ?_; rw [HBB.out]; rintro e w2 ⟨rfl, hb⟩; have HS := Aside0.mk ((((Sep.nil w).alloc _ _).alloc _ _).below hb); have F := HS.out.facts; (try simp only [List.cons_append, List.nil_append, List.set_cons_zero, List.set_cons_succ, size_al, size_set] at HS); replace F := HS.out.facts; simp only [facts_cons, facts_nil, fact_box, fact_row, fact_gone, cellsAt_cons, cellsAt_nil, Nat.zero_add, Nat.reduceAdd, true_and, and_true] at F; clear hb) | (go_at_call 46; refine (impl_isFile _ _).mono ?_; rw [HCC.out]; rintro e w' ⟨rfl, ⟨nd, rfl⟩⟩; replace HS := Aside0.mk (HS.out.drewN nd); (try simp only [List.cons_append, List.nil_append, List.set_cons_zero, List.set_cons_succ, size_al, size_set] at HS); replace F := HS.out.facts; simp only [facts_cons, facts_nil, fact_box, fact_row, fact_gone, cellsAt_cons, cellsAt_nil, Nat.zero_add, Nat.reduceAdd, true_and, and_true] at F) | (go_at_call 54; refine (cloneDisk room A c l _ (Kd.C_below HR.out HS.out.old) hl).mono ?_; rintro e w3 ⟨v, rfl, hs⟩; obtain ⟨B, d, rfl, _, _⟩ := hs.reads 0 rfl; replace HS := Aside0.mk (HS.out.add hs); (try simp only [List.cons_append, List.nil_append, List.set_cons_zero, List.set_cons_succ, size_al, size_set] at HS); replace F := HS.out.facts; simp only [facts_cons, facts_nil, fact_box, fact_row, fact_gone, cellsAt_cons, cellsAt_nil, Nat.zero_add, Nat.reduceAdd, true_and, and_true] at F; clear hs) | (go_at_call 51; refine (impl_fileAt room A c l name _ (Kd.C_below HR.out (HS.out.alloc _ _).old)).mono ?_; rintro e w4 ⟨rfl, hb⟩; replace HS := Aside0.mk ((HS.out.alloc _ _).below hb); (try simp only [List.cons_append, List.nil_append, List.set_cons_zero, List.set_cons_succ, size_al, size_set] at HS); replace F := HS.out.facts; simp only [facts_cons, facts_nil, fact_box, fact_row, fact_gone, cellsAt_cons, cellsAt_nil, Nat.zero_add, Nat.reduceAdd, true_and, and_true] at F; clear hb) | (go_at_call 64; refine (impl_drop w _ _ 3 2 w3.heap.size (by decide) room B d l name HS.out rfl rfl hl).mono ?_; rintro e w5 ⟨rfl, m, hs⟩; replace HS := Aside0.mk hs; (try simp only [List.cons_append, List.nil_append, List.set_cons_zero, List.set_cons_succ, size_al, size_set] at HS); replace F := HS.out.facts; simp only [facts_cons, facts_nil, fact_box, fact_row, fact_gone, cellsAt_cons, cellsAt_nil, Nat.zero_add, Nat.reduceAdd, true_and, and_true] at F; clear hs))
        refine bodyPost_ret (v := .tuple #[.agg #[.int .i64 room, .slice B m d], .int .i64 0]) (by simp [results, Try.results29, F, go_sem]) rfl ⟨_, rfl, ?_⟩
        exact (((HS.out.set 1 rfl 0 _).set 1 rfl 1 _).pk [2] (by decide))
end Go.Proofs.Ytbbeaghhchjkgaa.Dk
