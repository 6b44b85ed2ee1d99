/- Files put into their places, and files left out: the reference. No condition. -/
import Derived.Test.YtbbeaghhchjkgaaDkCopy
import Derived.Test.YtbbeaghhchjkgaaWLast
namespace Go.Proofs.Ytbbeaghhchjkgaa.Dk
open Go.RowKit Go.Proofs.YtbbeaghhchjkgaaW Go.Proofs.YtbbeaghhchjkgaaW.PrintWords Go.Proofs.Ytbbeaghhchjkgaa.Sp Go.Proofs.Ytbbeaghhchjkgaa.Ty Go.Proofs.Ytbbeaghhchjkgaa.Im Go.Proofs.Ytbbeaghhchjkgaa.Lw
set_option linter.unusedVariables false
set_option linter.unusedSimpArgs false
attribute [local go_sem ↓] Go.wp_at_zero Go.wp_at_succ
attribute [local go_sem] World.cell?_alloc_lt
/-- Files with one more, or another one of its name (put: it is there already). -/
def putFrom (f : File) : List File → Bool → List File
  | [], put => if put = true then [] else [f]
  | x :: xs, put => (if put = false ∧ f.Name ≤ x.Name then [f] else []) ++ ((if x.Name ≠ f.Name then [x] else []) ++ putFrom f xs (put || decide (f.Name ≤ x.Name)))
def putF (l : List File) (f : File) : List File := putFrom f l false
theorem ite_len {p : Prop} [Decidable p] (a : File) : (if p then [a] else []).length ≤ 1 := by split <;> simp
theorem putFrom_len (f : File) : ∀ (l : List File) (put : Bool), (putFrom f l put).length ≤ 2 * l.length + 1
  | [], put => by unfold putFrom; split <;> simp
  | x :: xs, put => by
    have h1 := putFrom_len f xs (put || decide (f.Name ≤ x.Name))
    have h2 := ite_len (p := put = false ∧ f.Name ≤ x.Name) f
    have h3 := ite_len (p := x.Name ≠ f.Name) x
    rw [putFrom, List.length_append, List.length_append, List.length_cons]
    omega
set_option maxRecDepth 100000 in
set_option maxHeartbeats 2000000 in
theorem spec_Put (room : Int) (A : Option Addr) (c : Nat) (l : List File) (f : File) (w : World) (hr : Kd.C kFile w A l.length l) (hl : l.length ≤ 1048576) :
    Calls Try.prog 59 #[.agg #[.int .i64 room, .slice A l.length c], .agg (File.enc f).toArray] w fun e w' => ∃ v, e = .returned (.agg #[.int .i64 room, v]) ∧ Sep w w' [Ob.row kFile 44 v (putF l f)] := by
  have HR := Aside0.mk hr
  clear hr
  have hu := Try.underlying29
  have hu2 := Try.underlying44
  simp only [File.enc]
  go_enter Try.func59, Try.ntmps59
  go_wp2
  have HS := (((((Sep.nil w).alloc #[.int .i64 room, .slice A l.length c] 29).alloc #[.int .i64 f.Name, .string f.Safe, .string f.Late] 44).alloc #[.int .i64 0, .slice none 0 0] 29).alloc #[.int .i64 room, .slice none 0 0] 29).add (Sep.none_ kFile 44 _)
  simp only [List.nil_append, List.cons_append, size_al] at HS
  replace HS := Aside0.mk HS
  go_loopw [6, 7] (fun p q wr => ∃ (d j : Nat) (put : Bool) (B : Option Addr) (n e : Nat) (acc : List File), d + j = l.length ∧ q = .int .i64 j ∧ p = .bool put ∧ Aside0 (acc ++ putFrom f (l.drop j) put = putF l f) ∧ Aside0 (Sep w wr [Ob.box w.heap.size #[.int .i64 room, .slice A l.length c] 29, Ob.box (w.heap.size + 1) #[.int .i64 f.Name, .string f.Safe, .string f.Late] 44, Ob.box (w.heap.size + 1 + 1) #[.int .i64 0, .slice none 0 0] 29, Ob.box (w.heap.size + 1 + 1 + 1) #[.int .i64 room, .slice B n e] 29, Ob.row kFile 44 (.slice B n e) acc])) (fun _ q _ => l.length - (intOf q).toNat)
  case atStart => exact ⟨l.length, 0, false, none, 0, 0, [], rfl, rfl, rfl, ⟨rfl⟩, HS⟩
  case round =>
    clear HS
    obtain ⟨d, j, put, B, n, e, acc, hj, rfl, rfl, HD, HS⟩ := hrel
    have F := HS.out.facts
    simp only [facts_cons, facts_nil, fact_box, fact_row, fact_gone, cellsAt_cons, cellsAt_nil, Nat.zero_add, Nat.reduceAdd, true_and, and_true] at F
    have hacc : acc.length ≤ 2 * l.length + 1 := by
      have h1 := putFrom_len f l false
      have h2 := congrArg List.length HD.out
      rw [List.length_append] at h2
      unfold putF at h2
      omega
    have HA := Aside0.mk hacc
    clear hacc
    cases d with
    | zero =>
      have hj : j = l.length := by omega
      subst hj
      have HD2 : Aside0 (acc ++ putFrom f [] put = putF l f) := ⟨by have := HD.out; rwa [List.drop_length] at this⟩
      cases put
      · go_wp2_with (first | ((with_reducible refine gate_app (b := .append) (xs := #[.tmp 59, .tmp 61]) rfl ?_); at_builtin; refine ev_append flatFile HS.out 4 rfl rfl (.tmp 59) (.tmp 61) 27 _ _ rfl Try.underlying27 infoFile rfl (by decide) (by decide) f _ rfl rfl rfl (by have := HA.out; omega) ?_; intro v1 w1 hs; obtain ⟨B1, n1, e1, rfl⟩ := hs.form3 4 rfl; replace HS := Aside0.mk hs; (try simp only [List.cons_append, List.nil_append, List.set_cons_zero, List.set_cons_succ, size_al, size_set] at HS); replace F := HS.out.facts; simp only [facts_cons, facts_nil, fact_box, fact_row, fact_gone, cellsAt_cons, cellsAt_nil, Nat.zero_add, Nat.reduceAdd, true_and, and_true] at F; clear hs))
        refine bodyPost_ret (v := .agg #[.int .i64 room, .slice B1 n1 e1]) (by simp [results, Try.results59, F, go_sem]) rfl ⟨_, rfl, ?_⟩
        have := ((((HS.out.set 3 rfl 1 (.slice B1 n1 e1)).set 2 rfl 0 (.int .i64 room)).set 2 rfl 1 (.slice B1 n1 e1)).pk [4] (by decide))
        rw [← HD2.out]
        exact this
      · go_wp2
        refine bodyPost_ret (v := .agg #[.int .i64 room, .slice B n e]) (by simp [results, Try.results59, F, go_sem]) rfl ⟨_, rfl, ?_⟩
        have := (((HS.out.set 2 rfl 0 (.int .i64 room)).set 2 rfl 1 (.slice B n e)).pk [4] (by decide))
        rw [← HD2.out]
        simp only [putFrom, if_true, List.append_nil]
        exact this
    | succ d =>
      obtain ⟨ad, rfl, x0, x1, x2⟩ := atFile (Kd.C_below HR.out HS.out.old) j (by omega)
      have p1 : j < l.length := by omega
      have hdrop : l.drop j = rdFile l j :: l.drop (j + 1) := by rw [List.drop_eq_getElem_cons p1, rdFile_eq p1]
      have HD2 : Aside0 (acc ++ ((if put = false ∧ f.Name ≤ (rdFile l j).Name then [f] else []) ++ ((if (rdFile l j).Name ≠ f.Name then [rdFile l j] else []) ++ putFrom f (l.drop (j + 1)) (put || decide (f.Name ≤ (rdFile l j).Name)))) = putF l f) := ⟨by rw [← HD.out, hdrop]; rfl⟩
      clear hdrop HD
      have HX : Aside0 (∀ W, Below w.heap.size w W → W.cell? (ad.add (j * 3)) = some (.int .i64 (rdFile l j).Name) ∧ W.cell? ⟨(ad.add (j * 3)).block, (ad.add (j * 3)).off + 1, none⟩ = some (.string (rdFile l j).Safe) ∧ W.cell? ⟨(ad.add (j * 3)).block, (ad.add (j * 3)).off + 2, none⟩ = some (.string (rdFile l j).Late)) :=
        ⟨fun W hW => by obtain ⟨ad', e, h⟩ := atFile (Kd.C_below HR.out hW) j p1; injection e with e; subst e; exact h⟩
      have M : Aside0 ((ad.add (j * 3)).block ≠ w.heap.size + 1 + 1 + 1) := ⟨by have := World.block_lt_of_cell? w _ (HX.out w (Below.refl _ _)).1; omega⟩
      have M2 : Aside0 (w.heap.size ≠ w.heap.size + 1 + 1 + 1) := ⟨by omega⟩
      have p0 : (0 : Int) ≤ (j : Int) := by omega
      have p2 : (j : Int) < (l.length : Int) := by omega
      by_cases hge : f.Name ≤ (rdFile l j).Name
      · have c1 : decide (f.Name ≤ (rdFile l j).Name) = true := decide_eq_true hge
        have HGE := Aside0.mk hge
        clear hge
        by_cases hne : (rdFile l j).Name = f.Name
        · have c2 : ((rdFile l j).Name == f.Name) = true := by simpa using hne
          have c3 : ((rdFile l j).Name != f.Name) = false := by simpa using hne
          have HNE := Aside0.mk hne
          clear hne
          cases put
          · go_wp2
            go_quiet (fail)
            replace HS := Aside0.mk (HS.out.drewN nq)
            generalize hW_ : wr.drewN nq = w3 at HS ⊢
            clear hW_
            (try simp only [List.cons_append, List.nil_append, List.set_cons_zero, List.set_cons_succ, size_al, size_set] at HS); replace F := HS.out.facts; simp only [facts_cons, facts_nil, fact_box, fact_row, fact_gone, cellsAt_cons, cellsAt_nil, Nat.zero_add, Nat.reduceAdd, true_and, and_true] at F
            obtain ⟨x0, x1, x2⟩ := HX.out _ HS.out.old
            go_wp2_with (first | ((with_reducible refine gate_app (b := .append) (xs := #[.tmp 32, .tmp 34]) rfl ?_); at_builtin; refine ev_append flatFile HS.out 4 rfl rfl (.tmp 32) (.tmp 34) 27 _ _ rfl Try.underlying27 infoFile rfl (by decide) (by decide) f _ rfl rfl rfl (by have := HA.out; omega) ?_; intro v1 w1 hs; obtain ⟨B1, n1, e1, rfl⟩ := hs.form3 4 rfl; replace HS := Aside0.mk hs; (try simp only [List.cons_append, List.nil_append, List.set_cons_zero, List.set_cons_succ, size_al, size_set] at HS); replace F := HS.out.facts; simp only [facts_cons, facts_nil, fact_box, fact_row, fact_gone, cellsAt_cons, cellsAt_nil, Nat.zero_add, Nat.reduceAdd, true_and, and_true] at F; clear hs))
            replace HS := Aside0.mk (HS.out.set 3 rfl 1 (.slice B1 n1 e1))
            generalize hW_ : w1.setCell ⟨w.heap.size + 1 + 1 + 1, 1, none⟩ (.slice B1 n1 e1) = w4 at HS ⊢
            clear hW_
            simp only [List.setIfInBounds_toArray] at HS
            (try simp only [List.cons_append, List.nil_append, List.set_cons_zero, List.set_cons_succ, size_al, size_set] at HS); replace F := HS.out.facts; simp only [facts_cons, facts_nil, fact_box, fact_row, fact_gone, cellsAt_cons, cellsAt_nil, Nat.zero_add, Nat.reduceAdd, true_and, and_true] at F
            obtain ⟨x0, x1, x2⟩ := HX.out _ HS.out.old
            go_quiet (fail)
            replace HS := Aside0.mk (HS.out.drewN nq)
            generalize hW_ : w4.drewN nq = w5 at HS ⊢
            clear hW_
            (try simp only [List.cons_append, List.nil_append, List.set_cons_zero, List.set_cons_succ, size_al, size_set] at HS); replace F := HS.out.facts; simp only [facts_cons, facts_nil, fact_box, fact_row, fact_gone, cellsAt_cons, cellsAt_nil, Nat.zero_add, Nat.reduceAdd, true_and, and_true] at F
            obtain ⟨x0, x1, x2⟩ := HX.out _ HS.out.old
            go_wp2
            go_roundw
            case rel => exact ⟨d, j + 1, true, B1, n1, e1, _, by omega, by go_num, rfl, ⟨by rw [← HD2.out]; simp [HGE.out, HNE.out]⟩, HS⟩
            case measure => simp [intOf]; omega
          · go_wp2
            go_quiet (fail)
            replace HS := Aside0.mk (HS.out.drewN nq)
            generalize hW_ : wr.drewN nq = w3 at HS ⊢
            clear hW_
            (try simp only [List.cons_append, List.nil_append, List.set_cons_zero, List.set_cons_succ, size_al, size_set] at HS); replace F := HS.out.facts; simp only [facts_cons, facts_nil, fact_box, fact_row, fact_gone, cellsAt_cons, cellsAt_nil, Nat.zero_add, Nat.reduceAdd, true_and, and_true] at F
            obtain ⟨x0, x1, x2⟩ := HX.out _ HS.out.old
            go_wp2
            go_quiet (fail)
            replace HS := Aside0.mk (HS.out.drewN nq)
            generalize hW_ : w3.drewN nq = w5 at HS ⊢
            clear hW_
            (try simp only [List.cons_append, List.nil_append, List.set_cons_zero, List.set_cons_succ, size_al, size_set] at HS); replace F := HS.out.facts; simp only [facts_cons, facts_nil, fact_box, fact_row, fact_gone, cellsAt_cons, cellsAt_nil, Nat.zero_add, Nat.reduceAdd, true_and, and_true] at F
            obtain ⟨x0, x1, x2⟩ := HX.out _ HS.out.old
            go_wp2
            go_roundw
            case rel => exact ⟨d, j + 1, true, B, n, e, _, by omega, by go_num, rfl, ⟨by rw [← HD2.out]; simp [HGE.out, HNE.out]⟩, HS⟩
            case measure => simp [intOf]; omega
        · have c2 : ((rdFile l j).Name == f.Name) = false := by simpa using hne
          have c3 : ((rdFile l j).Name != f.Name) = true := by simpa using hne
          have HNE := Aside0.mk hne
          clear hne
          cases put
          · go_wp2
            go_quiet (fail)
            replace HS := Aside0.mk (HS.out.drewN nq)
            generalize hW_ : wr.drewN nq = w3 at HS ⊢
            clear hW_
            (try simp only [List.cons_append, List.nil_append, List.set_cons_zero, List.set_cons_succ, size_al, size_set] at HS); replace F := HS.out.facts; simp only [facts_cons, facts_nil, fact_box, fact_row, fact_gone, cellsAt_cons, cellsAt_nil, Nat.zero_add, Nat.reduceAdd, true_and, and_true] at F
            obtain ⟨x0, x1, x2⟩ := HX.out _ HS.out.old
            go_wp2_with (first | ((with_reducible refine gate_app (b := .append) (xs := #[.tmp 32, .tmp 34]) rfl ?_); at_builtin; refine ev_append flatFile HS.out 4 rfl rfl (.tmp 32) (.tmp 34) 27 _ _ rfl Try.underlying27 infoFile rfl (by decide) (by decide) f _ rfl rfl rfl (by have := HA.out; omega) ?_; intro v1 w1 hs; obtain ⟨B1, n1, e1, rfl⟩ := hs.form3 4 rfl; replace HS := Aside0.mk hs; (try simp only [List.cons_append, List.nil_append, List.set_cons_zero, List.set_cons_succ, size_al, size_set] at HS); replace F := HS.out.facts; simp only [facts_cons, facts_nil, fact_box, fact_row, fact_gone, cellsAt_cons, cellsAt_nil, Nat.zero_add, Nat.reduceAdd, true_and, and_true] at F; clear hs))
            replace HS := Aside0.mk (HS.out.set 3 rfl 1 (.slice B1 n1 e1))
            generalize hW_ : w1.setCell ⟨w.heap.size + 1 + 1 + 1, 1, none⟩ (.slice B1 n1 e1) = w4 at HS ⊢
            clear hW_
            simp only [List.setIfInBounds_toArray] at HS
            (try simp only [List.cons_append, List.nil_append, List.set_cons_zero, List.set_cons_succ, size_al, size_set] at HS); replace F := HS.out.facts; simp only [facts_cons, facts_nil, fact_box, fact_row, fact_gone, cellsAt_cons, cellsAt_nil, Nat.zero_add, Nat.reduceAdd, true_and, and_true] at F
            obtain ⟨x0, x1, x2⟩ := HX.out _ HS.out.old
            go_quiet (fail)
            replace HS := Aside0.mk (HS.out.drewN nq)
            generalize hW_ : w4.drewN nq = w5 at HS ⊢
            clear hW_
            (try simp only [List.cons_append, List.nil_append, List.set_cons_zero, List.set_cons_succ, size_al, size_set] at HS); replace F := HS.out.facts; simp only [facts_cons, facts_nil, fact_box, fact_row, fact_gone, cellsAt_cons, cellsAt_nil, Nat.zero_add, Nat.reduceAdd, true_and, and_true] at F
            obtain ⟨x0, x1, x2⟩ := HX.out _ HS.out.old
            go_wp2
            refine PrintLast.start_ (ds := [10]) (S := (fun W => W.cell? (ad.add (j * 3)) = some (.int .i64 (rdFile l j).Name) ∧ W.cell? ⟨(ad.add (j * 3)).block, (ad.add (j * 3)).off + 1, none⟩ = some (.string (rdFile l j).Safe) ∧ W.cell? ⟨(ad.add (j * 3)).block, (ad.add (j * 3)).off + 2, none⟩ = some (.string (rdFile l j).Late) ∧ W.cell? ⟨w.heap.size, 1, none⟩ = some (.slice (some ad) l.length c) ∧ W.cell? ⟨w.heap.size + 1 + 1 + 1, 1, none⟩ = some (.slice B1 n1 e1))) #[false, false, false, false, false, false, false, false, false, false, false] (by kernel_rfl) rfl rfl ⟨x0, x1, x2, F.1.2.2.1, F.2.2.2.2.2.1⟩ (fun HH => ?_)
            refine PrintLast.pure_ (i := 0) (N := some 46) (v := ?_) #[true, false, false, false, false, false, false, false, false, false, false] rfl rfl (by kernel_rfl) (fun _ _ _ h => h) (Or.inl ⟨by rfl, ?_⟩) rfl ?_
            rotate_left 1
            · (intro w; go_simp; (try with_reducible rfl))
            (try simp only [Act.put, List.setIfInBounds_toArray, List.set_cons_zero, List.set_cons_succ])
            refine PrintLast.take_ (i := 1) (N := some 47) (v := ?_) #[true, true, false, false, false, false, false, false, false, false, false] rfl rfl (by kernel_rfl) (fun _ _ _ h => h) (Or.inl ⟨by rfl, ?_⟩) HH rfl ?_
            rotate_left 1
            · (intro w hSw; (try dsimp only at hSw); go_simp; (try with_reducible rfl))
            (try simp only [Act.put, List.setIfInBounds_toArray, List.set_cons_zero, List.set_cons_succ])
            refine PrintLast.pure_ (i := 2) (N := some 48) (v := ?_) #[true, true, true, false, false, false, false, false, false, false, false] rfl rfl (by kernel_rfl) (fun _ _ _ h => h) (Or.inl ⟨by rfl, ?_⟩) rfl ?_
            rotate_left 1
            · (intro w; go_simp; (try with_reducible rfl))
            (try simp only [Act.put, List.setIfInBounds_toArray, List.set_cons_zero, List.set_cons_succ])
            refine PrintLast.take_ (i := 3) (N := some 49) (v := ?_) #[true, true, true, true, false, false, false, false, false, false, false] rfl rfl (by kernel_rfl) (fun _ _ _ h => h) (Or.inl ⟨by rfl, ?_⟩) HH rfl ?_
            rotate_left 1
            · (intro w hSw; (try dsimp only at hSw); go_simp; (try with_reducible rfl))
            (try simp only [Act.put, List.setIfInBounds_toArray, List.set_cons_zero, List.set_cons_succ])
            refine PrintLast.pure_ (i := 4) (N := some 50) (v := ?_) #[true, true, true, true, true, false, false, false, false, false, false] rfl rfl (by kernel_rfl) (fun _ _ _ h => h) (Or.inl ⟨by rfl, ?_⟩) rfl ?_
            rotate_left 1
            · (intro w; go_simp; (try with_reducible rfl))
            (try simp only [Act.put, List.setIfInBounds_toArray, List.set_cons_zero, List.set_cons_succ])
            refine PrintLast.pure_ (i := 5) (N := some 51) (v := ?_) #[true, true, true, true, true, true, false, false, false, false, false] rfl rfl (by kernel_rfl) (fun _ _ _ h => h) (Or.inl ⟨by rfl, ?_⟩) rfl ?_
            rotate_left 1
            · (intro w; go_simp; (try with_reducible rfl))
            (try simp only [Act.put, List.setIfInBounds_toArray, List.set_cons_zero, List.set_cons_succ])
            refine PrintLast.take_ (i := 6) (N := some 52) (v := ?_) #[true, true, true, true, true, true, true, false, false, false, false] rfl rfl (by kernel_rfl) (fun _ _ _ h => h) (Or.inl ⟨by rfl, ?_⟩) HH rfl ?_
            rotate_left 1
            · (intro w hSw; (try dsimp only at hSw); go_simp; (try with_reducible rfl))
            (try simp only [Act.put, List.setIfInBounds_toArray, List.set_cons_zero, List.set_cons_succ])
            refine PrintLast.one_ (i := 7) (N := some 53) #[true, true, true, true, true, true, true, true, false, false, false] rfl rfl (by kernel_rfl) (by decide) (fun K hK => ?_)
            go_simp
            refine hK.out _ _ (by first | exact ⟨x0, x1, x2, F.1.2.2.1, F.2.2.2.2.2.1⟩ | go_keep) (fun HH => ?_)
            clear hK K
            (try simp only [Act.put, List.setIfInBounds_toArray, List.set_cons_zero, List.set_cons_succ])
            refine PrintLast.one_ (i := 8) (N := some 54) #[true, true, true, true, true, true, true, true, true, false, false] rfl rfl (by kernel_rfl) (by decide) (fun K hK => ?_)
            refine ev_append_step flatFile HS.out.drew 4 rfl (by rfl) (.tmp 47) (.tmp 53) 27 _ _ (by rfl) Try.underlying27 infoFile rfl (by decide) (by decide) (rdFile l j) _ rfl (by rfl) (by rfl) (by have := HA.out; (try simp only [List.length_append, List.length_cons, List.length_nil]); omega) ?_; intro v7 w7 hs; obtain ⟨B7, n7, e7, rfl⟩ := hs.form3 4 rfl; replace HS := Aside0.mk hs; (try simp only [List.cons_append, List.nil_append, List.set_cons_zero, List.set_cons_succ, size_al, size_set] at HS); replace F := HS.out.facts; simp only [facts_cons, facts_nil, fact_box, fact_row, fact_gone, cellsAt_cons, cellsAt_nil, Nat.zero_add, Nat.reduceAdd, true_and, and_true] at F; obtain ⟨x0, x1, x2⟩ := HX.out _ HS.out.old; clear hs
            refine hK.out _ _ (by first | exact ⟨x0, x1, x2, F.1.2.2.1, F.2.2.2.2.2.1⟩ | go_keep) (fun HH => ?_)
            clear hK K
            (try simp only [Act.put, List.setIfInBounds_toArray, List.set_cons_zero, List.set_cons_succ])
            refine PrintLast.pure_ (i := 9) (N := some 55) (v := ?_) #[true, true, true, true, true, true, true, true, true, true, false] rfl rfl (by kernel_rfl) (fun _ _ _ h => h) (Or.inl ⟨by rfl, ?_⟩) rfl ?_
            rotate_left 1
            · (intro w; go_simp; (try with_reducible rfl))
            (try simp only [Act.put, List.setIfInBounds_toArray, List.set_cons_zero, List.set_cons_succ])
            refine PrintLast.last_ (i := 10) (N := none) #[true, true, true, true, true, true, true, true, true, true, true] rfl rfl (by kernel_rfl) (by decide) (fun K hK => ?_)
            go_simp
            refine hK.out _ _ ?_
            clear hK K
            refine PrintLast.done_ (by kernel_rfl) ?_
            go_wp2
            go_roundw
            case rel => exact ⟨d, j + 1, true, B7, n7, e7, _, by omega, by go_num, rfl, ⟨by rw [← HD2.out]; simp [HGE.out, HNE.out]⟩, ⟨HS.out.set 3 rfl 1 (.slice B7 n7 e7)⟩⟩
            case measure => simp [intOf]; omega
          · go_wp2
            go_quiet (fail)
            replace HS := Aside0.mk (HS.out.drewN nq)
            generalize hW_ : wr.drewN nq = w3 at HS ⊢
            clear hW_
            (try simp only [List.cons_append, List.nil_append, List.set_cons_zero, List.set_cons_succ, size_al, size_set] at HS); replace F := HS.out.facts; simp only [facts_cons, facts_nil, fact_box, fact_row, fact_gone, cellsAt_cons, cellsAt_nil, Nat.zero_add, Nat.reduceAdd, true_and, and_true] at F
            obtain ⟨x0, x1, x2⟩ := HX.out _ HS.out.old
            go_wp2
            go_quiet (fail)
            replace HS := Aside0.mk (HS.out.drewN nq)
            generalize hW_ : w3.drewN nq = w5 at HS ⊢
            clear hW_
            (try simp only [List.cons_append, List.nil_append, List.set_cons_zero, List.set_cons_succ, size_al, size_set] at HS); replace F := HS.out.facts; simp only [facts_cons, facts_nil, fact_box, fact_row, fact_gone, cellsAt_cons, cellsAt_nil, Nat.zero_add, Nat.reduceAdd, true_and, and_true] at F
            obtain ⟨x0, x1, x2⟩ := HX.out _ HS.out.old
            go_wp2
            refine PrintLast.start_ (ds := [10]) (S := (fun W => W.cell? (ad.add (j * 3)) = some (.int .i64 (rdFile l j).Name) ∧ W.cell? ⟨(ad.add (j * 3)).block, (ad.add (j * 3)).off + 1, none⟩ = some (.string (rdFile l j).Safe) ∧ W.cell? ⟨(ad.add (j * 3)).block, (ad.add (j * 3)).off + 2, none⟩ = some (.string (rdFile l j).Late) ∧ W.cell? ⟨w.heap.size, 1, none⟩ = some (.slice (some ad) l.length c) ∧ W.cell? ⟨w.heap.size + 1 + 1 + 1, 1, none⟩ = some (.slice B n e))) #[false, false, false, false, false, false, false, false, false, false, false] (by kernel_rfl) rfl rfl ⟨x0, x1, x2, F.1.2.2.1, F.2.2.2.2.2.1⟩ (fun HH => ?_)
            refine PrintLast.pure_ (i := 0) (N := some 46) (v := ?_) #[true, false, false, false, false, false, false, false, false, false, false] rfl rfl (by kernel_rfl) (fun _ _ _ h => h) (Or.inl ⟨by rfl, ?_⟩) rfl ?_
            rotate_left 1
            · (intro w; go_simp; (try with_reducible rfl))
            (try simp only [Act.put, List.setIfInBounds_toArray, List.set_cons_zero, List.set_cons_succ])
            refine PrintLast.take_ (i := 1) (N := some 47) (v := ?_) #[true, true, false, false, false, false, false, false, false, false, false] rfl rfl (by kernel_rfl) (fun _ _ _ h => h) (Or.inl ⟨by rfl, ?_⟩) HH rfl ?_
            rotate_left 1
            · (intro w hSw; (try dsimp only at hSw); go_simp; (try with_reducible rfl))
            (try simp only [Act.put, List.setIfInBounds_toArray, List.set_cons_zero, List.set_cons_succ])
            refine PrintLast.pure_ (i := 2) (N := some 48) (v := ?_) #[true, true, true, false, false, false, false, false, false, false, false] rfl rfl (by kernel_rfl) (fun _ _ _ h => h) (Or.inl ⟨by rfl, ?_⟩) rfl ?_
            rotate_left 1
            · (intro w; go_simp; (try with_reducible rfl))
            (try simp only [Act.put, List.setIfInBounds_toArray, List.set_cons_zero, List.set_cons_succ])
            refine PrintLast.take_ (i := 3) (N := some 49) (v := ?_) #[true, true, true, true, false, false, false, false, false, false, false] rfl rfl (by kernel_rfl) (fun _ _ _ h => h) (Or.inl ⟨by rfl, ?_⟩) HH rfl ?_
            rotate_left 1
            · (intro w hSw; (try dsimp only at hSw); go_simp; (try with_reducible rfl))
            (try simp only [Act.put, List.setIfInBounds_toArray, List.set_cons_zero, List.set_cons_succ])
            refine PrintLast.pure_ (i := 4) (N := some 50) (v := ?_) #[true, true, true, true, true, false, false, false, false, false, false] rfl rfl (by kernel_rfl) (fun _ _ _ h => h) (Or.inl ⟨by rfl, ?_⟩) rfl ?_
            rotate_left 1
            · (intro w; go_simp; (try with_reducible rfl))
            (try simp only [Act.put, List.setIfInBounds_toArray, List.set_cons_zero, List.set_cons_succ])
            refine PrintLast.pure_ (i := 5) (N := some 51) (v := ?_) #[true, true, true, true, true, true, false, false, false, false, false] rfl rfl (by kernel_rfl) (fun _ _ _ h => h) (Or.inl ⟨by rfl, ?_⟩) rfl ?_
            rotate_left 1
            · (intro w; go_simp; (try with_reducible rfl))
            (try simp only [Act.put, List.setIfInBounds_toArray, List.set_cons_zero, List.set_cons_succ])
            refine PrintLast.take_ (i := 6) (N := some 52) (v := ?_) #[true, true, true, true, true, true, true, false, false, false, false] rfl rfl (by kernel_rfl) (fun _ _ _ h => h) (Or.inl ⟨by rfl, ?_⟩) HH rfl ?_
            rotate_left 1
            · (intro w hSw; (try dsimp only at hSw); go_simp; (try with_reducible rfl))
            (try simp only [Act.put, List.setIfInBounds_toArray, List.set_cons_zero, List.set_cons_succ])
            refine PrintLast.one_ (i := 7) (N := some 53) #[true, true, true, true, true, true, true, true, false, false, false] rfl rfl (by kernel_rfl) (by decide) (fun K hK => ?_)
            go_simp
            refine hK.out _ _ (by first | exact ⟨x0, x1, x2, F.1.2.2.1, F.2.2.2.2.2.1⟩ | go_keep) (fun HH => ?_)
            clear hK K
            (try simp only [Act.put, List.setIfInBounds_toArray, List.set_cons_zero, List.set_cons_succ])
            refine PrintLast.one_ (i := 8) (N := some 54) #[true, true, true, true, true, true, true, true, true, false, false] rfl rfl (by kernel_rfl) (by decide) (fun K hK => ?_)
            refine ev_append_step flatFile HS.out.drew 4 rfl (by rfl) (.tmp 47) (.tmp 53) 27 _ _ (by rfl) Try.underlying27 infoFile rfl (by decide) (by decide) (rdFile l j) _ rfl (by rfl) (by rfl) (by have := HA.out; (try simp only [List.length_append, List.length_cons, List.length_nil]); omega) ?_; intro v7 w7 hs; obtain ⟨B7, n7, e7, rfl⟩ := hs.form3 4 rfl; replace HS := Aside0.mk hs; (try simp only [List.cons_append, List.nil_append, List.set_cons_zero, List.set_cons_succ, size_al, size_set] at HS); replace F := HS.out.facts; simp only [facts_cons, facts_nil, fact_box, fact_row, fact_gone, cellsAt_cons, cellsAt_nil, Nat.zero_add, Nat.reduceAdd, true_and, and_true] at F; obtain ⟨x0, x1, x2⟩ := HX.out _ HS.out.old; clear hs
            refine hK.out _ _ (by first | exact ⟨x0, x1, x2, F.1.2.2.1, F.2.2.2.2.2.1⟩ | go_keep) (fun HH => ?_)
            clear hK K
            (try simp only [Act.put, List.setIfInBounds_toArray, List.set_cons_zero, List.set_cons_succ])
            refine PrintLast.pure_ (i := 9) (N := some 55) (v := ?_) #[true, true, true, true, true, true, true, true, true, true, false] rfl rfl (by kernel_rfl) (fun _ _ _ h => h) (Or.inl ⟨by rfl, ?_⟩) rfl ?_
            rotate_left 1
            · (intro w; go_simp; (try with_reducible rfl))
            (try simp only [Act.put, List.setIfInBounds_toArray, List.set_cons_zero, List.set_cons_succ])
            refine PrintLast.last_ (i := 10) (N := none) #[true, true, true, true, true, true, true, true, true, true, true] rfl rfl (by kernel_rfl) (by decide) (fun K hK => ?_)
            go_simp
            refine hK.out _ _ ?_
            clear hK K
            refine PrintLast.done_ (by kernel_rfl) ?_
            go_wp2
            go_roundw
            case rel => exact ⟨d, j + 1, true, B7, n7, e7, _, by omega, by go_num, rfl, ⟨by rw [← HD2.out]; simp [HGE.out, HNE.out]⟩, ⟨HS.out.set 3 rfl 1 (.slice B7 n7 e7)⟩⟩
            case measure => simp [intOf]; omega
      · have c1 : decide (f.Name ≤ (rdFile l j).Name) = false := decide_eq_false hge
        have hne : (rdFile l j).Name ≠ f.Name := by omega
        have HGE := Aside0.mk hge
        clear hge
        · have c2 : ((rdFile l j).Name == f.Name) = false := by simpa using hne
          have c3 : ((rdFile l j).Name != f.Name) = true := by simpa using hne
          have HNE := Aside0.mk hne
          clear hne
          cases put
          · go_wp2
            go_quiet (fail)
            replace HS := Aside0.mk (HS.out.drewN nq)
            generalize hW_ : wr.drewN nq = w3 at HS ⊢
            clear hW_
            (try simp only [List.cons_append, List.nil_append, List.set_cons_zero, List.set_cons_succ, size_al, size_set] at HS); replace F := HS.out.facts; simp only [facts_cons, facts_nil, fact_box, fact_row, fact_gone, cellsAt_cons, cellsAt_nil, Nat.zero_add, Nat.reduceAdd, true_and, and_true] at F
            obtain ⟨x0, x1, x2⟩ := HX.out _ HS.out.old
            go_wp2
            go_quiet (fail)
            replace HS := Aside0.mk (HS.out.drewN nq)
            generalize hW_ : w3.drewN nq = w5 at HS ⊢
            clear hW_
            (try simp only [List.cons_append, List.nil_append, List.set_cons_zero, List.set_cons_succ, size_al, size_set] at HS); replace F := HS.out.facts; simp only [facts_cons, facts_nil, fact_box, fact_row, fact_gone, cellsAt_cons, cellsAt_nil, Nat.zero_add, Nat.reduceAdd, true_and, and_true] at F
            obtain ⟨x0, x1, x2⟩ := HX.out _ HS.out.old
            go_wp2
            refine PrintLast.start_ (ds := [10]) (S := (fun W => W.cell? (ad.add (j * 3)) = some (.int .i64 (rdFile l j).Name) ∧ W.cell? ⟨(ad.add (j * 3)).block, (ad.add (j * 3)).off + 1, none⟩ = some (.string (rdFile l j).Safe) ∧ W.cell? ⟨(ad.add (j * 3)).block, (ad.add (j * 3)).off + 2, none⟩ = some (.string (rdFile l j).Late) ∧ W.cell? ⟨w.heap.size, 1, none⟩ = some (.slice (some ad) l.length c) ∧ W.cell? ⟨w.heap.size + 1 + 1 + 1, 1, none⟩ = some (.slice B n e))) #[false, false, false, false, false, false, false, false, false, false, false] (by kernel_rfl) rfl rfl ⟨x0, x1, x2, F.1.2.2.1, F.2.2.2.2.2.1⟩ (fun HH => ?_)
            refine PrintLast.pure_ (i := 0) (N := some 46) (v := ?_) #[true, false, false, false, false, false, false, false, false, false, false] rfl rfl (by kernel_rfl) (fun _ _ _ h => h) (Or.inl ⟨by rfl, ?_⟩) rfl ?_
            rotate_left 1
            · (intro w; go_simp; (try with_reducible rfl))
            (try simp only [Act.put, List.setIfInBounds_toArray, List.set_cons_zero, List.set_cons_succ])
            refine PrintLast.take_ (i := 1) (N := some 47) (v := ?_) #[true, true, false, false, false, false, false, false, false, false, false] rfl rfl (by kernel_rfl) (fun _ _ _ h => h) (Or.inl ⟨by rfl, ?_⟩) HH rfl ?_
            rotate_left 1
            · (intro w hSw; (try dsimp only at hSw); go_simp; (try with_reducible rfl))
            (try simp only [Act.put, List.setIfInBounds_toArray, List.set_cons_zero, List.set_cons_succ])
            refine PrintLast.pure_ (i := 2) (N := some 48) (v := ?_) #[true, true, true, false, false, false, false, false, false, false, false] rfl rfl (by kernel_rfl) (fun _ _ _ h => h) (Or.inl ⟨by rfl, ?_⟩) rfl ?_
            rotate_left 1
            · (intro w; go_simp; (try with_reducible rfl))
            (try simp only [Act.put, List.setIfInBounds_toArray, List.set_cons_zero, List.set_cons_succ])
            refine PrintLast.take_ (i := 3) (N := some 49) (v := ?_) #[true, true, true, true, false, false, false, false, false, false, false] rfl rfl (by kernel_rfl) (fun _ _ _ h => h) (Or.inl ⟨by rfl, ?_⟩) HH rfl ?_
            rotate_left 1
            · (intro w hSw; (try dsimp only at hSw); go_simp; (try with_reducible rfl))
            (try simp only [Act.put, List.setIfInBounds_toArray, List.set_cons_zero, List.set_cons_succ])
            refine PrintLast.pure_ (i := 4) (N := some 50) (v := ?_) #[true, true, true, true, true, false, false, false, false, false, false] rfl rfl (by kernel_rfl) (fun _ _ _ h => h) (Or.inl ⟨by rfl, ?_⟩) rfl ?_
            rotate_left 1
            · (intro w; go_simp; (try with_reducible rfl))
            (try simp only [Act.put, List.setIfInBounds_toArray, List.set_cons_zero, List.set_cons_succ])
            refine PrintLast.pure_ (i := 5) (N := some 51) (v := ?_) #[true, true, true, true, true, true, false, false, false, false, false] rfl rfl (by kernel_rfl) (fun _ _ _ h => h) (Or.inl ⟨by rfl, ?_⟩) rfl ?_
            rotate_left 1
            · (intro w; go_simp; (try with_reducible rfl))
            (try simp only [Act.put, List.setIfInBounds_toArray, List.set_cons_zero, List.set_cons_succ])
            refine PrintLast.take_ (i := 6) (N := some 52) (v := ?_) #[true, true, true, true, true, true, true, false, false, false, false] rfl rfl (by kernel_rfl) (fun _ _ _ h => h) (Or.inl ⟨by rfl, ?_⟩) HH rfl ?_
            rotate_left 1
            · (intro w hSw; (try dsimp only at hSw); go_simp; (try with_reducible rfl))
            (try simp only [Act.put, List.setIfInBounds_toArray, List.set_cons_zero, List.set_cons_succ])
            refine PrintLast.one_ (i := 7) (N := some 53) #[true, true, true, true, true, true, true, true, false, false, false] rfl rfl (by kernel_rfl) (by decide) (fun K hK => ?_)
            go_simp
            refine hK.out _ _ (by first | exact ⟨x0, x1, x2, F.1.2.2.1, F.2.2.2.2.2.1⟩ | go_keep) (fun HH => ?_)
            clear hK K
            (try simp only [Act.put, List.setIfInBounds_toArray, List.set_cons_zero, List.set_cons_succ])
            refine PrintLast.one_ (i := 8) (N := some 54) #[true, true, true, true, true, true, true, true, true, false, false] rfl rfl (by kernel_rfl) (by decide) (fun K hK => ?_)
            refine ev_append_step flatFile HS.out.drew 4 rfl (by rfl) (.tmp 47) (.tmp 53) 27 _ _ (by rfl) Try.underlying27 infoFile rfl (by decide) (by decide) (rdFile l j) _ rfl (by rfl) (by rfl) (by have := HA.out; (try simp only [List.length_append, List.length_cons, List.length_nil]); omega) ?_; intro v7 w7 hs; obtain ⟨B7, n7, e7, rfl⟩ := hs.form3 4 rfl; replace HS := Aside0.mk hs; (try simp only [List.cons_append, List.nil_append, List.set_cons_zero, List.set_cons_succ, size_al, size_set] at HS); replace F := HS.out.facts; simp only [facts_cons, facts_nil, fact_box, fact_row, fact_gone, cellsAt_cons, cellsAt_nil, Nat.zero_add, Nat.reduceAdd, true_and, and_true] at F; obtain ⟨x0, x1, x2⟩ := HX.out _ HS.out.old; clear hs
            refine hK.out _ _ (by first | exact ⟨x0, x1, x2, F.1.2.2.1, F.2.2.2.2.2.1⟩ | go_keep) (fun HH => ?_)
            clear hK K
            (try simp only [Act.put, List.setIfInBounds_toArray, List.set_cons_zero, List.set_cons_succ])
            refine PrintLast.pure_ (i := 9) (N := some 55) (v := ?_) #[true, true, true, true, true, true, true, true, true, true, false] rfl rfl (by kernel_rfl) (fun _ _ _ h => h) (Or.inl ⟨by rfl, ?_⟩) rfl ?_
            rotate_left 1
            · (intro w; go_simp; (try with_reducible rfl))
            (try simp only [Act.put, List.setIfInBounds_toArray, List.set_cons_zero, List.set_cons_succ])
            refine PrintLast.last_ (i := 10) (N := none) #[true, true, true, true, true, true, true, true, true, true, true] rfl rfl (by kernel_rfl) (by decide) (fun K hK => ?_)
            go_simp
            refine hK.out _ _ ?_
            clear hK K
            refine PrintLast.done_ (by kernel_rfl) ?_
            go_wp2
            go_roundw
            case rel => exact ⟨d, j + 1, false, B7, n7, e7, _, by omega, by go_num, rfl, ⟨by rw [← HD2.out]; have h1 := HGE.out; have h2 := HNE.out; simp [show ¬ f.Name ≤ (rdFile l j).Name from by omega, show ¬ (rdFile l j).Name = f.Name from by omega]⟩, ⟨HS.out.set 3 rfl 1 (.slice B7 n7 e7)⟩⟩
            case measure => simp [intOf]; omega
          · go_wp2
            go_quiet (fail)
            replace HS := Aside0.mk (HS.out.drewN nq)
            generalize hW_ : wr.drewN nq = w3 at HS ⊢
            clear hW_
            (try simp only [List.cons_append, List.nil_append, List.set_cons_zero, List.set_cons_succ, size_al, size_set] at HS); replace F := HS.out.facts; simp only [facts_cons, facts_nil, fact_box, fact_row, fact_gone, cellsAt_cons, cellsAt_nil, Nat.zero_add, Nat.reduceAdd, true_and, and_true] at F
            obtain ⟨x0, x1, x2⟩ := HX.out _ HS.out.old
            go_wp2
            go_quiet (fail)
            replace HS := Aside0.mk (HS.out.drewN nq)
            generalize hW_ : w3.drewN nq = w5 at HS ⊢
            clear hW_
            (try simp only [List.cons_append, List.nil_append, List.set_cons_zero, List.set_cons_succ, size_al, size_set] at HS); replace F := HS.out.facts; simp only [facts_cons, facts_nil, fact_box, fact_row, fact_gone, cellsAt_cons, cellsAt_nil, Nat.zero_add, Nat.reduceAdd, true_and, and_true] at F
            obtain ⟨x0, x1, x2⟩ := HX.out _ HS.out.old
            go_wp2
            refine PrintLast.start_ (ds := [10]) (S := (fun W => W.cell? (ad.add (j * 3)) = some (.int .i64 (rdFile l j).Name) ∧ W.cell? ⟨(ad.add (j * 3)).block, (ad.add (j * 3)).off + 1, none⟩ = some (.string (rdFile l j).Safe) ∧ W.cell? ⟨(ad.add (j * 3)).block, (ad.add (j * 3)).off + 2, none⟩ = some (.string (rdFile l j).Late) ∧ W.cell? ⟨w.heap.size, 1, none⟩ = some (.slice (some ad) l.length c) ∧ W.cell? ⟨w.heap.size + 1 + 1 + 1, 1, none⟩ = some (.slice B n e))) #[false, false, false, false, false, false, false, false, false, false, false] (by kernel_rfl) rfl rfl ⟨x0, x1, x2, F.1.2.2.1, F.2.2.2.2.2.1⟩ (fun HH => ?_)
            refine PrintLast.pure_ (i := 0) (N := some 46) (v := ?_) #[true, false, false, false, false, false, false, false, false, false, false] rfl rfl (by kernel_rfl) (fun _ _ _ h => h) (Or.inl ⟨by rfl, ?_⟩) rfl ?_
            rotate_left 1
            · (intro w; go_simp; (try with_reducible rfl))
            (try simp only [Act.put, List.setIfInBounds_toArray, List.set_cons_zero, List.set_cons_succ])
            refine PrintLast.take_ (i := 1) (N := some 47) (v := ?_) #[true, true, false, false, false, false, false, false, false, false, false] rfl rfl (by kernel_rfl) (fun _ _ _ h => h) (Or.inl ⟨by rfl, ?_⟩) HH rfl ?_
            rotate_left 1
            · (intro w hSw; (try dsimp only at hSw); go_simp; (try with_reducible rfl))
            (try simp only [Act.put, List.setIfInBounds_toArray, List.set_cons_zero, List.set_cons_succ])
            refine PrintLast.pure_ (i := 2) (N := some 48) (v := ?_) #[true, true, true, false, false, false, false, false, false, false, false] rfl rfl (by kernel_rfl) (fun _ _ _ h => h) (Or.inl ⟨by rfl, ?_⟩) rfl ?_
            rotate_left 1
            · (intro w; go_simp; (try with_reducible rfl))
            (try simp only [Act.put, List.setIfInBounds_toArray, List.set_cons_zero, List.set_cons_succ])
            refine PrintLast.take_ (i := 3) (N := some 49) (v := ?_) #[true, true, true, true, false, false, false, false, false, false, false] rfl rfl (by kernel_rfl) (fun _ _ _ h => h) (Or.inl ⟨by rfl, ?_⟩) HH rfl ?_
            rotate_left 1
            · (intro w hSw; (try dsimp only at hSw); go_simp; (try with_reducible rfl))
            (try simp only [Act.put, List.setIfInBounds_toArray, List.set_cons_zero, List.set_cons_succ])
            refine PrintLast.pure_ (i := 4) (N := some 50) (v := ?_) #[true, true, true, true, true, false, false, false, false, false, false] rfl rfl (by kernel_rfl) (fun _ _ _ h => h) (Or.inl ⟨by rfl, ?_⟩) rfl ?_
            rotate_left 1
            · (intro w; go_simp; (try with_reducible rfl))
            (try simp only [Act.put, List.setIfInBounds_toArray, List.set_cons_zero, List.set_cons_succ])
            refine PrintLast.pure_ (i := 5) (N := some 51) (v := ?_) #[true, true, true, true, true, true, false, false, false, false, false] rfl rfl (by kernel_rfl) (fun _ _ _ h => h) (Or.inl ⟨by rfl, ?_⟩) rfl ?_
            rotate_left 1
            · (intro w; go_simp; (try with_reducible rfl))
            (try simp only [Act.put, List.setIfInBounds_toArray, List.set_cons_zero, List.set_cons_succ])
            refine PrintLast.take_ (i := 6) (N := some 52) (v := ?_) #[true, true, true, true, true, true, true, false, false, false, false] rfl rfl (by kernel_rfl) (fun _ _ _ h => h) (Or.inl ⟨by rfl, ?_⟩) HH rfl ?_
            rotate_left 1
            · (intro w hSw; (try dsimp only at hSw); go_simp; (try with_reducible rfl))
            (try simp only [Act.put, List.setIfInBounds_toArray, List.set_cons_zero, List.set_cons_succ])
            refine PrintLast.one_ (i := 7) (N := some 53) #[true, true, true, true, true, true, true, true, false, false, false] rfl rfl (by kernel_rfl) (by decide) (fun K hK => ?_)
            go_simp
            refine hK.out _ _ (by first | exact ⟨x0, x1, x2, F.1.2.2.1, F.2.2.2.2.2.1⟩ | go_keep) (fun HH => ?_)
            clear hK K
            (try simp only [Act.put, List.setIfInBounds_toArray, List.set_cons_zero, List.set_cons_succ])
            refine PrintLast.one_ (i := 8) (N := some 54) #[true, true, true, true, true, true, true, true, true, false, false] rfl rfl (by kernel_rfl) (by decide) (fun K hK => ?_)
            refine ev_append_step flatFile HS.out.drew 4 rfl (by rfl) (.tmp 47) (.tmp 53) 27 _ _ (by rfl) Try.underlying27 infoFile rfl (by decide) (by decide) (rdFile l j) _ rfl (by rfl) (by rfl) (by have := HA.out; (try simp only [List.length_append, List.length_cons, List.length_nil]); omega) ?_; intro v7 w7 hs; obtain ⟨B7, n7, e7, rfl⟩ := hs.form3 4 rfl; replace HS := Aside0.mk hs; (try simp only [List.cons_append, List.nil_append, List.set_cons_zero, List.set_cons_succ, size_al, size_set] at HS); replace F := HS.out.facts; simp only [facts_cons, facts_nil, fact_box, fact_row, fact_gone, cellsAt_cons, cellsAt_nil, Nat.zero_add, Nat.reduceAdd, true_and, and_true] at F; obtain ⟨x0, x1, x2⟩ := HX.out _ HS.out.old; clear hs
            refine hK.out _ _ (by first | exact ⟨x0, x1, x2, F.1.2.2.1, F.2.2.2.2.2.1⟩ | go_keep) (fun HH => ?_)
            clear hK K
            (try simp only [Act.put, List.setIfInBounds_toArray, List.set_cons_zero, List.set_cons_succ])
            refine PrintLast.pure_ (i := 9) (N := some 55) (v := ?_) #[true, true, true, true, true, true, true, true, true, true, false] rfl rfl (by kernel_rfl) (fun _ _ _ h => h) (Or.inl ⟨by rfl, ?_⟩) rfl ?_
            rotate_left 1
            · (intro w; go_simp; (try with_reducible rfl))
            (try simp only [Act.put, List.setIfInBounds_toArray, List.set_cons_zero, List.set_cons_succ])
            refine PrintLast.last_ (i := 10) (N := none) #[true, true, true, true, true, true, true, true, true, true, true] rfl rfl (by kernel_rfl) (by decide) (fun K hK => ?_)
            go_simp
            refine hK.out _ _ ?_
            clear hK K
            refine PrintLast.done_ (by kernel_rfl) ?_
            go_wp2
            go_roundw
            case rel => exact ⟨d, j + 1, true, B7, n7, e7, _, by omega, by go_num, rfl, ⟨by rw [← HD2.out]; have h1 := HGE.out; have h2 := HNE.out; simp [show ¬ f.Name ≤ (rdFile l j).Name from by omega, show ¬ (rdFile l j).Name = f.Name from by omega]⟩, ⟨HS.out.set 3 rfl 1 (.slice B7 n7 e7)⟩⟩
            case measure => simp [intOf]; omega
end Go.Proofs.Ytbbeaghhchjkgaa.Dk
