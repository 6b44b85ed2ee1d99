/- Copies of disks. No condition. -/
import Derived.Test.YtbbeaghhchjkgaaDkRead
import Derived.Lib.SliceRun
namespace Go.Proofs.Ytbbeaghhchjkgaa.Dk
open Go.RowKit Go.Proofs.YtbbeaghhchjkgaaW.PrintWords Go.Proofs.Ytbbeaghhchjkgaa.Sp Go.Proofs.Ytbbeaghhchjkgaa.Ty Go.Proofs.Ytbbeaghhchjkgaa.Im Go.Proofs.Ytbbeaghhchjkgaa.Lw
set_option linter.unusedVariables false
set_option linter.unusedSimpArgs false
attribute [local go_sem ↓] Go.wp_at_zero Go.wp_at_succ
attribute [local go_sem] World.cell?_alloc_lt
set_option maxRecDepth 100000 in
/-- slices.Clone at []File. -/
theorem Clone_File (A : Option Addr) (c : Nat) (l : List File) (w : World) (hr : Kd.C kFile w A l.length l) (hl : l.length ≤ 1048576) :
    Calls Try.prog 92 #[.slice A l.length c] w fun e w' => ∃ v, e = .returned v ∧ Sep w w' [Ob.row kFile 44 v l] := by
  have HR := Aside0.mk hr
  clear hr
  have heq := fun (W : World) (A : Option Addr) (n c : Nat) => Lib.run_eql_slice_nil (P := Try.prog) W 27 44 A n c 0 0 Try.underlying27
  cases A with
  | none =>
    have h0 : l = [] := by
      cases l with
      | nil => rfl
      | cons x xs => obtain ⟨ad, e, _⟩ := HR.out.2.2 (by simp); cases e
    subst h0
    go_enter Try.func92, Try.ntmps92
    go_wp2
    go_ret
    exact ⟨_, rfl, Sep.none_ _ _ _⟩
  | some ad =>
    go_enter Try.func92, Try.ntmps92
    go_wp2_with ((with_reducible refine gate_app (b := .append) (xs := #[.tmp 5, .tmp 6]) rfl ?_); at_builtin; refine ev_append_rows flatFile (Sep.empty_ kFile 44 w) 0 rfl rfl (.tmp 5) (.tmp 6) 27 _ _ rfl Try.underlying27 infoFile rfl (by decide) (by decide) (ys := l) rfl rfl (Kd.C_alloc HR.out _) (by simp only [List.length_nil]; omega) ?_; intro v1 w1 hs; have HS := Aside0.mk hs; clear hs)
    go_ret
    exact ⟨_, rfl, HS.out⟩
set_option maxRecDepth 100000 in
theorem cloneDisk (room : Int) (A : Option Addr) (c : Nat) (l : List File) (w : World) (hr : Kd.C kFile w A l.length l) (hl : l.length ≤ 1048576) :
    Calls Try.prog 54 #[.agg #[.int .i64 room, .slice A l.length c]] w fun e w' => ∃ v, e = .returned (.agg #[.int .i64 room, v]) ∧ Sep w w' [Ob.row kFile 44 v l] := by
  have HR := Aside0.mk hr
  clear hr
  have hu := Try.underlying29
  go_enter Try.func54, Try.ntmps54
  go_wp2
  have HS := ((Sep.nil w).alloc #[.int .i64 room, .slice A l.length c] 29).alloc #[.int .i64 0, .slice none 0 0] 29
  simp only [List.nil_append, List.cons_append, size_al] at HS
  generalize (w.alloc (.cells #[.int .i64 room, .slice A l.length c] 29)).alloc (.cells #[.int .i64 0, .slice none 0 0] 29) = W at HS ⊢
  replace HS := Aside0.mk HS
  have F := HS.out.facts
  simp only [facts_cons, facts_nil, fact_box, fact_row, fact_gone, cellsAt_cons, cellsAt_nil, Nat.zero_add, Nat.reduceAdd, true_and, and_true] at F
  go_region_held3 (fun W' => W'.cell? ⟨w.heap.size, 0, none⟩ = some (.int .i64 room) ∧ W'.cell? ⟨w.heap.size, 1, none⟩ = some (.slice A l.length c)) (first | go_keep | exact ⟨F.1.2.1.1, F.1.2.2.1⟩)
    (first | (go_at_call 92; refine (Clone_File A c l _ (Kd.C_below HR.out (below_drew1 HS.out.old)) hl).mono ?_; rintro e w7 ⟨v, rfl, hs⟩; obtain ⟨B, d, rfl, _, _⟩ := hs.reads 0 rfl; replace HS := Aside0.mk (HS.out.drew.add hs); (try simp only [List.cons_append, List.nil_append, List.set_cons_zero, List.set_cons_succ, size_al, size_set] at HS); replace F := HS.out.facts; simp only [facts_cons, facts_nil, fact_box, fact_row, fact_gone, cellsAt_cons, cellsAt_nil, Nat.zero_add, Nat.reduceAdd, true_and, and_true] at F; clear hs))
  go_wp2
  refine bodyPost_ret (v := .agg #[.int .i64 room, .slice B l.length d]) (by simp [results, Try.results54, F, go_sem]) rfl ⟨_, rfl, ?_⟩
  exact (((HS.out.set 1 rfl 0 _).set 1 rfl 1 _).pk [2] (by decide))
set_option maxRecDepth 100000 in
theorem spec_Copy (room : Int) (A : Option Addr) (c : Nat) (l : List File) (w : World) (hr : Kd.C kFile w A l.length l) (hl : l.length ≤ 1048576) :
    Calls Try.prog 65 #[.agg #[.int .i64 room, .slice A l.length c]] w fun e w' => ∃ v, e = .returned (.agg #[.int .i64 room, v]) ∧ Sep w w' [Ob.row kFile 44 v l] := by
  have HR := Aside0.mk hr
  clear hr
  have hu := Try.underlying29
  go_enter Try.func65, Try.ntmps65
  go_wp2
  have HS := ((Sep.nil w).alloc #[.int .i64 room, .slice A l.length c] 29).alloc #[.int .i64 0, .slice none 0 0] 29
  simp only [List.nil_append, List.cons_append, size_al] at HS
  generalize (w.alloc (.cells #[.int .i64 room, .slice A l.length c] 29)).alloc (.cells #[.int .i64 0, .slice none 0 0] 29) = W at HS ⊢
  replace HS := Aside0.mk HS
  have F := HS.out.facts
  simp only [facts_cons, facts_nil, fact_box, fact_row, fact_gone, cellsAt_cons, cellsAt_nil, Nat.zero_add, Nat.reduceAdd, true_and, and_true] at F
  go_region_held3 (fun W' => W'.cell? ⟨w.heap.size, 0, none⟩ = some (.int .i64 room) ∧ W'.cell? ⟨w.heap.size, 1, none⟩ = some (.slice A l.length c)) (first | go_keep | exact ⟨F.1.2.1.1, F.1.2.2.1⟩)
    (first | (refine ev_append_rows_step flatFile (HS.out.drew.add (Sep.empty_ kFile 44 _)) 2 rfl (by rfl) (.tmp 5) (.tmp 7) 27 _ _ (by rfl) Try.underlying27 infoFile rfl (by decide) (by decide) (ys := l) (by rfl) (by rfl) (Kd.C_alloc (Kd.C_below HR.out (below_drew1 HS.out.old)) _) (by simp only [List.length_nil]; omega) ?_; intro v w7 hs; obtain ⟨B, d, rfl, _, _⟩ := hs.reads 2 rfl; replace HS := Aside0.mk hs; (try simp only [List.cons_append, List.nil_append, List.set_cons_zero, List.set_cons_succ, size_al, size_set] at HS); replace F := HS.out.facts; simp only [facts_cons, facts_nil, fact_box, fact_row, fact_gone, cellsAt_cons, cellsAt_nil, Nat.zero_add, Nat.reduceAdd, true_and, and_true] at F; clear hs))
  go_wp2
  refine bodyPost_ret (v := .agg #[.int .i64 room, .slice B l.length d]) (by simp [results, Try.results65, F, go_sem]) rfl ⟨_, rfl, ?_⟩
  exact (((HS.out.set 1 rfl 0 _).set 1 rfl 1 _).pk [2] (by decide))
end Go.Proofs.Ytbbeaghhchjkgaa.Dk
