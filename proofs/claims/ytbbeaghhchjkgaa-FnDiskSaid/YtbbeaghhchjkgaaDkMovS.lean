/- A file moved: the reference. No condition. -/
import Derived.Test.YtbbeaghhchjkgaaDkPutM
namespace Go.Proofs.Ytbbeaghhchjkgaa.Dk
open Go.RowKit Go.Proofs.YtbbeaghhchjkgaaW Go.Proofs.YtbbeaghhchjkgaaW.PrintWords Go.Proofs.Ytbbeaghhchjkgaa.Sp Go.Proofs.Ytbbeaghhchjkgaa.Ty Go.Proofs.Ytbbeaghhchjkgaa.Im Go.Proofs.Ytbbeaghhchjkgaa.Lw
set_option linter.unusedVariables false
set_option linter.unusedSimpArgs false
attribute [local go_sem ↓] Go.wp_at_zero Go.wp_at_succ
attribute [local go_sem] World.cell?_alloc_lt
def moveCode (room : Int) (l : List File) (from_ to_ : Int) : Int := if isFile to_ = true ∧ from_ ≠ to_ then atCode room l from_ else 1
def mvFile (l : List File) (from_ to_ : Int) : File := ⟨to_, (rdFile l (fileAt l from_).toNat).Safe, (rdFile l (fileAt l from_).toNat).Late⟩
def moveR (room : Int) (l : List File) (from_ to_ : Int) : Told :=
  if moveCode room l from_ to_ = 0 then ⟨room, putF (l.eraseIdx (fileAt l from_).toNat) (mvFile l from_ to_), 0⟩ else refuse room l (moveCode room l from_ to_)
theorem moveR_len (room : Int) (l : List File) (from_ to_ : Int) : (moveR room l from_ to_).files.length ≤ 2 * l.length + 1 := by
  unfold moveR
  split
  · have h1 := putF_len (l.eraseIdx (fileAt l from_).toNat) (mvFile l from_ to_)
    have h2 := List.length_eraseIdx_le l (fileAt l from_).toNat
    show (putF _ _).length ≤ _
    omega
  · have := refuse_len room l (moveCode room l from_ to_); omega
set_option maxRecDepth 100000 in
set_option maxHeartbeats 4000000 in
theorem spec_Move (room : Int) (A : Option Addr) (c : Nat) (l : List File) (from_ to_ : Int) (w : World) (hr : Kd.C kFile w A l.length l) (hv : Small l) (hl : l.length ≤ 1048576) :
    Calls Try.prog 34 #[.agg #[.int .i64 room, .slice A l.length c], .int .i64 from_, .int .i64 to_] w fun e w' => ∃ v, e = .returned (.tuple #[.agg #[.int .i64 (moveR room l from_ to_).room, v], .int .i64 (moveR room l from_ to_).code]) ∧ Sep w w' [Ob.row kFile 44 v (moveR room l from_ to_).files] := by
  have HR := Aside0.mk hr
  have HV := Aside0.mk hv
  clear hr hv
  have hu := Try.underlying29
  have hu2 := Try.underlying44
  by_cases hto : isFile to_ = true ∧ from_ ≠ to_
  case neg =>
    have hm : moveCode room l from_ to_ = 1 := if_neg hto
    rw [show moveR room l from_ to_ = refuse room l 1 from by rw [moveR, hm, if_neg (by decide)]]
    clear hm
    cases hc : isFile to_
    · have HCC := Aside0.mk hc
      clear hc hto
      go_enter Try.func34, Try.ntmps34
      go_wp2_with (first | (go_at_call 57; refine (spec_At room A c l from_ _ (Kd.C_alloc (Kd.C_alloc HR.out _) _) HV.out).mono ?_; rintro e w2 ⟨rfl, hb⟩; have HS := Aside0.mk ((((Sep.nil w).alloc _ _).alloc _ _).below hb); have F := HS.out.facts; (try simp only [List.cons_append, List.nil_append, List.set_cons_zero, List.set_cons_succ, size_al, size_set] at HS); replace F := HS.out.facts; simp only [facts_cons, facts_nil, fact_box, fact_row, fact_gone, cellsAt_cons, cellsAt_nil, Nat.zero_add, Nat.reduceAdd, true_and, and_true] at F; clear hb) | (go_at_call 44; refine (spec_isFile _ _).mono ?_; rw [HCC.out]; rintro e w' ⟨rfl, ⟨nd, rfl⟩⟩; replace HS := Aside0.mk (HS.out.drewN nd); (try simp only [List.cons_append, List.nil_append, List.set_cons_zero, List.set_cons_succ, size_al, size_set] at HS); replace F := HS.out.facts; simp only [facts_cons, facts_nil, fact_box, fact_row, fact_gone, cellsAt_cons, cellsAt_nil, Nat.zero_add, Nat.reduceAdd, true_and, and_true] at F) | (go_at_call 58; refine (spec_Refused room A c l _ _ (Kd.C_below HR.out HS.out.old) hl).mono ?_; rintro e w3 ⟨v, rfl, hs⟩; obtain ⟨B, n, d, rfl⟩ := hs.form3 0 rfl; replace HS := Aside0.mk (HS.out.add hs); (try simp only [List.cons_append, List.nil_append, List.set_cons_zero, List.set_cons_succ, size_al, size_set] at HS); replace F := HS.out.facts; simp only [facts_cons, facts_nil, fact_box, fact_row, fact_gone, cellsAt_cons, cellsAt_nil, Nat.zero_add, Nat.reduceAdd, true_and, and_true] at F; clear hs))
      refine bodyPost_ret (v := .tuple #[.agg #[.int .i64 (refused room l 1).1, .slice B n d], .int .i64 1]) (by simp [results, Try.results34, F, go_sem]) rfl ⟨_, rfl, ?_⟩
      exact (((HS.out.set 1 rfl 0 _).set 1 rfl 1 _).pk [2] (by decide))
    · have HCC := Aside0.mk hc
      have hft : from_ = to_ := by
        rcases Int.decEq from_ to_ with h | h
        · exact absurd ⟨hc, h⟩ hto
        · exact h
      have c3 : (from_ == to_) = true := by simpa using hft
      clear hc hto hft
      go_enter Try.func34, Try.ntmps34
      go_wp2_with (first | (go_at_call 57; refine (spec_At room A c l from_ _ (Kd.C_alloc (Kd.C_alloc HR.out _) _) HV.out).mono ?_; rintro e w2 ⟨rfl, hb⟩; have HS := Aside0.mk ((((Sep.nil w).alloc _ _).alloc _ _).below hb); have F := HS.out.facts; (try simp only [List.cons_append, List.nil_append, List.set_cons_zero, List.set_cons_succ, size_al, size_set] at HS); replace F := HS.out.facts; simp only [facts_cons, facts_nil, fact_box, fact_row, fact_gone, cellsAt_cons, cellsAt_nil, Nat.zero_add, Nat.reduceAdd, true_and, and_true] at F; clear hb) | (go_at_call 44; refine (spec_isFile _ _).mono ?_; rw [HCC.out]; rintro e w' ⟨rfl, ⟨nd, rfl⟩⟩; replace HS := Aside0.mk (HS.out.drewN nd); (try simp only [List.cons_append, List.nil_append, List.set_cons_zero, List.set_cons_succ, size_al, size_set] at HS); replace F := HS.out.facts; simp only [facts_cons, facts_nil, fact_box, fact_row, fact_gone, cellsAt_cons, cellsAt_nil, Nat.zero_add, Nat.reduceAdd, true_and, and_true] at F) | (go_at_call 58; refine (spec_Refused room A c l _ _ (Kd.C_below HR.out HS.out.old) hl).mono ?_; rintro e w3 ⟨v, rfl, hs⟩; obtain ⟨B, n, d, rfl⟩ := hs.form3 0 rfl; replace HS := Aside0.mk (HS.out.add hs); (try simp only [List.cons_append, List.nil_append, List.set_cons_zero, List.set_cons_succ, size_al, size_set] at HS); replace F := HS.out.facts; simp only [facts_cons, facts_nil, fact_box, fact_row, fact_gone, cellsAt_cons, cellsAt_nil, Nat.zero_add, Nat.reduceAdd, true_and, and_true] at F; clear hs))
      refine bodyPost_ret (v := .tuple #[.agg #[.int .i64 (refused room l 1).1, .slice B n d], .int .i64 1]) (by simp [results, Try.results34, F, go_sem]) rfl ⟨_, rfl, ?_⟩
      exact (((HS.out.set 1 rfl 0 _).set 1 rfl 1 _).pk [2] (by decide))
  have hm : moveCode room l from_ to_ = atCode room l from_ := if_pos hto
  have HCC := Aside0.mk hto.1
  have c3 : (from_ == to_) = false := by simpa using hto.2
  clear hto
  by_cases h : atCode room l from_ = 0
  case neg =>
    rw [show moveR room l from_ to_ = refuse room l (atCode room l from_) from by rw [moveR, hm, if_neg h]]
    have c1 : (atCode room l from_ == 0) = false := by simpa using h
    have c2 : (atCode room l from_ != 0) = true := by simpa using h
    clear h hm
    go_enter Try.func34, Try.ntmps34
    go_wp2_with (first | (go_at_call 57; refine (spec_At room A c l from_ _ (Kd.C_alloc (Kd.C_alloc HR.out _) _) HV.out).mono ?_; rintro e w2 ⟨rfl, hb⟩; have HS := Aside0.mk ((((Sep.nil w).alloc _ _).alloc _ _).below hb); have F := HS.out.facts; (try simp only [List.cons_append, List.nil_append, List.set_cons_zero, List.set_cons_succ, size_al, size_set] at HS); replace F := HS.out.facts; simp only [facts_cons, facts_nil, fact_box, fact_row, fact_gone, cellsAt_cons, cellsAt_nil, Nat.zero_add, Nat.reduceAdd, true_and, and_true] at F; clear hb) | (go_at_call 44; refine (spec_isFile _ _).mono ?_; rw [HCC.out]; rintro e w' ⟨rfl, ⟨nd, rfl⟩⟩; replace HS := Aside0.mk (HS.out.drewN nd); (try simp only [List.cons_append, List.nil_append, List.set_cons_zero, List.set_cons_succ, size_al, size_set] at HS); replace F := HS.out.facts; simp only [facts_cons, facts_nil, fact_box, fact_row, fact_gone, cellsAt_cons, cellsAt_nil, Nat.zero_add, Nat.reduceAdd, true_and, and_true] at F) | (go_at_call 58; refine (spec_Refused room A c l _ _ (Kd.C_below HR.out HS.out.old) hl).mono ?_; rintro e w3 ⟨v, rfl, hs⟩; obtain ⟨B, n, d, rfl⟩ := hs.form3 0 rfl; replace HS := Aside0.mk (HS.out.add hs); (try simp only [List.cons_append, List.nil_append, List.set_cons_zero, List.set_cons_succ, size_al, size_set] at HS); replace F := HS.out.facts; simp only [facts_cons, facts_nil, fact_box, fact_row, fact_gone, cellsAt_cons, cellsAt_nil, Nat.zero_add, Nat.reduceAdd, true_and, and_true] at F; clear hs))
    refine bodyPost_ret (v := .tuple #[.agg #[.int .i64 (refused room l (atCode room l from_)).1, .slice B n d], .int .i64 (atCode room l from_)]) (by simp [results, Try.results34, F, go_sem]) rfl ⟨_, rfl, ?_⟩
    exact (((HS.out.set 1 rfl 0 _).set 1 rfl 1 _).pk [2] (by decide))
  obtain ⟨hok, hf, h0, hat⟩ := at_done h
  obtain ⟨j, hj⟩ := Int.eq_ofNat_of_zero_le h0
  rcases fileAt_range l from_ with h1 | ⟨_, h2, _⟩
  · omega
  have p1 : j < l.length := by omega
  rw [show moveR room l from_ to_ = ⟨room, putF (l.eraseIdx j) ⟨to_, (rdFile l j).Safe, (rdFile l j).Late⟩, 0⟩ from by rw [moveR, hm, if_pos h, mvFile, hj, Int.toNat_natCast]]
  have HAT := Aside0.mk (hat.trans hj)
  have HC := Aside0.mk h
  obtain ⟨le, hle⟩ : ∃ le, l.eraseIdx j = le := ⟨_, rfl⟩
  have hz : le.length ≤ 1048576 := by have := List.length_eraseIdx_le l j; rw [hle] at this; omega
  have HE := Aside0.mk (lessFrom_erase l 0 j)
  rw [Nat.zero_add, hle] at HE
  rw [hle]
  have p0 : (0 : Int) ≤ (j : Int) := by omega
  have p2 : (j : Int) < (l.length : Int) := by omega
  clear hok hf h0 hat hj h h2 hm hle
  go_enter Try.func34, Try.ntmps34
  go_wp2_with (first | (go_at_call 57; refine (spec_At room A c l from_ _ (Kd.C_alloc (Kd.C_alloc HR.out _) _) HV.out).mono ?_; rw [HAT.out, HC.out]; rintro e w2 ⟨rfl, hb⟩; have HS := Aside0.mk ((((Sep.nil w).alloc _ _).alloc _ _).below hb); have F := HS.out.facts; (try simp only [List.cons_append, List.nil_append, List.set_cons_zero, List.set_cons_succ, size_al, size_set] at HS); replace F := HS.out.facts; simp only [facts_cons, facts_nil, fact_box, fact_row, fact_gone, cellsAt_cons, cellsAt_nil, Nat.zero_add, Nat.reduceAdd, true_and, and_true] at F; clear hb; obtain ⟨ad, rfl, x0, x1, x2⟩ := atFile (Kd.C_below HR.out HS.out.old) j p1) | (go_at_call 44; refine (spec_isFile _ _).mono ?_; rw [HCC.out]; rintro e w' ⟨rfl, ⟨nd, rfl⟩⟩; replace HS := Aside0.mk (HS.out.drewN nd); generalize hW_ : w2.drewN nd = w9 at HS ⊢; clear hW_; (try simp only [List.cons_append, List.nil_append, List.set_cons_zero, List.set_cons_succ, size_al, size_set] at HS); replace F := HS.out.facts; simp only [facts_cons, facts_nil, fact_box, fact_row, fact_gone, cellsAt_cons, cellsAt_nil, Nat.zero_add, Nat.reduceAdd, true_and, and_true] at F; obtain ⟨ad', e_, x0, x1, x2⟩ := atFile (Kd.C_below HR.out HS.out.old) j p1; injection e_ with e_; subst e_))
  have HLT := Aside0.mk F.2.1
  replace HS := Aside0.mk (HS.out.alloc #[.int .i64 to_, .string (rdFile l j).Safe, .string (rdFile l j).Late] 44)
  generalize hW_ : w9.alloc _ = W3 at HS ⊢
  clear hW_
  (try simp only [List.cons_append, List.nil_append, List.set_cons_zero, List.set_cons_succ, size_al, size_set] at HS); replace F := HS.out.facts; simp only [facts_cons, facts_nil, fact_box, fact_row, fact_gone, cellsAt_cons, cellsAt_nil, Nat.zero_add, Nat.reduceAdd, true_and, and_true] at F
  have M1 : w.heap.size ≠ w.heap.size + 1 := by omega
  have M2 : w9.heap.size ≠ w.heap.size + 1 := by have := HLT.out; omega
  go_region_held3 (fun W => W.cell? ⟨w.heap.size, 0, none⟩ = some (.int .i64 room) ∧ W.cell? ⟨w.heap.size, 1, none⟩ = some (.slice (some ad) l.length c) ∧ W.cell? ⟨w9.heap.size, 0, none⟩ = some (.int .i64 to_) ∧ W.cell? ⟨w9.heap.size, 1, none⟩ = some (.string (rdFile l j).Safe) ∧ W.cell? ⟨w9.heap.size, 2, none⟩ = some (.string (rdFile l j).Late)) (first | exact ⟨F.1.2.1.1, F.1.2.2.1, F.2.2.2.1.1, F.2.2.2.2.1.1, F.2.2.2.2.2.1⟩ | exact ⟨(cell_far (p := ⟨w.heap.size + 1, 1, none⟩) (a := ⟨w.heap.size, 0, none⟩) M1 _).trans ((cell_far (p := ⟨w.heap.size + 1, 0, none⟩) (a := ⟨w.heap.size, 0, none⟩) M1 _).trans F.1.2.1.1), (cell_far (p := ⟨w.heap.size + 1, 1, none⟩) (a := ⟨w.heap.size, 1, none⟩) M1 _).trans ((cell_far (p := ⟨w.heap.size + 1, 0, none⟩) (a := ⟨w.heap.size, 1, none⟩) M1 _).trans F.1.2.2.1), (cell_far (p := ⟨w.heap.size + 1, 1, none⟩) (a := ⟨w9.heap.size, 0, none⟩) M2 _).trans ((cell_far (p := ⟨w.heap.size + 1, 0, none⟩) (a := ⟨w9.heap.size, 0, none⟩) M2 _).trans F.2.2.2.1.1), (cell_far (p := ⟨w.heap.size + 1, 1, none⟩) (a := ⟨w9.heap.size, 1, none⟩) M2 _).trans ((cell_far (p := ⟨w.heap.size + 1, 0, none⟩) (a := ⟨w9.heap.size, 1, none⟩) M2 _).trans F.2.2.2.2.1.1), (cell_far (p := ⟨w.heap.size + 1, 1, none⟩) (a := ⟨w9.heap.size, 2, none⟩) M2 _).trans ((cell_far (p := ⟨w.heap.size + 1, 0, none⟩) (a := ⟨w9.heap.size, 2, none⟩) M2 _).trans F.2.2.2.2.2.1)⟩ | go_keep)
    (first | (go_at_call 63; refine (spec_Less room _ c l j _ (Kd.C_below HR.out HS.out.drew.old) hl).mono ?_; rw [HE.out]; rintro e w6 ⟨v, rfl, hs⟩; obtain ⟨B, n, d, rfl⟩ := hs.form3 0 rfl; obtain rfl := (hs.len 0 rfl).1; replace HS := Aside0.mk (HS.out.drew.add hs); (try simp only [List.cons_append, List.nil_append, List.set_cons_zero, List.set_cons_succ, size_al, size_set] at HS); replace F := HS.out.facts; simp only [facts_cons, facts_nil, fact_box, fact_row, fact_gone, cellsAt_cons, cellsAt_nil, Nat.zero_add, Nat.reduceAdd, true_and, and_true] at F; clear hs) | (go_at_call 59; refine (spec_Put room _ _ le ⟨to_, (rdFile l j).Safe, (rdFile l j).Late⟩ _ (HS.out.C 3 rfl) hz).mono ?_; rintro e w7 ⟨v, rfl, hs⟩; obtain ⟨B2, n2, d2, rfl⟩ := hs.form3 0 rfl; replace HS := Aside0.mk (HS.out.add hs); (try simp only [List.cons_append, List.nil_append, List.set_cons_zero, List.set_cons_succ, size_al, size_set] at HS); replace F := HS.out.facts; simp only [facts_cons, facts_nil, fact_box, fact_row, fact_gone, cellsAt_cons, cellsAt_nil, Nat.zero_add, Nat.reduceAdd, true_and, and_true] at F; clear hs))
  go_wp2
  refine bodyPost_ret (v := .tuple #[.agg #[.int .i64 room, .slice B2 n2 d2], .int .i64 0]) (by simp [results, Try.results34, F, go_sem]) rfl ⟨_, rfl, ?_⟩
  exact (((HS.out.set 1 rfl 0 _).set 1 rfl 1 _).pk [4] (by decide))
end Go.Proofs.Ytbbeaghhchjkgaa.Dk
