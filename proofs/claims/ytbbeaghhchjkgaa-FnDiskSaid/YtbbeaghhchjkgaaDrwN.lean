/- A new cursor, and the disk that FnDisk draws. No condition. -/
import Derived.Test.YtbbeaghhchjkgaaDrwD
namespace Go.Proofs.Ytbbeaghhchjkgaa.Cu
open Go.RowKit Go.Proofs.YtbbeaghhchjkgaaW Go.Proofs.YtbbeaghhchjkgaaW.PrintWords Go.Proofs.Ytbbeaghhchjkgaa.Sp Go.Proofs.Ytbbeaghhchjkgaa.Ty Go.Proofs.Ytbbeaghhchjkgaa.Im Go.Proofs.Ytbbeaghhchjkgaa.Lw Go.Proofs.Ytbbeaghhchjkgaa.Dk
set_option linter.unusedVariables false
set_option linter.unusedSimpArgs false
attribute [local go_sem ↓] Go.wp_at_zero Go.wp_at_succ
attribute [local go_sem] World.cell?_alloc_lt
set_option maxRecDepth 100000 in
set_option maxHeartbeats 1000000 in
theorem new_cur (w : World) (cp : Nat) (A : Option Addr) (bs : List Int) (hC : Kd.C (Kd.int .u8) w A bs.length bs) :
    Calls Try.prog 60 #[.slice A bs.length cp] w fun e w' => ∃ g, e = .returned (.pointer (some ⟨g, 0, none⟩)) ∧ Sep w w' [Ob.cur g A bs.length cp] := by
  have HC := Aside0.mk hC
  have hm := Kd.C_max hC
  have hu := Try.underlying118
  clear hC
  go_enter Try.func60, Try.ntmps60
  go_wp2
  go_loopw [3, 4] (fun p q wr => ∃ (j : Nat) (h : Int), p = .int .i64 h ∧ q = .int .i64 j ∧ j ≤ bs.length ∧ Aside0 (Sep w wr [])) (fun _ q _ => bs.length - (intOf q).toNat)
  case atStart => exact ⟨0, _, rfl, rfl, Nat.zero_le _, ⟨Sep.nil _⟩⟩
  case round =>
    obtain ⟨j, h, rfl, rfl, hj, HS⟩ := hrel
    have exit : Aside0 (∀ W : World, Sep w W [] → ∀ h2 : Int, ∃ g, Ending.returned (.pointer (some ⟨W.heap.size, 0, none⟩)) = .returned (.pointer (some ⟨g, 0, none⟩)) ∧ Sep w (W.alloc (.cells #[.slice A bs.length cp, .int .i64 0, .int .i64 h2] 118)) [Ob.cur g A bs.length cp]) :=
      ⟨fun W hW h2 => ⟨W.heap.size, rfl, Sep.closeCur (hW.alloc _ _) (Int.le_refl 0)⟩⟩
    by_cases hlt : j < bs.length
    · have c1 : decide ((j : Int) < (bs.length : Int)) = true := decide_eq_true (by omega)
      have c2 : decide (j < bs.length) = true := decide_eq_true hlt
      by_cases h4 : j < 4000
      · have c3 : decide ((j : Int) < 4000) = true := decide_eq_true (by omega)
        have c4 : decide (j < 4000) = true := decide_eq_true h4
        obtain ⟨ad, rfl, x0⟩ := atByte (Kd.C_below HC.out HS.out.old) j hlt
        go_wp2
        go_roundw
        case rel => exact ⟨j + 1, _, rfl, by go_num, by omega, HS⟩
        case measure => simp [intOf]; omega
      · have c3 : decide ((j : Int) < 4000) = false := decide_eq_false (by omega)
        have c4 : decide (j < 4000) = false := decide_eq_false h4
        go_wp2
        go_ret
        exact exit.out _ HS.out _
    · have c1 : decide ((j : Int) < (bs.length : Int)) = false := decide_eq_false (by omega)
      have c2 : decide (j < bs.length) = false := decide_eq_false hlt
      go_wp2
      go_ret
      exact exit.out _ HS.out _
set_option maxRecDepth 100000 in
set_option maxHeartbeats 1000000 in
theorem draw_Crash (w : World) (cp : Nat) (A : Option Addr) (bs : List Int) (hC : Kd.C (Kd.int .u8) w A bs.length bs) :
    Calls Try.prog 27 #[.slice A bs.length cp] w fun e w' => ∃ v room l keep, e = .returned (.tuple #[.agg #[.int .i64 room, v], .int .i64 keep]) ∧ mu l ≤ 20001 ∧ Sep w w' [Ob.row kFile 44 v l] := by
  have HC := Aside0.mk hC
  have HS := Aside0.mk ((Sep.nil w).alloc #[.int .i64 0, .slice none 0 0] 29)
  have hu := Try.underlying29
  clear hC
  go_enter Try.func27, Try.ntmps27
  go_wp2_with (first | (go_at_call 60; refine (new_cur _ cp A bs (Kd.C_below HC.out HS.out.old)).mono ?_; rintro e w2 ⟨g, rfl, hs⟩; have hs : Sep w w2 (Ob.cur g A bs.length cp :: [Ob.box w.heap.size #[.int .i64 0, .slice none 0 0] 29]) := (HS.out.add hs).pk [1, 0] (by decide); replace HS := Aside0.mk hs; clear hs) | (go_at_call 61; refine (cur_Disk w _ _ g cp A bs HS.out HC.out).mono ?_; rintro e w3 ⟨v, room, l, rfl, hmu, hs⟩; obtain ⟨B, n, cap, rfl⟩ := hs.form3 1 rfl; obtain rfl := (hs.len 1 rfl).1; have F := hs.facts; replace HS := Aside0.mk hs; clear hs; simp only [fact_cur, facts_cons, facts_nil, fact_box, fact_row, fact_gone, cellsAt_cons, cellsAt_nil, Nat.zero_add, Nat.reduceAdd, true_and, and_true] at F))
  have M1 : w3.heap.size ≠ w.heap.size := by have := F.1; omega
  replace HS := Aside0.mk (HS.out.alloc #[.int .i64 room, .slice B l.length cap] 29).ins1
  obtain ⟨g5, hg5⟩ : ∃ g5, g5 = w3.heap.size := ⟨_, rfl⟩
  rw [← hg5] at HS M1
  rw [← hg5]
  generalize w3.alloc _ = w4 at HS ⊢
  clear hg5
  replace F := HS.out.facts
  simp only [fact_cur, facts_cons, facts_nil, fact_box, fact_row, fact_gone, cellsAt_cons, cellsAt_nil, Nat.zero_add, Nat.reduceAdd, true_and, and_true] at F
  go_region_held3 (fun W => W.cell? ⟨g5, 0, none⟩ = some (.int .i64 room) ∧ W.cell? ⟨g5, 1, none⟩ = some (.slice B l.length cap)) (first | exact ⟨F.1.2.1.1, F.1.2.2.1⟩ | exact ⟨(cell_far (p := ⟨w.heap.size, 1, none⟩) (a := ⟨g5, 0, none⟩) M1 _).trans ((cell_far (p := ⟨w.heap.size, 0, none⟩) (a := ⟨g5, 0, none⟩) M1 _).trans F.1.2.1.1), (cell_far (p := ⟨w.heap.size, 1, none⟩) (a := ⟨g5, 1, none⟩) M1 _).trans ((cell_far (p := ⟨w.heap.size, 0, none⟩) (a := ⟨g5, 1, none⟩) M1 _).trans F.1.2.2.1)⟩ | go_keep)
    (first | (go_at_call 62; refine (cur_Below w _ _ g cp A bs HS.out.drew HC.out 14 (by decide) (by decide)).mono ?_; rintro e w7 ⟨x, rfl, ⟨hx0, hx1⟩, hs⟩; have hq : IntKind.i64.wrap (x - 1) = x - 1 := (by rw [IntKind.wrap_i64]; omega); replace HS := Aside0.mk hs; clear hs; replace F := HS.out.facts; simp only [fact_cur, facts_cons, facts_nil, fact_box, fact_row, fact_gone, cellsAt_cons, cellsAt_nil, Nat.zero_add, Nat.reduceAdd, true_and, and_true] at F))
  go_wp2
  refine bodyPost_ret (v := .tuple #[.agg #[.int .i64 room, .slice B l.length cap], .int .i64 (x - 1)]) (by simp [results, Try.results27, F, go_sem]) rfl ⟨_, room, l, x - 1, rfl, hmu, ?_⟩
  exact ((HS.out.set 3 rfl 0 (.int .i64 room)).set 3 rfl 1 (.slice B l.length cap)).pk [2] (by decide)
end Go.Proofs.Ytbbeaghhchjkgaa.Cu
