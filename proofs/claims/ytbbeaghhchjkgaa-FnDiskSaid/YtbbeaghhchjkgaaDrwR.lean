/- A drawn disk, step by step. No condition. -/
import Derived.Test.YtbbeaghhchjkgaaDrwP
import Derived.Test.YtbbeaghhchjkgaaCur2
namespace Go.Proofs.Ytbbeaghhchjkgaa.Cu
open Go.RowKit Go.Proofs.YtbbeaghhchjkgaaW Go.Proofs.YtbbeaghhchjkgaaW.PrintWords Go.Proofs.Ytbbeaghhchjkgaa.Sp Go.Proofs.Ytbbeaghhchjkgaa.Ty Go.Proofs.Ytbbeaghhchjkgaa.Im Go.Proofs.Ytbbeaghhchjkgaa.Lw Go.Proofs.Ytbbeaghhchjkgaa.Dk
set_option linter.unusedVariables false
set_option linter.unusedSimpArgs false
attribute [local go_sem ↓] Go.wp_at_zero Go.wp_at_succ
attribute [local go_sem] World.cell?_alloc_lt
theorem pow_bd : ∀ i : Nat, i < 12 → (2 : Int) ^ i ≤ 2048 := by decide
theorem pow_up (i : Nat) : (2 : Int) ^ (i + 1) = 2 * 2 ^ i := by rw [Int.pow_succ]; omega
set_option maxRecDepth 100000 in
set_option maxHeartbeats 8000000 in
theorem cur_Right (w0 w : World) (M : List Ob) (g cp : Nat) (A : Option Addr) (bs : List Int) (hs : Sep w0 w (Ob.cur g A bs.length cp :: M)) (hC : Kd.C (Kd.int .u8) w0 A bs.length bs) :
    Calls Try.prog 94 #[.pointer (some ⟨g, 0, none⟩)] w fun e w' => ∃ v room l, e = .returned (.agg #[.int .i64 room, v]) ∧ mu l ≤ 20000 ∧ Sep w0 w' (Ob.cur g A bs.length cp :: Ob.row kFile 44 v l :: M) := by
  have HC := Aside0.mk hC
  have HS := Aside0.mk (hs.alloc #[.int .i64 0, .slice none 0 0] 29).ins1
  have hu := Try.underlying29
  have hu2 := Try.underlying44
  obtain ⟨g2, hg2⟩ : ∃ g2, g2 = w.heap.size := ⟨_, rfl⟩
  clear hs hC
  go_enter Try.func94, Try.ntmps94
  go_wp2_with (first | (go_at_call 62; refine (cur_Below w0 _ _ g cp A bs HS.out HC.out 200 (by decide) (by decide)).mono ?_; rintro e w2 ⟨x, rfl, ⟨hx0, hx1⟩, hs⟩; have hsum : wrap64 (60 + x) = 60 + x := (by unfold wrap64; omega); replace HS := Aside0.mk hs; clear hs) | (go_at_call 110; refine hold ?_))
  intro _
  have hs := ((HS.out.alloc #[.int .i64 (60 + x), .slice none 0 0] 29).ins1.add (Sep.none_ kFile 44 _)).ins1
  obtain ⟨g3, hg3⟩ : ∃ g3, g3 = w2.heap.size := ⟨_, rfl⟩
  rw [← hg2, ← hg3] at hs
  rw [← hg2, ← hg3]
  generalize w2.alloc _ = w3 at hs ⊢
  generalize 60 + x = room at hs ⊢
  replace HS := Aside0.mk hs
  clear hs hg2 hg3 hsum hx0 hx1
  refine (cur_Once w0 _ _ g cp A bs HS.out HC.out 9 (by decide) (by decide)).mono ?_
  rintro e w4 ⟨b, rfl, hs⟩
  replace HS := Aside0.mk hs
  clear hs
  cases b
  case false =>
    have F := HS.out.facts
    simp only [fact_cur, facts_cons, facts_nil, fact_box, fact_row, fact_gone, cellsAt_cons, cellsAt_nil, Nat.zero_add, Nat.reduceAdd, true_and, and_true] at F
    go_wp2
    go_loopw [4] (fun q wr => ∃ (i : Nat) (room : Int) (l : List File) (B : Option Addr) (cap : Nat), q = .int .i64 i ∧ i ≤ 11 ∧ mu l + 9 ≤ 9 * (2 : Int) ^ i ∧ Aside0 (Sep w0 wr (Ob.cur g A bs.length cp :: Ob.row kFile 44 (.slice B l.length cap) l :: Ob.box g3 #[.int .i64 room, .slice B l.length cap] 29 :: Ob.box g2 #[.int .i64 0, .slice none 0 0] 29 :: M))) (fun q _ => 12 - (intOf q).toNat)
    case atStart => exact ⟨0, _, [], none, 0, rfl, by omega, by rw [mu_nil]; decide, HS⟩
    case round =>
      clear HS F
      obtain ⟨i, room, l, B, cap, rfl, hi, hmu0, HS⟩ := hrel
      have hpw := pow_bd i (by omega)
      have hpu := pow_up i
      generalize (2 : Int) ^ i = pw at hpw hpu hmu0
      have hsm : Small l := by show mu l ≤ 1048576; omega
      have hl : l.length ≤ 1048576 := by have := vol_nonneg l; unfold Small at hsm; omega
      have F := HS.out.facts
      simp only [fact_cur, facts_cons, facts_nil, fact_box, fact_row, fact_gone, cellsAt_cons, cellsAt_nil, Nat.zero_add, Nat.reduceAdd, true_and, and_true] at F
      go_wp2_with (go_at_call 62; refine hold ?_)
      intro _
      refine (cur_Below w0 _ _ g cp A bs HS.out HC.out 12 (by decide) (by decide)).mono ?_
      rintro e w5 ⟨x, rfl, ⟨hx0, hx1⟩, hs⟩
      replace HS := Aside0.mk hs
      clear hs
      replace F := HS.out.facts
      simp only [fact_cur, facts_cons, facts_nil, fact_box, fact_row, fact_gone, cellsAt_cons, cellsAt_nil, Nat.zero_add, Nat.reduceAdd, true_and, and_true] at F
      by_cases hlt : (i : Int) < x
      case neg =>
        have c1 : decide ((i : Int) < x) = false := decide_eq_false hlt
        go_wp2
        refine bodyPost_ret (v := .agg #[.int .i64 room, .slice B l.length cap]) (by simp [results, Try.results94, F, go_sem]) rfl ⟨_, room, l, rfl, by omega, ?_⟩
        have hs := (HS.out.set 3 rfl 0 (.int .i64 room)).set 3 rfl 1 (.slice B l.length cap)
        exact (hs.swap1.del1).swap1.del1
      have c1 : decide ((i : Int) < x) = true := decide_eq_true hlt
      have hi1 : i + 1 ≤ 11 := by omega
      clear hlt hx0 hx1
      go_wp2_with (go_at_call 62; refine hold ?_)
      intro _
      have hs := (HS.out.alloc #[.int .i64 room, .slice B l.length cap] 29).ins1
      obtain ⟨g5, hg5⟩ : ∃ g5, g5 = w5.heap.size := ⟨_, rfl⟩
      have M1 : g3 ≠ g5 := by rw [hg5]; exact Nat.ne_of_lt F.1.1
      rw [← hg5] at hs
      rw [← hg5]
      generalize w5.alloc _ = w6 at hs ⊢
      replace HS := Aside0.mk hs
      clear hs hg5
      refine (cur_Below w0 _ _ g cp A bs HS.out HC.out 6 (by decide) (by decide)).mono ?_
      rintro e w6 ⟨y, rfl, ⟨hy0, hy1⟩, hs⟩
      replace HS := Aside0.mk hs
      clear hs
      replace F := HS.out.facts
      simp only [fact_cur, facts_cons, facts_nil, fact_box, fact_row, fact_gone, cellsAt_cons, cellsAt_nil, Nat.zero_add, Nat.reduceAdd, true_and, and_true] at F
      have hy : (y = 0 ∨ y = 1 ∨ y = 2) ∨ y = 3 ∨ y = 4 ∨ y = 5 := by omega
      clear hy0 hy1
      rcases hy with hy | rfl | rfl | rfl
      · rcases hy with rfl | rfl | rfl
        all_goals
          go_wp2
          go_region_held3 (fun W => W.cell? ⟨g3, 0, none⟩ = some (.int .i64 room) ∧ W.cell? ⟨g3, 1, none⟩ = some (.slice B l.length cap)) (first | exact ⟨F.2.1.2.1.1, F.2.1.2.2.1⟩ | exact ⟨(cell_far (p := ⟨g5, 1, none⟩) (a := ⟨g3, 0, none⟩) M1 _).trans ((cell_far (p := ⟨g5, 0, none⟩) (a := ⟨g3, 0, none⟩) M1 _).trans F.2.1.2.1.1), (cell_far (p := ⟨g5, 1, none⟩) (a := ⟨g3, 1, none⟩) M1 _).trans ((cell_far (p := ⟨g5, 0, none⟩) (a := ⟨g3, 1, none⟩) M1 _).trans F.2.1.2.2.1)⟩ | go_keep) (first | (go_at_call 62; refine (cur_Below w0 _ _ g cp A bs HS.out.drew HC.out 5 (by decide) (by decide)).mono ?_; rintro e w7 ⟨n1, rfl, _, hs⟩; replace HS := Aside0.mk hs; clear hs; replace F := HS.out.facts; simp only [fact_cur, facts_cons, facts_nil, fact_box, fact_row, fact_gone, cellsAt_cons, cellsAt_nil, Nat.zero_add, Nat.reduceAdd, true_and, and_true] at F) | (go_at_call 111; refine (cur_Text w0 _ _ g cp A bs HS.out HC.out 8 (by decide) (by decide)).mono ?_; rintro e w7 ⟨s, rfl, hz, hs⟩; replace HS := Aside0.mk hs; clear hs; replace F := HS.out.facts; simp only [fact_cur, facts_cons, facts_nil, fact_box, fact_row, fact_gone, cellsAt_cons, cellsAt_nil, Nat.zero_add, Nat.reduceAdd, true_and, and_true] at F) | (go_at_call 32; refine (spec_Append room B cap l n1 s _ (HS.out.C 2 rfl) hsm hl (by omega)).mono ?_; rintro e w8 ⟨v, rfl, hs⟩; obtain ⟨B2, n2, d2, rfl⟩ := hs.form3 0 rfl; obtain rfl := (hs.len 0 rfl).1; have hmu := mu_append room l n1 s hz; generalize appendR room l n1 s = R at hs hmu ⊢; obtain ⟨rr, lr, code⟩ := R; dsimp only at hs hmu ⊢; replace HS := Aside0.mk (HS.out.add hs).ins1; clear hs; replace F := HS.out.facts; simp only [fact_cur, facts_cons, facts_nil, fact_box, fact_row, fact_gone, cellsAt_cons, cellsAt_nil, Nat.zero_add, Nat.reduceAdd, true_and, and_true] at F))
          have hs := (HS.out.set 2 rfl 0 (.int .i64 rr)).set 2 rfl 1 (.slice B2 lr.length d2)
          simp only [List.set_cons_zero, List.setIfInBounds_toArray, List.set_cons_succ] at hs
          generalize World.setCell (World.setCell _ _ _) _ _ = w9 at hs ⊢
          replace HS := Aside0.mk hs
          clear hs
          replace F := HS.out.facts
          simp only [fact_cur, facts_cons, facts_nil, fact_box, fact_row, fact_gone, cellsAt_cons, cellsAt_nil, Nat.zero_add, Nat.reduceAdd, true_and, and_true] at F
          by_cases hcode : code = 1
          case pos =>
            have k1 : (code != 1) = false := by simpa using hcode
            clear hcode
            go_wp2
            go_roundw
            case rel => exact ⟨i + 1, room, l, B, cap, by go_num, hi1, by rw [hpu]; have := mu_nonneg l; omega, ⟨HS.out.del1.del1⟩⟩
            case measure => simp [intOf]; omega
          have k1 : (code != 1) = true := by simpa using hcode
          clear hcode
          go_wp2
          go_roundw
          case rel =>
            have hs := (HS.out.set 4 rfl 0 (.int .i64 rr)).set 4 rfl 1 (.slice B2 lr.length d2)
            simp only [List.set_cons_zero, List.setIfInBounds_toArray, List.set_cons_succ] at hs
            exact ⟨i + 1, rr, lr, B2, d2, by go_num, hi1, by rw [hpu]; have := mu_nonneg l; omega, ⟨hs.swap1.del1.swap1.del1⟩⟩
          case measure => simp [intOf]; omega
      · go_wp2
        go_wp2
        go_region_held3 (fun W => W.cell? ⟨g3, 0, none⟩ = some (.int .i64 room) ∧ W.cell? ⟨g3, 1, none⟩ = some (.slice B l.length cap)) (first | exact ⟨F.2.1.2.1.1, F.2.1.2.2.1⟩ | exact ⟨(cell_far (p := ⟨g5, 1, none⟩) (a := ⟨g3, 0, none⟩) M1 _).trans ((cell_far (p := ⟨g5, 0, none⟩) (a := ⟨g3, 0, none⟩) M1 _).trans F.2.1.2.1.1), (cell_far (p := ⟨g5, 1, none⟩) (a := ⟨g3, 1, none⟩) M1 _).trans ((cell_far (p := ⟨g5, 0, none⟩) (a := ⟨g3, 1, none⟩) M1 _).trans F.2.1.2.2.1)⟩ | go_keep) (first | (go_at_call 62; refine (cur_Below w0 _ _ g cp A bs HS.out.drew HC.out 5 (by decide) (by decide)).mono ?_; rintro e w7 ⟨n1, rfl, _, hs⟩; replace HS := Aside0.mk hs; clear hs; replace F := HS.out.facts; simp only [fact_cur, facts_cons, facts_nil, fact_box, fact_row, fact_gone, cellsAt_cons, cellsAt_nil, Nat.zero_add, Nat.reduceAdd, true_and, and_true] at F) | (go_at_call 24; refine (spec_Sync room B cap l n1 _ (HS.out.C 2 rfl) hsm hl).mono ?_; rintro e w8 ⟨v, rfl, hs⟩; obtain ⟨B2, n2, d2, rfl⟩ := hs.form3 0 rfl; obtain rfl := (hs.len 0 rfl).1; have hmu := mu_sync room l n1; generalize syncR room l n1 = R at hs hmu ⊢; obtain ⟨rr, lr, code⟩ := R; dsimp only at hs hmu ⊢; replace HS := Aside0.mk (HS.out.add hs).ins1; clear hs; replace F := HS.out.facts; simp only [fact_cur, facts_cons, facts_nil, fact_box, fact_row, fact_gone, cellsAt_cons, cellsAt_nil, Nat.zero_add, Nat.reduceAdd, true_and, and_true] at F))
        have hs := (HS.out.set 2 rfl 0 (.int .i64 rr)).set 2 rfl 1 (.slice B2 lr.length d2)
        simp only [List.set_cons_zero, List.setIfInBounds_toArray, List.set_cons_succ] at hs
        generalize World.setCell (World.setCell _ _ _) _ _ = w9 at hs ⊢
        replace HS := Aside0.mk hs
        clear hs
        replace F := HS.out.facts
        simp only [fact_cur, facts_cons, facts_nil, fact_box, fact_row, fact_gone, cellsAt_cons, cellsAt_nil, Nat.zero_add, Nat.reduceAdd, true_and, and_true] at F
        by_cases hcode : code = 1
        case pos =>
          have k1 : (code != 1) = false := by simpa using hcode
          clear hcode
          go_wp2
          go_roundw
          case rel => exact ⟨i + 1, room, l, B, cap, by go_num, hi1, by rw [hpu]; have := mu_nonneg l; omega, ⟨HS.out.del1.del1⟩⟩
          case measure => simp [intOf]; omega
        have k1 : (code != 1) = true := by simpa using hcode
        clear hcode
        go_wp2
        go_roundw
        case rel =>
          have hs := (HS.out.set 4 rfl 0 (.int .i64 rr)).set 4 rfl 1 (.slice B2 lr.length d2)
          simp only [List.set_cons_zero, List.setIfInBounds_toArray, List.set_cons_succ] at hs
          exact ⟨i + 1, rr, lr, B2, d2, by go_num, hi1, by rw [hpu]; have := mu_nonneg l; omega, ⟨hs.swap1.del1.swap1.del1⟩⟩
        case measure => simp [intOf]; omega
      · go_wp2
        go_wp2
        go_region_held3 (fun W => W.cell? ⟨g3, 0, none⟩ = some (.int .i64 room) ∧ W.cell? ⟨g3, 1, none⟩ = some (.slice B l.length cap)) (first | exact ⟨F.2.1.2.1.1, F.2.1.2.2.1⟩ | exact ⟨(cell_far (p := ⟨g5, 1, none⟩) (a := ⟨g3, 0, none⟩) M1 _).trans ((cell_far (p := ⟨g5, 0, none⟩) (a := ⟨g3, 0, none⟩) M1 _).trans F.2.1.2.1.1), (cell_far (p := ⟨g5, 1, none⟩) (a := ⟨g3, 1, none⟩) M1 _).trans ((cell_far (p := ⟨g5, 0, none⟩) (a := ⟨g3, 1, none⟩) M1 _).trans F.2.1.2.2.1)⟩ | go_keep) (first | (go_at_call 62; (with_reducible show Calls _ _ #[_, .int .i64 5] _ _); refine (cur_Below w0 _ _ g cp A bs HS.out.drew HC.out 5 (by decide) (by decide)).mono ?_; rintro e w7 ⟨n1, rfl, _, hs⟩; replace HS := Aside0.mk hs; clear hs; replace F := HS.out.facts; simp only [fact_cur, facts_cons, facts_nil, fact_box, fact_row, fact_gone, cellsAt_cons, cellsAt_nil, Nat.zero_add, Nat.reduceAdd, true_and, and_true] at F) | (go_at_call 62; refine (cur_Below w0 _ _ g cp A bs HS.out HC.out 22 (by decide) (by decide)).mono ?_; rintro e w7 ⟨n2, rfl, _, hs⟩; replace HS := Aside0.mk hs; clear hs; replace F := HS.out.facts; simp only [fact_cur, facts_cons, facts_nil, fact_box, fact_row, fact_gone, cellsAt_cons, cellsAt_nil, Nat.zero_add, Nat.reduceAdd, true_and, and_true] at F) | (go_at_call 34; refine (spec_Move room B cap l n1 n2 _ (HS.out.C 2 rfl) hsm hl).mono ?_; rintro e w8 ⟨v, rfl, hs⟩; obtain ⟨B2, n3, d2, rfl⟩ := hs.form3 0 rfl; obtain rfl := (hs.len 0 rfl).1; have hmu := mu_move room l n1 n2; generalize moveR room l n1 n2 = R at hs hmu ⊢; obtain ⟨rr, lr, code⟩ := R; dsimp only at hs hmu ⊢; replace HS := Aside0.mk (HS.out.add hs).ins1; clear hs; replace F := HS.out.facts; simp only [fact_cur, facts_cons, facts_nil, fact_box, fact_row, fact_gone, cellsAt_cons, cellsAt_nil, Nat.zero_add, Nat.reduceAdd, true_and, and_true] at F))
        have hs := (HS.out.set 2 rfl 0 (.int .i64 rr)).set 2 rfl 1 (.slice B2 lr.length d2)
        simp only [List.set_cons_zero, List.setIfInBounds_toArray, List.set_cons_succ] at hs
        generalize World.setCell (World.setCell _ _ _) _ _ = w9 at hs ⊢
        replace HS := Aside0.mk hs
        clear hs
        replace F := HS.out.facts
        simp only [fact_cur, facts_cons, facts_nil, fact_box, fact_row, fact_gone, cellsAt_cons, cellsAt_nil, Nat.zero_add, Nat.reduceAdd, true_and, and_true] at F
        by_cases hcode : code = 1
        case pos =>
          have k1 : (code != 1) = false := by simpa using hcode
          clear hcode
          go_wp2
          go_roundw
          case rel => exact ⟨i + 1, room, l, B, cap, by go_num, hi1, by rw [hpu]; have := mu_nonneg l; omega, ⟨HS.out.del1.del1⟩⟩
          case measure => simp [intOf]; omega
        have k1 : (code != 1) = true := by simpa using hcode
        clear hcode
        go_wp2
        go_roundw
        case rel =>
          have hs := (HS.out.set 4 rfl 0 (.int .i64 rr)).set 4 rfl 1 (.slice B2 lr.length d2)
          simp only [List.set_cons_zero, List.setIfInBounds_toArray, List.set_cons_succ] at hs
          exact ⟨i + 1, rr, lr, B2, d2, by go_num, hi1, by rw [hpu]; have := mu_nonneg l; omega, ⟨hs.swap1.del1.swap1.del1⟩⟩
        case measure => simp [intOf]; omega
      · go_wp2
        go_wp2
        go_region_held3 (fun W => W.cell? ⟨g3, 0, none⟩ = some (.int .i64 room) ∧ W.cell? ⟨g3, 1, none⟩ = some (.slice B l.length cap)) (first | exact ⟨F.2.1.2.1.1, F.2.1.2.2.1⟩ | exact ⟨(cell_far (p := ⟨g5, 1, none⟩) (a := ⟨g3, 0, none⟩) M1 _).trans ((cell_far (p := ⟨g5, 0, none⟩) (a := ⟨g3, 0, none⟩) M1 _).trans F.2.1.2.1.1), (cell_far (p := ⟨g5, 1, none⟩) (a := ⟨g3, 1, none⟩) M1 _).trans ((cell_far (p := ⟨g5, 0, none⟩) (a := ⟨g3, 1, none⟩) M1 _).trans F.2.1.2.2.1)⟩ | go_keep) (first | (go_at_call 62; refine (cur_Below w0 _ _ g cp A bs HS.out.drew HC.out 9 (by decide) (by decide)).mono ?_; rintro e w7 ⟨n1, rfl, _, hs⟩; replace HS := Aside0.mk hs; clear hs; replace F := HS.out.facts; simp only [fact_cur, facts_cons, facts_nil, fact_box, fact_row, fact_gone, cellsAt_cons, cellsAt_nil, Nat.zero_add, Nat.reduceAdd, true_and, and_true] at F) | (go_at_call 28; refine (spec_Drop room B cap l n1 _ (HS.out.C 2 rfl) hsm hl).mono ?_; rintro e w8 ⟨v, rfl, hs⟩; obtain ⟨B2, n2, d2, rfl⟩ := hs.form3 0 rfl; obtain rfl := (hs.len 0 rfl).1; have hmu := mu_drop room l n1; generalize dropR room l n1 = R at hs hmu ⊢; obtain ⟨rr, lr, code⟩ := R; dsimp only at hs hmu ⊢; replace HS := Aside0.mk (HS.out.add hs).ins1; clear hs; replace F := HS.out.facts; simp only [fact_cur, facts_cons, facts_nil, fact_box, fact_row, fact_gone, cellsAt_cons, cellsAt_nil, Nat.zero_add, Nat.reduceAdd, true_and, and_true] at F))
        have hs := (HS.out.set 2 rfl 0 (.int .i64 rr)).set 2 rfl 1 (.slice B2 lr.length d2)
        simp only [List.set_cons_zero, List.setIfInBounds_toArray, List.set_cons_succ] at hs
        generalize World.setCell (World.setCell _ _ _) _ _ = w9 at hs ⊢
        replace HS := Aside0.mk hs
        clear hs
        replace F := HS.out.facts
        simp only [fact_cur, facts_cons, facts_nil, fact_box, fact_row, fact_gone, cellsAt_cons, cellsAt_nil, Nat.zero_add, Nat.reduceAdd, true_and, and_true] at F
        by_cases hcode : code = 1
        case pos =>
          have k1 : (code != 1) = false := by simpa using hcode
          clear hcode
          go_wp2
          go_roundw
          case rel => exact ⟨i + 1, room, l, B, cap, by go_num, hi1, by rw [hpu]; have := mu_nonneg l; omega, ⟨HS.out.del1.del1⟩⟩
          case measure => simp [intOf]; omega
        have k1 : (code != 1) = true := by simpa using hcode
        clear hcode
        go_wp2
        go_roundw
        case rel =>
          have hs := (HS.out.set 4 rfl 0 (.int .i64 rr)).set 4 rfl 1 (.slice B2 lr.length d2)
          simp only [List.set_cons_zero, List.setIfInBounds_toArray, List.set_cons_succ] at hs
          exact ⟨i + 1, rr, lr, B2, d2, by go_num, hi1, by rw [hpu]; have := mu_nonneg l; omega, ⟨hs.swap1.del1.swap1.del1⟩⟩
        case measure => simp [intOf]; omega
  case true =>
    have F := HS.out.facts
    simp only [fact_cur, facts_cons, facts_nil, fact_box, fact_row, fact_gone, cellsAt_cons, cellsAt_nil, Nat.zero_add, Nat.reduceAdd, true_and, and_true] at F
    go_wp2_with (go_at_call 95; refine (cur_PickInt w0 _ _ g cp A bs _ 3 [0, 60000, 20] (by decide) (by decide) (HS.out.alloc #[.int .i64 0, .int .i64 60000, .int .i64 20] 3).ins1 HC.out).mono ?_; rintro e w5 ⟨y, rfl, hs⟩; replace HS := Aside0.mk hs; clear hs; have F := HS.out.facts; simp only [fact_cur, facts_cons, facts_nil, fact_box, fact_row, fact_gone, cellsAt_cons, cellsAt_nil, Nat.zero_add, Nat.reduceAdd, true_and, and_true] at F)
    have hs := (HS.out.set 3 rfl 0 (.int .i64 y)).del1
    simp only [List.set_cons_zero, List.setIfInBounds_toArray, List.set_cons_succ] at hs
    replace HS := Aside0.mk hs
    clear hs
    go_loopw [4] (fun q wr => ∃ (i : Nat) (room : Int) (l : List File) (B : Option Addr) (cap : Nat), q = .int .i64 i ∧ i ≤ 11 ∧ mu l + 9 ≤ 9 * (2 : Int) ^ i ∧ Aside0 (Sep w0 wr (Ob.cur g A bs.length cp :: Ob.row kFile 44 (.slice B l.length cap) l :: Ob.box g3 #[.int .i64 room, .slice B l.length cap] 29 :: Ob.box g2 #[.int .i64 0, .slice none 0 0] 29 :: M))) (fun q _ => 12 - (intOf q).toNat)
    case atStart => exact ⟨0, _, [], none, 0, rfl, by omega, by rw [mu_nil]; decide, HS⟩
    case round =>
      clear HS F
      obtain ⟨i, room, l, B, cap, rfl, hi, hmu0, HS⟩ := hrel
      have hpw := pow_bd i (by omega)
      have hpu := pow_up i
      generalize (2 : Int) ^ i = pw at hpw hpu hmu0
      have hsm : Small l := by show mu l ≤ 1048576; omega
      have hl : l.length ≤ 1048576 := by have := vol_nonneg l; unfold Small at hsm; omega
      have F := HS.out.facts
      simp only [fact_cur, facts_cons, facts_nil, fact_box, fact_row, fact_gone, cellsAt_cons, cellsAt_nil, Nat.zero_add, Nat.reduceAdd, true_and, and_true] at F
      go_wp2_with (go_at_call 62; refine hold ?_)
      intro _
      refine (cur_Below w0 _ _ g cp A bs HS.out HC.out 12 (by decide) (by decide)).mono ?_
      rintro e w5 ⟨x, rfl, ⟨hx0, hx1⟩, hs⟩
      replace HS := Aside0.mk hs
      clear hs
      replace F := HS.out.facts
      simp only [fact_cur, facts_cons, facts_nil, fact_box, fact_row, fact_gone, cellsAt_cons, cellsAt_nil, Nat.zero_add, Nat.reduceAdd, true_and, and_true] at F
      by_cases hlt : (i : Int) < x
      case neg =>
        have c1 : decide ((i : Int) < x) = false := decide_eq_false hlt
        go_wp2
        refine bodyPost_ret (v := .agg #[.int .i64 room, .slice B l.length cap]) (by simp [results, Try.results94, F, go_sem]) rfl ⟨_, room, l, rfl, by omega, ?_⟩
        have hs := (HS.out.set 3 rfl 0 (.int .i64 room)).set 3 rfl 1 (.slice B l.length cap)
        exact (hs.swap1.del1).swap1.del1
      have c1 : decide ((i : Int) < x) = true := decide_eq_true hlt
      have hi1 : i + 1 ≤ 11 := by omega
      clear hlt hx0 hx1
      go_wp2_with (go_at_call 62; refine hold ?_)
      intro _
      have hs := (HS.out.alloc #[.int .i64 room, .slice B l.length cap] 29).ins1
      obtain ⟨g5, hg5⟩ : ∃ g5, g5 = w5.heap.size := ⟨_, rfl⟩
      have M1 : g3 ≠ g5 := by rw [hg5]; exact Nat.ne_of_lt F.1.1
      rw [← hg5] at hs
      rw [← hg5]
      generalize w5.alloc _ = w6 at hs ⊢
      replace HS := Aside0.mk hs
      clear hs hg5
      refine (cur_Below w0 _ _ g cp A bs HS.out HC.out 6 (by decide) (by decide)).mono ?_
      rintro e w6 ⟨y, rfl, ⟨hy0, hy1⟩, hs⟩
      replace HS := Aside0.mk hs
      clear hs
      replace F := HS.out.facts
      simp only [fact_cur, facts_cons, facts_nil, fact_box, fact_row, fact_gone, cellsAt_cons, cellsAt_nil, Nat.zero_add, Nat.reduceAdd, true_and, and_true] at F
      have hy : (y = 0 ∨ y = 1 ∨ y = 2) ∨ y = 3 ∨ y = 4 ∨ y = 5 := by omega
      clear hy0 hy1
      rcases hy with hy | rfl | rfl | rfl
      · rcases hy with rfl | rfl | rfl
        all_goals
          go_wp2
          go_region_held3 (fun W => W.cell? ⟨g3, 0, none⟩ = some (.int .i64 room) ∧ W.cell? ⟨g3, 1, none⟩ = some (.slice B l.length cap)) (first | exact ⟨F.2.1.2.1.1, F.2.1.2.2.1⟩ | exact ⟨(cell_far (p := ⟨g5, 1, none⟩) (a := ⟨g3, 0, none⟩) M1 _).trans ((cell_far (p := ⟨g5, 0, none⟩) (a := ⟨g3, 0, none⟩) M1 _).trans F.2.1.2.1.1), (cell_far (p := ⟨g5, 1, none⟩) (a := ⟨g3, 1, none⟩) M1 _).trans ((cell_far (p := ⟨g5, 0, none⟩) (a := ⟨g3, 1, none⟩) M1 _).trans F.2.1.2.2.1)⟩ | go_keep) (first | (go_at_call 62; refine (cur_Below w0 _ _ g cp A bs HS.out.drew HC.out 5 (by decide) (by decide)).mono ?_; rintro e w7 ⟨n1, rfl, _, hs⟩; replace HS := Aside0.mk hs; clear hs; replace F := HS.out.facts; simp only [fact_cur, facts_cons, facts_nil, fact_box, fact_row, fact_gone, cellsAt_cons, cellsAt_nil, Nat.zero_add, Nat.reduceAdd, true_and, and_true] at F) | (go_at_call 111; refine (cur_Text w0 _ _ g cp A bs HS.out HC.out 8 (by decide) (by decide)).mono ?_; rintro e w7 ⟨s, rfl, hz, hs⟩; replace HS := Aside0.mk hs; clear hs; replace F := HS.out.facts; simp only [fact_cur, facts_cons, facts_nil, fact_box, fact_row, fact_gone, cellsAt_cons, cellsAt_nil, Nat.zero_add, Nat.reduceAdd, true_and, and_true] at F) | (go_at_call 32; refine (spec_Append room B cap l n1 s _ (HS.out.C 2 rfl) hsm hl (by omega)).mono ?_; rintro e w8 ⟨v, rfl, hs⟩; obtain ⟨B2, n2, d2, rfl⟩ := hs.form3 0 rfl; obtain rfl := (hs.len 0 rfl).1; have hmu := mu_append room l n1 s hz; generalize appendR room l n1 s = R at hs hmu ⊢; obtain ⟨rr, lr, code⟩ := R; dsimp only at hs hmu ⊢; replace HS := Aside0.mk (HS.out.add hs).ins1; clear hs; replace F := HS.out.facts; simp only [fact_cur, facts_cons, facts_nil, fact_box, fact_row, fact_gone, cellsAt_cons, cellsAt_nil, Nat.zero_add, Nat.reduceAdd, true_and, and_true] at F))
          have hs := (HS.out.set 2 rfl 0 (.int .i64 rr)).set 2 rfl 1 (.slice B2 lr.length d2)
          simp only [List.set_cons_zero, List.setIfInBounds_toArray, List.set_cons_succ] at hs
          generalize World.setCell (World.setCell _ _ _) _ _ = w9 at hs ⊢
          replace HS := Aside0.mk hs
          clear hs
          replace F := HS.out.facts
          simp only [fact_cur, facts_cons, facts_nil, fact_box, fact_row, fact_gone, cellsAt_cons, cellsAt_nil, Nat.zero_add, Nat.reduceAdd, true_and, and_true] at F
          by_cases hcode : code = 1
          case pos =>
            have k1 : (code != 1) = false := by simpa using hcode
            clear hcode
            go_wp2
            go_roundw
            case rel => exact ⟨i + 1, room, l, B, cap, by go_num, hi1, by rw [hpu]; have := mu_nonneg l; omega, ⟨HS.out.del1.del1⟩⟩
            case measure => simp [intOf]; omega
          have k1 : (code != 1) = true := by simpa using hcode
          clear hcode
          go_wp2
          go_roundw
          case rel =>
            have hs := (HS.out.set 4 rfl 0 (.int .i64 rr)).set 4 rfl 1 (.slice B2 lr.length d2)
            simp only [List.set_cons_zero, List.setIfInBounds_toArray, List.set_cons_succ] at hs
            exact ⟨i + 1, rr, lr, B2, d2, by go_num, hi1, by rw [hpu]; have := mu_nonneg l; omega, ⟨hs.swap1.del1.swap1.del1⟩⟩
          case measure => simp [intOf]; omega
      · go_wp2
        go_wp2
        go_region_held3 (fun W => W.cell? ⟨g3, 0, none⟩ = some (.int .i64 room) ∧ W.cell? ⟨g3, 1, none⟩ = some (.slice B l.length cap)) (first | exact ⟨F.2.1.2.1.1, F.2.1.2.2.1⟩ | exact ⟨(cell_far (p := ⟨g5, 1, none⟩) (a := ⟨g3, 0, none⟩) M1 _).trans ((cell_far (p := ⟨g5, 0, none⟩) (a := ⟨g3, 0, none⟩) M1 _).trans F.2.1.2.1.1), (cell_far (p := ⟨g5, 1, none⟩) (a := ⟨g3, 1, none⟩) M1 _).trans ((cell_far (p := ⟨g5, 0, none⟩) (a := ⟨g3, 1, none⟩) M1 _).trans F.2.1.2.2.1)⟩ | go_keep) (first | (go_at_call 62; refine (cur_Below w0 _ _ g cp A bs HS.out.drew HC.out 5 (by decide) (by decide)).mono ?_; rintro e w7 ⟨n1, rfl, _, hs⟩; replace HS := Aside0.mk hs; clear hs; replace F := HS.out.facts; simp only [fact_cur, facts_cons, facts_nil, fact_box, fact_row, fact_gone, cellsAt_cons, cellsAt_nil, Nat.zero_add, Nat.reduceAdd, true_and, and_true] at F) | (go_at_call 24; refine (spec_Sync room B cap l n1 _ (HS.out.C 2 rfl) hsm hl).mono ?_; rintro e w8 ⟨v, rfl, hs⟩; obtain ⟨B2, n2, d2, rfl⟩ := hs.form3 0 rfl; obtain rfl := (hs.len 0 rfl).1; have hmu := mu_sync room l n1; generalize syncR room l n1 = R at hs hmu ⊢; obtain ⟨rr, lr, code⟩ := R; dsimp only at hs hmu ⊢; replace HS := Aside0.mk (HS.out.add hs).ins1; clear hs; replace F := HS.out.facts; simp only [fact_cur, facts_cons, facts_nil, fact_box, fact_row, fact_gone, cellsAt_cons, cellsAt_nil, Nat.zero_add, Nat.reduceAdd, true_and, and_true] at F))
        have hs := (HS.out.set 2 rfl 0 (.int .i64 rr)).set 2 rfl 1 (.slice B2 lr.length d2)
        simp only [List.set_cons_zero, List.setIfInBounds_toArray, List.set_cons_succ] at hs
        generalize World.setCell (World.setCell _ _ _) _ _ = w9 at hs ⊢
        replace HS := Aside0.mk hs
        clear hs
        replace F := HS.out.facts
        simp only [fact_cur, facts_cons, facts_nil, fact_box, fact_row, fact_gone, cellsAt_cons, cellsAt_nil, Nat.zero_add, Nat.reduceAdd, true_and, and_true] at F
        by_cases hcode : code = 1
        case pos =>
          have k1 : (code != 1) = false := by simpa using hcode
          clear hcode
          go_wp2
          go_roundw
          case rel => exact ⟨i + 1, room, l, B, cap, by go_num, hi1, by rw [hpu]; have := mu_nonneg l; omega, ⟨HS.out.del1.del1⟩⟩
          case measure => simp [intOf]; omega
        have k1 : (code != 1) = true := by simpa using hcode
        clear hcode
        go_wp2
        go_roundw
        case rel =>
          have hs := (HS.out.set 4 rfl 0 (.int .i64 rr)).set 4 rfl 1 (.slice B2 lr.length d2)
          simp only [List.set_cons_zero, List.setIfInBounds_toArray, List.set_cons_succ] at hs
          exact ⟨i + 1, rr, lr, B2, d2, by go_num, hi1, by rw [hpu]; have := mu_nonneg l; omega, ⟨hs.swap1.del1.swap1.del1⟩⟩
        case measure => simp [intOf]; omega
      · go_wp2
        go_wp2
        go_region_held3 (fun W => W.cell? ⟨g3, 0, none⟩ = some (.int .i64 room) ∧ W.cell? ⟨g3, 1, none⟩ = some (.slice B l.length cap)) (first | exact ⟨F.2.1.2.1.1, F.2.1.2.2.1⟩ | exact ⟨(cell_far (p := ⟨g5, 1, none⟩) (a := ⟨g3, 0, none⟩) M1 _).trans ((cell_far (p := ⟨g5, 0, none⟩) (a := ⟨g3, 0, none⟩) M1 _).trans F.2.1.2.1.1), (cell_far (p := ⟨g5, 1, none⟩) (a := ⟨g3, 1, none⟩) M1 _).trans ((cell_far (p := ⟨g5, 0, none⟩) (a := ⟨g3, 1, none⟩) M1 _).trans F.2.1.2.2.1)⟩ | go_keep) (first | (go_at_call 62; (with_reducible show Calls _ _ #[_, .int .i64 5] _ _); refine (cur_Below w0 _ _ g cp A bs HS.out.drew HC.out 5 (by decide) (by decide)).mono ?_; rintro e w7 ⟨n1, rfl, _, hs⟩; replace HS := Aside0.mk hs; clear hs; replace F := HS.out.facts; simp only [fact_cur, facts_cons, facts_nil, fact_box, fact_row, fact_gone, cellsAt_cons, cellsAt_nil, Nat.zero_add, Nat.reduceAdd, true_and, and_true] at F) | (go_at_call 62; refine (cur_Below w0 _ _ g cp A bs HS.out HC.out 22 (by decide) (by decide)).mono ?_; rintro e w7 ⟨n2, rfl, _, hs⟩; replace HS := Aside0.mk hs; clear hs; replace F := HS.out.facts; simp only [fact_cur, facts_cons, facts_nil, fact_box, fact_row, fact_gone, cellsAt_cons, cellsAt_nil, Nat.zero_add, Nat.reduceAdd, true_and, and_true] at F) | (go_at_call 34; refine (spec_Move room B cap l n1 n2 _ (HS.out.C 2 rfl) hsm hl).mono ?_; rintro e w8 ⟨v, rfl, hs⟩; obtain ⟨B2, n3, d2, rfl⟩ := hs.form3 0 rfl; obtain rfl := (hs.len 0 rfl).1; have hmu := mu_move room l n1 n2; generalize moveR room l n1 n2 = R at hs hmu ⊢; obtain ⟨rr, lr, code⟩ := R; dsimp only at hs hmu ⊢; replace HS := Aside0.mk (HS.out.add hs).ins1; clear hs; replace F := HS.out.facts; simp only [fact_cur, facts_cons, facts_nil, fact_box, fact_row, fact_gone, cellsAt_cons, cellsAt_nil, Nat.zero_add, Nat.reduceAdd, true_and, and_true] at F))
        have hs := (HS.out.set 2 rfl 0 (.int .i64 rr)).set 2 rfl 1 (.slice B2 lr.length d2)
        simp only [List.set_cons_zero, List.setIfInBounds_toArray, List.set_cons_succ] at hs
        generalize World.setCell (World.setCell _ _ _) _ _ = w9 at hs ⊢
        replace HS := Aside0.mk hs
        clear hs
        replace F := HS.out.facts
        simp only [fact_cur, facts_cons, facts_nil, fact_box, fact_row, fact_gone, cellsAt_cons, cellsAt_nil, Nat.zero_add, Nat.reduceAdd, true_and, and_true] at F
        by_cases hcode : code = 1
        case pos =>
          have k1 : (code != 1) = false := by simpa using hcode
          clear hcode
          go_wp2
          go_roundw
          case rel => exact ⟨i + 1, room, l, B, cap, by go_num, hi1, by rw [hpu]; have := mu_nonneg l; omega, ⟨HS.out.del1.del1⟩⟩
          case measure => simp [intOf]; omega
        have k1 : (code != 1) = true := by simpa using hcode
        clear hcode
        go_wp2
        go_roundw
        case rel =>
          have hs := (HS.out.set 4 rfl 0 (.int .i64 rr)).set 4 rfl 1 (.slice B2 lr.length d2)
          simp only [List.set_cons_zero, List.setIfInBounds_toArray, List.set_cons_succ] at hs
          exact ⟨i + 1, rr, lr, B2, d2, by go_num, hi1, by rw [hpu]; have := mu_nonneg l; omega, ⟨hs.swap1.del1.swap1.del1⟩⟩
        case measure => simp [intOf]; omega
      · go_wp2
        go_wp2
        go_region_held3 (fun W => W.cell? ⟨g3, 0, none⟩ = some (.int .i64 room) ∧ W.cell? ⟨g3, 1, none⟩ = some (.slice B l.length cap)) (first | exact ⟨F.2.1.2.1.1, F.2.1.2.2.1⟩ | exact ⟨(cell_far (p := ⟨g5, 1, none⟩) (a := ⟨g3, 0, none⟩) M1 _).trans ((cell_far (p := ⟨g5, 0, none⟩) (a := ⟨g3, 0, none⟩) M1 _).trans F.2.1.2.1.1), (cell_far (p := ⟨g5, 1, none⟩) (a := ⟨g3, 1, none⟩) M1 _).trans ((cell_far (p := ⟨g5, 0, none⟩) (a := ⟨g3, 1, none⟩) M1 _).trans F.2.1.2.2.1)⟩ | go_keep) (first | (go_at_call 62; refine (cur_Below w0 _ _ g cp A bs HS.out.drew HC.out 9 (by decide) (by decide)).mono ?_; rintro e w7 ⟨n1, rfl, _, hs⟩; replace HS := Aside0.mk hs; clear hs; replace F := HS.out.facts; simp only [fact_cur, facts_cons, facts_nil, fact_box, fact_row, fact_gone, cellsAt_cons, cellsAt_nil, Nat.zero_add, Nat.reduceAdd, true_and, and_true] at F) | (go_at_call 28; refine (spec_Drop room B cap l n1 _ (HS.out.C 2 rfl) hsm hl).mono ?_; rintro e w8 ⟨v, rfl, hs⟩; obtain ⟨B2, n2, d2, rfl⟩ := hs.form3 0 rfl; obtain rfl := (hs.len 0 rfl).1; have hmu := mu_drop room l n1; generalize dropR room l n1 = R at hs hmu ⊢; obtain ⟨rr, lr, code⟩ := R; dsimp only at hs hmu ⊢; replace HS := Aside0.mk (HS.out.add hs).ins1; clear hs; replace F := HS.out.facts; simp only [fact_cur, facts_cons, facts_nil, fact_box, fact_row, fact_gone, cellsAt_cons, cellsAt_nil, Nat.zero_add, Nat.reduceAdd, true_and, and_true] at F))
        have hs := (HS.out.set 2 rfl 0 (.int .i64 rr)).set 2 rfl 1 (.slice B2 lr.length d2)
        simp only [List.set_cons_zero, List.setIfInBounds_toArray, List.set_cons_succ] at hs
        generalize World.setCell (World.setCell _ _ _) _ _ = w9 at hs ⊢
        replace HS := Aside0.mk hs
        clear hs
        replace F := HS.out.facts
        simp only [fact_cur, facts_cons, facts_nil, fact_box, fact_row, fact_gone, cellsAt_cons, cellsAt_nil, Nat.zero_add, Nat.reduceAdd, true_and, and_true] at F
        by_cases hcode : code = 1
        case pos =>
          have k1 : (code != 1) = false := by simpa using hcode
          clear hcode
          go_wp2
          go_roundw
          case rel => exact ⟨i + 1, room, l, B, cap, by go_num, hi1, by rw [hpu]; have := mu_nonneg l; omega, ⟨HS.out.del1.del1⟩⟩
          case measure => simp [intOf]; omega
        have k1 : (code != 1) = true := by simpa using hcode
        clear hcode
        go_wp2
        go_roundw
        case rel =>
          have hs := (HS.out.set 4 rfl 0 (.int .i64 rr)).set 4 rfl 1 (.slice B2 lr.length d2)
          simp only [List.set_cons_zero, List.setIfInBounds_toArray, List.set_cons_succ] at hs
          exact ⟨i + 1, rr, lr, B2, d2, by go_num, hi1, by rw [hpu]; have := mu_nonneg l; omega, ⟨hs.swap1.del1.swap1.del1⟩⟩
        case measure => simp [intOf]; omega
end Go.Proofs.Ytbbeaghhchjkgaa.Cu
