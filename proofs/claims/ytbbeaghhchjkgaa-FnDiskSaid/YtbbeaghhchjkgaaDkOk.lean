/- Whether a disk is right: the program and the reference. No condition. -/
import Derived.Test.YtbbeaghhchjkgaaBase
import Derived.Test.YtbbeaghhchjkgaaLwDisk
namespace Go.Proofs.Ytbbeaghhchjkgaa.Dk
open Go.RowKit Go.Proofs.YtbbeaghhchjkgaaW.PrintWords Go.Proofs.Ytbbeaghhchjkgaa.Sp Go.Proofs.Ytbbeaghhchjkgaa.Ty Go.Proofs.Ytbbeaghhchjkgaa.Im Go.Proofs.Ytbbeaghhchjkgaa.Lw
set_option linter.unusedVariables false
set_option linter.unusedSimpArgs false
attribute [local go_sem ↓] Go.wp_at_zero Go.wp_at_succ
attribute [local go_sem] World.cell?_alloc_lt
def Small (l : List File) : Prop := (l.length : Int) + vol l ≤ 1048576
def isFile (n : Int) : Bool := inB n 0 21
theorem impl_isFile (a : Int) (w : World) : Calls Try.prog 46 #[.int .i64 a] w fun e w' => e = .returned (.bool (isFile a)) ∧ Drawn0 w w' := by
  go_enter Try.func46, Try.ntmps46
  go_wp2_with (go_at_call 47; refine (impl_in _ _ _ _).mono ?_; rintro e w' ⟨rfl, hd⟩)
  go_ret
  exact ⟨rfl, hd⟩
theorem spec_isFile (a : Int) (w : World) : Calls Try.prog 44 #[.int .i64 a] w fun e w' => e = .returned (.bool (isFile a)) ∧ Drawn0 w w' := by
  go_enter Try.func44, Try.ntmps44
  go_wp2_with (go_at_call 42; refine (spec_in _ _ _ _).mono ?_; rintro e w' ⟨rfl, hd⟩)
  go_ret
  exact ⟨rfl, hd⟩
theorem vol_take {l : List File} {j : Nat} (h : j < l.length) : vol (l.take (j + 1)) = vol (l.take j) + ((rdFile l j).Safe.size + (rdFile l j).Late.size) := by
  rw [List.take_succ_eq_append_getElem h, vol_append, ← rdFile_eq h]; simp only [vol]; omega
theorem vol_le (l : List File) (j : Nat) : vol (l.take j) ≤ vol l := by
  have := vol_append (l.take j) (l.drop j)
  rw [List.take_append_drop] at this
  have := vol_nonneg (l.drop j)
  omega
set_option maxRecDepth 100000 in
theorem impl_usedRoom (room : Int) (A : Option Addr) (c : Nat) (l : List File) (w : World) (hr : Kd.C kFile w A l.length l) (hv : Small l) :
    Calls Try.prog 48 #[.agg #[.int .i64 room, .slice A l.length c]] w fun e w' => e = .returned (.int .i64 (vol l)) ∧ Below w.heap.size w w' := by
  unfold Small at hv
  have hn := vol_nonneg l
  have HR := Aside0.mk hr
  clear hr
  have hu1 := Try.underlying29
  have hu2 := Try.underlying44
  go_enter Try.func48, Try.ntmps48
  go_wp2
  go_loopw [3, 9] (fun x q wr => ∃ (j : Nat) (m : Int), j ≤ l.length ∧ q = .int .i64 j ∧ x = .int .i64 m ∧ Aside0 (m = vol (l.take j)) ∧ Aside0 (Below w.heap.size w wr)) (fun _ q _ => l.length - (intOf q).toNat)
  case atStart => exact ⟨0, 0, by omega, rfl, rfl, ⟨rfl⟩, ⟨below_alloc (Below.refl _ _) _⟩⟩
  case round =>
    obtain ⟨j, m, hj, rfl, rfl, HM, HB⟩ := hrel
    by_cases hlt : j < l.length
    · obtain ⟨ad, rfl, x0, x1, x2⟩ := atFile (Kd.C_below HR.out HB.out) j hlt
      have hm0 : 0 ≤ m := by rw [HM.out]; exact vol_nonneg _
      have hm1 : m + ((rdFile l j).Safe.size + (rdFile l j).Late.size) ≤ 1048576 := by have := vol_take hlt; have := vol_le l (j + 1); have := HM.out; omega
      have HV := Aside0.mk (vol_take hlt)
      go_wp2
      go_roundw
      case rel => exact ⟨j + 1, _, by omega, by go_num, rfl, ⟨by rw [HV.out, HM.out]⟩, ⟨below_alloc HB.out _⟩⟩
      case measure => simp [intOf]; omega
    · have hj : j = l.length := by omega
      subst hj
      go_wp2
      go_ret
      exact ⟨ret_int (by rw [HM.out, List.take_length]), HB.out⟩
set_option maxRecDepth 100000 in
theorem spec_size (room : Int) (A : Option Addr) (c : Nat) (l : List File) (w : World) (hr : Kd.C kFile w A l.length l) (hv : Small l) :
    Calls Try.prog 43 #[.agg #[.int .i64 room, .slice A l.length c]] w fun e w' => e = .returned (.int .i64 (vol l)) ∧ Below w.heap.size w w' := by
  unfold Small at hv
  have hn := vol_nonneg l
  have HR := Aside0.mk hr
  clear hr
  have hu1 := Try.underlying29
  have hu2 := Try.underlying44
  go_enter Try.func43, Try.ntmps43
  go_wp2
  go_loopw [3, 4] (fun x q wr => ∃ (j : Nat) (m : Int), j ≤ l.length ∧ q = .int .i64 j ∧ x = .int .i64 m ∧ Aside0 (m = vol (l.take j)) ∧ Aside0 (Sep w wr [Ob.box w.heap.size #[.int .i64 room, .slice A l.length c] 29])) (fun _ q _ => l.length - (intOf q).toNat)
  case atStart => exact ⟨0, 0, by omega, rfl, rfl, ⟨rfl⟩, ⟨(Sep.nil w).alloc _ _⟩⟩
  case round =>
    obtain ⟨j, m, hj, rfl, rfl, HM, HS⟩ := hrel
    have F := HS.out.facts
    simp only [facts_cons, facts_nil, fact_box, fact_row, fact_gone, cellsAt_cons, cellsAt_nil, Nat.zero_add, Nat.reduceAdd, true_and, and_true] at F
    by_cases hlt : j < l.length
    · obtain ⟨ad, rfl, x0, x1, x2⟩ := atFile (Kd.C_below HR.out HS.out.old) j hlt
      have hm0 : 0 ≤ m := by rw [HM.out]; exact vol_nonneg _
      have hm1 : m + ((rdFile l j).Safe.size + (rdFile l j).Late.size) ≤ 1048576 := by have := vol_take hlt; have := vol_le l (j + 1); have := HM.out; omega
      have HV := Aside0.mk (vol_take hlt)
      go_wp2
      repeat (go_quiet (fail); try go_wp2)
      go_roundw
      case rel => exact ⟨j + 1, _, by omega, by go_num, rfl, ⟨by rw [HV.out, HM.out]; omega⟩, ⟨HS.out.drewN _⟩⟩
      case measure => simp [intOf]; omega
    · have hj : j = l.length := by omega
      subst hj
      go_wp2
      go_ret
      exact ⟨ret_int (by rw [HM.out, List.take_length]), HS.out.old⟩
/-- The files from number i on (d of them) have names, each behind the one ahead of it. -/
def okFrom (l : List File) : Nat → Nat → Bool
  | 0, _ => true
  | d + 1, i => isFile (rdFile l i).Name && (decide (i = 0) || decide ((rdFile l (i - 1)).Name < (rdFile l i).Name)) && okFrom l d (i + 1)
def diskOk (room : Int) (l : List File) : Bool := okFrom l l.length 0 && (inB room 0 60000 && decide (vol l ≤ room))
set_option maxRecDepth 100000 in
set_option maxHeartbeats 1000000 in
theorem impl_DiskOk (room : Int) (A : Option Addr) (c : Nat) (l : List File) (w : World) (hr : Kd.C kFile w A l.length l) (hv : Small l) :
    Calls Try.prog 16 #[.agg #[.int .i64 room, .slice A l.length c]] w fun e w' => e = .returned (.bool (diskOk room l)) ∧ Below w.heap.size w w' := by
  have hm := Kd.C_max hr
  have HR := Aside0.mk hr
  clear hr
  have hu1 := Try.underlying29
  have hu2 := Try.underlying44
  go_enter Try.func16, Try.ntmps16
  go_wp2
  go_loopw [8] (fun q wr => ∃ (d j : Nat), d + j = l.length ∧ q = .int .i64 j ∧ Aside0 (okFrom l d j = okFrom l l.length 0) ∧ Aside0 (Sep w wr [Ob.box w.heap.size #[.int .i64 room, .slice A l.length c] 29])) (fun q _ => l.length - (intOf q).toNat)
  case atStart => exact ⟨l.length, 0, rfl, rfl, ⟨rfl⟩, ⟨(Sep.nil w).alloc _ _⟩⟩
  case round =>
    obtain ⟨d, j, hj, rfl, HD, HS⟩ := hrel
    have F := HS.out.facts
    simp only [facts_cons, facts_nil, fact_box, fact_row, fact_gone, cellsAt_cons, cellsAt_nil, Nat.zero_add, Nat.reduceAdd, true_and, and_true] at F
    cases d with
    | zero =>
      have hj : j = l.length := by omega
      subst hj
      have hd : diskOk room l = (inB room 0 60000 && decide (vol l ≤ room)) := by rw [diskOk, ← HD.out]; rfl
      have HD2 := Aside0.mk hd
      clear hd
      cases hb : inB room 0 60000
      · have HBB := Aside0.mk hb
        clear hb
        go_wp2
        repeat (go_quiet (first | (go_at_call 47; refine (impl_in _ _ _ _).mono ?_; rw [HBB.out]; rintro e w' ⟨rfl, ⟨nd, rfl⟩⟩; exact ⟨rfl, _, World.drewN_drewN _ _ _⟩)); try go_wp2)
        go_ret
        exact ⟨ret_bool (by rw [HD2.out, HBB.out]; rfl), pw_below_drewN HS.out.old _⟩
      · have HBB := Aside0.mk hb
        clear hb
        have g0 : wr.cell? ⟨w.heap.size, 0, none⟩ = some (.int .i64 room) := F.2.1.1
        have g1 : wr.cell? ⟨w.heap.size, 1, none⟩ = some (.slice A l.length c) := F.2.2.1
        go_wp2
        go_region_held3 (fun w' => w'.cell? ⟨w.heap.size, 0, none⟩ = some (.int .i64 room) ∧ w'.cell? ⟨w.heap.size, 1, none⟩ = some (.slice A l.length c)) (first | exact ⟨g0, g1⟩ | exact ⟨pw_cell_below hb g0, pw_cell_below hb g1⟩) (first | (go_at_call 47; refine (impl_in _ _ _ _).mono ?_; rw [HBB.out]; rintro e w' ⟨rfl, ⟨nd, rfl⟩⟩) | (go_at_call 48; refine (impl_usedRoom _ A c l _ ?_ hv).mono ?_; (case refine_1 => exact Kd.C_below HR.out (by repeat (first | exact HS.out.old | apply below_drew1 | apply pw_below_drewN))); rintro e w' ⟨rfl, hb⟩))
        go_wp2
        go_ret
        exact ⟨ret_bool (by rw [HD2.out, HBB.out]; rfl), below_step (by repeat (first | exact HS.out.old | apply below_drew1 | apply pw_below_drewN)) hb⟩
    | succ d =>
      obtain ⟨ad, rfl, x0, x1, x2⟩ := atFile (Kd.C_below HR.out HS.out.old) j (by omega)
      have p1 : j < l.length := by omega
      cases hb : isFile (rdFile l j).Name
      · have HBB := Aside0.mk hb
        clear hb
        go_wp2
        repeat (go_quiet (first | (go_at_call 46; refine (impl_isFile _ _).mono ?_; rw [HBB.out]; rintro e w' ⟨rfl, ⟨nd, rfl⟩⟩; exact ⟨rfl, _, World.drewN_drewN _ _ _⟩)); try go_wp2)
        go_ret
        exact ⟨ret_bool (by rw [diskOk, ← HD.out, okFrom, HBB.out]; rfl), pw_below_drewN (below_alloc HS.out.old _) _⟩
      · have HBB := Aside0.mk hb
        clear hb
        by_cases hj0 : j = 0
        · have c0 : decide ((0 : Int) < (j : Int)) = false := decide_eq_false (by omega)
          have c0' : decide (0 < j) = false := decide_eq_false (by omega)
          have HJ := Aside0.mk hj0
          clear hj0
          go_wp2
          repeat (go_quiet (first | (go_at_call 46; refine (impl_isFile _ _).mono ?_; rw [HBB.out]; rintro e w' ⟨rfl, ⟨nd, rfl⟩⟩; exact ⟨rfl, _, World.drewN_drewN _ _ _⟩)); try go_wp2)
          go_roundw
          case rel => exact ⟨d, j + 1, by omega, by go_num, ⟨by rw [← HD.out, okFrom, HBB.out]; simp [HJ.out]⟩, ⟨Sep.drop (L' := [_]) ((HS.out.alloc _ _).drewN _)⟩⟩
          case measure => simp [intOf]; omega
        · obtain ⟨ad', e', y0, y1, y2⟩ := atFile (Kd.C_below HR.out HS.out.old) (j - 1) (by omega)
          injection e' with e'
          subst e'
          have c1 : decide ((0 : Int) < (j : Int)) = true := decide_eq_true (by omega)
          have p2 : 1 ≤ j := by omega
          have n2 := World.block_lt_of_cell? _ _ y0
          have c1' : decide (0 < j) = true := decide_eq_true (by omega)
          have HP := Aside0.mk p2
          by_cases hn : (rdFile l (j - 1)).Name < (rdFile l j).Name
          · have c2 : decide ((rdFile l j).Name ≤ (rdFile l (j - 1)).Name) = false := decide_eq_false (by omega)
            have HN := Aside0.mk hn
            clear hn
            go_wp2
            repeat (go_quiet (first | (go_at_call 46; refine (impl_isFile _ _).mono ?_; rw [HBB.out]; rintro e w' ⟨rfl, ⟨nd, rfl⟩⟩; exact ⟨rfl, _, World.drewN_drewN _ _ _⟩)); try go_wp2)
            go_roundw
            case rel => exact ⟨d, j + 1, by omega, by go_num, ⟨by rw [← HD.out, okFrom, HBB.out]; simp [HN.out]⟩, ⟨Sep.drop (L' := [_]) ((HS.out.alloc _ _).drewN _)⟩⟩
            case measure => simp [intOf]; omega
          · have c2 : decide ((rdFile l j).Name ≤ (rdFile l (j - 1)).Name) = true := decide_eq_true (by omega)
            have HN := Aside0.mk hn
            clear hn
            go_wp2
            repeat (go_quiet (first | (go_at_call 46; refine (impl_isFile _ _).mono ?_; rw [HBB.out]; rintro e w' ⟨rfl, ⟨nd, rfl⟩⟩; exact ⟨rfl, _, World.drewN_drewN _ _ _⟩)); try go_wp2)
            go_ret
            exact ⟨ret_bool (by rw [diskOk, ← HD.out, okFrom, HBB.out, show decide (j = 0) = false from decide_eq_false (by have := HP.out; omega), show decide ((rdFile l (j - 1)).Name < (rdFile l j).Name) = false from decide_eq_false (by have := HN.out; omega)]; rfl), pw_below_drewN (below_alloc HS.out.old _) _⟩
theorem okFrom_step {l : List File} : ∀ (d j : Nat), okFrom l (d + 1) j = true → isFile (rdFile l j).Name = true ∧ (j ≠ 0 → (rdFile l (j - 1)).Name < (rdFile l j).Name) ∧ okFrom l d (j + 1) = true := by
  intro d j h
  simp only [okFrom, Bool.and_eq_true, Bool.or_eq_true, decide_eq_true_eq] at h
  exact ⟨h.1.1, fun hj => h.1.2.resolve_left hj, h.2⟩
theorem okFrom_len {l : List File} : ∀ (d j : Nat), okFrom l d j = true → (0 < j → (j : Int) - 1 ≤ (rdFile l (j - 1)).Name ∧ (rdFile l (j - 1)).Name ≤ 21) → j + d ≤ 22 ∨ d = 0
  | 0, j, _, _ => .inr rfl
  | d + 1, j, h, hj => by
    obtain ⟨h1, h2, h3⟩ := okFrom_step d j h
    have h1 := inB_iff.1 h1
    have hj' : (j : Int) ≤ (rdFile l j).Name := by
      by_cases e : j = 0
      · subst e; exact h1.1
      · have := h2 e; have := hj (by omega); omega
    have := okFrom_len d (j + 1) h3 (fun _ => ⟨by simpa using hj', by simpa using h1.2⟩)
    omega
theorem okFrom_small {l : List File} (h : okFrom l l.length 0 = true) : l.length ≤ 22 := by
  have := okFrom_len l.length 0 h (fun h => by omega)
  omega
def specOk (room : Int) (l : List File) : Bool := (inB room 0 60000 && (decide (l.length ≤ 22) && decide (vol l ≤ room))) && okFrom l l.length 0
theorem specOk_eq (room : Int) (l : List File) : specOk room l = diskOk room l := by
  unfold specOk diskOk
  cases h : okFrom l l.length 0
  · simp
  · have := okFrom_small h
    simp [this]
set_option maxRecDepth 100000 in
set_option maxHeartbeats 1000000 in
theorem spec_DiskOk (room : Int) (A : Option Addr) (c : Nat) (l : List File) (w : World) (hr : Kd.C kFile w A l.length l) (hv : Small l) :
    Calls Try.prog 14 #[.agg #[.int .i64 room, .slice A l.length c]] w fun e w' => e = .returned (.bool (diskOk room l)) ∧ Below w.heap.size w w' := by
  rw [← specOk_eq]
  have hm := Kd.C_max hr
  have HR := Aside0.mk hr
  clear hr
  have hu1 := Try.underlying29
  have hu2 := Try.underlying44
  cases hb : inB room 0 60000
  · have HBB := Aside0.mk hb
    clear hb
    go_enter Try.func14, Try.ntmps14
    go_wp2
    repeat (go_quiet (first | (go_at_call 42; refine (spec_in _ _ _ _).mono ?_; rw [HBB.out]; rintro e w' ⟨rfl, ⟨nd, rfl⟩⟩; exact ⟨rfl, _, World.drewN_drewN _ _ _⟩)); try go_wp2)
    go_ret
    exact ⟨ret_bool (by rw [specOk, HBB.out]; rfl), pw_below_drewN (below_alloc (Below.refl _ _) _) _⟩
  · have HBB := Aside0.mk hb
    clear hb
    by_cases h22 : 22 < l.length
    · have c1 : decide (22 < l.length) = true := decide_eq_true h22
      have c2 : decide ((22 : Int) < (l.length : Int)) = true := decide_eq_true (by omega)
      have H22 := Aside0.mk h22
      clear h22
      go_enter Try.func14, Try.ntmps14
      go_wp2
      repeat (go_quiet (first | (go_at_call 42; refine (spec_in _ _ _ _).mono ?_; rw [HBB.out]; rintro e w' ⟨rfl, ⟨nd, rfl⟩⟩; exact ⟨rfl, _, World.drewN_drewN _ _ _⟩)); try go_wp2)
      go_ret
      exact ⟨ret_bool (by rw [specOk, HBB.out, show decide (l.length ≤ 22) = false from decide_eq_false (by have := H22.out; omega)]; rfl), pw_below_drewN (below_alloc (Below.refl _ _) _) _⟩
    · have c1 : decide (22 < l.length) = false := decide_eq_false h22
      have c2 : decide ((22 : Int) < (l.length : Int)) = false := decide_eq_false (by omega)
      have H22 := Aside0.mk h22
      clear h22
      by_cases hro : room < vol l
      · have c3 : decide (room < vol l) = true := decide_eq_true hro
        have HRO := Aside0.mk hro
        clear hro
        go_enter Try.func14, Try.ntmps14
        go_wp2
        have g0 : (w.alloc (.cells #[.int .i64 room, .slice A l.length c] 29)).cell? ⟨w.heap.size, 0, none⟩ = some (.int .i64 room) := World.cell?_alloc_new _ _ _ _
        have g1 : (w.alloc (.cells #[.int .i64 room, .slice A l.length c] 29)).cell? ⟨w.heap.size, 1, none⟩ = some (.slice A l.length c) := World.cell?_alloc_new _ _ _ _
        go_region_held3 (fun w' => w'.cell? ⟨w.heap.size, 0, none⟩ = some (.int .i64 room) ∧ w'.cell? ⟨w.heap.size, 1, none⟩ = some (.slice A l.length c)) (first | exact ⟨g0, g1⟩ | exact ⟨pw_cell_below hb g0, pw_cell_below hb g1⟩) (first | (go_at_call 42; refine (spec_in _ _ _ _).mono ?_; rw [HBB.out]; rintro e w' ⟨rfl, ⟨nd, rfl⟩⟩) | (go_at_call 43; refine (spec_size _ A c l _ ?_ hv).mono ?_; (case refine_1 => exact Kd.C_below HR.out (by repeat (first | exact Below.refl _ _ | apply below_alloc | apply below_drew1 | apply pw_below_drewN))); rintro e w' ⟨rfl, hb⟩))
        clear g0 g1
        go_wp2
        go_ret
        exact ⟨ret_bool (by rw [specOk, HBB.out, show decide (vol l ≤ room) = false from decide_eq_false (by have := HRO.out; omega)]; simp), below_step (by repeat (first | exact Below.refl _ _ | apply below_alloc | apply below_drew1 | apply pw_below_drewN)) hb⟩
      · have c3 : decide (room < vol l) = false := decide_eq_false hro
        have HRO := Aside0.mk hro
        clear hro
        have hd : specOk room l = okFrom l l.length 0 := by rw [specOk, HBB.out, show decide (vol l ≤ room) = true from decide_eq_true (by have := HRO.out; omega), show decide (l.length ≤ 22) = true from decide_eq_true (by have := H22.out; omega)]; rfl
        have HD2 := Aside0.mk hd
        clear hd
        go_enter Try.func14, Try.ntmps14
        go_wp2
        have g0 : (w.alloc (.cells #[.int .i64 room, .slice A l.length c] 29)).cell? ⟨w.heap.size, 0, none⟩ = some (.int .i64 room) := World.cell?_alloc_new _ _ _ _
        have g1 : (w.alloc (.cells #[.int .i64 room, .slice A l.length c] 29)).cell? ⟨w.heap.size, 1, none⟩ = some (.slice A l.length c) := World.cell?_alloc_new _ _ _ _
        go_region_held3 (fun w' => w'.cell? ⟨w.heap.size, 0, none⟩ = some (.int .i64 room) ∧ w'.cell? ⟨w.heap.size, 1, none⟩ = some (.slice A l.length c)) (first | exact ⟨g0, g1⟩ | exact ⟨pw_cell_below hb g0, pw_cell_below hb g1⟩) (first | (go_at_call 42; refine (spec_in _ _ _ _).mono ?_; rw [HBB.out]; rintro e w' ⟨rfl, ⟨nd, rfl⟩⟩) | (go_at_call 43; refine (spec_size _ A c l _ ?_ hv).mono ?_; (case refine_1 => exact Kd.C_below HR.out (by repeat (first | exact Below.refl _ _ | apply below_alloc | apply below_drew1 | apply pw_below_drewN))); rintro e w' ⟨rfl, hb⟩))
        clear g0 g1
        have HS := Aside0.mk (((((Sep.nil w).alloc #[.int .i64 room, .slice A l.length c] 29).drewN _)).below hb)
        clear hb
        simp only [List.nil_append] at HS
        go_wp2
        go_loopw [3] (fun q wr => ∃ (d j : Nat), d + j = l.length ∧ q = .int .i64 j ∧ Aside0 (okFrom l d j = okFrom l l.length 0) ∧ Aside0 (Sep w wr [Ob.box w.heap.size #[.int .i64 room, .slice A l.length c] 29])) (fun q _ => l.length - (intOf q).toNat)
        case atStart => exact ⟨l.length, 0, rfl, rfl, ⟨rfl⟩, HS⟩
        case round =>
          clear HS
          obtain ⟨d, j, hj, rfl, HD, HS⟩ := hrel
          have F := HS.out.facts
          simp only [facts_cons, facts_nil, fact_box, fact_row, fact_gone, cellsAt_cons, cellsAt_nil, Nat.zero_add, Nat.reduceAdd, true_and, and_true] at F
          cases d with
          | zero =>
            have hj : j = l.length := by omega
            subst hj
            go_wp2
            go_ret
            exact ⟨ret_bool (by rw [HD2.out, ← HD.out]; rfl), HS.out.old⟩
          | succ d =>
            obtain ⟨ad, rfl, x0, x1, x2⟩ := atFile (Kd.C_below HR.out HS.out.old) j (by omega)
            have p1 : j < l.length := by omega
            cases hb : isFile (rdFile l j).Name
            · have HBB := Aside0.mk hb
              clear hb
              go_wp2
              repeat (go_quiet (first | (go_at_call 44; refine (spec_isFile _ _).mono ?_; rw [HBB.out]; rintro e w' ⟨rfl, ⟨nd, rfl⟩⟩; exact ⟨rfl, _, World.drewN_drewN _ _ _⟩)); try go_wp2)
              go_ret
              exact ⟨ret_bool (by rw [HD2.out, ← HD.out, okFrom, HBB.out]; rfl), pw_below_drewN HS.out.old _⟩
            · have HBB := Aside0.mk hb
              clear hb
              by_cases hj0 : j = 0
              · have c0 : decide ((0 : Int) < (j : Int)) = false := decide_eq_false (by omega)
                have c0' : decide (0 < j) = false := decide_eq_false (by omega)
                have HJ := Aside0.mk hj0
                clear hj0
                go_wp2
                repeat (go_quiet (first | (go_at_call 44; refine (spec_isFile _ _).mono ?_; rw [HBB.out]; rintro e w' ⟨rfl, ⟨nd, rfl⟩⟩; exact ⟨rfl, _, World.drewN_drewN _ _ _⟩)); try go_wp2)
                go_roundw
                case rel => exact ⟨d, j + 1, by omega, by go_num, ⟨by rw [← HD.out, okFrom, HBB.out]; simp [HJ.out]⟩, ⟨HS.out.drewN _⟩⟩
                case measure => simp [intOf]; omega
              · obtain ⟨ad', e', y0, y1, y2⟩ := atFile (Kd.C_below HR.out HS.out.old) (j - 1) (by omega)
                injection e' with e'
                subst e'
                have c1 : decide ((0 : Int) < (j : Int)) = true := decide_eq_true (by omega)
                have c1' : decide (0 < j) = true := decide_eq_true (by omega)
                have p2 : 1 ≤ j := by omega
                have HP := Aside0.mk p2
                by_cases hn : (rdFile l (j - 1)).Name < (rdFile l j).Name
                · have c2 : decide ((rdFile l j).Name ≤ (rdFile l (j - 1)).Name) = false := decide_eq_false (by omega)
                  have HN := Aside0.mk hn
                  clear hn
                  go_wp2
                  repeat (go_quiet (first | (go_at_call 44; refine (spec_isFile _ _).mono ?_; rw [HBB.out]; rintro e w' ⟨rfl, ⟨nd, rfl⟩⟩; exact ⟨rfl, _, World.drewN_drewN _ _ _⟩)); try go_wp2)
                  go_roundw
                  case rel => exact ⟨d, j + 1, by omega, by go_num, ⟨by rw [← HD.out, okFrom, HBB.out]; simp [HN.out]⟩, ⟨HS.out.drewN _⟩⟩
                  case measure => simp [intOf]; omega
                · have c2 : decide ((rdFile l j).Name ≤ (rdFile l (j - 1)).Name) = true := decide_eq_true (by omega)
                  have HN := Aside0.mk hn
                  clear hn
                  go_wp2
                  repeat (go_quiet (first | (go_at_call 44; refine (spec_isFile _ _).mono ?_; rw [HBB.out]; rintro e w' ⟨rfl, ⟨nd, rfl⟩⟩; exact ⟨rfl, _, World.drewN_drewN _ _ _⟩)); try go_wp2)
                  go_ret
                  exact ⟨ret_bool (by rw [HD2.out, ← HD.out, okFrom, HBB.out, show decide (j = 0) = false from decide_eq_false (by have := HP.out; omega), show decide ((rdFile l (j - 1)).Name < (rdFile l j).Name) = false from decide_eq_false (by have := HN.out; omega)]; rfl), pw_below_drewN HS.out.old _⟩
end Go.Proofs.Ytbbeaghhchjkgaa.Dk
