/- Draws: numbers, texts. No condition. -/
import Derived.Test.YtbbeaghhchjkgaaCur
namespace Go.Proofs.Ytbbeaghhchjkgaa.Cu
open Go.RowKit Go.Proofs.YtbbeaghhchjkgaaW Go.Proofs.YtbbeaghhchjkgaaW.PrintWords Go.Proofs.Ytbbeaghhchjkgaa.Sp Go.Proofs.Ytbbeaghhchjkgaa.Ty
set_option linter.unusedVariables false
set_option linter.unusedSimpArgs false
attribute [local go_sem ↓] Go.wp_at_zero Go.wp_at_succ
attribute [local go_sem] World.cell?_alloc_lt
theorem hold {p : Prop} (h : True → p) : p := h trivial
theorem cell_list (xs : List Int) (k : Nat) (hk : k < xs.length) : (xs.map (Go.Value.int .i64)).toArray[k]? = some (.int .i64 xs[k]) := by simp [hk]
set_option maxRecDepth 100000 in
set_option maxHeartbeats 1000000 in
theorem cur_Below (w0 w : World) (M : List Ob) (g cp : Nat) (A : Option Addr) (bs : List Int) (hs : Sep w0 w (Ob.cur g A bs.length cp :: M)) (hC : Kd.C (Kd.int .u8) w0 A bs.length bs) (n : Int) (h0 : 0 < n) (h1 : n ≤ 256) :
    Calls Try.prog 62 #[.pointer (some ⟨g, 0, none⟩), .int .i64 n] w fun e w' => ∃ x : Int, e = .returned (.int .i64 x) ∧ (0 ≤ x ∧ x < n) ∧ Sep w0 w' (Ob.cur g A bs.length cp :: M) := by
  have HS := Aside0.mk hs
  have HC := Aside0.mk hC
  clear hs hC
  have c1 : decide (n ≤ 0) = false := decide_eq_false (by omega)
  have c2 : decide (n ≤ 256) = true := decide_eq_true h1
  have c3 : n ≠ 0 := by omega
  go_enter Try.func62, Try.ntmps62
  go_wp2_with (go_at_call 96; refine (cur_Byte w0 _ M g cp A bs HS.out HC.out).mono ?_; rintro e w2 ⟨x, rfl, ⟨hx0, hx1⟩, hs⟩; replace HS := Aside0.mk hs; clear hs)
  go_ret
  have e1 : Int.tmod x n = x % n := Int.tmod_eq_emod_of_nonneg hx0
  have e2 := Int.emod_nonneg x c3
  have e3 := Int.emod_lt_of_pos x h0
  refine ⟨_, rfl, ?_, HS.out⟩
  first | omega | (rw [IntKind.wrap_i64]; omega) | (simp only [wrap64]; omega)
set_option maxRecDepth 100000 in
theorem cur_Once (w0 w : World) (M : List Ob) (g cp : Nat) (A : Option Addr) (bs : List Int) (hs : Sep w0 w (Ob.cur g A bs.length cp :: M)) (hC : Kd.C (Kd.int .u8) w0 A bs.length bs) (n : Int) (h0 : 0 < n) (h1 : n ≤ 256) :
    Calls Try.prog 110 #[.pointer (some ⟨g, 0, none⟩), .int .i64 n] w fun e w' => ∃ b : Bool, e = .returned (.bool b) ∧ Sep w0 w' (Ob.cur g A bs.length cp :: M) := by
  have HS := Aside0.mk hs
  have HC := Aside0.mk hC
  clear hs hC
  go_enter Try.func110, Try.ntmps110
  go_wp2_with (go_at_call 62; refine (cur_Below w0 _ M g cp A bs HS.out HC.out n h0 h1).mono ?_; rintro e w2 ⟨x, rfl, hx, hs⟩; replace HS := Aside0.mk hs; clear hs)
  go_ret
  exact ⟨_, rfl, HS.out⟩
set_option maxRecDepth 100000 in
set_option maxHeartbeats 1000000 in
theorem cur_PickInt (w0 w : World) (M : List Ob) (g cp : Nat) (A : Option Addr) (bs : List Int) (gl cl : Nat) (xs : List Int) (hp : 0 < xs.length) (hm : xs.length ≤ 256) (hs : Sep w0 w (Ob.cur g A bs.length cp :: Ob.box gl (xs.map (Go.Value.int .i64)).toArray 3 :: M)) (hC : Kd.C (Kd.int .u8) w0 A bs.length bs) :
    Calls Try.prog 95 #[.pointer (some ⟨g, 0, none⟩), .slice (some ⟨gl, 0, none⟩) xs.length cl] w fun e w' => ∃ x : Int, e = .returned (.int .i64 x) ∧ Sep w0 w' (Ob.cur g A bs.length cp :: Ob.box gl (xs.map (Go.Value.int .i64)).toArray 3 :: M) := by
  have HS := Aside0.mk hs
  have HC := Aside0.mk hC
  clear hs hC
  have HU := Aside0.mk (And.intro hp hm)
  clear hp hm
  go_enter Try.func95, Try.ntmps95
  go_wp2_with (go_at_call 62; refine hold ?_)
  intro _
  refine (cur_Below w0 _ _ g cp A bs HS.out HC.out (xs.length : Int) (by have := HU.out; omega) (by have := HU.out; omega)).mono ?_
  rintro e w2 ⟨x, rfl, ⟨hx0, hx1⟩, hs⟩
  obtain ⟨k, hk⟩ := Int.eq_ofNat_of_zero_le hx0
  subst hk
  have hk : k < xs.length := by omega
  have p2 : (k : Int) < (xs.length : Int) := hx1
  have p0 : (0 : Int) ≤ (k : Int) := hx0
  have c0 : w2.cell? ⟨gl, k, none⟩ = some (.int .i64 xs[k]) := ((hs.cells 1 rfl).1 k).trans (cell_list xs k hk)
  replace HS := Aside0.mk hs
  clear hs
  go_wp2
  go_ret
  exact ⟨_, rfl, HS.out⟩
theorem infoByte : (Try.prog.info? 5).map (fun i => (i.zero, i.size, i.bytes)) = some (some (.int .u8 0), 1, 1) := by kernel_rfl
theorem strOfNums_size (xs : List Int) : (strOfNums xs).size = xs.length := by simp [strOfNums, ByteArray.size]
set_option maxRecDepth 100000 in
set_option maxHeartbeats 1000000 in
theorem cur_Bytes (w0 w : World) (M : List Ob) (g cp : Nat) (A : Option Addr) (bs : List Int) (hs : Sep w0 w (Ob.cur g A bs.length cp :: M)) (hC : Kd.C (Kd.int .u8) w0 A bs.length bs) (n : Int) (h0 : 0 ≤ n) (h1 : n ≤ 255) :
    Calls Try.prog 114 #[.pointer (some ⟨g, 0, none⟩), .int .i64 n] w fun e w' => ∃ v xs, e = .returned v ∧ (xs.length : Int) ≤ n ∧ Sep w0 w' (Ob.cur g A bs.length cp :: Ob.row (Kd.int .u8) 5 v xs :: M) := by
  have HS := Aside0.mk (hs.add (Sep.empty_ (Kd.int .u8) 5 w)).ins1
  have HC := Aside0.mk hC
  clear hs hC
  have hw : wrap64 (n + 1) = n + 1 := by unfold wrap64; omega
  go_enter Try.func114, Try.ntmps114
  go_wp2_with (go_at_call 62; refine (cur_Below w0 _ _ g cp A bs HS.out HC.out (n + 1) (by omega) (by omega)).mono ?_; rintro e w2 ⟨x, rfl, ⟨hx0, hx1⟩, hs⟩; replace HS := Aside0.mk hs; clear hs)
  go_loopw [5, 7] (fun p q wr => ∃ (j : Nat) (B : Option Addr) (m e : Nat) (acc : List Int), p = .slice B m e ∧ q = .int .i64 j ∧ acc.length = j ∧ (j : Int) ≤ x ∧ Aside0 (Sep w0 wr (Ob.cur g A bs.length cp :: Ob.row (Kd.int .u8) 5 (.slice B m e) acc :: M))) (fun _ q _ => x.toNat - (intOf q).toNat)
  case atStart => exact ⟨0, _, 0, 0, [], rfl, rfl, rfl, hx0, HS⟩
  case round =>
    clear HS
    obtain ⟨j, B, m, e, acc, rfl, rfl, hj, hjx, HS⟩ := hrel
    by_cases hlt : (j : Int) < x
    · have c1 : decide ((j : Int) < x) = true := decide_eq_true hlt
      have HJ := Aside0.mk hj
      clear hj
      go_wp2_with (first | (go_at_call 96; refine (cur_Byte w0 _ _ g cp A bs HS.out HC.out).mono ?_; rintro e w2 ⟨y, rfl, hy, hs⟩; replace HS := Aside0.mk hs; clear hs) | ((with_reducible refine gate_app (b := .append) (xs := #[.tmp 18, .tmp 22]) rfl ?_); at_builtin; refine hold ?_))
      intro _
      refine ev_append (flatInt .u8) HS.out 1 rfl rfl (.tmp 18) (.tmp 22) 40 _ _ rfl Try.underlying40 infoByte rfl (by decide) (by decide) y _ rfl rfl rfl (by have := HJ.out; omega) ?_
      intro v1 w5 hs
      obtain ⟨B1, n1, e1, rfl⟩ := hs.form3 1 rfl
      replace HS := Aside0.mk hs
      clear hs
      go_wp2
      go_roundw
      case rel => exact ⟨j + 1, B1, n1, e1, _, rfl, by go_num, by rw [List.length_append, HJ.out]; rfl, by omega, HS⟩
      case measure => simp [intOf]; omega
    · have c1 : decide ((j : Int) < x) = false := decide_eq_false hlt
      have HJ := Aside0.mk hj
      clear hj
      go_wp2
      go_ret
      exact ⟨.slice B m e, rfl, acc, by have := HJ.out; omega, HS.out⟩
set_option maxRecDepth 100000 in
theorem cur_Text (w0 w : World) (M : List Ob) (g cp : Nat) (A : Option Addr) (bs : List Int) (hs : Sep w0 w (Ob.cur g A bs.length cp :: M)) (hC : Kd.C (Kd.int .u8) w0 A bs.length bs) (n : Int) (h0 : 0 ≤ n) (h1 : n ≤ 255) :
    Calls Try.prog 111 #[.pointer (some ⟨g, 0, none⟩), .int .i64 n] w fun e w' => ∃ s : ByteArray, e = .returned (.string s) ∧ (s.size : Int) ≤ n ∧ Sep w0 w' (Ob.cur g A bs.length cp :: M) := by
  have HS := Aside0.mk hs
  have HC := Aside0.mk hC
  clear hs hC
  go_enter Try.func111, Try.ntmps111
  go_wp2_with (go_at_call 114; refine (cur_Bytes w0 _ M g cp A bs HS.out HC.out n h0 h1).mono ?_; rintro e w2 ⟨v, xs, rfl, hx, hs⟩; obtain ⟨B, e, rfl, _, hX⟩ := hs.reads 1 rfl; have hcv := Kd.C_string (P := Try.prog) (c := e) Try.underlying40 Try.underlying5 Try.underlying9 hX; clear hX; replace HS := Aside0.mk hs.del1; clear hs)
  go_ret
  exact ⟨_, rfl, by rw [strOfNums_size]; exact hx, HS.out⟩
end Go.Proofs.Ytbbeaghhchjkgaa.Cu
