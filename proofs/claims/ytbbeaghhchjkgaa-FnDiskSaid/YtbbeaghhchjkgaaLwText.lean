/- The marks' texts. No condition. -/
import Derived.Test.YtbbeaghhchjkgaaKit
namespace Go.Proofs.Ytbbeaghhchjkgaa.Lw
open Go.RowKit Go.Proofs.YtbbeaghhchjkgaaW.PrintWords Go.Proofs.Ytbbeaghhchjkgaa.Sp Go.Proofs.Ytbbeaghhchjkgaa.Ty
set_option linter.unusedVariables false
set_option linter.unusedSimpArgs false
/-- The digits of n, ahead of s (d: at most so many). -/
def digs : Nat → Nat → ByteArray → ByteArray
  | 0, _, s => s
  | d + 1, n, s => if n = 0 then s else digs d (n / 10) (strOfNums [48 + (n : Int) % 10] ++ s)
def markT (k : Int) : ByteArray := (⟨#[109]⟩ : ByteArray) ++ digs 10 k.toNat ⟨#[]⟩
theorem one_size (x : Int) : (strOfNums [x]).size = 1 := by simp [strOfNums, ByteArray.size]
set_option maxRecDepth 100000 in
theorem markText (k : Int) (w : World) (h0 : 0 < k) (h1 : k < 1000000000) : Calls Try.prog 93 #[.int .i64 k] w fun e w' => e = .returned (.string (markT k)) ∧ Below w.heap.size w w' := by
  have c1 : decide (k ≤ 0) = false := decide_eq_false (by omega)
  go_enter Try.func93, Try.ntmps93
  go_wp2
  go_loopw [0, 3] (fun x o wr => ∃ (d n : Nat) (s : ByteArray), x = .int .i64 n ∧ o = .string s ∧ n < 10 ^ d ∧ d ≤ 9 ∧ s.size + d ≤ 9 ∧ Aside0 (digs (d + 1) n s = digs 10 k.toNat ⟨#[]⟩) ∧ Aside0 (Sep w wr [])) (fun x _ _ => (intOf x).toNat)
  case atStart => exact ⟨9, k.toNat, _, by rw [Int.toNat_of_nonneg (by omega)], rfl, by omega, by omega, by decide, ⟨rfl⟩, ⟨Sep.nil _⟩⟩
  case round =>
    obtain ⟨d, n, s, rfl, rfl, hn, hd, hs, HD, HS⟩ := hrel
    by_cases hn0 : 0 < n
    · have c2 : decide ((0 : Int) < (n : Int)) = true := decide_eq_true (by omega)
      obtain ⟨d, rfl⟩ : ∃ m, d = m + 1 := ⟨d - 1, by cases d with | zero => simp at hn; omega | succ d => rfl⟩
      have hn2 : n / 10 < 10 ^ d := by rw [Nat.pow_succ] at hn; omega
      have hn3 : n < 1000000000 := Nat.lt_of_lt_of_le hn (by have := Nat.pow_le_pow_right (n := 10) (by omega) hd; omega)
      have HN := Aside0.mk hn
      have HN2 := Aside0.mk hn2
      clear hn hn2
      have hz := one_size (48 + (n : Int) % 10)
      have hq : IntKind.u8.wrap (48 + (n : Int) % 10) = 48 + (n : Int) % 10 := by unfold IntKind.wrap; simp [IntKind.bits, IntKind.signed]; omega
      go_wp2_with ((with_reducible refine gate_dst (N := 12) rfl ?_); refine ev_lit (flatInt .u8) HS.out 5 rfl (N := 12) rfl (xs := [48 + (n : Int) % 10]) (inner := #[.int .u8 (48 + (n : Int) % 10)]) ?hr rfl (by simp) ?_; (case hr => first | (go_simp; done) | (go_simp; rfl)); intro v w1 HS; obtain ⟨A, c, rfl, _, hC⟩ := HS.reads 0 rfl; have hcv := Kd.C_string (P := Try.prog) (c := c) Try.underlying40 Try.underlying5 Try.underlying9 hC; simp only [List.length_cons, List.length_nil, Nat.zero_add] at hcv; clear hC; have HS := Aside0.mk (Sep.drop (L := []) HS))
      go_roundw
      case rel =>
        refine ⟨d, n / 10, _, by go_num, rfl, HN2.out, by omega, ?_, ⟨?_⟩, HS⟩
        · rw [ByteArray.size_append, hz]; omega
        · rw [← HD.out]
          exact (if_neg (by omega)).symm
      case measure => simp [intOf]; omega
    · have hn1 : n = 0 := by omega
      subst hn1
      go_wp2
      go_ret
      exact ⟨by show Ending.returned (.string _) = _; rw [markT, ← HD.out]; simp [digs], HS.out.old⟩
end Go.Proofs.Ytbbeaghhchjkgaa.Lw
