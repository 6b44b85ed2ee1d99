/- Products by divisors of both sides. No condition. -/
import Derived.Test.YtgehbhkfehmdkaaGreatKSpShMu
import Derived.Test.YtgehbhkfehmdkaaGreatKSpShU
namespace Go.Proofs.YtgehbhkfehmdkaaGreat.Sh
open Go.RowKit
set_option linter.unusedVariables false
set_option linter.unusedSimpArgs false
def mdOk (a b c : Int) : Prop := inP a 0 1000000000000000 ∧ inP b 0 1000000000000000 ∧ inP c 1 1000000000000000 ∧ a * b / c ≤ 1000000000000000
theorem mdIn {a b c : Int} (h : mdOk a b c) : (0 ≤ a ∧ a ≤ 1000000000000000) ∧ (0 ≤ b ∧ b ≤ 1000000000000000) ∧ 1 ≤ c ∧ c ≤ 1000000000000000 := ⟨h.1, h.2.1, h.2.2.1⟩
theorem md_ab {a b : Int} (h : 0 ≤ a ∧ a ≤ 1000000000000000) (k : 0 ≤ b ∧ b ≤ 1000000000000000) : 0 ≤ a * b ∧ a * b ≤ 1000000000000000000000000000000 := ⟨Int.mul_nonneg h.1 k.1, by have := mul_le_of (a := a) (b := b) h.2 k.2 k.1 (by omega); omega⟩
set_option maxHeartbeats 4000000 in
theorem impl_MulDiv_ok {a b c : Int} (h : mdOk a b c) : FC Tryz.prog 129 [I a, I b, I c] ([]) (.tup [I (a * b / c), I (a * b % c), B true]) ([]) := by
  refine fent tk 52 [.tmp 6, .tmp 7, .tmp 8] Tryz.func129 (by kernel_rfl) rfl rfl rfl rfl rfl rfl rfl ?_
  obtain ⟨h1, h2, h3, h4⟩ := h
  have q1 := h1
  have q2 := h2
  have q3 := h3
  unfold inP at q1 q2 q3
  have hab := md_ab q1 q2
  have hq0 : 0 ≤ a * b / c := Int.ediv_nonneg hab.1 (by omega)
  have hr0 : 0 ≤ a * b % c ∧ a * b % c < c := ⟨Int.emod_nonneg _ (by omega), Int.emod_lt_of_pos _ (by omega)⟩
  have hlt : a * b / 18446744073709551616 < c := by
    have hd := dm_of (a * b) c (by omega)
    have : c * (a * b / c) ≤ c * 1000000000000000 := Int.mul_le_mul_of_nonneg_left h4 (by omega)
    omega
  have e : a * b / 18446744073709551616 * 18446744073709551616 + a * b % 18446744073709551616 = a * b := by omega
  have e1 : (a * b / 18446744073709551616 * 18446744073709551616 + a * b % 18446744073709551616) / c = a * b / c := by rw [e]
  have e2 : (a * b / 18446744073709551616 * 18446744073709551616 + a * b % 18446744073709551616) % c = a * b % c := by rw [e]
  repeat' (first
 | (intro h9; exfalso; first | contradiction | omega)
 | (with_reducible apply zcv); rfl; exact tk; rfl; rfl; rfl; (first | assumption | exact wU (by omega) | exact wI (by omega)); rfl; rfl
 | (with_reducible apply zd); rfl; exact tk; rfl
 | (with_reducible first | intro _ | apply wseq | apply zreg | apply thenQ_n | apply thenQ_r | apply thenQ_e | apply znil | apply wret | apply bodyQ_r | apply wblk | apply blkQ_n | apply blkQ_r | apply wskip | apply wexit)
 | apply wcf rfl
 | (with_reducible apply zcmp); rfl; exact tk; rfl; rfl; rfl
 | (with_reducible apply zcp); (iterate 10 rfl); exact impl_in; rfl; rfl
 | (with_reducible apply zc); (iterate 10 rfl); (first | exact bits_Mul64 (by omega) (by omega) | exact math_bits_Div64 (by omega) (by omega) (by omega)); exact fun _ => rfl; rfl; rfl; rfl
 | fail)
  rw [e1, e2]
  repeat' (first
 | fail)
  all_goals exact endV [] rfl rfl rfl rfl rfl rfl
set_option maxHeartbeats 4000000 in
theorem impl_MulDiv_no {a b c : Int} (h : ¬ mdOk a b c) : FC Tryz.prog 129 [I a, I b, I c] ([]) (.tup [I 0, I 0, B false]) ([]) := by
  refine fent tk 52 [.tmp 6, .tmp 7, .tmp 8] Tryz.func129 (by kernel_rfl) rfl rfl rfl rfl rfl rfl rfl ?_
  by_cases hi : inP a 0 1000000000000000 ∧ inP b 0 1000000000000000 ∧ inP c 1 1000000000000000
  rotate_left
  ·
    repeat' (first
 | (intro h9; exact absurd ⟨by assumption, by assumption, by assumption⟩ hi)
 | (with_reducible apply zd); rfl; exact tk; rfl
 | (with_reducible first | intro _ | apply wseq | apply zreg | apply thenQ_n | apply thenQ_r | apply thenQ_e | apply znil | apply wret | apply bodyQ_r | apply wblk | apply blkQ_n | apply blkQ_r | apply wskip | apply wexit)
 | apply wct rfl
 | (with_reducible apply zcp); (iterate 10 rfl); exact impl_in; rfl; rfl
 | fail)
    all_goals exact endV [] rfl rfl rfl rfl rfl rfl
  obtain ⟨h1, h2, h3⟩ := id hi
  have h4 : ¬ a * b / c ≤ 1000000000000000 := fun k => h ⟨h1, h2, h3, k⟩
  have q1 := h1
  have q2 := h2
  have q3 := h3
  unfold inP at q1 q2 q3
  have hab := md_ab q1 q2
  have e : a * b / 18446744073709551616 * 18446744073709551616 + a * b % 18446744073709551616 = a * b := by omega
  have e1 : (a * b / 18446744073709551616 * 18446744073709551616 + a * b % 18446744073709551616) / c = a * b / c := by rw [e]
  repeat' (first
 | (intro h9; exfalso; first | contradiction | omega)
 | (with_reducible apply zcv); rfl; exact tk; rfl; rfl; rfl; (first | assumption | exact wU (by omega) | exact wI (by omega)); rfl; rfl
 | (with_reducible apply zd); rfl; exact tk; rfl
 | (with_reducible first | intro _ | apply wseq | apply zreg | apply thenQ_n | apply thenQ_r | apply thenQ_e | apply znil | apply wret | apply bodyQ_r | apply wblk | apply blkQ_n | apply blkQ_r | apply wskip | apply wexit)
 | apply wct rfl
 | apply wcf rfl
 | (with_reducible apply zcmp); rfl; exact tk; rfl; rfl; rfl
 | (with_reducible apply zcp); (iterate 10 rfl); exact impl_in; rfl; rfl
 | (with_reducible apply zc); (iterate 10 rfl); (first | exact bits_Mul64 (by omega) (by omega) | exact math_bits_Div64 (by omega) (by omega) (by omega)); exact fun _ => rfl; rfl; rfl; rfl
 | fail)
  all_goals first
    | exact endV [] rfl rfl rfl rfl rfl rfl
    | (rw [e1]
       repeat' (first
 | fail)
       all_goals exact endV [] rfl rfl rfl rfl rfl rfl)
theorem wI_mod2 {x : Int} (h : 0 ≤ x ∧ x < 9223372036854775808) : IntKind.i64.wrap (BitVec.ofInt IntKind.i64.bits x &&& BitVec.ofInt IntKind.i64.bits 1).toNat = x % 2 := by
  have h64 : IntKind.i64.bits = 64 := rfl
  rw [h64, BitVec.toNat_and, BitVec.toNat_ofInt, BitVec.toNat_ofInt, show ((1 : Int) % ((2 ^ 64 : Nat) : Int)).toNat = 2 ^ 1 - 1 from rfl, Nat.and_two_pow_sub_one_eq_mod, wI (by omega)]
  omega
structure MdI (a b c i q r : Int) : Prop where
  bnd : -1 ≤ i ∧ i ≤ 50
  qb : 0 ≤ q ∧ q ≤ 1000000000000000
  rb : 0 ≤ r ∧ r < c
  eq : a / 2 ^ (i + 1).toNat * b = c * q + r
theorem pow_half {a i : Int} (h : 0 ≤ i) : a / 2 ^ (i + 1).toNat = a / 2 ^ i.toNat / 2 := by
  rw [show (i + 1).toNat = i.toNat + 1 from by omega, Int.pow_succ, Int.ediv_ediv_of_nonneg (Int.le_of_lt (Int.pow_pos (by omega)))]
section
variable {a b c i q r q' r' : Int}
theorem MdI.init (ha : 0 ≤ a ∧ a ≤ 1000000000000000) (hc : 1 ≤ c) : MdI a b c 50 0 0 := by
  refine ⟨by omega, by omega, by omega, ?_⟩
  have : a / 2 ^ ((50 : Int) + 1).toNat = 0 := Int.ediv_eq_zero_of_lt ha.1 (by rw [show (2 : Int) ^ ((50 : Int) + 1).toNat = 2251799813685248 from rfl]; omega)
  rw [this]
  omega
theorem MdI.next (h : MdI a b c i q r) (h0 : 0 ≤ i) (hr : 0 ≤ r' ∧ r' < c) (hq : 0 ≤ q' ∧ q' ≤ 1000000000000000) (he : a / 2 ^ i.toNat * b = c * q' + r') : MdI a b c (i - 1) q' r' :=
  ⟨by have := h.bnd; omega, hq, hr, by rw [show i - 1 + 1 = i from by omega]; exact he⟩
theorem MdI.stop (h : MdI a b c i q r) (hab : 0 ≤ a ∧ 0 ≤ b) (hc : 1 ≤ c) (hr : 0 ≤ r') (hq : 1000000000000000 < q') (he : a / 2 ^ i.toNat * b = c * q' + r') : ¬ mdOk a b c := fun k => by
  have h1 : a / 2 ^ i.toNat ≤ a := Int.ediv_le_self _ hab.1
  have h2 : a / 2 ^ i.toNat * b ≤ a * b := Int.mul_le_mul_of_nonneg_right h1 hab.2
  have h3 : q' ≤ a * b / c := by
    rw [Int.le_ediv_iff_mul_le (by omega), Int.mul_comm]
    omega
  have := k.2.2.2
  omega
theorem MdI.done (h : MdI a b c i q r) (hi : ¬ i ≥ 0) : a * b / c = q ∧ a * b % c = r := by
  have h1 := h.eq
  rw [show (i + 1).toNat = 0 from by have := h.bnd; omega, Int.pow_zero, Int.ediv_one] at h1
  exact dm_eq h1 h.rb.1 h.rb.2
end
set_option maxHeartbeats 4000000 in
theorem spec_MulDiv_ok {a b c : Int} (h : mdOk a b c) : FC Tryz.prog 33 [I a, I b, I c] ([]) (.tup [I (a * b / c), I (a * b % c), B true]) ([]) := by
  refine fent tk 68 [.tmp 6, .tmp 7, .tmp 8] Tryz.func33 (by kernel_rfl) rfl rfl rfl rfl rfl rfl rfl ?_
  obtain ⟨h1, h2, h3, h4⟩ := id h
  have q1 := h1
  have q2 := h2
  have q3 := h3
  unfold inP at q1 q2 q3
  have hbc : 0 ≤ b / c ∧ b / c ≤ 1000000000000000 := ⟨Int.ediv_nonneg q2.1 (by omega), by have := Int.ediv_le_self c q2.1; omega⟩
  have hbm : 0 ≤ b % c ∧ b % c < c := ⟨Int.emod_nonneg _ (by omega), Int.emod_lt_of_pos _ (by omega)⟩
  have hbd := (dm_of b c (by omega)).1
  have e1 : IntKind.i64.wrap (b.tdiv c) = b / c := by rw [Int.tdiv_eq_ediv_of_nonneg q2.1, wI (by omega)]
  have e2 : b.tmod c = b % c := Int.tmod_eq_emod_of_nonneg q2.1
  repeat' (first
 | (intro h9; exfalso; first | contradiction | omega)
 | (with_reducible apply zds); exact tk; rfl; rfl; rfl; rfl; rfl
 | (with_reducible apply zd); rfl; exact tk; rfl
 | (with_reducible first | intro _ | apply wseq | apply zreg | apply thenQ_n | apply thenQ_r | apply thenQ_e | apply znil | apply wret | apply bodyQ_r | apply wblk | apply blkQ_n | apply blkQ_r | apply wskip | apply wexit)
 | apply wcf rfl
 | (with_reducible apply zcp); (iterate 10 rfl); exact spec_l1Some; rfl; rfl
 | fail)
  refine wlp (X := Int × Int × Int) [0, 1, 2] [] (fun x => [(11, I x.1), (9, I x.2.1), (10, I x.2.2)]) (fun _ => []) (fun x => MdI a b c x.1 x.2.1 x.2.2) (fun x => (x.1 + 1).toNat) (50, 0, 0) (MdI.init q1 q3.1) rfl rfl (fun _ => rfl) (fun _ => rfl) ⟨rfl, rfl, rfl, rfl, rfl, rfl, rfl, rfl⟩ (fun x hx => ?_)
  obtain ⟨i, q, r⟩ := x
  dsimp only at hx ⊢
  obtain ⟨i0, i1⟩ := hx.bnd
  have hq := hx.qb
  have hr := hx.rb
  by_cases hi : 0 ≤ i
  rotate_left
  ·
    repeat' (first
 | (intro h9; exfalso; first | contradiction | omega)
 | (with_reducible apply zds); exact tk; rfl; rfl; rfl; rfl; rfl
 | (with_reducible apply zd); rfl; exact tk; rfl
 | (with_reducible first | intro _ | apply wseq | apply zreg | apply thenQ_n | apply thenQ_r | apply thenQ_e | apply znil | apply wret | apply bodyQ_r | apply wblk | apply blkQ_n | apply blkQ_r | apply wskip | apply wexit)
 | apply wcf rfl
 | (with_reducible apply blkQ_x rfl)
 | (with_reducible apply zcmp); rfl; exact tk; rfl; rfl; rfl
 | fail)
    all_goals (obtain ⟨d1, d2⟩ := hx.done (by omega); rw [d1, d2]; exact endV [] rfl rfl rfl rfl rfl rfl)
  obtain ⟨z, hz⟩ : ∃ z, z = a / 2 ^ i.toNat := ⟨_, rfl⟩
  have hz0 : 0 ≤ z ∧ z ≤ a := ⟨by rw [hz]; exact Int.ediv_nonneg q1.1 (Int.le_of_lt (Int.pow_pos (by omega))), by rw [hz]; exact Int.ediv_le_self _ q1.1⟩
  have e3 : a.fdiv (2 ^ (min i.toNat IntKind.i64.bits)) = z := by
    have h64 : IntKind.i64.bits = 64 := rfl
    rw [h64, show min i.toNat 64 = i.toNat from by omega, fdiv_pos (Int.le_of_lt (Int.pow_pos (by omega))), hz]
  have e4 : IntKind.i64.wrap (BitVec.ofInt IntKind.i64.bits z &&& BitVec.ofInt IntKind.i64.bits 1).toNat = z % 2 := wI_mod2 (by omega)
  have heq := hx.eq
  rw [pow_half hi, ← hz] at heq
  have hzb : z * b = 2 * (z / 2 * b) + z % 2 * b := by
    have : z = 2 * (z / 2) + z % 2 := by omega
    calc z * b = (2 * (z / 2) + z % 2) * b := by rw [← this]
      _ = _ := by grind
  have he : ∀ q' r' : Int, 2 * (c * q + r) + z % 2 * b = c * q' + r' → a / 2 ^ i.toNat * b = c * q' + r' := fun q' r' k => by rw [← hz, hzb, heq]; exact k
  by_cases hbit : z % 2 = 1
  · rw [hbit, Int.one_mul] at he
    repeat' (first
 | (intro h9; exfalso; first | contradiction | omega)
 | (with_reducible apply znw); rfl; rfl; rfl; rfl; (first | trivial | (show (_ : Int) ≠ _; omega)); (first | assumption | exact wI (by omega) | exact wU (by omega) | rfl); rfl; rfl
 | (with_reducible apply zsw); rfl; rfl; rfl; rfl; omega; (first | assumption | exact wI (by omega) | exact wU (by omega) | rfl); rfl; rfl
 | (with_reducible apply zd); rfl; exact tk; rfl
 | (with_reducible first | intro _ | apply wseq | apply zreg | apply thenQ_n | apply thenQ_r | apply thenQ_e | apply znil | apply wret | apply bodyQ_r | apply wblk | apply blkQ_n | apply blkQ_r | apply wskip | apply wexit)
 | apply wct rfl
 | apply wcf rfl
 | (with_reducible apply zcmp); rfl; exact tk; rfl; rfl; rfl
 | fail)
    all_goals first
      | exact endR (i - 1, 2 * q + 1 + b / c + 1, 2 * r - c + b % c - c) [] ⟨rfl, rfl, rfl, rfl, rfl, rfl, rfl, rfl⟩ (hx.next (q' := 2 * q + 1 + b / c + 1) (r' := 2 * r - c + b % c - c) hi (by omega) (by omega) (he _ _ (by grind))) (by first | omega | (dsimp only; omega))
      | exact endR (i - 1, 2 * q + 1 + b / c, 2 * r - c + b % c) [] ⟨rfl, rfl, rfl, rfl, rfl, rfl, rfl, rfl⟩ (hx.next (q' := 2 * q + 1 + b / c) (r' := 2 * r - c + b % c) hi (by omega) (by omega) (he _ _ (by grind))) (by first | omega | (dsimp only; omega))
      | exact endR (i - 1, 2 * q + b / c + 1, 2 * r + b % c - c) [] ⟨rfl, rfl, rfl, rfl, rfl, rfl, rfl, rfl⟩ (hx.next (q' := 2 * q + b / c + 1) (r' := 2 * r + b % c - c) hi (by omega) (by omega) (he _ _ (by grind))) (by first | omega | (dsimp only; omega))
      | exact endR (i - 1, 2 * q + b / c, 2 * r + b % c) [] ⟨rfl, rfl, rfl, rfl, rfl, rfl, rfl, rfl⟩ (hx.next (q' := 2 * q + b / c) (r' := 2 * r + b % c) hi (by omega) (by omega) (he _ _ (by grind))) (by first | omega | (dsimp only; omega))
      | exact absurd h (hx.stop (q' := 2 * q + 1 + b / c + 1) (r' := 2 * r - c + b % c - c) ⟨q1.1, q2.1⟩ q3.1 (by omega) (by omega) (he _ _ (by grind)))
      | exact absurd h (hx.stop (q' := 2 * q + 1 + b / c) (r' := 2 * r - c + b % c) ⟨q1.1, q2.1⟩ q3.1 (by omega) (by omega) (he _ _ (by grind)))
      | exact absurd h (hx.stop (q' := 2 * q + b / c + 1) (r' := 2 * r + b % c - c) ⟨q1.1, q2.1⟩ q3.1 (by omega) (by omega) (he _ _ (by grind)))
      | exact absurd h (hx.stop (q' := 2 * q + b / c) (r' := 2 * r + b % c) ⟨q1.1, q2.1⟩ q3.1 (by omega) (by omega) (he _ _ (by grind)))
      | trace_state
  · rw [show z % 2 = 0 from by omega, Int.zero_mul] at he
    repeat' (first
 | (intro h9; exfalso; first | contradiction | omega)
 | (with_reducible apply znw); rfl; rfl; rfl; rfl; (first | trivial | (show (_ : Int) ≠ _; omega)); (first | assumption | exact wI (by omega) | exact wU (by omega) | rfl); rfl; rfl
 | (with_reducible apply zsw); rfl; rfl; rfl; rfl; omega; (first | assumption | exact wI (by omega) | exact wU (by omega) | rfl); rfl; rfl
 | (with_reducible apply zd); rfl; exact tk; rfl
 | (with_reducible first | intro _ | apply wseq | apply zreg | apply thenQ_n | apply thenQ_r | apply thenQ_e | apply znil | apply wret | apply bodyQ_r | apply wblk | apply blkQ_n | apply blkQ_r | apply wskip | apply wexit)
 | apply wct rfl
 | apply wcf rfl
 | (with_reducible apply zcmp); rfl; exact tk; rfl; rfl; rfl
 | fail)
    all_goals first
      | exact endR (i - 1, 2 * q + 1, 2 * r - c) [] ⟨rfl, rfl, rfl, rfl, rfl, rfl, rfl, rfl⟩ (hx.next (q' := 2 * q + 1) (r' := 2 * r - c) hi (by omega) (by omega) (he _ _ (by grind))) (by first | omega | (dsimp only; omega))
      | exact endR (i - 1, 2 * q, 2 * r) [] ⟨rfl, rfl, rfl, rfl, rfl, rfl, rfl, rfl⟩ (hx.next (q' := 2 * q) (r' := 2 * r) hi (by omega) (by omega) (he _ _ (by grind))) (by first | omega | (dsimp only; omega))
      | exact absurd h (hx.stop (q' := 2 * q + 1) (r' := 2 * r - c) ⟨q1.1, q2.1⟩ q3.1 (by omega) (by omega) (he _ _ (by grind)))
      | exact absurd h (hx.stop (q' := 2 * q) (r' := 2 * r) ⟨q1.1, q2.1⟩ q3.1 (by omega) (by omega) (he _ _ (by grind)))
      | trace_state
set_option maxHeartbeats 4000000 in
theorem spec_MulDiv_no {a b c : Int} (h : ¬ mdOk a b c) : FC Tryz.prog 33 [I a, I b, I c] ([]) (.tup [I 0, I 0, B false]) ([]) := by
  refine fent tk 68 [.tmp 6, .tmp 7, .tmp 8] Tryz.func33 (by kernel_rfl) rfl rfl rfl rfl rfl rfl rfl ?_
  by_cases hi0 : inP a 0 1000000000000000 ∧ inP b 0 1000000000000000 ∧ inP c 1 1000000000000000
  rotate_left
  ·
    repeat' (first
 | (intro h9; exact absurd ⟨by assumption, by assumption, by assumption⟩ hi0)
 | (with_reducible apply zd); rfl; exact tk; rfl
 | (with_reducible first | intro _ | apply wseq | apply zreg | apply thenQ_n | apply thenQ_r | apply thenQ_e | apply znil | apply wret | apply bodyQ_r | apply wblk | apply blkQ_n | apply blkQ_r | apply wskip | apply wexit)
 | apply wct rfl
 | (with_reducible apply zcp); (iterate 10 rfl); exact spec_l1Some; rfl; rfl
 | fail)
    all_goals exact endV [] rfl rfl rfl rfl rfl rfl
  obtain ⟨h1, h2, h3⟩ := id hi0
  have q1 := h1
  have q2 := h2
  have q3 := h3
  unfold inP at q1 q2 q3
  have hbc : 0 ≤ b / c ∧ b / c ≤ 1000000000000000 := ⟨Int.ediv_nonneg q2.1 (by omega), by have := Int.ediv_le_self c q2.1; omega⟩
  have hbm : 0 ≤ b % c ∧ b % c < c := ⟨Int.emod_nonneg _ (by omega), Int.emod_lt_of_pos _ (by omega)⟩
  have hbd := (dm_of b c (by omega)).1
  have e1 : IntKind.i64.wrap (b.tdiv c) = b / c := by rw [Int.tdiv_eq_ediv_of_nonneg q2.1, wI (by omega)]
  have e2 : b.tmod c = b % c := Int.tmod_eq_emod_of_nonneg q2.1
  repeat' (first
 | (intro h9; exfalso; first | contradiction | omega)
 | (with_reducible apply zds); exact tk; rfl; rfl; rfl; rfl; rfl
 | (with_reducible apply zd); rfl; exact tk; rfl
 | (with_reducible first | intro _ | apply wseq | apply zreg | apply thenQ_n | apply thenQ_r | apply thenQ_e | apply znil | apply wret | apply bodyQ_r | apply wblk | apply blkQ_n | apply blkQ_r | apply wskip | apply wexit)
 | apply wcf rfl
 | (with_reducible apply zcp); (iterate 10 rfl); exact spec_l1Some; rfl; rfl
 | fail)
  refine wlp (X := Int × Int × Int) [0, 1, 2] [] (fun x => [(11, I x.1), (9, I x.2.1), (10, I x.2.2)]) (fun _ => []) (fun x => MdI a b c x.1 x.2.1 x.2.2) (fun x => (x.1 + 1).toNat) (50, 0, 0) (MdI.init q1 q3.1) rfl rfl (fun _ => rfl) (fun _ => rfl) ⟨rfl, rfl, rfl, rfl, rfl, rfl, rfl, rfl⟩ (fun x hx => ?_)
  obtain ⟨i, q, r⟩ := x
  dsimp only at hx ⊢
  obtain ⟨i0, i1⟩ := hx.bnd
  have hq := hx.qb
  have hr := hx.rb
  by_cases hi : 0 ≤ i
  rotate_left
  ·
    repeat' (first
 | (intro h9; exfalso; first | contradiction | omega)
 | (with_reducible apply zds); exact tk; rfl; rfl; rfl; rfl; rfl
 | (with_reducible apply zd); rfl; exact tk; rfl
 | (with_reducible first | intro _ | apply wseq | apply zreg | apply thenQ_n | apply thenQ_r | apply thenQ_e | apply znil | apply wret | apply bodyQ_r | apply wblk | apply blkQ_n | apply blkQ_r | apply wskip | apply wexit)
 | apply wcf rfl
 | (with_reducible apply blkQ_x rfl)
 | (with_reducible apply zcmp); rfl; exact tk; rfl; rfl; rfl
 | fail)
    all_goals (obtain ⟨d1, d2⟩ := hx.done (by omega); exact absurd ⟨h1, h2, h3, by rw [d1]; exact hx.qb.2⟩ h)
  obtain ⟨z, hz⟩ : ∃ z, z = a / 2 ^ i.toNat := ⟨_, rfl⟩
  have hz0 : 0 ≤ z ∧ z ≤ a := ⟨by rw [hz]; exact Int.ediv_nonneg q1.1 (Int.le_of_lt (Int.pow_pos (by omega))), by rw [hz]; exact Int.ediv_le_self _ q1.1⟩
  have e3 : a.fdiv (2 ^ (min i.toNat IntKind.i64.bits)) = z := by
    have h64 : IntKind.i64.bits = 64 := rfl
    rw [h64, show min i.toNat 64 = i.toNat from by omega, fdiv_pos (Int.le_of_lt (Int.pow_pos (by omega))), hz]
  have e4 : IntKind.i64.wrap (BitVec.ofInt IntKind.i64.bits z &&& BitVec.ofInt IntKind.i64.bits 1).toNat = z % 2 := wI_mod2 (by omega)
  have heq := hx.eq
  rw [pow_half hi, ← hz] at heq
  have hzb : z * b = 2 * (z / 2 * b) + z % 2 * b := by
    have : z = 2 * (z / 2) + z % 2 := by omega
    calc z * b = (2 * (z / 2) + z % 2) * b := by rw [← this]
      _ = _ := by grind
  have he : ∀ q' r' : Int, 2 * (c * q + r) + z % 2 * b = c * q' + r' → a / 2 ^ i.toNat * b = c * q' + r' := fun q' r' k => by rw [← hz, hzb, heq]; exact k
  by_cases hbit : z % 2 = 1
  · rw [hbit, Int.one_mul] at he
    repeat' (first
 | (intro h9; exfalso; first | contradiction | omega)
 | (with_reducible apply znw); rfl; rfl; rfl; rfl; (first | trivial | (show (_ : Int) ≠ _; omega)); (first | assumption | exact wI (by omega) | exact wU (by omega) | rfl); rfl; rfl
 | (with_reducible apply zsw); rfl; rfl; rfl; rfl; omega; (first | assumption | exact wI (by omega) | exact wU (by omega) | rfl); rfl; rfl
 | (with_reducible apply zd); rfl; exact tk; rfl
 | (with_reducible first | intro _ | apply wseq | apply zreg | apply thenQ_n | apply thenQ_r | apply thenQ_e | apply znil | apply wret | apply bodyQ_r | apply wblk | apply blkQ_n | apply blkQ_r | apply wskip | apply wexit)
 | apply wct rfl
 | apply wcf rfl
 | (with_reducible apply zcmp); rfl; exact tk; rfl; rfl; rfl
 | fail)
    all_goals first
      | exact endR (i - 1, 2 * q + 1 + b / c + 1, 2 * r - c + b % c - c) [] ⟨rfl, rfl, rfl, rfl, rfl, rfl, rfl, rfl⟩ (hx.next (q' := 2 * q + 1 + b / c + 1) (r' := 2 * r - c + b % c - c) hi (by omega) (by omega) (he _ _ (by grind))) (by first | omega | (dsimp only; omega))
      | exact endR (i - 1, 2 * q + 1 + b / c, 2 * r - c + b % c) [] ⟨rfl, rfl, rfl, rfl, rfl, rfl, rfl, rfl⟩ (hx.next (q' := 2 * q + 1 + b / c) (r' := 2 * r - c + b % c) hi (by omega) (by omega) (he _ _ (by grind))) (by first | omega | (dsimp only; omega))
      | exact endR (i - 1, 2 * q + b / c + 1, 2 * r + b % c - c) [] ⟨rfl, rfl, rfl, rfl, rfl, rfl, rfl, rfl⟩ (hx.next (q' := 2 * q + b / c + 1) (r' := 2 * r + b % c - c) hi (by omega) (by omega) (he _ _ (by grind))) (by first | omega | (dsimp only; omega))
      | exact endR (i - 1, 2 * q + b / c, 2 * r + b % c) [] ⟨rfl, rfl, rfl, rfl, rfl, rfl, rfl, rfl⟩ (hx.next (q' := 2 * q + b / c) (r' := 2 * r + b % c) hi (by omega) (by omega) (he _ _ (by grind))) (by first | omega | (dsimp only; omega))
      | exact endV [] rfl rfl rfl rfl rfl rfl
      | trace_state
  · rw [show z % 2 = 0 from by omega, Int.zero_mul] at he
    repeat' (first
 | (intro h9; exfalso; first | contradiction | omega)
 | (with_reducible apply znw); rfl; rfl; rfl; rfl; (first | trivial | (show (_ : Int) ≠ _; omega)); (first | assumption | exact wI (by omega) | exact wU (by omega) | rfl); rfl; rfl
 | (with_reducible apply zsw); rfl; rfl; rfl; rfl; omega; (first | assumption | exact wI (by omega) | exact wU (by omega) | rfl); rfl; rfl
 | (with_reducible apply zd); rfl; exact tk; rfl
 | (with_reducible first | intro _ | apply wseq | apply zreg | apply thenQ_n | apply thenQ_r | apply thenQ_e | apply znil | apply wret | apply bodyQ_r | apply wblk | apply blkQ_n | apply blkQ_r | apply wskip | apply wexit)
 | apply wct rfl
 | apply wcf rfl
 | (with_reducible apply zcmp); rfl; exact tk; rfl; rfl; rfl
 | fail)
    all_goals first
      | exact endR (i - 1, 2 * q + 1, 2 * r - c) [] ⟨rfl, rfl, rfl, rfl, rfl, rfl, rfl, rfl⟩ (hx.next (q' := 2 * q + 1) (r' := 2 * r - c) hi (by omega) (by omega) (he _ _ (by grind))) (by first | omega | (dsimp only; omega))
      | exact endR (i - 1, 2 * q, 2 * r) [] ⟨rfl, rfl, rfl, rfl, rfl, rfl, rfl, rfl⟩ (hx.next (q' := 2 * q) (r' := 2 * r) hi (by omega) (by omega) (he _ _ (by grind))) (by first | omega | (dsimp only; omega))
      | exact endV [] rfl rfl rfl rfl rfl rfl
      | trace_state
theorem impl_MulDiv {a b c : Int} : FC Tryz.prog 129 [I a, I b, I c] [] (sel (mdOk a b c) (.tup [I (a * b / c), I (a * b % c), B true]) (.tup [I 0, I 0, B false])) (sel (mdOk a b c) [] []) := by
  by_cases h : mdOk a b c
  · rw [sel_t h, sel_t h]
    exact impl_MulDiv_ok h
  · rw [sel_f h, sel_f h]
    exact impl_MulDiv_no h
theorem spec_MulDiv {a b c : Int} : FC Tryz.prog 33 [I a, I b, I c] [] (sel (mdOk a b c) (.tup [I (a * b / c), I (a * b % c), B true]) (.tup [I 0, I 0, B false])) (sel (mdOk a b c) [] []) := by
  by_cases h : mdOk a b c
  · rw [sel_t h, sel_t h]
    exact spec_MulDiv_ok h
  · rw [sel_f h, sel_f h]
    exact spec_MulDiv_no h
end Go.Proofs.YtgehbhkfehmdkaaGreat.Sh
