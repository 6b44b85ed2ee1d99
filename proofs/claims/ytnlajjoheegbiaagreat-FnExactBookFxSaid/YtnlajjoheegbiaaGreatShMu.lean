/- Products by divisors: the walks. No condition. -/
import Derived.Test.YtnlajjoheegbiaaGreatShX
import Derived.Test.YtnlajjoheegbiaaGreatShMd
import Derived.Shelf.Bits.Mul64
import Derived.Shelf.Small.Bits
import Derived.Shelf.Lay
import Derived.Ground.NamesProg
import Derived.Lib.BitFns
namespace Go.Proofs.YtnlajjoheegbiaaGreat.Sh
open Go.RowKit
set_option linter.unusedVariables false
set_option linter.unusedSimpArgs false
theorem wU {n : Int} (h : 0 ≤ n ∧ n < 18446744073709551616) : IntKind.u64.wrap n = n := by simp [IntKind.wrap, IntKind.bits, IntKind.signed]; omega
theorem wI {n : Int} (h : -9223372036854775808 ≤ n ∧ n < 9223372036854775808) : IntKind.i64.wrap n = n := by simp [IntKind.wrap, IntKind.bits, IntKind.signed]; omega
/-- A function that answers at once, with numbers. -/
theorem fc_quiet {P : Program} {f : FuncId} (hE : Enters P f) {vs : List Value} {X : AV} {v : Value} (hX : ∀ ρ, X.R ρ v) (h : ∀ w, Calls P f vs.toArray w fun e w' => e = .returned v ∧ w' = w) : FC P f (vs.map fun u => .c (.sc u)) [] X [] :=
  ⟨hE, fun ρ w cargs hl hH ha => by
    have hc : cargs = vs := by
      clear h
      induction vs generalizing cargs with
      | nil => cases cargs with
        | nil => rfl
        | cons _ _ => exact ha.elim
      | cons u vs ih => cases cargs with
        | nil => exact ha.elim
        | cons c cs =>
          have h1 : c = u := ha.1.1
          rw [h1, ih cs ha.2]
    subst hc
    refine (h w).mono fun e w' hh => ?_
    obtain ⟨rfl, rfl⟩ := hh
    exact ⟨X, [], v, ρ, ⟨rfl, rfl⟩, rfl, hX ρ, hH, hl, Ext.refl _⟩⟩
open Go.Shelf in
shelf_lay Lays.n264 Nm 264 at Tryz as laysMul64
open Go.Shelf in
shelf_lay Lays.n134 Nm 134 at Tryz as laysLz64
theorem bits_Mul64 {x y : Int} (hx : 0 ≤ x ∧ x < 18446744073709551616) (hy : 0 ≤ y ∧ y < 18446744073709551616) : FC Tryz.prog 184 [.c (.sc (.int .u64 x)), .c (.sc (.int .u64 y))] [] (.tup [.c (.sc (.int .u64 (x * y / 18446744073709551616))), .c (.sc (.int .u64 (x * y % 18446744073709551616)))]) [] := by
  obtain ⟨n, rfl⟩ : ∃ n : Nat, x = n := ⟨x.toNat, by omega⟩
  obtain ⟨m, rfl⟩ : ∃ m : Nat, y = m := ⟨y.toNat, by omega⟩
  refine fc_quiet (vs := [.int .u64 n, .int .u64 m]) (v := .tuple #[.int .u64 (n * m / 18446744073709551616), .int .u64 (n * m % 18446744073709551616)]) (enters Tryz.func184 (by kernel_rfl) rfl) (fun ρ => ⟨_, rfl, ⟨rfl, rfl⟩, ⟨rfl, rfl⟩, trivial⟩) (fun w => ?_)
  have h := Any.bits_Mul64 laysMul64 n m (by omega) (by omega) w
  rw [Int.natCast_ediv, Int.natCast_emod, Int.natCast_mul] at h
  exact h
def lz (y : Int) : Int := 64 - (Lib.bitLen y.toNat : Int)
theorem bits_LeadingZeros64 {y : Int} (hy : 0 ≤ y ∧ y < 18446744073709551616) : FC Tryz.prog 232 [.c (.sc (.int .u64 y))] [] (I (lz y)) [] :=
  fc_quiet (vs := [.int .u64 y]) (v := .int .i64 (lz y)) (enters Tryz.func232 (by kernel_rfl) rfl) (fun ρ => ⟨rfl, rfl⟩) (fun w => Any.bits_LeadingZeros64 laysLz64 y w hy.1 (by omega))
theorem bitLen_ge : ∀ x : Nat, x ≠ 0 → x < 2 ^ 64 → 2 ^ (Lib.bitLen x) ≤ 2 * x := by
  intro x
  induction x using Nat.strongRecOn with
  | _ x ih =>
    intro h0 h1
    rw [Lib.bitLen_half x h0 h1]
    by_cases h : x / 2 = 0
    · have : x = 1 := by omega
      subst this
      decide
    · have := ih (x / 2) (by omega) h (by omega)
      rw [Nat.pow_add, Nat.pow_one]
      omega
theorem bitLen_lt : ∀ x : Nat, x < 2 ^ 64 → x < 2 ^ (Lib.bitLen x) := by
  intro x
  induction x using Nat.strongRecOn with
  | _ x ih =>
    intro h1
    by_cases h0 : x = 0
    · subst h0; decide
    rw [Lib.bitLen_half x h0 h1]
    by_cases h : x / 2 = 0
    · have : x = 1 := by omega
      subst this
      decide
    · have := ih (x / 2) (by omega) (by omega)
      rw [Nat.pow_add, Nat.pow_one]
      omega
/-- How far a number may be shifted. -/
theorem lz_ok {y : Int} (h : 0 < y ∧ y < 18446744073709551616) : (0 ≤ lz y ∧ lz y ≤ 63) ∧ 9223372036854775808 ≤ y * 2 ^ (lz y).toNat ∧ y * 2 ^ (lz y).toNat < 18446744073709551616 := by
  obtain ⟨n, rfl⟩ : ∃ n : Nat, y = n := ⟨y.toNat, by omega⟩
  have h1 := bitLen_ge n (by omega) (by omega)
  have h2 := bitLen_lt n (by omega)
  have h3 := Lib.bitLen_le n 64 (by omega) (by omega)
  have h4 : Lib.bitLen n ≠ 0 := fun e => by rw [e] at h2; omega
  unfold lz
  rw [Int.toNat_natCast]
  generalize Lib.bitLen n = k at *
  have e : (64 - (k : Int)).toNat = 64 - k := by omega
  rw [e]
  have h5 : 2 ^ k * 2 ^ (64 - k) = 18446744073709551616 := by rw [← Nat.pow_add, show k + (64 - k) = 64 from by omega]
  have h6 : 2 ^ k * 2 ^ (64 - k) ≤ 2 * n * 2 ^ (64 - k) := Nat.mul_le_mul_right _ h1
  have h7 : n * 2 ^ (64 - k) < 2 ^ k * 2 ^ (64 - k) := Nat.mul_lt_mul_of_pos_right h2 (Nat.two_pow_pos _)
  rw [Nat.mul_assoc] at h6
  have e2 : (n : Int) * 2 ^ (64 - k) = ((n * 2 ^ (64 - k) : Nat) : Int) := by push_cast; rfl
  rw [e2]
  omega
theorem wU_mod (n : Int) : IntKind.u64.wrap n = n % 18446744073709551616 := by simp [IntKind.wrap, IntKind.bits, IntKind.signed]
theorem fdiv_pos {a b : Int} (h : 0 ≤ b) : a.fdiv b = a / b := Int.fdiv_eq_ediv_of_nonneg a h
theorem min_bits {s : Int} (h : s ≤ 64) : min s.toNat IntKind.u64.bits = s.toNat := by
  have : IntKind.u64.bits = 64 := rfl
  rw [this]
  omega
theorem toNat_u {x : Int} (h : 0 ≤ x ∧ x < 18446744073709551616) : (BitVec.ofInt IntKind.u64.bits x).toNat = x.toNat := by
  have : IntKind.u64.bits = 64 := rfl
  rw [this, BitVec.toNat_ofInt]
  omega
theorem and_mask {x : Int} (h : 0 ≤ x ∧ x < 18446744073709551616) : IntKind.u64.wrap (BitVec.ofInt IntKind.u64.bits x &&& BitVec.ofInt IntKind.u64.bits 4294967295).toNat = x % 4294967296 := by
  rw [BitVec.toNat_and, toNat_u h, toNat_u (by omega), show (4294967295 : Int).toNat = 2 ^ 32 - 1 from rfl, Nat.and_two_pow_sub_one_eq_mod, wU (by omega)]
  omega
theorem or_parts {a b : Int} {k : Nat} (ha : 0 ≤ a) (hb : 0 ≤ b ∧ b < 2 ^ k) (h : a * 2 ^ k + b < 18446744073709551616) : IntKind.u64.wrap (BitVec.ofInt IntKind.u64.bits (a * 2 ^ k) ||| BitVec.ofInt IntKind.u64.bits b).toNat = a * 2 ^ k + b := by
  obtain ⟨m, rfl⟩ : ∃ m : Nat, a = m := ⟨a.toNat, by omega⟩
  obtain ⟨n, rfl⟩ : ∃ n : Nat, b = n := ⟨b.toNat, by omega⟩
  have e : (m : Int) * 2 ^ k = ((2 ^ k * m : Nat) : Int) := by push_cast; rw [Int.mul_comm]
  have e2 : ((2 : Int) ^ k) = ((2 ^ k : Nat) : Int) := by push_cast; rfl
  rw [e] at h ⊢
  have hn : n < 2 ^ k := by have := hb.2; rw [e2] at this; omega
  rw [BitVec.toNat_or, toNat_u (by omega), toNat_u (by omega), Int.toNat_natCast, Int.toNat_natCast, ← Nat.two_pow_add_eq_or_of_lt hn, wU (by omega)]
  omega
theorem shr_up {lo : Int} {s : Int} (h : 0 ≤ lo ∧ lo < 18446744073709551616) (hs : 0 ≤ s ∧ s ≤ 63) : lo.fdiv (2 ^ (min (64 - s).toNat IntKind.u64.bits)) = lo * 2 ^ s.toNat / 18446744073709551616 ∧ lo * 2 ^ s.toNat / 18446744073709551616 < 2 ^ s.toNat := by
  rw [min_bits (by omega)]
  have h5 : (2 : Int) ^ (64 - s).toNat * 2 ^ s.toNat = 18446744073709551616 := by rw [← Int.pow_add, show (64 - s).toNat + s.toNat = 64 from by omega]; rfl
  have hp : (0 : Int) < 2 ^ s.toNat := Int.pow_pos (by omega)
  have hq : (0 : Int) < 2 ^ (64 - s).toNat := Int.pow_pos (by omega)
  have e : lo.fdiv (2 ^ (64 - s).toNat) = lo * 2 ^ s.toNat / 18446744073709551616 := by
    rw [fdiv_pos (by omega), ← h5, Int.mul_ediv_mul_of_pos_left _ _ hp]
  refine ⟨e, ?_⟩
  rw [Int.ediv_lt_iff_lt_mul (by omega), Int.mul_comm (2 ^ s.toNat)]
  exact Int.mul_lt_mul_of_pos_right h.2 hp
section
variable {P : Program} {T : TB} {ops : Array Oper} {Q : Exit → St → Prop} {h1 : AH} {k : Sk} {ks ks' : List Sk} {l : List Oper} {N0 k0 d0 : Nat} {e0 : List (Nat × AV)} {h0 : AH} {ty : TypeId} {pos : String} {af : Array Edge} {g : Option (Nat × Bool)}
/-- A number's operation, its value told in other words. -/
theorem znw {x y : Operand} {xT yT : TypeId} {kk : IntKind} {a b r r2 : Int} {o : BinOp} (hs0 : stK ks = (k, ks')) (hx : ev e0 x = some (.c (.sc (.int kk a)))) (hy : ev e0 y = some (.c (.sc (.int kk b)))) (hr : arB o kk a b = some r) (hb : arG o b) (he : r = r2) (hg : gd ops ⟨some d0, .binOp o xT x y yT, ty, pos, af, g⟩ e0 = some true) (hd : Nat.blt d0 N0 = true)
    (h : ZZ P ops Q h1 ks' l ⟨N0, k0, (d0, .c (.sc (.int kk r2))) :: e0, h0⟩) : ZZ P ops Q h1 ks (⟨some d0, .binOp o xT x y yT, ty, pos, af, g⟩ :: l) ⟨N0, k0, e0, h0⟩ := by
  subst he
  exact zaw hs0 hx hy hr hb hg hd h
theorem zsw {x y : Operand} {xT yT : TypeId} {kk k2 : IntKind} {a b r r2 : Int} {o : BinOp} (hs0 : stK ks = (k, ks')) (hx : ev e0 x = some (.c (.sc (.int kk a)))) (hy : ev e0 y = some (.c (.sc (.int k2 b)))) (hr : shB o kk a b = some r) (hb : 0 ≤ b) (he : r = r2) (hg : gd ops ⟨some d0, .binOp o xT x y yT, ty, pos, af, g⟩ e0 = some true) (hd : Nat.blt d0 N0 = true)
    (h : ZZ P ops Q h1 ks' l ⟨N0, k0, (d0, .c (.sc (.int kk r2))) :: e0, h0⟩) : ZZ P ops Q h1 ks (⟨some d0, .binOp o xT x y yT, ty, pos, af, g⟩ :: l) ⟨N0, k0, e0, h0⟩ := by
  subst he
  exact zsh hs0 hx hy hr hb hg hd h
end
end Go.Proofs.YtnlajjoheegbiaaGreat.Sh
