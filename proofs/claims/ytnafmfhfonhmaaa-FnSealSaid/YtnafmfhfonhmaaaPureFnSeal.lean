/- What is sealed is read as itself, also behind other bytes; with another byte behind the length it is refused (the pure side). No condition. -/
import Derived.Test.YtnafmfhfonhmaaaPFnSealx
import Derived.Test.YtnafmfhfonhmaaaU0
namespace Go.Proofs.Ytnafmfhfonhmaaa.Pure
open Go.RowKit Go.Proofs.Ytnafmfhfonhmaaa.PFnSeal Go.Proofs.YtnafmfhfonhmaaaW.PrintWords Go.Proofs.YtnafmfhfonhmaaaW.PrintLast Go.Proofs.Ytnafmfhfonhmaaa.U0
set_option linter.unusedSimpArgs false
set_option linter.unusedVariables false

theorem and_range (x : Int) (m : Nat) (hm : m < 2 ^ 63) : 0 ≤ Go.bits .and .i64 x m ∧ Go.bits .and .i64 x m ≤ m := by
  have h : (BitVec.ofInt IntKind.i64.bits x &&& BitVec.ofInt IntKind.i64.bits (m : Int)).toNat ≤ m := by
    rw [BitVec.toNat_and, BitVec.ofInt_natCast, BitVec.toNat_ofNat]
    exact Nat.le_trans Nat.and_le_right (Nat.mod_le _ _)
  have e : Go.bits .and .i64 x (m : Int) = (((BitVec.ofInt IntKind.i64.bits x &&& BitVec.ofInt IntKind.i64.bits (m : Int)).toNat : Nat) : Int) := wraps_i64 _ (by omega) (by exact_mod_cast Nat.lt_of_le_of_lt h hm)
  rw [e]
  omega
theorem draw_new (l : List Int) (k : Nat) (hk : 4001 < k) : ∃ h, spec_l1New.f k l = some (l, 0, h) := by
  have loop : ∀ (d i : Nat) (h : Int), i + d = 4001 → ∀ k, d < k → ∃ h', spec_l1New.l0 k l h (i : Int) = some (l, 0, h') := by
    intro d
    induction d with
    | zero =>
      intro i h hi k hk
      obtain ⟨k, rfl⟩ : ∃ m, k = m + 1 := ⟨k - 1, by omega⟩
      simp only [spec_l1New.l0]
      by_cases c : (i : Int) < (l.length : Int)
      · rw [if_pos c, if_neg (by omega)]; exact ⟨_, rfl⟩
      · rw [if_neg c]; exact ⟨_, rfl⟩
    | succ d ih =>
      intro i h hi k hk
      obtain ⟨k, rfl⟩ : ∃ m, k = m + 1 := ⟨k - 1, by omega⟩
      simp only [spec_l1New.l0]
      by_cases c : (i : Int) < (l.length : Int)
      · rw [if_pos c]
        by_cases c2 : (i : Int) < 4000
        · rw [if_pos c2, if_pos (by omega), w_in (n := (i : Int) + 1) (by omega) (by omega)]
          exact ih (i + 1) _ (by omega) k (by omega)
        · rw [if_neg c2]; exact ⟨_, rfl⟩
      · rw [if_neg c]; exact ⟨_, rfl⟩
  unfold spec_l1New.f
  exact loop 4001 0 _ rfl k (by omega)
theorem draw_byte (l : List Int) (i h : Int) (hl : l.length ≤ 1048576) (hi : 0 ≤ i) : ∃ b i' h', spec_l1Byte.f l i h = some (b, i', h') ∧ 0 ≤ b ∧ b ≤ 255 ∧ 0 ≤ i' := by
  unfold spec_l1Byte.f
  by_cases c : i < (l.length : Int)
  · rw [if_pos c, if_pos hi]
    have := and_range (wrap64 (Go.bits .and .i64 (Go.bits .xor .i64 (wrap64 (wrap64 (h * 6364136223846793005) + 1442695040888963407) / 8589934592) (wrap64 (wrap64 (h * 6364136223846793005) + 1442695040888963407) / 35184372088832)) 255 + wrap64 (rd l i))) 255 (by decide)
    exact ⟨_, _, _, rfl, this.1, this.2, by rw [w_in (by omega) (by omega)]; omega⟩
  · rw [if_neg c]
    have := and_range (Go.bits .xor .i64 (wrap64 (wrap64 (h * 6364136223846793005) + 1442695040888963407) / 8589934592) (wrap64 (wrap64 (h * 6364136223846793005) + 1442695040888963407) / 35184372088832)) 255 (by decide)
    exact ⟨_, _, _, rfl, this.1, this.2, hi⟩
theorem draw_below (l : List Int) (i h n : Int) (hl : l.length ≤ 1048576) (hi : 0 ≤ i) : ∃ r i' h', spec_l1Below.f l i h n = some (r, i', h') ∧ 0 ≤ i' ∧ 0 ≤ r ∧ (0 < n → r < n) ∧ (n ≤ 0 → r = 0) ∧ r ≤ 4294967295 := by
  unfold spec_l1Below.f
  by_cases c : n ≤ 0
  · rw [if_pos c]; exact ⟨_, _, _, rfl, hi, by omega, by omega, fun _ => rfl, by omega⟩
  · rw [if_neg c]
    by_cases c2 : n ≤ 256
    · rw [if_pos c2]
      obtain ⟨b, i', h', e, h0, h1, h2⟩ := draw_byte l i h hl hi
      rw [e]
      simp only [Option.bind_some]
      rw [if_neg (by omega), Int.tmod_eq_emod_of_nonneg h0]
      have := Int.emod_lt_of_pos b (show 0 < n by omega)
      have := Int.emod_nonneg b (show n ≠ 0 by omega)
      exact ⟨_, _, _, rfl, h2, by omega, by omega, by omega, by omega⟩
    · rw [if_neg c2]
      obtain ⟨b1, i1, h1, e1, p1, q1, r1⟩ := draw_byte l i h hl hi
      obtain ⟨b2, i2, h2, e2, p2, q2, r2⟩ := draw_byte l i1 h1 hl r1
      obtain ⟨b3, i3, h3, e3, p3, q3, r3⟩ := draw_byte l i2 h2 hl r2
      obtain ⟨b4, i4, h4, e4, p4, q4, r4⟩ := draw_byte l i3 h3 hl r3
      simp only [e1, e2, e3, e4, Option.bind_some]
      rw [if_neg (by omega)]
      have hx : wrap64 (wrap64 (wrap64 (wrap64 (b1 * 16777216) + wrap64 (b2 * 65536)) + wrap64 (b3 * 256)) + b4) = b1 * 16777216 + b2 * 65536 + b3 * 256 + b4 := by
        rw [w_in (n := b1 * 16777216) (by omega) (by omega), w_in (n := b2 * 65536) (by omega) (by omega), w_in (n := b3 * 256) (by omega) (by omega), w_in (n := b1 * 16777216 + b2 * 65536) (by omega) (by omega), w_in (n := b1 * 16777216 + b2 * 65536 + b3 * 256) (by omega) (by omega), w_in (by omega) (by omega)]
      rw [hx, Int.tmod_eq_emod_of_nonneg (by omega)]
      have hlt := Int.emod_lt_of_pos (b1 * 16777216 + b2 * 65536 + b3 * 256 + b4) (show 0 < n by omega)
      have hge := Int.emod_nonneg (b1 * 16777216 + b2 * 65536 + b3 * 256 + b4) (show n ≠ 0 by omega)
      have hle : (b1 * 16777216 + b2 * 65536 + b3 * 256 + b4) % n ≤ b1 * 16777216 + b2 * 65536 + b3 * 256 + b4 := by
        have hd := Int.mul_ediv_add_emod (b1 * 16777216 + b2 * 65536 + b3 * 256 + b4) n
        have hq : 0 ≤ n * ((b1 * 16777216 + b2 * 65536 + b3 * 256 + b4) / n) := Int.mul_nonneg (by omega) (Int.ediv_nonneg (by omega) (by omega))
        omega
      exact ⟨_, _, _, rfl, r4, hge, fun _ => hlt, fun h => absurd h c, by omega⟩
theorem draw_once (l : List Int) (i h n : Int) (hl : l.length ≤ 1048576) (hi : 0 ≤ i) : ∃ r i' h', spec_l1Once.f l i h n = some (r, i', h') ∧ 0 ≤ i' := by
  unfold spec_l1Once.f
  obtain ⟨r, i', h', e, a, _⟩ := draw_below l i h n hl hi
  rw [e]
  exact ⟨_, _, _, rfl, a⟩
theorem draw_size (l : List Int) (m : Int) (hl : l.length ≤ 1048576) (h0 : 2 ≤ m) (h1 : m ≤ 1000000) : ∃ s, spec_l1Size.f l m = some s ∧ 2 ≤ s ∧ s ≤ m := by
  unfold spec_l1Size.f
  rw [w_in (n := (l.length : Int) / 20) (by omega) (by omega), w_in (by omega) (by omega)]
  by_cases c : 2 + (l.length : Int) / 20 > m
  · rw [if_pos c]; exact ⟨_, rfl, by omega, by omega⟩
  · rw [if_neg c]; exact ⟨_, rfl, by omega, by omega⟩
theorem draw_bytes_loop (s : List Int) (hl : s.length ≤ 1048576) (n : Nat) (hn : n ≤ 100) (d : Nat) : ∀ (j : Nat) (xs : List Int) (i h : Int), j + d = n → 0 ≤ i → xs.length = j → (∀ x ∈ xs, 0 ≤ x ∧ x < 256) → ∀ k, d < k → ∃ r i' h', spec_l11DrawBytes.l0 k xs n j s i h = some (r, i', h') ∧ 0 ≤ i' ∧ (∀ x ∈ r, 0 ≤ x ∧ x < 256) ∧ r.length ≤ 100 := by
  induction d with
  | zero =>
    intro j xs i h hj hi hx hb k hk
    obtain ⟨k, rfl⟩ : ∃ m, k = m + 1 := ⟨k - 1, by omega⟩
    rw [spec_l11DrawBytes.l0, if_neg (by omega)]
    exact ⟨_, _, _, rfl, hi, hb, by omega⟩
  | succ d ih =>
    intro j xs i h hj hi hx hb k hk
    obtain ⟨k, rfl⟩ : ∃ m, k = m + 1 := ⟨k - 1, by omega⟩
    obtain ⟨v, i1, h1, e1, v0, v1, p1⟩ := draw_byte s i h hl hi
    rw [spec_l11DrawBytes.l0, if_pos (by omega), e1, Option.bind_some]
    dsimp only
    rw [if_pos (by omega), w_in (n := (j : Int) + 1) (by omega) (by omega)]
    exact ih (j + 1) (xs ++ [v % 256]) i1 h1 (by omega) p1 (by simp [hx]) (fun x hx' => by
      rcases List.mem_append.1 hx' with hx' | hx'
      · exact hb x hx'
      · simp only [List.mem_singleton] at hx'; omega) k (by omega)
theorem draw_bytes11 (s : List Int) (i h a : Int) (hl : s.length ≤ 1048576) (hi : 0 ≤ i) (h0 : 0 ≤ a) (h1 : a ≤ 60) (k : Nat) (hk : 100 < k) : ∃ r i' h', spec_l11DrawBytes.f k s i h a = some (r, i', h') ∧ 0 ≤ i' ∧ (∀ x ∈ r, 0 ≤ x ∧ x < 256) ∧ r.length ≤ 100 := by
  unfold spec_l11DrawBytes.f
  rw [w_in (n := a + 1) (by omega) (by omega)]
  obtain ⟨n, i1, h1, e1, p1, q1, lt, _, _⟩ := draw_below s i h (a + 1) hl hi
  rw [e1, Option.bind_some]
  dsimp only
  have := lt (by omega)
  obtain ⟨m, rfl⟩ : ∃ m : Nat, n = m := ⟨n.toNat, by omega⟩
  exact draw_bytes_loop s hl m (by omega) m 0 [] i1 h1 (by omega) p1 rfl (by simp) k (by omega)
theorem draw_long (s : List Int) (i h a : Int) (hl : s.length ≤ 1048576) (hi : 0 ≤ i) (h0 : 0 ≤ a) (h1 : a ≤ 60) (k : Nat) (hk : 100 < k) : ∃ r i' h', spec_l11DrawLong.f k s i h a = some (r, i', h') ∧ (∀ x ∈ r, 0 ≤ x ∧ x < 256) ∧ r.length ≤ 9001 := by
  unfold spec_l11DrawLong.f
  obtain ⟨r, i1, h1, e1, p1, hb, hr⟩ := draw_bytes11 s i h a hl hi h0 h1 k hk
  rw [e1, Option.bind_some]
  dsimp only
  obtain ⟨o, i2, h2, e2, p2⟩ := draw_once s i1 h1 40 hl p1
  rw [e2, Option.bind_some]
  dsimp only
  by_cases c : o = true
  · rw [if_pos c]
    obtain ⟨n, i3, h3, e3, p3, q3, lt, _, _⟩ := draw_below s i2 h2 2 hl p2
    rw [e3, Option.bind_some]
    dsimp only
    have := lt (by omega)
    rw [w_in (n := 9000 + n) (by omega) (by omega), if_pos (by omega), if_pos (by omega)]
    exact ⟨_, _, _, rfl, fun x hx => by have := (List.mem_replicate.1 hx).2; omega, by rw [List.length_replicate]; omega⟩
  · rw [if_neg c]
    exact ⟨_, _, _, rfl, hb, by omega⟩
theorem draw_seal (l : List Int) (hl : l.length ≤ 1048576) (k : Nat) (hk : 4100 < k) : ∃ b, spec_DrawSeal.f k l = some b ∧ (∀ x ∈ b, 0 ≤ x ∧ x < 256) ∧ b.length ≤ 9001 := by
  unfold spec_DrawSeal.f
  obtain ⟨h, e⟩ := draw_new l k (by omega)
  obtain ⟨s, e2, s0, s1⟩ := draw_size l 60 hl (by decide) (by decide)
  obtain ⟨r, i', h', e3, hb, hr⟩ := draw_long l 0 h s hl (by decide) (by omega) s1 k (by omega)
  rw [e, Option.bind_some, e2, Option.bind_some]
  dsimp only
  rw [e3, Option.bind_some]
  exact ⟨r, rfl, hb, hr⟩
theorem at_range (l : List Int) (hl : ∀ x ∈ l, 0 ≤ x ∧ x < 256) (hn : l.length ≤ 1048576) (i : Int) (h0 : 0 ≤ i) (h1 : i ≤ 1000) : ∃ r, laws_at.f l i = some r ∧ 0 ≤ r ∧ r < 256 := by
  unfold laws_at.f
  by_cases c : i < (l.length : Int)
  · have hb := hl _ (rd_mem h0 c)
    rw [if_pos c, if_pos h0, w_in (by omega) (by omega)]; exact ⟨_, rfl, hb⟩
  · rw [if_neg c, w_in (n := i * 7) (by omega) (by omega), w_in (by omega) (by omega), Int.tmod_eq_emod_of_nonneg (by omega)]
    exact ⟨_, rfl, by omega, by omega⟩
/-- The number form: seven bits a byte, the lowest first, 128 added to each but the last. -/
def form (n : Nat) : List Int := if h : n < 128 then [(n : Int)] else ((n % 128 + 128 : Nat) : Int) :: form (n / 128)
termination_by n
decreasing_by omega
theorem form_small {n : Nat} (h : n < 128) : form n = [(n : Int)] := by rw [form, dif_pos h]
theorem form_big {n : Nat} (h : ¬ n < 128) : form n = ((n % 128 + 128 : Nat) : Int) :: form (n / 128) := by rw [form, dif_neg h]
theorem form_len (d : Nat) : ∀ n, n < 128 ^ (d + 1) → (form n).length ≤ d + 1 := by
  induction d with
  | zero => intro n h; rw [form_small (by simpa using h)]; simp
  | succ d ih =>
    intro n h
    by_cases c : n < 128
    · rw [form_small c]; simp
    · rw [form_big c, List.length_cons]
      have := ih (n / 128) (by rw [Nat.pow_succ] at h; omega)
      omega

/-- What a PutNum tells: the form, or nothing of what is below 0. -/
def putNum (x : Int) : List Int := if x < 0 then [] else form x.toNat
theorem putNum_len (x : Int) (h : x ≤ 9223372036854775807) : (putNum x).length ≤ 9 := by
  unfold putNum
  split
  · simp
  · exact form_len 8 _ (Nat.lt_of_le_of_lt (show x.toNat ≤ 9223372036854775807 by omega) (by decide))
theorem impl_put_loop (d : Nat) : ∀ (n : Nat) (acc : List Int), n < 128 ^ (d + 1) → n ≤ 9223372036854775807 → acc.length + d < 140737488355327 → ∀ k, d < k → impl_PutNum.l0 k n acc = some (acc ++ form n) := by
  induction d with
  | zero =>
    intro n acc h _ ha k hk
    obtain ⟨k, rfl⟩ : ∃ m, k = m + 1 := ⟨k - 1, by omega⟩
    simp only [impl_PutNum.l0]
    rw [if_neg (by omega), if_pos (by omega), form_small (by omega), show ((n : Int)) % 256 = n from by omega]
  | succ d ih =>
    intro n acc h h63 ha k hk
    obtain ⟨k, rfl⟩ : ∃ m, k = m + 1 := ⟨k - 1, by omega⟩
    simp only [impl_PutNum.l0]
    by_cases c : n < 128
    · rw [if_neg (by omega), if_pos (by omega), form_small c, show ((n : Int)) % 256 = n from by omega]
    · rw [if_pos (by omega), if_pos (by omega)]
      have e1 : (n : Int) / 128 = ((n / 128 : Nat) : Int) := by omega
      have e2 : Go.bits .or .i64 (Go.bits .and .i64 (n : Int) 127) 128 % 256 = ((n % 128 + 128 : Nat) : Int) := by
        rw [and127 (by omega) (by omega), or128 (by omega) (by omega)]; omega
      rw [e1, e2, ih (n / 128) _ (by rw [Nat.pow_succ] at h; omega) (by omega) (by simp; omega) k (by omega), form_big c]
      simp

theorem impl_put (x : Int) (h : x ≤ 9223372036854775807) (k : Nat) (hk : 9 < k) : impl_PutNum.f k x = some (putNum x) := by
  unfold impl_PutNum.f putNum
  by_cases c : x < 0
  · rw [if_pos c, if_pos c]
  · obtain ⟨n, rfl⟩ := Int.eq_ofNat_of_zero_le (Int.not_lt.1 c)
    rw [if_neg c, if_neg c, Int.toNat_natCast]
    simpa using impl_put_loop 9 n [] (Nat.lt_of_le_of_lt (show n ≤ 9223372036854775807 by omega) (by decide)) (by omega) (by decide) k hk
theorem put_bytes (x : Int) (h : x ≤ 9223372036854775807) : ∀ b ∈ putNum x, 0 ≤ b ∧ b < 256 := by
  have form_bytes : ∀ (d n : Nat), n < 128 ^ (d + 1) → ∀ b ∈ form n, 0 ≤ b ∧ b < 256 := by
    intro d
    induction d with
    | zero => intro n hn b hb; rw [form_small (by simpa using hn)] at hb; simp at hb hn; omega
    | succ d ih =>
      intro n hn b hb
      by_cases c : n < 128
      · rw [form_small c] at hb; simp at hb; omega
      · rw [form_big c] at hb
        rcases List.mem_cons.1 hb with hb | hb
        · omega
        · exact ih (n / 128) (by rw [Nat.pow_succ] at hn; omega) b hb
  unfold putNum
  split
  · simp
  · exact form_bytes 8 _ (Nat.lt_of_le_of_lt (show x.toNat ≤ 9223372036854775807 by omega) (by decide))
/-- 2 to the 7 j. -/
def pw (j : Nat) : Int := 2 ^ (7 * j)
theorem pw_zero : pw 0 = 1 := rfl
theorem pw_succ (j : Nat) : pw (j + 1) = pw j * 128 := by unfold pw; rw [Nat.mul_add, Int.pow_add]; rfl
theorem pw_pos (j : Nat) : 0 < pw j := Int.pow_pos (by decide)
theorem pw_le (j : Nat) (h : j < 9) : pw j ≤ 72057594037927936 := by
  have : j = 0 ∨ j = 1 ∨ j = 2 ∨ j = 3 ∨ j = 4 ∨ j = 5 ∨ j = 6 ∨ j = 7 ∨ j = 8 := by omega
  rcases this with rfl | rfl | rfl | rfl | rfl | rfl | rfl | rfl | rfl <;> decide
/-- The number whose form stands from place p on, its first j bytes read as x already: the number, and the place behind it. d: how many bytes it may still have. -/
def getM (l : List Int) (p : Int) : Nat → Nat → Int → Option (Int × Int)
  | 0, _, _ => none
  | d + 1, j, x => if p + j < l.length then (if rd l (p + j) < 128 then (if rd l (p + j) = 0 ∧ 0 < j then none else some (x + rd l (p + j) * pw j, p + j + 1)) else getM l p d (j + 1) (x + rd l (p + j) % 128 * pw j)) else none
def told3 : Option (Int × Int) → Int × Int × Bool
  | none => (0, 0, false)
  | some (n, p) => (n, p, true)
/-- What a GetNum tells. -/
def getNum (l : List Int) (p : Int) : Option (Int × Int) := if p < 0 then none else getM l p 9 0 0
theorem mul_small {a b : Int} (h0 : 0 ≤ a) (h1 : a < 128) (hb : 0 < b) (hb1 : b ≤ 72057594037927936) : 0 ≤ a * b ∧ a * b + b ≤ 128 * b := by
  have h2 : 0 ≤ a * b := Int.mul_nonneg h0 (by omega)
  have h3 : (a + 1) * b ≤ 128 * b := Int.mul_le_mul_of_nonneg_right (by omega) (by omega)
  rw [Int.add_mul] at h3
  omega
theorem getM_range (l : List Int) (hl : ∀ x ∈ l, 0 ≤ x ∧ x < 256) (p : Int) (hp : 0 ≤ p) (d : Nat) : ∀ (j : Nat) (x : Int), j + d = 9 → 0 ≤ x → x < pw j → ∀ n q, getM l p d j x = some (n, q) → 0 ≤ n ∧ n ≤ 9223372036854775807 ∧ p < q ∧ q ≤ l.length := by
  induction d with
  | zero => intro j x _ _ _ n q h; simp [getM] at h
  | succ d ih =>
    intro j x hj h0 h1 n q h
    have hp8 := pw_le j (by omega)
    have hpp := pw_pos j
    simp only [getM] at h
    by_cases c : p + j < l.length
    · rw [if_pos c] at h
      have hb := hl _ (rd_mem (i := p + j) (by omega) c)
      by_cases c2 : rd l (p + j) < 128
      · rw [if_pos c2] at h
        by_cases c3 : rd l (p + j) = 0 ∧ 0 < j
        · rw [if_pos c3] at h; cases h
        · rw [if_neg c3] at h
          have hm := mul_small hb.1 c2 hpp hp8
          simp only [Option.some.injEq, Prod.mk.injEq] at h
          omega
      · rw [if_neg c2] at h
        have hm := mul_small (a := rd l (p + j) % 128) (by omega) (by omega) hpp hp8
        exact ih (j + 1) _ (by omega) (by omega) (by rw [pw_succ]; omega) n q h
    · rw [if_neg c] at h; cases h
theorem getNum_range {l : List Int} (hl : ∀ x ∈ l, 0 ≤ x ∧ x < 256) {p n q : Int} (h : getNum l p = some (n, q)) : 0 ≤ n ∧ n ≤ 9223372036854775807 ∧ p < q ∧ q ≤ l.length := by
  unfold getNum at h
  by_cases c : p < 0
  · rw [if_pos c] at h; cases h
  · rw [if_neg c] at h
    exact getM_range l hl p (by omega) 9 0 0 rfl (by omega) (by decide) n q h
theorem impl_get_loop (l : List Int) (hl : ∀ x ∈ l, 0 ≤ x ∧ x < 256) (hn : l.length ≤ 140737488355328) (p : Int) (hp : 0 ≤ p) (hp1 : p ≤ l.length) (d : Nat) : ∀ (j : Nat) (x : Int), j + d = 9 → 0 ≤ x → x < pw j → ∀ k, 2 * d + 1 < k →
    impl_GetNum.l0 k l p x j = some (told3 (getM l p d j x)) := by
  induction d with
  | zero =>
    intro j x hj h0 h1 k hk
    obtain ⟨k, rfl⟩ : ∃ m, k = m + 2 := ⟨k - 2, by omega⟩
    simp only [impl_GetNum.l0, impl_GetNum.j1, getM, told3]
    rw [if_neg (by omega), if_neg (by decide)]
  | succ d ih =>
    intro j x hj h0 h1 k hk
    obtain ⟨k, rfl⟩ : ∃ m, k = m + 2 := ⟨k - 2, by omega⟩
    have hp8 := pw_le j (by omega)
    have hpp := pw_pos j
    have e1 : wrap64 (p + j) = p + j := w_in (by omega) (by omega)
    have e7 : wrap64 (7 * (j : Int)) = 7 * j := w_in (by omega) (by omega)
    simp only [impl_GetNum.l0, impl_GetNum.j1, getM, e1, e7]
    rw [if_pos (by omega)]
    by_cases c : p + j < l.length
    · rw [if_pos (by simpa using c), if_pos (by omega), if_pos c, if_pos c, if_pos (by omega)]
      have hb := hl _ (rd_mem (i := p + j) (by omega) c)
      generalize hv : rd l (p + j) = v at *
      have e2 : wrap64 v = v := w_in (by omega) (by omega)
      have hm := mul_small (a := v % 128) (by omega) (by omega) hpp hp8
      have e4 : shl .i64 (v % 128) (7 * (j : Int)) = v % 128 * pw j := by
        unfold shl
        rw [show min (7 * (j : Int)).toNat IntKind.i64.bits = 7 * j from by simp [IntKind.bits]; omega]
        exact wraps_i64 _ hm.1 (by show v % 128 * pw j < _; omega)
      have e5 : Go.bits .or .i64 x (v % 128 * pw j) = x + v % 128 * pw j := or_join (7 * j) (by omega) h0 h1 (by omega) (by show v % 128 * pw j < _; omega)
      have e6 : wrap64 (p + j + 1) = p + j + 1 := w_in (by omega) (by omega)
      simp only [e2, and127 (x := v) (by omega) (by omega), e4, e5, e6]
      by_cases c2 : v < 128
      · have e7 : v % 128 = v := by omega
        rw [if_neg (by omega), if_pos c2, e7]
        by_cases c3 : v = 0
        · rw [if_pos c3]
          by_cases c4 : 0 < j
          · rw [if_pos (by omega), if_pos ⟨c3, c4⟩]; rfl
          · rw [if_neg (by omega), if_neg (by omega)]; rfl
        · rw [if_neg c3, if_neg (by omega)]; rfl
      · rw [if_pos (by omega), if_neg c2, w_in (n := (j : Int) + 1) (by omega) (by omega)]
        exact ih (j + 1) _ (by omega) (by omega) (by rw [pw_succ]; omega) k (by omega)
    · rw [if_neg (by simpa using c), if_neg c]; rfl
theorem impl_get (l : List Int) (hl : ∀ x ∈ l, 0 ≤ x ∧ x < 256) (hn : l.length ≤ 140737488355328) (p : Int) (k : Nat) (hk : 22 < k) : impl_GetNum.f k l p = some (told3 (getNum l p)) := by
  unfold impl_GetNum.f getNum impl_in.f
  rw [w_in (by omega) (by omega)]
  by_cases c : p < 0
  · rw [if_neg (by omega), if_pos c]; rfl
  · rw [if_pos (by omega), if_neg c]
    by_cases c2 : p ≤ (l.length : Int) - 1
    · simp only [decide_eq_true c2, Option.bind_some, if_true]
      exact impl_get_loop l hl hn p (by omega) (by omega) 9 0 0 rfl (by omega) (by decide) k (by omega)
    · simp only [decide_eq_false c2, Option.bind_some, getM]
      rw [if_neg (by decide), if_neg (by omega)]; rfl
/-- A form that stands at a place is read from there. -/
theorem form_ne (m : Nat) : form m ≠ [] := by
  by_cases c : m < 128
  · rw [form_small c]; simp
  · rw [form_big c]; simp
theorem getM_form (l rest : List Int) (p : Int) (hp : 0 ≤ p) (d : Nat) : ∀ (j m : Nat) (x : Int), l.drop (p.toNat + j) = form m ++ rest → (form m).length ≤ d → (m ≠ 0 ∨ j = 0) → getM l p d j x = some (x + m * pw j, p + j + (form m).length) := by
  induction d with
  | zero =>
    intro j m x _ hl _
    exact absurd (List.length_eq_zero_iff.1 (Nat.le_zero.1 hl)) (form_ne m)
  | succ d ih =>
    intro j m x hd hl hm
    have hlen : p.toNat + j < l.length := by
      apply Classical.byContradiction
      intro h
      rw [List.drop_eq_nil_of_le (by omega)] at hd
      exact form_ne m (List.append_eq_nil_iff.1 hd.symm).1
    have hrd : rd l (p + j) = l[p.toNat + j] := by
      rw [show p + (j : Int) = ((p.toNat + j : Nat) : Int) from by omega, rd_lt hlen]
    rw [List.drop_eq_getElem_cons hlen] at hd
    simp only [getM]
    rw [if_pos (by omega), hrd]
    by_cases c : m < 128
    · rw [form_small c] at hd ⊢
      simp only [List.cons_append, List.nil_append, List.cons.injEq] at hd
      rw [hd.1, if_pos (by omega), if_neg (by omega)]
      simp
    · rw [form_big c] at hd hl ⊢
      simp only [List.cons_append, List.cons.injEq] at hd
      rw [hd.1, if_neg (by omega)]
      have := ih (j + 1) (m / 128) (x + ((m % 128 + 128 : Nat) : Int) % 128 * pw j) (by rw [← hd.2]; rfl) (by simpa using hl) (.inl (by omega))
      rw [this, pw_succ]
      have e : ((m % 128 + 128 : Nat) : Int) % 128 = ((m % 128 : Nat) : Int) := by omega
      have e2 : (m : Int) = ((m % 128 : Nat) : Int) + 128 * ((m / 128 : Nat) : Int) := by omega
      rw [e]
      congr 2
      · conv => rhs; rw [e2]
        rw [Int.add_mul, Int.mul_assoc 128, Int.mul_comm 128, Int.add_assoc, Int.mul_assoc]
      · simp only [List.length_cons]; omega
theorem getNum_form (l rest : List Int) (p m : Nat) (hm : m ≤ 9223372036854775807) (hd : l.drop p = form m ++ rest) : getNum l p = some ((m : Int), (p : Int) + (form m).length) := by
  unfold getNum
  rw [if_neg (by omega), getM_form l rest p (by omega) 9 0 m 0 (by simpa using hd) (form_len 8 m (Nat.lt_of_le_of_lt hm (by decide))) (.inr rfl)]
  simp [pw_zero]
theorem putNum_nonneg {x : Int} (h : 0 ≤ x) : putNum x = form x.toNat := by unfold putNum; rw [if_neg (by omega)]
theorem getNum_put (l rest : List Int) (p : Nat) (x : Int) (h0 : 0 ≤ x) (h1 : x ≤ 9223372036854775807) (hd : l.drop p = putNum x ++ rest) : getNum l p = some (x, (p : Int) + (putNum x).length) := by
  rw [putNum_nonneg h0] at hd ⊢
  rw [getNum_form l rest p x.toNat (by omega) hd]
  congr 2
  omega
def ckM (l : List Int) : Nat → Nat → Int → Int → Int
  | 0, _, x, y => wrap64 (wrap64 (65536 * y) + x)
  | d + 1, i, x, y => ckM l d (i + 1) (Int.tmod (wrap64 (wrap64 (x + wrap64 (rd l (i : Int))) + 1)) 65535) (Int.tmod (wrap64 (y + Int.tmod (wrap64 (wrap64 (x + wrap64 (rd l (i : Int))) + 1)) 65535)) 65535)
/-- What a Check tells. -/
def chk (l : List Int) : Int := ckM l l.length 0 0 0
theorem check_impl (l : List Int) (h : l.length ≤ 1048576) (d : Nat) : ∀ (i : Nat) (x y : Int), i + d = l.length → ∀ k, d < k → impl_Check.l0 k x y l l.length i = some (ckM l d i x y) := by
  induction d with
  | zero =>
    intro i x y hi k hk
    obtain ⟨k, rfl⟩ : ∃ m, k = m + 1 := ⟨k - 1, by omega⟩
    simp only [impl_Check.l0]
    rw [if_neg (by omega)]
    rfl
  | succ d ih =>
    intro i x y hi k hk
    obtain ⟨k, rfl⟩ : ∃ m, k = m + 1 := ⟨k - 1, by omega⟩
    simp only [impl_Check.l0]
    rw [if_pos (by omega), if_pos (by omega), if_pos (by omega), w_in (n := (i : Int) + 1) (by omega) (by omega)]
    exact ih (i + 1) _ _ (by omega) k (by omega)
theorem ckM_range (l : List Int) (hl : ∀ x ∈ l, 0 ≤ x ∧ x < 256) (d : Nat) : ∀ (i : Nat) (x y : Int), i + d = l.length → 0 ≤ x → x < 65535 → 0 ≤ y → y < 65535 → 0 ≤ ckM l d i x y ∧ ckM l d i x y < 4294967296 := by
  induction d with
  | zero =>
    intro i x y hi h0 h1 h2 h3
    unfold ckM
    rw [w_in (n := 65536 * y) (by omega) (by omega), w_in (by omega) (by omega)]
    omega
  | succ d ih =>
    intro i x y hi h0 h1 h2 h3
    have hb := hl _ (rd_mem (i := (i : Int)) (by omega) (by omega))
    unfold ckM
    generalize rd l (i : Int) = v at *
    have e1 : wrap64 v = v := w_in (by omega) (by omega)
    have e2 : wrap64 (x + v) = x + v := w_in (by omega) (by omega)
    have e3 : wrap64 (x + v + 1) = x + v + 1 := w_in (by omega) (by omega)
    have e4 : Int.tmod (x + v + 1) 65535 = (x + v + 1) % 65535 := Int.tmod_eq_emod_of_nonneg (by omega)
    have e5 : wrap64 (y + (x + v + 1) % 65535) = y + (x + v + 1) % 65535 := w_in (by omega) (by omega)
    have e6 : Int.tmod (y + (x + v + 1) % 65535) 65535 = (y + (x + v + 1) % 65535) % 65535 := Int.tmod_eq_emod_of_nonneg (by omega)
    rw [e1, e2, e3, e4, e5, e6]
    exact ih (i + 1) _ _ (by omega) (by omega) (by omega) (by omega) (by omega)
theorem chk_range (l : List Int) (hl : ∀ x ∈ l, 0 ≤ x ∧ x < 256) : 0 ≤ chk l ∧ chk l < 4294967296 := ckM_range l hl l.length 0 0 0 (by omega) (by decide) (by decide) (by decide) (by decide)
theorem impl_chk (l : List Int) (h : l.length ≤ 1048576) (k : Nat) (hk : l.length < k) : impl_Check.f k l = some (chk l) := check_impl l h l.length 0 0 0 (by omega) k hk
def four (r : Int) : List Int := [r % 256, (r / 256) % 256, (r / 65536) % 256, (r / 16777216) % 256]
theorem of_four (l : List Int) (h : l.length = 4) : ∃ a b c d, l = [a, b, c, d] := by
  match l, h with
  | [a, b, c, d], _ => exact ⟨a, b, c, d, rfl⟩
theorem ckM_step (l : List Int) (d i : Nat) (x y v : Int) (hv : rd l (i : Int) = v) (h0 : 0 ≤ v) (h1 : v < 256) (hx0 : 0 ≤ x) (hx1 : x < 65535) (hy0 : 0 ≤ y) (hy1 : y < 65535) :
    ckM l (d + 1) i x y = ckM l d (i + 1) ((x + v + 1) % 65535) ((y + (x + v + 1) % 65535) % 65535) := by
  rw [ckM, hv]
  have e1 : wrap64 v = v := w_in (by omega) (by omega)
  have e2 : wrap64 (x + v) = x + v := w_in (by omega) (by omega)
  have e3 : wrap64 (x + v + 1) = x + v + 1 := w_in (by omega) (by omega)
  have e4 : Int.tmod (x + v + 1) 65535 = (x + v + 1) % 65535 := Int.tmod_eq_emod_of_nonneg (by omega)
  have e5 : wrap64 (y + (x + v + 1) % 65535) = y + (x + v + 1) % 65535 := w_in (by omega) (by omega)
  have e6 : Int.tmod (y + (x + v + 1) % 65535) 65535 = (y + (x + v + 1) % 65535) % 65535 := Int.tmod_eq_emod_of_nonneg (by omega)
  rw [e1, e2, e3, e4, e5, e6]
/-- Two runs that stand at unlike x and read the same from there end unlike. -/
theorem ckM_ne (l l' : List Int) (hl : ∀ x ∈ l, 0 ≤ x ∧ x < 256) (d : Nat) : ∀ (i : Nat) (x x' y y' : Int), i + d = l.length → (∀ m : Nat, i ≤ m → rd l' (m : Int) = rd l (m : Int)) → 0 ≤ x → x < 65535 → 0 ≤ x' → x' < 65535 → 0 ≤ y → y < 65535 → 0 ≤ y' → y' < 65535 → x ≠ x' → ckM l d i x y ≠ ckM l' d i x' y' := by
  induction d with
  | zero =>
    intro i x x' y y' _ _ _ _ _ _ _ _ _ _ hne
    unfold ckM
    rw [w_in (n := 65536 * y) (by omega) (by omega), w_in (n := 65536 * y + x) (by omega) (by omega), w_in (n := 65536 * y') (by omega) (by omega), w_in (n := 65536 * y' + x') (by omega) (by omega)]
    omega
  | succ d ih =>
    intro i x x' y y' hi hs a1 a2 a3 a4 a5 a6 a7 a8 hne
    have hb := hl _ (rd_mem (i := (i : Int)) (by omega) (by omega))
    rw [ckM_step l d i x y _ rfl hb.1 hb.2 a1 a2 a5 a6, ckM_step l' d i x' y' _ (hs i (Nat.le_refl _)) hb.1 hb.2 a3 a4 a7 a8]
    exact ih (i + 1) _ _ _ _ (by omega) (fun m hm => hs m (by omega)) (by omega) (by omega) (by omega) (by omega) (by omega) (by omega) (by omega) (by omega) (by omega)
theorem rd_set_same (l : List Int) (j : Nat) (v : Int) (h : j < l.length) : rd (l.set j v) (j : Int) = v := by
  rw [rd_lt (by simpa using h)]; simp
theorem rd_set_ne (l : List Int) (j m : Nat) (v : Int) (h : m ≠ j) : rd (l.set j v) (m : Int) = rd l (m : Int) := by
  unfold rd
  simp only [Int.toNat_natCast, List.getD_eq_getElem?_getD]
  rw [List.getElem?_set_ne (by omega)]
theorem ckM_set (l : List Int) (hl : ∀ x ∈ l, 0 ≤ x ∧ x < 256) (j : Nat) (hj : j < l.length) (v : Int) (h0 : 0 ≤ v) (h1 : v < 256) (hne : v ≠ rd l (j : Int)) (d : Nat) : ∀ (i : Nat) (x y : Int), i + d = l.length → i ≤ j → 0 ≤ x → x < 65535 → 0 ≤ y → y < 65535 → ckM l d i x y ≠ ckM (l.set j v) d i x y := by
  induction d with
  | zero => intro i x y hi hij _ _ _ _; omega
  | succ d ih =>
    intro i x y hi hij a1 a2 a3 a4
    have hb := hl _ (rd_mem (i := (i : Int)) (by omega) (by omega))
    rw [ckM_step l d i x y _ rfl hb.1 hb.2 a1 a2 a3 a4]
    by_cases c : i = j
    · subst c
      rw [ckM_step (l.set i v) d i x y v (rd_set_same l i v hj) h0 h1 a1 a2 a3 a4]
      exact ckM_ne l _ hl d (i + 1) _ _ _ _ (by omega) (fun m hm => rd_set_ne l i m v (by omega)) (by omega) (by omega) (by omega) (by omega) (by omega) (by omega) (by omega) (by omega) (by omega)
    · rw [ckM_step (l.set j v) d i x y _ (rd_set_ne l j i v c) hb.1 hb.2 a1 a2 a3 a4]
      exact ih (i + 1) _ _ (by omega) (by omega) (by omega) (by omega) (by omega) (by omega)
/-- A row with another byte at one place has another check. -/
theorem chk_set (l : List Int) (hl : ∀ x ∈ l, 0 ≤ x ∧ x < 256) (j : Nat) (hj : j < l.length) (v : Int) (h0 : 0 ≤ v) (h1 : v < 256) (hne : v ≠ rd l (j : Int)) : chk (l.set j v) ≠ chk l := by
  unfold chk
  rw [List.length_set]
  exact fun e => ckM_set l hl j hj v h0 h1 hne l.length 0 0 0 (by omega) (by omega) (by omega) (by omega) (by omega) (by omega) e.symm
theorem rdL_at (x : List (List Int)) (i : Nat) (h : i < x.length) : rd_L1 x (i : Int) = x[i] := by
  unfold rd_L1
  rw [Int.toNat_natCast, List.getD_eq_getElem?_getD, List.getElem?_eq_getElem h]; rfl
theorem concat_l1 (x : List (List Int)) (hn : x.length ≤ 140737488355328) (d : Nat) : ∀ (i : Nat) (acc : List Int), i + d = x.length → acc.length + (x.drop i).flatten.length < 140737488355328 → ∀ k, slices_Concat_byte_byte.l1 (k + d + 1) acc x x.length i = some (acc ++ (x.drop i).flatten) := by
  induction d with
  | zero =>
    intro i acc hi _ k
    rw [slices_Concat_byte_byte.l1, if_neg (by omega), List.drop_eq_nil_of_le (by omega), List.flatten_nil, List.append_nil]
  | succ d ih =>
    intro i acc hi hs k
    have e : x.drop i = x[i]'(by omega) :: x.drop (i + 1) := List.drop_eq_getElem_cons (by omega)
    rw [e, List.flatten_cons, List.length_append] at hs
    rw [show k + (d + 1) + 1 = (k + d + 1) + 1 from rfl, slices_Concat_byte_byte.l1, if_pos (by omega), if_pos (by omega), if_pos (by omega), rdL_at x i (by omega), if_pos (by omega), w_in (n := (i : Int) + 1) (by omega) (by omega)]
    have := ih (i + 1) (acc ++ x[i]'(by omega)) (by omega) (by rw [List.length_append]; omega) k
    rw [show ((i : Int) + 1) = ((i + 1 : Nat) : Int) from rfl, this, e, List.flatten_cons, List.append_assoc]
theorem concat_l0 (x : List (List Int)) (hn : x.length ≤ 140737488355328) (d : Nat) : ∀ (i : Nat) (s : Int), i + d = x.length → 0 ≤ s → s + (x.drop i).flatten.length ≤ 140737488351232 → ∀ k, slices_Concat_byte_byte.l0 (k + d + 1) x s x x.length i = (slices_Grow_byte_byte.f [] (s + (x.drop i).flatten.length)).bind fun t => slices_Concat_byte_byte.l1 k t x x.length 0 := by
  induction d with
  | zero =>
    intro i s hi _ _ k
    rw [slices_Concat_byte_byte.l0, if_neg (by omega), List.drop_eq_nil_of_le (by omega), List.flatten_nil, List.length_nil, Int.natCast_zero, Int.add_zero]
  | succ d ih =>
    intro i s hi h0 hs k
    have e : x.drop i = x[i]'(by omega) :: x.drop (i + 1) := List.drop_eq_getElem_cons (by omega)
    rw [e, List.flatten_cons, List.length_append] at hs
    have w1 : wrap64 (s + ((x[i]'(by omega)).length : Int)) = s + ((x[i]'(by omega)).length : Int) := w_in (by omega) (by omega)
    rw [show k + (d + 1) + 1 = (k + d + 1) + 1 from rfl, slices_Concat_byte_byte.l0, if_pos (by omega), if_pos (by omega), if_pos (by omega), rdL_at x i (by omega), w1, if_neg (by omega), w_in (n := (i : Int) + 1) (by omega) (by omega)]
    have := ih (i + 1) (s + ((x[i]'(by omega)).length : Int)) (by omega) (by omega) (by omega) k
    rw [show ((i : Int) + 1) = ((i + 1 : Nat) : Int) from rfl, this, e, List.flatten_cons, List.length_append, Int.natCast_add, Int.add_assoc]
theorem concat_all (x : List (List Int)) (h0 : 0 < x.flatten.length) (hn : x.length ≤ 1000) (h : x.flatten.length ≤ 140737488351232) (k : Nat) (hk : 2 * x.length + 2 ≤ k) : slices_Concat_byte_byte.f k x = some x.flatten := by
  obtain ⟨m, rfl⟩ : ∃ m, k = (m + x.length + 1) + x.length + 1 := ⟨k - (2 * x.length + 2), by omega⟩
  unfold slices_Concat_byte_byte.f
  have e := concat_l0 x (by omega) x.length 0 0 (by omega) (by omega) (by rw [List.drop_zero]; omega) (m + x.length + 1)
  rw [List.drop_zero] at e
  refine e.trans ?_
  unfold slices_Grow_byte_byte.f
  rw [if_pos ⟨rfl, by omega, by omega⟩, Option.bind_some]
  have e2 := concat_l1 x (by omega) x.length 0 [] (by omega) (by rw [List.drop_zero, List.length_nil]; omega) m
  rw [List.drop_zero, List.nil_append] at e2
  exact e2
/-- What a Seal tells. -/
def sealM (l : List Int) : List Int × Bool := if (l.length : Int) > 9000 then ([], false) else (putNum l.length ++ l ++ four (chk l), true)
theorem four_len (r : Int) : (four r).length = 4 := rfl
theorem seal_len (l : List Int) : (sealM l).1.length ≤ 9100 := by
  unfold sealM
  split
  · simp
  · have := putNum_len l.length (by omega)
    simp only [List.length_append, four_len]; omega
theorem impl_seal (l : List Int) (k : Nat) (hk : 9030 < k) : impl_Seal.f k l = some (sealM l) := by
  unfold impl_Seal.f sealM
  by_cases c : (l.length : Int) > 9000
  · rw [if_pos c, if_pos c]
  · have hp := putNum_len l.length (by omega)
    rw [if_neg c, if_neg c, impl_put l.length (by omega) k (by omega), Option.bind_some]
    unfold impl_checkBytes.f
    rw [impl_chk l (by omega) k (by omega), Option.bind_some, Option.bind_some]
    rw [show [chk l % 256, chk l / 256 % 256, chk l / 65536 % 256, chk l / 16777216 % 256] = four (chk l) from rfl]
    have e : [putNum (l.length : Int), l, four (chk l)].flatten = putNum l.length ++ l ++ four (chk l) := by simp
    have hl : [putNum (l.length : Int), l, four (chk l)].flatten.length = (putNum (l.length : Int)).length + l.length + 4 := by rw [e]; simp only [List.length_append, four_len]
    rw [concat_all _ (by omega) (by simp) (by omega) k (by simp only [List.length_cons, List.length_nil]; omega), Option.bind_some, e]
/-- What an Unseal tells. -/
def unsealM (l : List Int) (p : Int) : List Int × Int × Int :=
  match getNum l p with
  | none => ([], 0, 1)
  | some (n, q) => if n > 9000 then ([], 0, 1) else if (l.length : Int) - q < n + 4 then ([], 0, 2) else
    if four (chk ((l.take (q + n).toNat).drop q.toNat)) = (l.take (q + n + 4).toNat).drop (q + n).toNat then ((l.take (q + n).toNat).drop q.toNat, q + n + 4, 0) else ([], 0, 3)
theorem unseal_len (l : List Int) (p : Int) : (unsealM l p).1.length ≤ l.length := by
  unfold unsealM
  split
  · exact Nat.zero_le _
  · split
    · exact Nat.zero_le _
    · split
      · exact Nat.zero_le _
      · split
        · simp only [List.length_drop, List.length_take]; omega
        · exact Nat.zero_le _
theorem getNum_at {l : List Int} {p : Int} {r : Int × Int} (h : getNum l p = some r) : 0 ≤ p := by
  unfold getNum at h
  by_cases c : p < 0
  · rw [if_pos c] at h; cases h
  · omega
theorem part_len (l : List Int) (a b : Int) (h0 : 0 ≤ a) (h1 : a ≤ b) (h2 : b ≤ l.length) : (((l.take b.toNat).drop a.toNat).length : Int) = b - a := by
  rw [List.length_drop, List.length_take]; omega
theorem part_mem {l : List Int} (hl : ∀ x ∈ l, 0 ≤ x ∧ x < 256) (a b : Nat) : ∀ x ∈ (l.take b).drop a, 0 ≤ x ∧ x < 256 := fun x hx => hl x (List.mem_of_mem_take (List.mem_of_mem_drop hx))
theorem eq4 (A B : List Int) (ha : A.length = 4) (hb : B.length = 4) (k : Nat) (hk : 4 < k) : slices_Equal_byte_byte.f k A B = some (decide (A = B)) := by
  obtain ⟨k, rfl⟩ : ∃ m, k = m + 5 := ⟨k - 5, by omega⟩
  have la : (A.length : Int) = 4 := by omega
  have lb : (B.length : Int) = 4 := by omega
  have w1 : wrap64 (0 + 1) = 1 := w_in (by decide) (by decide)
  have w2 : wrap64 (1 + 1) = 2 := w_in (by decide) (by decide)
  have w3 : wrap64 (2 + 1) = 3 := w_in (by decide) (by decide)
  have w4 : wrap64 (3 + 1) = 4 := w_in (by decide) (by decide)
  have e : A = B ↔ (rd A 0 = rd B 0 ∧ rd A 1 = rd B 1 ∧ rd A 2 = rd B 2 ∧ rd A 3 = rd B 3) := by
    obtain ⟨a0, a1, a2, a3, rfl⟩ := of_four A ha
    obtain ⟨b0, b1, b2, b3, rfl⟩ := of_four B hb
    show _ ↔ (a0 = b0 ∧ a1 = b1 ∧ a2 = b2 ∧ a3 = b3)
    simp only [List.cons.injEq, and_true]
  unfold slices_Equal_byte_byte.f
  simp only [slices_Equal_byte_byte.l0, la, lb, w1, w2, w3, w4, e]
  by_cases h0 : rd A 0 = rd B 0 <;> by_cases h1 : rd A 1 = rd B 1 <;> by_cases h2 : rd A 2 = rd B 2 <;> by_cases h3 : rd A 3 = rd B 3 <;> simp [h0, h1, h2, h3]
theorem impl_unseal (l : List Int) (hl : ∀ x ∈ l, 0 ≤ x ∧ x < 256) (hn : l.length ≤ 1048576) (p : Int) (k : Nat) (hk : l.length + 30 < k) : impl_Unseal.f k l p = some (unsealM l p) := by
  obtain ⟨k, rfl⟩ : ∃ m, k = m + 1 := ⟨k - 1, by omega⟩
  unfold impl_Unseal.f unsealM
  rw [impl_get l hl (by omega) p (k + 1) (by omega), Option.bind_some]
  cases hg : getNum l p with
  | none =>
    simp only [told3, Bool.false_eq_true, if_false]
    rw [impl_Unseal.j0, if_pos rfl]
  | some nq =>
    obtain ⟨n, q⟩ := nq
    have hr := getNum_range hl hg
    have hp := getNum_at hg
    simp only [told3, if_true]
    rw [impl_Unseal.j0]
    by_cases c : n > 9000
    · rw [if_pos (by simpa using c), if_pos c]
    · rw [if_neg (by simpa using c), if_neg c]
      have e1 : wrap64 ((l.length : Int) - q) = l.length - q := w_in (by omega) (by omega)
      have e2 : wrap64 (n + 4) = n + 4 := w_in (by omega) (by omega)
      have e3 : wrap64 (q + n) = q + n := w_in (by omega) (by omega)
      rw [e1, e2, e3]
      by_cases c2 : (l.length : Int) - q < n + 4
      · rw [if_pos c2, if_pos c2]
      · have e4 : wrap64 (q + n + 4) = q + n + 4 := w_in (by omega) (by omega)
        have hbl := part_len l q (q + n) (by omega) (by omega) (by omega)
        have hbm := part_mem hl q.toNat (q + n).toNat
        obtain ⟨b0, b1, b2, b3, ht⟩ := of_four ((l.take (q + n + 4).toNat).drop (q + n).toNat) (by have := part_len l (q + n) (q + n + 4) (by omega) (by omega) (by omega); omega)
        rw [if_neg c2, if_neg c2, e4, ht]
        generalize (l.take (q + n).toNat).drop q.toNat = b at *
        rw [if_pos (by omega), if_pos (by omega), if_pos (by omega)]
        unfold impl_checkBytes.f
        rw [impl_chk b (by omega) k (by omega), Option.bind_some, Option.bind_some, if_pos (by omega), if_pos (by omega), if_pos (by omega)]
        rw [eq4 _ _ rfl rfl k (by omega), Option.bind_some, show [chk b % 256, chk b / 256 % 256, chk b / 65536 % 256, chk b / 16777216 % 256] = four (chk b) from rfl]
        by_cases c3 : four (chk b) = [b0, b1, b2, b3]
        · rw [if_pos (by simpa using c3), if_pos c3]
          unfold slices_Clone_byte_byte.f
          rw [if_pos (by omega), Option.bind_some]
        · rw [if_neg (by simpa using c3), if_neg c3]
theorem four_inj {r s : Int} (hr : 0 ≤ r ∧ r < 4294967296) (hs : 0 ≤ s ∧ s < 4294967296) (h : four r = four s) : r = s := by
  unfold four at h
  simp only [List.cons.injEq, and_true] at h
  omega
theorem part_eq (a b c : List Int) (i j : Int) (hi : i = a.length) (hj : j = a.length + b.length) : ((a ++ (b ++ c)).take j.toNat).drop i.toNat = b := by
  subst hi hj
  rw [show ((a.length : Int) + (b.length : Int)).toNat = (a ++ b).length by rw [List.length_append]; omega, ← List.append_assoc, List.take_left, Int.toNat_natCast, List.drop_left]
theorem unseal_of (pre b t : List Int) (hb : b.length ≤ 9000) (ht : t.length = 4) : unsealM (pre ++ (putNum b.length ++ (b ++ t))) pre.length = if four (chk b) = t then (b, ((pre ++ (putNum b.length ++ (b ++ t))).length : Int), 0) else ([], 0, 3) := by
  have hg := getNum_put (pre ++ (putNum b.length ++ (b ++ t))) (b ++ t) pre.length b.length (by omega) (by omega) (List.drop_left)
  have hlen : ((pre ++ (putNum b.length ++ (b ++ t))).length : Int) = pre.length + (putNum b.length).length + b.length + 4 := by simp only [List.length_append, ht]; omega
  unfold unsealM
  rw [hg]
  dsimp only
  rw [if_neg (by omega), if_neg (by omega)]
  have e1 : pre ++ (putNum (b.length : Int) ++ (b ++ t)) = (pre ++ putNum b.length) ++ (b ++ t) := by rw [List.append_assoc]
  have p1 := part_eq (pre ++ putNum b.length) b t ((pre.length : Int) + (putNum (b.length : Int)).length) ((pre.length : Int) + (putNum (b.length : Int)).length + b.length) (by rw [List.length_append]; omega) (by rw [List.length_append]; omega)
  have p2 := part_eq ((pre ++ putNum b.length) ++ b) t [] ((pre.length : Int) + (putNum (b.length : Int)).length + b.length) ((pre.length : Int) + (putNum (b.length : Int)).length + b.length + 4) (by rw [List.length_append, List.length_append]; omega) (by rw [List.length_append, List.length_append, ht]; omega)
  rw [List.append_nil] at p2
  rw [e1, p1, show (pre ++ putNum (b.length : Int)) ++ (b ++ t) = ((pre ++ putNum b.length) ++ b) ++ t by simp only [List.append_assoc], p2]
  by_cases c : four (chk b) = t
  · rw [if_pos c, if_pos c]
    rw [show ((pre ++ putNum (b.length : Int)) ++ b) ++ t = pre ++ (putNum b.length ++ (b ++ t)) by simp only [List.append_assoc], hlen]
  · rw [if_neg c, if_neg c]
theorem four_bytes (r : Int) : ∀ x ∈ four r, 0 ≤ x ∧ x < 256 := by
  intro x hx
  unfold four at hx
  simp only [List.mem_cons, List.not_mem_nil, or_false] at hx
  omega
theorem rd_right (b t : List Int) (e : Nat) (h : b.length ≤ e) : rd (b ++ t) (e : Int) = rd t ((e - b.length : Nat) : Int) := by
  unfold rd
  simp only [Int.toNat_natCast, List.getD_eq_getElem?_getD]
  rw [List.getElem?_append_right h]
theorem rd_left (b t : List Int) (e : Nat) (h : e < b.length) : rd (b ++ t) (e : Int) = rd b (e : Int) := by
  unfold rd
  simp only [Int.toNat_natCast, List.getD_eq_getElem?_getD]
  rw [List.getElem?_append_left h]
theorem set_byte {l : List Int} (hl : ∀ x ∈ l, 0 ≤ x ∧ x < 256) (j : Nat) (v : Int) (h0 : 0 ≤ v) (h1 : v < 256) : ∀ x ∈ l.set j v, 0 ≤ x ∧ x < 256 := by
  intro x hx
  rcases List.mem_or_eq_of_mem_set hx with h | h
  · exact hl x h
  · omega
/-- A sealed row with another byte at one place behind the length is refused for its check. -/
theorem unseal_bad (b : List Int) (hl : ∀ x ∈ b, 0 ≤ x ∧ x < 256) (hb : b.length ≤ 9000) (e : Nat) (he : e < b.length + 4) (v : Int) (h0 : 0 ≤ v) (h1 : v < 256) (hv : v ≠ rd (b ++ four (chk b)) (e : Int)) :
    (unsealM (putNum b.length ++ (b ++ four (chk b)).set e v) 0).2.2 = 3 := by
  by_cases c : e < b.length
  · rw [rd_left b _ e c] at hv
    have hc := chk_set b hl e c v h0 h1 hv
    have hn : four (chk (b.set e v)) ≠ four (chk b) := fun h => hc (four_inj (chk_range _ (set_byte hl e v h0 h1)) (chk_range b hl) h)
    have := unseal_of [] (b.set e v) (four (chk b)) (by rw [List.length_set]; exact hb) rfl
    rw [List.length_set, List.nil_append, if_neg hn] at this
    rw [List.set_append_left e v c]
    exact congrArg (fun z => z.2.2) this
  · rw [rd_right b _ e (by omega)] at hv
    have hn : four (chk b) ≠ (four (chk b)).set (e - b.length) v := fun h => hv (by rw [h, rd_set_same _ _ _ (show e - b.length < 4 by omega)])
    have := unseal_of [] b ((four (chk b)).set (e - b.length) v) hb (by rw [List.length_set]; rfl)
    rw [List.nil_append, if_neg hn] at this
    rw [List.set_append_right e v (by omega)]
    exact congrArg (fun z => z.2.2) this
theorem xor_byte (a m : Int) (ha : 0 ≤ a ∧ a < 256) (hm : 1 ≤ m ∧ m < 256) : 0 ≤ Go.bits .xor .u8 a m ∧ Go.bits .xor .u8 a m < 256 ∧ Go.bits .xor .u8 a m ≠ a := by
  obtain ⟨x, rfl⟩ : ∃ x : Nat, a = x := ⟨a.toNat, by omega⟩
  obtain ⟨y, rfl⟩ : ∃ y : Nat, m = y := ⟨m.toNat, by omega⟩
  have hx : x < 2 ^ 8 := by omega
  have hy : y < 2 ^ 8 := by omega
  have h : (BitVec.ofInt IntKind.u8.bits (x : Int) ^^^ BitVec.ofInt IntKind.u8.bits (y : Int)).toNat = x ^^^ y := by
    rw [BitVec.toNat_xor, BitVec.ofInt_natCast, BitVec.ofInt_natCast, BitVec.toNat_ofNat, BitVec.toNat_ofNat]
    show x % 2 ^ 8 ^^^ y % 2 ^ 8 = _
    rw [Nat.mod_eq_of_lt hx, Nat.mod_eq_of_lt hy]
  have hb : x ^^^ y < 256 := Nat.xor_lt_two_pow hx hy
  have e : Go.bits .xor .u8 (x : Int) (y : Int) = ((x ^^^ y : Nat) : Int) := by
    show IntKind.u8.wrap ((((BitVec.ofInt IntKind.u8.bits (x : Int) ^^^ BitVec.ofInt IntKind.u8.bits (y : Int)).toNat : Nat) : Int)) = _
    rw [h, IntKind.wrap_u8]
    omega
  rw [e]
  refine ⟨by omega, by omega, fun h2 => ?_⟩
  have h3 : x ^^^ y = x := by exact_mod_cast h2
  have h4 : x ^^^ (x ^^^ y) = x ^^^ x := by rw [h3]
  rw [← Nat.xor_assoc, Nat.xor_self, Nat.zero_xor] at h4
  omega
theorem seal_j0 (l : List Int) (hl : ∀ x ∈ l, 0 ≤ x ∧ x < 256) (hll : l.length ≤ 1048576) (F : List Int) (B P k : Nat) (hF : F.length = P + B + 4) (hB : B ≤ 9000) (hP : P ≤ 9) (hFb : ∀ x ∈ F, 0 ≤ x ∧ x < 256)
    (hun : ∀ e : Nat, e < B + 4 → ∀ v, 0 ≤ v → v < 256 → v ≠ rd F ((P + e : Nat) : Int) → ∃ y, impl_Unseal.f k (F.set (P + e) v) 0 = some y ∧ y.2.2 = 3) : laws_FnSeal.j0 (k + 1) l F (P : Int) (decide ((F.length : Int) ≤ (P : Int))) = some true := by
  rw [laws_FnSeal.j0]
  obtain ⟨r1, a1, b1, c1⟩ := at_range l hl hll 1 (by decide) (by decide)
  obtain ⟨r2, a2, b2, c2⟩ := at_range l hl hll 2 (by decide) (by decide)
  have hm : ¬ (decide ((F.length : Int) ≤ (P : Int)) = true) := by rw [decide_eq_true_iff, hF]; omega
  rw [if_neg hm, a1, Option.bind_some]
  have e1 : wrap64 ((F.length : Int) - (P : Int)) = ((B + 4 : Nat) : Int) := by rw [hF, w_in (by omega) (by omega)]; omega
  have e2 : Int.tmod (wrap64 (r1 * 13)) ((B + 4 : Nat) : Int) = (r1 * 13) % ((B + 4 : Nat) : Int) := by rw [w_in (by omega) (by omega), Int.tmod_eq_emod_of_nonneg (by omega)]
  have e3 := Int.emod_nonneg (r1 * 13) (b := ((B + 4 : Nat) : Int)) (by omega)
  have e4 := Int.emod_lt_of_pos (r1 * 13) (b := ((B + 4 : Nat) : Int)) (by omega)
  obtain ⟨e, he⟩ : ∃ e : Nat, (r1 * 13) % ((B + 4 : Nat) : Int) = e := ⟨((r1 * 13) % ((B + 4 : Nat) : Int)).toNat, by omega⟩
  rw [e1, e2, he]
  rw [he] at e4
  clear e3 he e2 e1
  have e5 : wrap64 ((P : Int) + (e : Int)) = ((P + e : Nat) : Int) := by rw [w_in (by omega) (by omega)]; omega
  have e6 : Int.tmod r2 255 = r2 % 255 := Int.tmod_eq_emod_of_nonneg b2
  have e7 : wrap64 (1 + r2 % 255) % 256 = 1 + r2 % 255 := by rw [w_in (by omega) (by omega)]; omega
  rw [e5, if_neg (by omega), if_pos (by omega), if_pos (by omega), a2, Option.bind_some, e6, e7, Int.toNat_natCast]
  have hmem := hFb _ (rd_mem (i := ((P + e : Nat) : Int)) (by omega) (by omega))
  obtain ⟨x0, x1, x2⟩ := xor_byte _ (1 + r2 % 255) hmem (by omega)
  obtain ⟨y, hy1, hy2⟩ := hun e (by omega) _ x0 x1 x2
  rw [hy1, Option.bind_some, hy2]
  rfl
theorem seal_F (b : List Int) (hb : ∀ x ∈ b, 0 ≤ x ∧ x < 256) (hl : b.length ≤ 9000) : ∃ (F : List Int) (P : Nat), F = putNum (b.length : Int) ++ (b ++ four (chk b)) ∧ P = (putNum (b.length : Int)).length ∧ F.length = P + b.length + 4 ∧ P ≤ 9 ∧ (∀ x ∈ F, 0 ≤ x ∧ x < 256) ∧ sealM b = (F, true) ∧
    unsealM ([1, 2] ++ F) 2 = (b, ((([1, 2] ++ F).length : Nat) : Int), 0) ∧ ∀ e : Nat, e < b.length + 4 → ∀ v, 0 ≤ v → v < 256 → v ≠ rd F ((P + e : Nat) : Int) → (unsealM (F.set (P + e) v) 0).2.2 = 3 := by
  have hp := putNum_len b.length (by omega)
  have hF : (putNum (b.length : Int) ++ (b ++ four (chk b))).length = (putNum (b.length : Int)).length + b.length + 4 := by simp only [List.length_append, four_len]; omega
  have hFb : ∀ x ∈ putNum (b.length : Int) ++ (b ++ four (chk b)), 0 ≤ x ∧ x < 256 := by
    intro x hx
    rcases List.mem_append.1 hx with hx | hx
    · exact put_bytes _ (by omega) x hx
    · rcases List.mem_append.1 hx with hx | hx
      · exact hb x hx
      · exact four_bytes _ x hx
  refine ⟨_, _, rfl, rfl, hF, hp, hFb, ?_, ?_, ?_⟩
  · unfold sealM
    rw [if_neg (by omega), List.append_assoc]
  · have u1 := unseal_of [1, 2] b (four (chk b)) hl rfl
    rw [if_pos rfl] at u1
    exact u1
  · intro e he v v0 v1 hv
    have hs : (putNum (b.length : Int) ++ (b ++ four (chk b))).set ((putNum (b.length : Int)).length + e) v = putNum (b.length : Int) ++ (b ++ four (chk b)).set e v := by
      rw [List.set_append_right _ _ (by omega), Nat.add_sub_cancel_left]
    have hr : rd (putNum (b.length : Int) ++ (b ++ four (chk b))) (((putNum (b.length : Int)).length + e : Nat) : Int) = rd (b ++ four (chk b)) (e : Int) := by
      rw [rd_right _ _ _ (by omega), Nat.add_sub_cancel_left]
    rw [hs]
    exact unseal_bad b hb hl e he v v0 v1 (by rw [← hr]; exact hv)
theorem seal_rest (l : List Int) (hl : ∀ x ∈ l, 0 ≤ x ∧ x < 256) (hll : l.length ≤ 1048576) (b F : List Int) (P k : Nat) (hk : 9100 ≤ k) (hbl : b.length ≤ 9000) (hPl : (putNum (b.length : Int)).length = P) (hF : F.length = P + b.length + 4) (hP : P ≤ 9) (hFb : ∀ x ∈ F, 0 ≤ x ∧ x < 256)
    (h1 : unsealM ([1, 2] ++ F) 2 = (b, ((([1, 2] ++ F).length : Nat) : Int), 0)) (h2 : ∀ e : Nat, e < b.length + 4 → ∀ v, 0 ≤ v → v < 256 → v ≠ rd F ((P + e : Nat) : Int) → (unsealM (F.set (P + e) v) 0).2.2 = 3) :
    ((some (([1, 2] : List Int) : List Int)).bind fun y216 => (if y216.length + F.length < 140737488355328 then ((impl_Unseal.f (k + 1) (y216 ++ F) 2).bind fun bt222 => ((impl_PutNum.f (k + 1) (b.length : Int)).bind fun t227 => (if true = true then (if bt222.2.2 = 0 then (if (strOfNums bt222.1).toList = (strOfNums b).toList then (if bt222.2.1 = (wrap64 ((F.length : Int) + 2)) then (laws_FnSeal.j0 (k + 1) l F (t227.length : Int) (decide ((F.length : Int) ≤ (t227.length : Int)))) else (laws_FnSeal.j0 (k + 1) l F (t227.length : Int) true)) else (laws_FnSeal.j0 (k + 1) l F (t227.length : Int) true)) else (laws_FnSeal.j0 (k + 1) l F (t227.length : Int) true)) else (laws_FnSeal.j0 (k + 1) l F (t227.length : Int) true)))) else none)) = some true := by
  have hYb : ∀ x ∈ [1, 2] ++ F, 0 ≤ x ∧ x < 256 := by
    intro x hx
    rcases List.mem_append.1 hx with hx | hx
    · simp only [List.mem_cons, List.not_mem_nil, or_false] at hx; omega
    · exact hFb x hx
  have hYl : ([1, 2] ++ F).length = F.length + 2 := by rw [List.length_append]; simp only [List.length_cons, List.length_nil]; omega
  rw [Option.bind_some, if_pos (by rw [hF]; simp only [List.length_cons, List.length_nil]; omega), impl_unseal _ hYb (by omega) 2 (k + 1) (by omega), Option.bind_some, h1, impl_put b.length (by omega) (k + 1) (by omega), Option.bind_some]
  dsimp only
  rw [if_pos rfl, if_pos rfl, if_pos rfl, if_pos (by rw [hYl, w_in (by omega) (by omega)]; omega), hPl]
  refine seal_j0 l hl hll F b.length P k hF hbl hP hFb (fun e he v v0 v1 hv => ?_)
  exact ⟨_, impl_unseal _ (set_byte hFb _ v v0 v1) (by rw [List.length_set]; omega) 0 k (by rw [List.length_set]; omega), h2 e he v v0 v1 hv⟩
theorem FnSeal : laws_FnSeal.Pure := by
  intro l _ _ hwf
  have hl : ∀ x ∈ l, 0 ≤ x ∧ x < 256 := fun x hx => wf_u8 (hwf x hx)
  by_cases h : (l.length : Int) > 1048576
  · exact ⟨0, by unfold laws_FnSeal.f laws_big.f; rw [Option.bind_some, if_pos (by simpa using h)]⟩
  · obtain ⟨K, hK⟩ : ∃ K, K = 10000 := ⟨_, rfl⟩
    refine ⟨K + 1, ?_⟩
    obtain ⟨b, eb, hb, hbl⟩ := draw_seal l (by omega) (K + 1) (by omega)
    unfold laws_FnSeal.f laws_big.f
    rw [Option.bind_some, if_neg (by simpa using h), eb, Option.bind_some, impl_seal b (K + 1) (by omega), Option.bind_some]
    by_cases c : (b.length : Int) > 9000
    · have es : sealM b = ([], false) := if_pos c
      rw [if_pos c, es]; rfl
    · obtain ⟨F, P, _, hPl, hF, hP, hFb, es, u1, u2⟩ := seal_F b hb (by omega)
      rw [if_neg c, es]
      exact seal_rest l hl (by omega) b F P K (by omega) (by omega) hPl.symm hF hP hFb u1 u2
end Go.Proofs.Ytnafmfhfonhmaaa.Pure
