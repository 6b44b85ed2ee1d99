/- At every row of bytes and every place the program's Unseal tells what the reference's tells (the pure side). No condition. -/
import Derived.Test.YtnafmfhfonhmaaaPFnExactUnsealx
import Derived.Test.YtnafmfhfonhmaaaU0
namespace Go.Proofs.Ytnafmfhfonhmaaa.Pure
open Go.RowKit Go.Proofs.Ytnafmfhfonhmaaa.PFnExactUnseal Go.Proofs.YtnafmfhfonhmaaaW.PrintWords Go.Proofs.YtnafmfhfonhmaaaW.PrintLast Go.Proofs.Ytnafmfhfonhmaaa.U0
set_option linter.unusedSimpArgs false
set_option linter.unusedVariables false

theorem toByte_same (l : List Int) (h : l.length ≤ 1048576) (k : Nat) (hk : l.length < k) : laws_toByteS.f k l = some l := by
  unfold laws_toByteS.f
  rw [if_pos (by omega), if_pos (by omega), Int.toNat_natCast]
  exact copy_all (fun _ _ _ _ => by rw [laws_toByteS.l0]) (fun _ _ h => rd_lt h) l (by omega) 0 k hk
theorem eqByte_same (l : List Int) (h : l.length ≤ 140737488355328) (k : Nat) (hk : l.length < k) : laws_eqByteS.f k l l = some true := by
  unfold laws_eqByteS.f
  rw [if_pos rfl]
  exact same_loop (c := fun x y i => rd x i = rd y i) (fun _ _ _ _ => by rw [laws_eqByteS.l0]) l (fun _ _ _ => rfl) (by omega) l.length 0 (by omega) k hk
def markedB (c : Int) (n : Nat) : List Int := (List.range n).map fun (j : Nat) => (c + (j : Int)) % 256
theorem markedB_len (c : Int) (n : Nat) : (markedB c n).length = n := by simp [markedB]
theorem markByte (l : List Int) (h : l.length ≤ 140737488355328) (c : Int) (hc : 0 ≤ c) (hc1 : c ≤ 4611686018427387904) (k : Nat) (hk : l.length < k) : laws_markByteS.f k l c = some (c + l.length, markedB c l.length) := by
  unfold laws_markByteS.f
  have := mark_loop (L := laws_markByteS.l0) (g := fun c => c % 256) (fun _ _ _ _ => by rw [laws_markByteS.l0]) l.length h c hc hc1 l.length 0 l rfl (by omega) (fun j hj => by omega) k hk
  simpa [markedB] using this
theorem heldByte (n : Nat) (h : n ≤ 140737488355328) (c : Int) (hc : 0 ≤ c) (hc1 : c ≤ 4611686018427387904) (k : Nat) (hk : n < k) : laws_heldByteS.f k (markedB c n) c = some (c + n) := by
  unfold laws_heldByteS.f
  have := held_loop (L := laws_heldByteS.l0) (g := fun c => c % 256) (t := fun x c i => rd x i = c % 256) (fun _ _ _ _ => by rw [laws_heldByteS.l0]) n h c hc hc1 (markedB c n) rfl (fun i hi e => by rw [rd_lt hi]; exact e) n 0 (by omega) k hk
  simpa using this
/-- 2 to the 7 j. -/
def pw (j : Nat) : Int := 2 ^ (7 * j)
theorem pw_zero : pw 0 = 1 := rfl
theorem pw_succ (j : Nat) : pw (j + 1) = pw j * 128 := by unfold pw; rw [Nat.mul_add, Int.pow_add]; rfl
theorem pw_pos (j : Nat) : 0 < pw j := Int.pow_pos (by decide)
theorem pw_le (j : Nat) (h : j < 9) : pw j ≤ 72057594037927936 := by
  have : j = 0 ∨ j = 1 ∨ j = 2 ∨ j = 3 ∨ j = 4 ∨ j = 5 ∨ j = 6 ∨ j = 7 ∨ j = 8 := by omega
  rcases this with rfl | rfl | rfl | rfl | rfl | rfl | rfl | rfl | rfl <;> decide
/-- The number whose form stands from place p on, its first j bytes read as x already: the number, and the place behind it. d: how many bytes it may still have. -/
def getM (l : List Int) (p : Int) : Nat → Nat → Int → Option (Int × Int)
  | 0, _, _ => none
  | d + 1, j, x => if p + j < l.length then (if rd l (p + j) < 128 then (if rd l (p + j) = 0 ∧ 0 < j then none else some (x + rd l (p + j) * pw j, p + j + 1)) else getM l p d (j + 1) (x + rd l (p + j) % 128 * pw j)) else none
def told3 : Option (Int × Int) → Int × Int × Bool
  | none => (0, 0, false)
  | some (n, p) => (n, p, true)
/-- What a GetNum tells. -/
def getNum (l : List Int) (p : Int) : Option (Int × Int) := if p < 0 then none else getM l p 9 0 0
theorem mul_small {a b : Int} (h0 : 0 ≤ a) (h1 : a < 128) (hb : 0 < b) (hb1 : b ≤ 72057594037927936) : 0 ≤ a * b ∧ a * b + b ≤ 128 * b := by
  have h2 : 0 ≤ a * b := Int.mul_nonneg h0 (by omega)
  have h3 : (a + 1) * b ≤ 128 * b := Int.mul_le_mul_of_nonneg_right (by omega) (by omega)
  rw [Int.add_mul] at h3
  omega
theorem getM_range (l : List Int) (hl : ∀ x ∈ l, 0 ≤ x ∧ x < 256) (p : Int) (hp : 0 ≤ p) (d : Nat) : ∀ (j : Nat) (x : Int), j + d = 9 → 0 ≤ x → x < pw j → ∀ n q, getM l p d j x = some (n, q) → 0 ≤ n ∧ n ≤ 9223372036854775807 ∧ p < q ∧ q ≤ l.length := by
  induction d with
  | zero => intro j x _ _ _ n q h; simp [getM] at h
  | succ d ih =>
    intro j x hj h0 h1 n q h
    have hp8 := pw_le j (by omega)
    have hpp := pw_pos j
    simp only [getM] at h
    by_cases c : p + j < l.length
    · rw [if_pos c] at h
      have hb := hl _ (rd_mem (i := p + j) (by omega) c)
      by_cases c2 : rd l (p + j) < 128
      · rw [if_pos c2] at h
        by_cases c3 : rd l (p + j) = 0 ∧ 0 < j
        · rw [if_pos c3] at h; cases h
        · rw [if_neg c3] at h
          have hm := mul_small hb.1 c2 hpp hp8
          simp only [Option.some.injEq, Prod.mk.injEq] at h
          omega
      · rw [if_neg c2] at h
        have hm := mul_small (a := rd l (p + j) % 128) (by omega) (by omega) hpp hp8
        exact ih (j + 1) _ (by omega) (by omega) (by rw [pw_succ]; omega) n q h
    · rw [if_neg c] at h; cases h
theorem getNum_range {l : List Int} (hl : ∀ x ∈ l, 0 ≤ x ∧ x < 256) {p n q : Int} (h : getNum l p = some (n, q)) : 0 ≤ n ∧ n ≤ 9223372036854775807 ∧ p < q ∧ q ≤ l.length := by
  unfold getNum at h
  by_cases c : p < 0
  · rw [if_pos c] at h; cases h
  · rw [if_neg c] at h
    exact getM_range l hl p (by omega) 9 0 0 rfl (by omega) (by decide) n q h
theorem spec_get_loop (l : List Int) (hl : ∀ x ∈ l, 0 ≤ x ∧ x < 256) (hn : l.length ≤ 140737488355328) (p : Int) (hp : 0 ≤ p) (hp1 : p ≤ l.length) (d : Nat) : ∀ (j : Nat) (x u : Int), j + d = 9 → 0 ≤ x → x < pw j → (j < 9 → u = pw j) → ∀ k, 2 * d + 1 < k →
    spec_GetNum.l0 k l p x u j = some (told3 (getM l p d j x)) := by
  induction d with
  | zero =>
    intro j x u hj h0 h1 hu k hk
    obtain ⟨k, rfl⟩ : ∃ m, k = m + 2 := ⟨k - 2, by omega⟩
    simp only [spec_GetNum.l0, spec_GetNum.j2, getM, told3]
    rw [if_neg (by omega), if_neg (by decide)]
  | succ d ih =>
    intro j x u hj h0 h1 hu k hk
    obtain ⟨k, rfl⟩ : ∃ m, k = m + 2 := ⟨k - 2, by omega⟩
    have hp8 := pw_le j (by omega)
    have hpp := pw_pos j
    obtain rfl := hu (by omega)
    have e1 : wrap64 (p + j) = p + j := w_in (by omega) (by omega)
    simp only [spec_GetNum.l0, spec_GetNum.j2, getM, e1]
    rw [if_pos (by omega)]
    by_cases c : p + j < l.length
    · rw [if_pos (by simpa using c), if_pos (by omega), if_pos c, if_pos c]
      have hb := hl _ (rd_mem (i := p + j) (by omega) c)
      generalize hv : rd l (p + j) = v at *
      have e2 : wrap64 v = v := w_in (by omega) (by omega)
      have e3 : Int.tmod v 128 = v % 128 := Int.tmod_eq_emod_of_nonneg (by omega)
      have hm := mul_small (a := v % 128) (by omega) (by omega) hpp hp8
      have e4 : wrap64 (v % 128 * pw j) = v % 128 * pw j := w_in (by omega) (by omega)
      have e5 : wrap64 (x + v % 128 * pw j) = x + v % 128 * pw j := w_in (by omega) (by omega)
      have e6 : wrap64 (p + j + 1) = p + j + 1 := w_in (by omega) (by omega)
      simp only [e2, e3, e4, e5, e6]
      by_cases c2 : v < 128
      · have e7 : v % 128 = v := by omega
        rw [if_pos c2, if_pos c2, e7]
        by_cases c3 : v = 0
        · rw [if_pos c3]
          by_cases c4 : 0 < j
          · rw [if_pos (by omega), if_pos ⟨c3, c4⟩]; rfl
          · rw [if_neg (by omega), if_neg (by omega)]; rfl
        · rw [if_neg c3, if_neg (by omega)]; rfl
      · rw [if_neg c2, if_neg c2, w_in (n := (j : Int) + 1) (by omega) (by omega)]
        refine ih (j + 1) _ _ (by omega) (by omega) (by rw [pw_succ]; omega) (fun hj9 => ?_) k (by omega)
        have := pw_le (j + 1) hj9
        rw [pw_succ] at this ⊢
        exact w_in (by omega) (by omega)
    · rw [if_neg (by simpa using c), if_neg c]; rfl
theorem spec_get (l : List Int) (hl : ∀ x ∈ l, 0 ≤ x ∧ x < 256) (hn : l.length ≤ 140737488355328) (p : Int) (k : Nat) (hk : 22 < k) : spec_GetNum.f k l p = some (told3 (getNum l p)) := by
  obtain ⟨k, rfl⟩ : ∃ m, k = m + 1 := ⟨k - 1, by omega⟩
  unfold spec_GetNum.f getNum
  by_cases c : p < 0
  · rw [if_pos c, if_pos c]; simp only [spec_GetNum.j0, if_true]; rfl
  · rw [if_neg c, if_neg c]
    simp only [spec_GetNum.j0]
    by_cases c2 : p ≥ l.length
    · rw [if_pos (by simpa using c2)]
      simp only [getM]
      rw [if_neg (by omega)]; rfl
    · rw [if_neg (by simpa using c2)]
      exact spec_get_loop l hl hn p (by omega) (by omega) 9 0 0 1 rfl (by omega) (by decide) (fun _ => rfl) k (by omega)
theorem impl_get_loop (l : List Int) (hl : ∀ x ∈ l, 0 ≤ x ∧ x < 256) (hn : l.length ≤ 140737488355328) (p : Int) (hp : 0 ≤ p) (hp1 : p ≤ l.length) (d : Nat) : ∀ (j : Nat) (x : Int), j + d = 9 → 0 ≤ x → x < pw j → ∀ k, 2 * d + 1 < k →
    impl_GetNum.l0 k l p x j = some (told3 (getM l p d j x)) := by
  induction d with
  | zero =>
    intro j x hj h0 h1 k hk
    obtain ⟨k, rfl⟩ : ∃ m, k = m + 2 := ⟨k - 2, by omega⟩
    simp only [impl_GetNum.l0, impl_GetNum.j1, getM, told3]
    rw [if_neg (by omega), if_neg (by decide)]
  | succ d ih =>
    intro j x hj h0 h1 k hk
    obtain ⟨k, rfl⟩ : ∃ m, k = m + 2 := ⟨k - 2, by omega⟩
    have hp8 := pw_le j (by omega)
    have hpp := pw_pos j
    have e1 : wrap64 (p + j) = p + j := w_in (by omega) (by omega)
    have e7 : wrap64 (7 * (j : Int)) = 7 * j := w_in (by omega) (by omega)
    simp only [impl_GetNum.l0, impl_GetNum.j1, getM, e1, e7]
    rw [if_pos (by omega)]
    by_cases c : p + j < l.length
    · rw [if_pos (by simpa using c), if_pos (by omega), if_pos c, if_pos c, if_pos (by omega)]
      have hb := hl _ (rd_mem (i := p + j) (by omega) c)
      generalize hv : rd l (p + j) = v at *
      have e2 : wrap64 v = v := w_in (by omega) (by omega)
      have hm := mul_small (a := v % 128) (by omega) (by omega) hpp hp8
      have e4 : shl .i64 (v % 128) (7 * (j : Int)) = v % 128 * pw j := by
        unfold shl
        rw [show min (7 * (j : Int)).toNat IntKind.i64.bits = 7 * j from by simp [IntKind.bits]; omega]
        exact wraps_i64 _ hm.1 (by show v % 128 * pw j < _; omega)
      have e5 : Go.bits .or .i64 x (v % 128 * pw j) = x + v % 128 * pw j := or_join (7 * j) (by omega) h0 h1 (by omega) (by show v % 128 * pw j < _; omega)
      have e6 : wrap64 (p + j + 1) = p + j + 1 := w_in (by omega) (by omega)
      simp only [e2, and127 (x := v) (by omega) (by omega), e4, e5, e6]
      by_cases c2 : v < 128
      · have e7 : v % 128 = v := by omega
        rw [if_neg (by omega), if_pos c2, e7]
        by_cases c3 : v = 0
        · rw [if_pos c3]
          by_cases c4 : 0 < j
          · rw [if_pos (by omega), if_pos ⟨c3, c4⟩]; rfl
          · rw [if_neg (by omega), if_neg (by omega)]; rfl
        · rw [if_neg c3, if_neg (by omega)]; rfl
      · rw [if_pos (by omega), if_neg c2, w_in (n := (j : Int) + 1) (by omega) (by omega)]
        exact ih (j + 1) _ (by omega) (by omega) (by rw [pw_succ]; omega) k (by omega)
    · rw [if_neg (by simpa using c), if_neg c]; rfl
theorem impl_get (l : List Int) (hl : ∀ x ∈ l, 0 ≤ x ∧ x < 256) (hn : l.length ≤ 140737488355328) (p : Int) (k : Nat) (hk : 22 < k) : impl_GetNum.f k l p = some (told3 (getNum l p)) := by
  unfold impl_GetNum.f getNum impl_in.f
  rw [w_in (by omega) (by omega)]
  by_cases c : p < 0
  · rw [if_neg (by omega), if_pos c]; rfl
  · rw [if_pos (by omega), if_neg c]
    by_cases c2 : p ≤ (l.length : Int) - 1
    · simp only [decide_eq_true c2, Option.bind_some, if_true]
      exact impl_get_loop l hl hn p (by omega) (by omega) 9 0 0 rfl (by omega) (by decide) k (by omega)
    · simp only [decide_eq_false c2, Option.bind_some, getM]
      rw [if_neg (by decide), if_neg (by omega)]; rfl
def ckM (l : List Int) : Nat → Nat → Int → Int → Int
  | 0, _, x, y => wrap64 (wrap64 (65536 * y) + x)
  | d + 1, i, x, y => ckM l d (i + 1) (Int.tmod (wrap64 (wrap64 (x + wrap64 (rd l (i : Int))) + 1)) 65535) (Int.tmod (wrap64 (y + Int.tmod (wrap64 (wrap64 (x + wrap64 (rd l (i : Int))) + 1)) 65535)) 65535)
/-- What a Check tells. -/
def chk (l : List Int) : Int := ckM l l.length 0 0 0
theorem check_both (l : List Int) (h : l.length ≤ 1048576) (d : Nat) : ∀ (i : Nat) (x y : Int), i + d = l.length → ∀ k, d < k → spec_Check.l0 k l x y i = some (ckM l d i x y) ∧ impl_Check.l0 k x y l l.length i = some (ckM l d i x y) := by
  induction d with
  | zero =>
    intro i x y hi k hk
    obtain ⟨k, rfl⟩ : ∃ m, k = m + 1 := ⟨k - 1, by omega⟩
    simp only [spec_Check.l0, impl_Check.l0]
    rw [if_neg (by omega), if_neg (by omega)]
    exact ⟨rfl, rfl⟩
  | succ d ih =>
    intro i x y hi k hk
    obtain ⟨k, rfl⟩ : ∃ m, k = m + 1 := ⟨k - 1, by omega⟩
    simp only [spec_Check.l0, impl_Check.l0]
    rw [if_pos (by omega), if_pos (by omega), if_pos (by omega), if_pos (by omega), if_pos (by omega), w_in (n := (i : Int) + 1) (by omega) (by omega)]
    exact ih (i + 1) _ _ (by omega) k (by omega)
theorem ckM_range (l : List Int) (hl : ∀ x ∈ l, 0 ≤ x ∧ x < 256) (d : Nat) : ∀ (i : Nat) (x y : Int), i + d = l.length → 0 ≤ x → x < 65535 → 0 ≤ y → y < 65535 → 0 ≤ ckM l d i x y ∧ ckM l d i x y < 4294967296 := by
  induction d with
  | zero =>
    intro i x y hi h0 h1 h2 h3
    unfold ckM
    rw [w_in (n := 65536 * y) (by omega) (by omega), w_in (by omega) (by omega)]
    omega
  | succ d ih =>
    intro i x y hi h0 h1 h2 h3
    have hb := hl _ (rd_mem (i := (i : Int)) (by omega) (by omega))
    unfold ckM
    generalize rd l (i : Int) = v at *
    have e1 : wrap64 v = v := w_in (by omega) (by omega)
    have e2 : wrap64 (x + v) = x + v := w_in (by omega) (by omega)
    have e3 : wrap64 (x + v + 1) = x + v + 1 := w_in (by omega) (by omega)
    have e4 : Int.tmod (x + v + 1) 65535 = (x + v + 1) % 65535 := Int.tmod_eq_emod_of_nonneg (by omega)
    have e5 : wrap64 (y + (x + v + 1) % 65535) = y + (x + v + 1) % 65535 := w_in (by omega) (by omega)
    have e6 : Int.tmod (y + (x + v + 1) % 65535) 65535 = (y + (x + v + 1) % 65535) % 65535 := Int.tmod_eq_emod_of_nonneg (by omega)
    rw [e1, e2, e3, e4, e5, e6]
    exact ih (i + 1) _ _ (by omega) (by omega) (by omega) (by omega) (by omega)
theorem chk_range (l : List Int) (hl : ∀ x ∈ l, 0 ≤ x ∧ x < 256) : 0 ≤ chk l ∧ chk l < 4294967296 := ckM_range l hl l.length 0 0 0 (by omega) (by decide) (by decide) (by decide) (by decide)
theorem spec_chk (l : List Int) (h : l.length ≤ 1048576) (k : Nat) (hk : l.length < k) : spec_Check.f k l = some (chk l) := (check_both l h l.length 0 0 0 (by omega) k hk).1
theorem impl_chk (l : List Int) (h : l.length ≤ 1048576) (k : Nat) (hk : l.length < k) : impl_Check.f k l = some (chk l) := (check_both l h l.length 0 0 0 (by omega) k hk).2
def four (r : Int) : List Int := [r % 256, (r / 256) % 256, (r / 65536) % 256, (r / 16777216) % 256]
theorem of_four (l : List Int) (h : l.length = 4) : ∃ a b c d, l = [a, b, c, d] := by
  match l, h with
  | [a, b, c, d], _ => exact ⟨a, b, c, d, rfl⟩
/-- What an Unseal tells. -/
def unsealM (l : List Int) (p : Int) : List Int × Int × Int :=
  match getNum l p with
  | none => ([], 0, 1)
  | some (n, q) => if n > 9000 then ([], 0, 1) else if (l.length : Int) - q < n + 4 then ([], 0, 2) else
    if four (chk ((l.take (q + n).toNat).drop q.toNat)) = (l.take (q + n + 4).toNat).drop (q + n).toNat then ((l.take (q + n).toNat).drop q.toNat, q + n + 4, 0) else ([], 0, 3)
theorem unseal_len (l : List Int) (p : Int) : (unsealM l p).1.length ≤ l.length := by
  unfold unsealM
  split
  · exact Nat.zero_le _
  · split
    · exact Nat.zero_le _
    · split
      · exact Nat.zero_le _
      · split
        · simp only [List.length_drop, List.length_take]; omega
        · exact Nat.zero_le _
theorem getNum_at {l : List Int} {p : Int} {r : Int × Int} (h : getNum l p = some r) : 0 ≤ p := by
  unfold getNum at h
  by_cases c : p < 0
  · rw [if_pos c] at h; cases h
  · omega
theorem part_len (l : List Int) (a b : Int) (h0 : 0 ≤ a) (h1 : a ≤ b) (h2 : b ≤ l.length) : (((l.take b.toNat).drop a.toNat).length : Int) = b - a := by
  rw [List.length_drop, List.length_take]; omega
theorem part_mem {l : List Int} (hl : ∀ x ∈ l, 0 ≤ x ∧ x < 256) (a b : Nat) : ∀ x ∈ (l.take b).drop a, 0 ≤ x ∧ x < 256 := fun x hx => hl x (List.mem_of_mem_take (List.mem_of_mem_drop hx))
theorem join4 (b0 b1 b2 b3 : Int) (h0 : 0 ≤ b0 ∧ b0 < 256) (h1 : 0 ≤ b1 ∧ b1 < 256) (h2 : 0 ≤ b2 ∧ b2 < 256) (h3 : 0 ≤ b3 ∧ b3 < 256) :
    wrap64 (wrap64 (wrap64 (wrap64 b0 + wrap64 (wrap64 b1 * 256)) + wrap64 (wrap64 b2 * 65536)) + wrap64 (wrap64 b3 * 16777216)) = b0 + b1 * 256 + b2 * 65536 + b3 * 16777216 := by
  rw [w_in (n := b0) (by omega) (by omega), w_in (n := b1) (by omega) (by omega), w_in (n := b2) (by omega) (by omega), w_in (n := b3) (by omega) (by omega), w_in (n := b1 * 256) (by omega) (by omega), w_in (n := b2 * 65536) (by omega) (by omega), w_in (n := b3 * 16777216) (by omega) (by omega), w_in (n := b0 + b1 * 256) (by omega) (by omega), w_in (n := b0 + b1 * 256 + b2 * 65536) (by omega) (by omega), w_in (by omega) (by omega)]
theorem four_iff (r b0 b1 b2 b3 : Int) (hr : 0 ≤ r ∧ r < 4294967296) (h0 : 0 ≤ b0 ∧ b0 < 256) (h1 : 0 ≤ b1 ∧ b1 < 256) (h2 : 0 ≤ b2 ∧ b2 < 256) (h3 : 0 ≤ b3 ∧ b3 < 256) :
    four r = [b0, b1, b2, b3] ↔ r = b0 + b1 * 256 + b2 * 65536 + b3 * 16777216 := by
  unfold four
  simp only [List.cons.injEq, and_true]
  omega
theorem spec_unseal (l : List Int) (hl : ∀ x ∈ l, 0 ≤ x ∧ x < 256) (hn : l.length ≤ 1048576) (p : Int) (k : Nat) (hk : l.length + 30 < k) : spec_Unseal.f k l p = some (unsealM l p) := by
  obtain ⟨k, rfl⟩ : ∃ m, k = m + 1 := ⟨k - 1, by omega⟩
  unfold spec_Unseal.f unsealM
  rw [spec_get l hl (by omega) p (k + 1) (by omega), Option.bind_some]
  cases hg : getNum l p with
  | none =>
    simp only [told3, Bool.false_eq_true, if_false]
    rw [spec_Unseal.j0, if_pos rfl]
  | some nq =>
    obtain ⟨n, q⟩ := nq
    have hr := getNum_range hl hg
    have hp := getNum_at hg
    simp only [told3, if_true]
    rw [spec_Unseal.j0]
    by_cases c : n > 9000
    · rw [if_pos (by simpa using c), if_pos c]
    · rw [if_neg (by simpa using c), if_neg c]
      have e1 : wrap64 ((l.length : Int) - q) = l.length - q := w_in (by omega) (by omega)
      have e2 : wrap64 (n + 4) = n + 4 := w_in (by omega) (by omega)
      have e3 : wrap64 (q + n) = q + n := w_in (by omega) (by omega)
      rw [e1, e2, e3]
      by_cases c2 : (l.length : Int) - q < n + 4
      · rw [if_pos c2, if_pos c2]
      · have e4 : wrap64 (q + n + 4) = q + n + 4 := w_in (by omega) (by omega)
        have hbl := part_len l q (q + n) (by omega) (by omega) (by omega)
        have hbm := part_mem hl q.toNat (q + n).toNat
        obtain ⟨b0, b1, b2, b3, ht⟩ := of_four ((l.take (q + n + 4).toNat).drop (q + n).toNat) (by have := part_len l (q + n) (q + n + 4) (by omega) (by omega) (by omega); omega)
        have hm := part_mem hl (q + n).toNat (q + n + 4).toNat
        rw [if_neg c2, if_neg c2, Option.bind_some, e4, ht]
        rw [ht] at hm
        generalize (l.take (q + n).toNat).drop q.toNat = b at *
        have h0 := hm b0 (by simp)
        have h1 := hm b1 (by simp)
        have h2 := hm b2 (by simp)
        have h3 := hm b3 (by simp)
        rw [if_pos (by omega), if_pos (by omega), if_pos (by omega), if_pos (by simp only [List.length_nil]; omega), Option.bind_some, List.nil_append, if_pos (by omega), if_pos (by omega), if_pos (by omega)]
        rw [spec_chk b (by omega) k (by omega), Option.bind_some, if_pos (by simp), if_pos (by simp), if_pos (by simp), if_pos (by simp)]
        rw [show rd [b0, b1, b2, b3] 0 = b0 from rfl, show rd [b0, b1, b2, b3] 1 = b1 from rfl, show rd [b0, b1, b2, b3] 2 = b2 from rfl, show rd [b0, b1, b2, b3] 3 = b3 from rfl, join4 b0 b1 b2 b3 h0 h1 h2 h3]
        have hf := four_iff (chk b) b0 b1 b2 b3 (chk_range b hbm) h0 h1 h2 h3
        by_cases c3 : chk b = b0 + b1 * 256 + b2 * 65536 + b3 * 16777216
        · rw [if_pos c3, if_pos (hf.2 c3)]
        · rw [if_neg c3, if_neg (fun h => c3 (hf.1 h))]
theorem eq4 (A B : List Int) (ha : A.length = 4) (hb : B.length = 4) (k : Nat) (hk : 4 < k) : slices_Equal_byte_byte.f k A B = some (decide (A = B)) := by
  obtain ⟨k, rfl⟩ : ∃ m, k = m + 5 := ⟨k - 5, by omega⟩
  have la : (A.length : Int) = 4 := by omega
  have lb : (B.length : Int) = 4 := by omega
  have w1 : wrap64 (0 + 1) = 1 := w_in (by decide) (by decide)
  have w2 : wrap64 (1 + 1) = 2 := w_in (by decide) (by decide)
  have w3 : wrap64 (2 + 1) = 3 := w_in (by decide) (by decide)
  have w4 : wrap64 (3 + 1) = 4 := w_in (by decide) (by decide)
  have e : A = B ↔ (rd A 0 = rd B 0 ∧ rd A 1 = rd B 1 ∧ rd A 2 = rd B 2 ∧ rd A 3 = rd B 3) := by
    obtain ⟨a0, a1, a2, a3, rfl⟩ := of_four A ha
    obtain ⟨b0, b1, b2, b3, rfl⟩ := of_four B hb
    show _ ↔ (a0 = b0 ∧ a1 = b1 ∧ a2 = b2 ∧ a3 = b3)
    simp only [List.cons.injEq, and_true]
  unfold slices_Equal_byte_byte.f
  simp only [slices_Equal_byte_byte.l0, la, lb, w1, w2, w3, w4, e]
  by_cases h0 : rd A 0 = rd B 0 <;> by_cases h1 : rd A 1 = rd B 1 <;> by_cases h2 : rd A 2 = rd B 2 <;> by_cases h3 : rd A 3 = rd B 3 <;> simp [h0, h1, h2, h3]
theorem impl_unseal (l : List Int) (hl : ∀ x ∈ l, 0 ≤ x ∧ x < 256) (hn : l.length ≤ 1048576) (p : Int) (k : Nat) (hk : l.length + 30 < k) : impl_Unseal.f k l p = some (unsealM l p) := by
  obtain ⟨k, rfl⟩ : ∃ m, k = m + 1 := ⟨k - 1, by omega⟩
  unfold impl_Unseal.f unsealM
  rw [impl_get l hl (by omega) p (k + 1) (by omega), Option.bind_some]
  cases hg : getNum l p with
  | none =>
    simp only [told3, Bool.false_eq_true, if_false]
    rw [impl_Unseal.j0, if_pos rfl]
  | some nq =>
    obtain ⟨n, q⟩ := nq
    have hr := getNum_range hl hg
    have hp := getNum_at hg
    simp only [told3, if_true]
    rw [impl_Unseal.j0]
    by_cases c : n > 9000
    · rw [if_pos (by simpa using c), if_pos c]
    · rw [if_neg (by simpa using c), if_neg c]
      have e1 : wrap64 ((l.length : Int) - q) = l.length - q := w_in (by omega) (by omega)
      have e2 : wrap64 (n + 4) = n + 4 := w_in (by omega) (by omega)
      have e3 : wrap64 (q + n) = q + n := w_in (by omega) (by omega)
      rw [e1, e2, e3]
      by_cases c2 : (l.length : Int) - q < n + 4
      · rw [if_pos c2, if_pos c2]
      · have e4 : wrap64 (q + n + 4) = q + n + 4 := w_in (by omega) (by omega)
        have hbl := part_len l q (q + n) (by omega) (by omega) (by omega)
        have hbm := part_mem hl q.toNat (q + n).toNat
        obtain ⟨b0, b1, b2, b3, ht⟩ := of_four ((l.take (q + n + 4).toNat).drop (q + n).toNat) (by have := part_len l (q + n) (q + n + 4) (by omega) (by omega) (by omega); omega)
        rw [if_neg c2, if_neg c2, e4, ht]
        generalize (l.take (q + n).toNat).drop q.toNat = b at *
        rw [if_pos (by omega), if_pos (by omega), if_pos (by omega)]
        unfold impl_checkBytes.f
        rw [impl_chk b (by omega) k (by omega), Option.bind_some, Option.bind_some, if_pos (by omega), if_pos (by omega), if_pos (by omega)]
        rw [eq4 _ _ rfl rfl k (by omega), Option.bind_some, show [chk b % 256, chk b / 256 % 256, chk b / 65536 % 256, chk b / 16777216 % 256] = four (chk b) from rfl]
        by_cases c3 : four (chk b) = [b0, b1, b2, b3]
        · rw [if_pos (by simpa using c3), if_pos c3]
          unfold slices_Clone_byte_byte.f
          rw [if_pos (by omega), Option.bind_some]
        · rw [if_neg (by simpa using c3), if_neg c3]
theorem FnExactUnseal : laws_FnExactUnseal.Pure := by
  intro l a1 _ _ hwf _
  have hl : ∀ x ∈ l, 0 ≤ x ∧ x < 256 := fun x hx => wf_u8 (hwf x hx)
  by_cases h : (l.length : Int) > 1048576
  · exact ⟨0, by unfold laws_FnExactUnseal.f; rw [if_pos h]⟩
  · obtain ⟨K, hK⟩ : ∃ K, K = l.length + 40 := ⟨_, rfl⟩
    refine ⟨K + 3, ?_⟩
    have hs := fun (k : Nat) (h' : l.length + 30 < k) => spec_unseal l hl (by omega) a1 k h'
    have hi := fun (k : Nat) (h' : l.length + 30 < k) => impl_unseal l hl (by omega) a1 k h'
    have ht := fun (k : Nat) (h' : l.length < k) => toByte_same l (by omega) k h'
    have he := fun (k : Nat) (h' : l.length < k) => eqByte_same l (by omega) k h'
    have hm := fun (k : Nat) (h' : l.length < k) => markByte l (by omega) 1 (by omega) (by omega) k h'
    have hr := unseal_len l a1
    generalize unsealM l a1 = r at *
    have hre := fun (k : Nat) (h' : l.length < k) => eqByte_same r.1 (by omega) k (by omega)
    have hrm := fun (k : Nat) (h' : l.length < k) => markByte r.1 (by omega) 1 (by omega) (by omega) k (by omega)
    have hrh := fun (k : Nat) (h' : l.length < k) => heldByte r.1.length (by omega) 1 (by omega) (by omega) k (by omega)
    have n1 : ¬ (1 + (l.length : Int) < 0) := by omega
    have n2 : ¬ (1 + (r.1.length : Int) < 0) := by omega
    unfold laws_FnExactUnseal.f
    rw [if_neg h]
    simp (disch := omega) only [hs, hi, ht, he, hm, hre, hrm, hrh, n1, n2, Option.bind_some, if_true, if_false, bne_self_eq_false, Bool.false_eq_true]
    rw [laws_FnExactUnseal.j0]
    simp (disch := omega) only [hs, hi, ht, he, hm, hre, hrm, hrh, n1, n2, Option.bind_some, if_true, if_false, bne_self_eq_false, Bool.false_eq_true]
    rw [laws_FnExactUnseal.j1]
    simp (disch := omega) only [hs, hi, ht, he, hm, hre, hrm, hrh, n1, n2, Option.bind_some, if_true, if_false, bne_self_eq_false, Bool.false_eq_true]
    rw [laws_FnExactUnseal.j2]
    simp (disch := omega) only [hs, hi, ht, he, hm, hre, hrm, hrh, n1, n2, Option.bind_some, if_true, if_false, bne_self_eq_false, Bool.false_eq_true]
end Go.Proofs.Ytnafmfhfonhmaaa.Pure
