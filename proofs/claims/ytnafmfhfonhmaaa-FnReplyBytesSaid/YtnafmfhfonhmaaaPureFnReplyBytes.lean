/- A drawn reply is read from its bytes as it was; bytes that are read pack to just themselves (the pure side of FnReplyBytes). No condition. -/
import Derived.Test.YtnafmfhfonhmaaaPFnReplyBytesx
import Derived.Test.YtnafmfhfonhmaaaU0
namespace Go.Proofs.Ytnafmfhfonhmaaa.Pure
open Go.RowKit Go.Proofs.Ytnafmfhfonhmaaa.PFnReplyBytes Go.Proofs.YtnafmfhfonhmaaaW.PrintWords Go.Proofs.YtnafmfhfonhmaaaW.PrintLast Go.Proofs.Ytnafmfhfonhmaaa.U0
set_option linter.unusedSimpArgs false
set_option linter.unusedVariables false

theorem spec_in_tells (a lo hi : Int) : spec_l1In.f a lo hi = some (decide (lo ≤ a ∧ a ≤ hi)) := by
  unfold spec_l1In.f
  by_cases c : lo ≤ a
  · rw [if_pos (show a ≥ lo from c)]; congr 1; simp [c]
  · rw [if_neg (show ¬ a ≥ lo from c)]; simp [c]
theorem impl_in_tells (a lo hi : Int) : impl_in.f a lo hi = some (decide (lo ≤ a ∧ a ≤ hi)) := by
  unfold impl_in.f
  by_cases c : lo ≤ a
  · rw [if_pos (show a ≥ lo from c)]; congr 1; simp [c]
  · rw [if_neg (show ¬ a ≥ lo from c)]; simp [c]
/-- The number form: seven bits a byte, the lowest first, 128 added to each but the last. -/
def form (n : Nat) : List Int := if h : n < 128 then [(n : Int)] else ((n % 128 + 128 : Nat) : Int) :: form (n / 128)
termination_by n
decreasing_by omega
theorem form_small {n : Nat} (h : n < 128) : form n = [(n : Int)] := by rw [form, dif_pos h]
theorem form_big {n : Nat} (h : ¬ n < 128) : form n = ((n % 128 + 128 : Nat) : Int) :: form (n / 128) := by rw [form, dif_neg h]
theorem form_len (d : Nat) : ∀ n, n < 128 ^ (d + 1) → (form n).length ≤ d + 1 := by
  induction d with
  | zero => intro n h; rw [form_small (by simpa using h)]; simp
  | succ d ih =>
    intro n h
    by_cases c : n < 128
    · rw [form_small c]; simp
    · rw [form_big c, List.length_cons]
      have := ih (n / 128) (by rw [Nat.pow_succ] at h; omega)
      omega

/-- What a PutNum tells: the form, or nothing of what is below 0. -/
def putNum (x : Int) : List Int := if x < 0 then [] else form x.toNat
theorem putNum_len (x : Int) (h : x ≤ 9223372036854775807) : (putNum x).length ≤ 9 := by
  unfold putNum
  split
  · simp
  · exact form_len 8 _ (Nat.lt_of_le_of_lt (show x.toNat ≤ 9223372036854775807 by omega) (by decide))
theorem spec_put_loop (d : Nat) : ∀ (n : Nat) (acc : List Int), n < 128 ^ (d + 1) → n ≤ 9223372036854775807 → acc.length + d < 140737488355327 → ∀ k, d < k → spec_PutNum.l0 k n acc = some (acc ++ form n) := by
  induction d with
  | zero =>
    intro n acc h _ ha k hk
    obtain ⟨k, rfl⟩ : ∃ m, k = m + 1 := ⟨k - 1, by omega⟩
    simp only [spec_PutNum.l0]
    rw [if_neg (by omega), if_pos (by omega), form_small (by omega), show ((n : Int)) % 256 = n from by omega]
  | succ d ih =>
    intro n acc h h63 ha k hk
    obtain ⟨k, rfl⟩ : ∃ m, k = m + 1 := ⟨k - 1, by omega⟩
    simp only [spec_PutNum.l0]
    by_cases c : n < 128
    · rw [if_neg (by omega), if_pos (by omega), form_small c, show ((n : Int)) % 256 = n from by omega]
    · rw [if_pos (by omega), if_pos (by omega)]
      have e1 : wrap64 (Int.tdiv (n : Int) 128) = ((n / 128 : Nat) : Int) := by
        rw [Int.tdiv_eq_ediv_of_nonneg (by omega), w_in (by omega) (by omega)]; omega
      have e2 : (wrap64 (Int.tmod (n : Int) 128 + 128)) % 256 = ((n % 128 + 128 : Nat) : Int) := by
        rw [Int.tmod_eq_emod_of_nonneg (by omega), w_in (by omega) (by omega)]; omega
      rw [e1, e2, ih (n / 128) _ (by rw [Nat.pow_succ] at h; omega) (by omega) (by simp; omega) k (by omega), form_big c]
      simp
theorem spec_put (x : Int) (h : x ≤ 9223372036854775807) (k : Nat) (hk : 9 < k) : spec_PutNum.f k x = some (putNum x) := by
  unfold spec_PutNum.f putNum
  simp only [Option.bind_some]
  by_cases c : x < 0
  · rw [if_pos c, if_pos c]
  · obtain ⟨n, rfl⟩ := Int.eq_ofNat_of_zero_le (Int.not_lt.1 c)
    rw [if_neg c, if_neg c, Int.toNat_natCast]
    simpa using spec_put_loop 9 n [] (Nat.lt_of_le_of_lt (show n ≤ 9223372036854775807 by omega) (by decide)) (by omega) (by decide) k hk
theorem impl_put_loop (d : Nat) : ∀ (n : Nat) (acc : List Int), n < 128 ^ (d + 1) → n ≤ 9223372036854775807 → acc.length + d < 140737488355327 → ∀ k, d < k → impl_PutNum.l0 k n acc = some (acc ++ form n) := by
  induction d with
  | zero =>
    intro n acc h _ ha k hk
    obtain ⟨k, rfl⟩ : ∃ m, k = m + 1 := ⟨k - 1, by omega⟩
    simp only [impl_PutNum.l0]
    rw [if_neg (by omega), if_pos (by omega), form_small (by omega), show ((n : Int)) % 256 = n from by omega]
  | succ d ih =>
    intro n acc h h63 ha k hk
    obtain ⟨k, rfl⟩ : ∃ m, k = m + 1 := ⟨k - 1, by omega⟩
    simp only [impl_PutNum.l0]
    by_cases c : n < 128
    · rw [if_neg (by omega), if_pos (by omega), form_small c, show ((n : Int)) % 256 = n from by omega]
    · rw [if_pos (by omega), if_pos (by omega)]
      have e1 : (n : Int) / 128 = ((n / 128 : Nat) : Int) := by omega
      have e2 : Go.bits .or .i64 (Go.bits .and .i64 (n : Int) 127) 128 % 256 = ((n % 128 + 128 : Nat) : Int) := by
        rw [and127 (by omega) (by omega), or128 (by omega) (by omega)]; omega
      rw [e1, e2, ih (n / 128) _ (by rw [Nat.pow_succ] at h; omega) (by omega) (by simp; omega) k (by omega), form_big c]
      simp

theorem impl_put (x : Int) (h : x ≤ 9223372036854775807) (k : Nat) (hk : 9 < k) : impl_PutNum.f k x = some (putNum x) := by
  unfold impl_PutNum.f putNum
  by_cases c : x < 0
  · rw [if_pos c, if_pos c]
  · obtain ⟨n, rfl⟩ := Int.eq_ofNat_of_zero_le (Int.not_lt.1 c)
    rw [if_neg c, if_neg c, Int.toNat_natCast]
    simpa using impl_put_loop 9 n [] (Nat.lt_of_le_of_lt (show n ≤ 9223372036854775807 by omega) (by decide)) (by omega) (by decide) k hk
/-- What a PutNums tells: the forms, one behind the other; nothing when one is below 0. -/
def putNums (l : List Int) : List Int := if l.any (fun x => decide (x < 0)) then [] else l.flatMap putNum
theorem flat_len (l : List Int) (h : ∀ x ∈ l, x ≤ 9223372036854775807) : (l.flatMap putNum).length ≤ 9 * l.length := by
  induction l with
  | nil => simp
  | cons x xs ih =>
    have h1 := putNum_len x (h x (by simp))
    have h2 := ih (fun y hy => h y (by simp [hy]))
    simp only [List.flatMap_cons, List.length_append, List.length_cons]
    omega
theorem putNums_len (l : List Int) (h : ∀ x ∈ l, x ≤ 9223372036854775807) : (putNums l).length ≤ 9 * l.length := by
  unfold putNums
  split
  · simp
  · exact flat_len l h
theorem impl_putnums_loop (l : List Int) (hl : ∀ x ∈ l, x ≤ 9223372036854775807) (hn : l.length ≤ 1048576) (d : Nat) : ∀ (i : Nat) (acc : List Int), i + d = l.length → acc.length + 9 * d ≤ 9437184 → ∀ k, d + 11 < k →
    impl_PutNums.l0 k acc l l.length i = some (acc ++ (l.drop i).flatMap putNum) := by
  induction d with
  | zero =>
    intro i acc hi ha k hk
    obtain ⟨k, rfl⟩ : ∃ m, k = m + 1 := ⟨k - 1, by omega⟩
    simp only [impl_PutNums.l0]
    rw [if_neg (by omega), List.drop_eq_nil_of_le (by omega)]
    simp
  | succ d ih =>
    intro i acc hi ha k hk
    obtain ⟨k, rfl⟩ : ∃ m, k = m + 1 := ⟨k - 1, by omega⟩
    have hil : i < l.length := by omega
    have hx := hl _ (List.getElem_mem hil)
    simp only [impl_PutNums.l0]
    rw [if_pos (by omega), if_pos (by omega), if_pos (by omega), rd_lt hil, List.drop_eq_getElem_cons hil, List.flatMap_cons]
    rw [impl_put _ hx k (by omega)]
    have hp := putNum_len _ hx
    simp only [Option.bind_some]
    rw [if_pos (by omega), w_in (by omega) (by omega)]
    have := ih (i + 1) (acc ++ putNum l[i]) (by omega) (by simp; omega) k (by omega)
    rw [show ((i : Int) + 1) = ((i + 1 : Nat) : Int) from rfl, this, List.append_assoc]
theorem has_neg (l : List Int) : has_impl_PutNums_1.f l = some (l.any (fun x => decide (x < 0))) := by
  unfold has_impl_PutNums_1.f
  induction l with
  | nil => rfl
  | cons x xs ih =>
    simp only [hasO, impl_PutNums_1.f, Option.bind_some, List.any_cons]
    by_cases c : x < 0
    · simp [c]
    · rw [decide_eq_false c, if_neg (by decide), Bool.false_or]
      exact ih
theorem impl_putnums (l : List Int) (hl : ∀ x ∈ l, x ≤ 9223372036854775807) (hn : l.length ≤ 1048576) (k : Nat) (hk : l.length + 12 < k) : impl_PutNums.f k l = some (putNums l) := by
  unfold impl_PutNums.f putNums
  rw [has_neg]
  simp only [Option.bind_some]
  by_cases c : l.any (fun x => decide (x < 0)) = true
  · rw [if_pos c, if_pos c]
  · rw [if_neg c, if_neg c]
    simpa using impl_putnums_loop l hl hn l.length 0 [] (by omega) (by simp; omega) k (by omega)
/-- What a ReplyPack tells. -/
def replyPack (c v : Int) : List Int × Bool := if (0 ≤ c ∧ c ≤ 8) ∧ (-1000000000000000 ≤ v ∧ v ≤ 1000000000000000) then (putNum c ++ putNum (v + 1000000000000000), true) else ([], false)
theorem replyPack_len (c v : Int) : (replyPack c v).1.length ≤ 18 := by
  unfold replyPack
  by_cases h : (0 ≤ c ∧ c ≤ 8) ∧ (-1000000000000000 ≤ v ∧ v ≤ 1000000000000000)
  · rw [if_pos h]
    have h1 := putNum_len c (by omega)
    have h2 := putNum_len (v + 1000000000000000) (by omega)
    simp only [List.length_append]
    omega
  · rw [if_neg h]; simp
theorem spec_replypack (c v : Int) (k : Nat) (hk : 10 < k) : spec_ReplyPack.f k c v = some (replyPack c v) := by
  obtain ⟨k, rfl⟩ : ∃ m, k = m + 1 := ⟨k - 1, by omega⟩
  unfold spec_ReplyPack.f replyPack
  simp only [spec_in_tells, spec_AmountOk.f, Option.bind_some, decide_eq_true_eq, spec_ReplyPack.j0]
  by_cases h1 : 0 ≤ c ∧ c ≤ 8
  · by_cases h2 : -1000000000000000 ≤ v ∧ v ≤ 1000000000000000
    · rw [if_pos h1, if_pos (⟨h1, h2⟩ : (0 ≤ c ∧ c ≤ 8) ∧ _), decide_eq_true h2, if_neg (by decide), w_in (by omega) (by omega), spec_put c (by omega) k (by omega), spec_put (v + 1000000000000000) (by omega) k (by omega)]
      have e1 := putNum_len c (by omega)
      have e2 := putNum_len (v + 1000000000000000) (by omega)
      simp only [Option.bind_some]
      rw [if_pos (by omega)]
    · have hm : ¬ ((0 ≤ c ∧ c ≤ 8) ∧ (-1000000000000000 ≤ v ∧ v ≤ 1000000000000000)) := fun h => h2 h.2
      rw [if_pos h1, if_neg hm, decide_eq_false h2, if_pos (by decide)]
  · have hm : ¬ ((0 ≤ c ∧ c ≤ 8) ∧ (-1000000000000000 ≤ v ∧ v ≤ 1000000000000000)) := fun h => h1 h.1
    rw [if_neg h1, if_neg hm, if_pos trivial]
theorem putNums_two {a b : Int} (ha : 0 ≤ a) (hb : 0 ≤ b) : putNums [a, b] = putNum a ++ putNum b := by
  unfold putNums
  simp [Int.not_lt.2 ha, Int.not_lt.2 hb]
theorem impl_replypack (c v : Int) (k : Nat) (hk : 15 < k) : impl_ReplyPack.f k c v = some (replyPack c v) := by
  unfold impl_ReplyPack.f replyPack
  simp only [impl_in_tells, impl_AmountOk.f, Option.bind_some, decide_eq_true_eq]
  by_cases h1 : 0 ≤ c ∧ c ≤ 8
  · by_cases h2 : -1000000000000000 ≤ v ∧ v ≤ 1000000000000000
    · rw [if_pos h1, if_pos h2, if_pos (⟨h1, h2⟩ : (0 ≤ c ∧ c ≤ 8) ∧ _), w_in (by omega) (by omega), impl_putnums [c, v + 1000000000000000] (by intro x hx; simp at hx; omega) (by simp) k (by simp; omega), putNums_two (by omega) (by omega)]
      rfl
    · have hm : ¬ ((0 ≤ c ∧ c ≤ 8) ∧ (-1000000000000000 ≤ v ∧ v ≤ 1000000000000000)) := fun h => h2 h.2
      rw [if_pos h1, if_neg h2, if_neg hm]
  · have hm : ¬ ((0 ≤ c ∧ c ≤ 8) ∧ (-1000000000000000 ≤ v ∧ v ≤ 1000000000000000)) := fun h => h1 h.1
    rw [if_neg h1, if_neg hm]
/-- 2 to the 7 j. -/
def pw (j : Nat) : Int := 2 ^ (7 * j)
theorem pw_zero : pw 0 = 1 := rfl
theorem pw_succ (j : Nat) : pw (j + 1) = pw j * 128 := by unfold pw; rw [Nat.mul_add, Int.pow_add]; rfl
theorem pw_pos (j : Nat) : 0 < pw j := Int.pow_pos (by decide)
theorem pw_le (j : Nat) (h : j < 9) : pw j ≤ 72057594037927936 := by
  have : j = 0 ∨ j = 1 ∨ j = 2 ∨ j = 3 ∨ j = 4 ∨ j = 5 ∨ j = 6 ∨ j = 7 ∨ j = 8 := by omega
  rcases this with rfl | rfl | rfl | rfl | rfl | rfl | rfl | rfl | rfl <;> decide
/-- The number whose form stands from place p on, its first j bytes read as x already: the number, and the place behind it. d: how many bytes it may still have. -/
def getM (l : List Int) (p : Int) : Nat → Nat → Int → Option (Int × Int)
  | 0, _, _ => none
  | d + 1, j, x => if p + j < l.length then (if rd l (p + j) < 128 then (if rd l (p + j) = 0 ∧ 0 < j then none else some (x + rd l (p + j) * pw j, p + j + 1)) else getM l p d (j + 1) (x + rd l (p + j) % 128 * pw j)) else none
def told3 : Option (Int × Int) → Int × Int × Bool
  | none => (0, 0, false)
  | some (n, p) => (n, p, true)
/-- What a GetNum tells. -/
def getNum (l : List Int) (p : Int) : Option (Int × Int) := if p < 0 then none else getM l p 9 0 0
theorem mul_small {a b : Int} (h0 : 0 ≤ a) (h1 : a < 128) (hb : 0 < b) (hb1 : b ≤ 72057594037927936) : 0 ≤ a * b ∧ a * b + b ≤ 128 * b := by
  have h2 : 0 ≤ a * b := Int.mul_nonneg h0 (by omega)
  have h3 : (a + 1) * b ≤ 128 * b := Int.mul_le_mul_of_nonneg_right (by omega) (by omega)
  rw [Int.add_mul] at h3
  omega
theorem getM_range (l : List Int) (hl : ∀ x ∈ l, 0 ≤ x ∧ x < 256) (p : Int) (hp : 0 ≤ p) (d : Nat) : ∀ (j : Nat) (x : Int), j + d = 9 → 0 ≤ x → x < pw j → ∀ n q, getM l p d j x = some (n, q) → 0 ≤ n ∧ n ≤ 9223372036854775807 ∧ p < q ∧ q ≤ l.length := by
  induction d with
  | zero => intro j x _ _ _ n q h; simp [getM] at h
  | succ d ih =>
    intro j x hj h0 h1 n q h
    have hp8 := pw_le j (by omega)
    have hpp := pw_pos j
    simp only [getM] at h
    by_cases c : p + j < l.length
    · rw [if_pos c] at h
      have hb := hl _ (rd_mem (i := p + j) (by omega) c)
      by_cases c2 : rd l (p + j) < 128
      · rw [if_pos c2] at h
        by_cases c3 : rd l (p + j) = 0 ∧ 0 < j
        · rw [if_pos c3] at h; cases h
        · rw [if_neg c3] at h
          have hm := mul_small hb.1 c2 hpp hp8
          simp only [Option.some.injEq, Prod.mk.injEq] at h
          omega
      · rw [if_neg c2] at h
        have hm := mul_small (a := rd l (p + j) % 128) (by omega) (by omega) hpp hp8
        exact ih (j + 1) _ (by omega) (by omega) (by rw [pw_succ]; omega) n q h
    · rw [if_neg c] at h; cases h
theorem getNum_range {l : List Int} (hl : ∀ x ∈ l, 0 ≤ x ∧ x < 256) {p n q : Int} (h : getNum l p = some (n, q)) : 0 ≤ n ∧ n ≤ 9223372036854775807 ∧ p < q ∧ q ≤ l.length := by
  unfold getNum at h
  by_cases c : p < 0
  · rw [if_pos c] at h; cases h
  · rw [if_neg c] at h
    exact getM_range l hl p (by omega) 9 0 0 rfl (by omega) (by decide) n q h
theorem spec_get_loop (l : List Int) (hl : ∀ x ∈ l, 0 ≤ x ∧ x < 256) (hn : l.length ≤ 140737488355328) (p : Int) (hp : 0 ≤ p) (hp1 : p ≤ l.length) (d : Nat) : ∀ (j : Nat) (x u : Int), j + d = 9 → 0 ≤ x → x < pw j → (j < 9 → u = pw j) → ∀ k, 2 * d + 1 < k →
    spec_GetNum.l0 k l p x u j = some (told3 (getM l p d j x)) := by
  induction d with
  | zero =>
    intro j x u hj h0 h1 hu k hk
    obtain ⟨k, rfl⟩ : ∃ m, k = m + 2 := ⟨k - 2, by omega⟩
    simp only [spec_GetNum.l0, spec_GetNum.j2, getM, told3]
    rw [if_neg (by omega), if_neg (by decide)]
  | succ d ih =>
    intro j x u hj h0 h1 hu k hk
    obtain ⟨k, rfl⟩ : ∃ m, k = m + 2 := ⟨k - 2, by omega⟩
    have hp8 := pw_le j (by omega)
    have hpp := pw_pos j
    obtain rfl := hu (by omega)
    have e1 : wrap64 (p + j) = p + j := w_in (by omega) (by omega)
    simp only [spec_GetNum.l0, spec_GetNum.j2, getM, e1]
    rw [if_pos (by omega)]
    by_cases c : p + j < l.length
    · rw [if_pos (by simpa using c), if_pos (by omega), if_pos c, if_pos c]
      have hb := hl _ (rd_mem (i := p + j) (by omega) c)
      generalize hv : rd l (p + j) = v at *
      have e2 : wrap64 v = v := w_in (by omega) (by omega)
      have e3 : Int.tmod v 128 = v % 128 := Int.tmod_eq_emod_of_nonneg (by omega)
      have hm := mul_small (a := v % 128) (by omega) (by omega) hpp hp8
      have e4 : wrap64 (v % 128 * pw j) = v % 128 * pw j := w_in (by omega) (by omega)
      have e5 : wrap64 (x + v % 128 * pw j) = x + v % 128 * pw j := w_in (by omega) (by omega)
      have e6 : wrap64 (p + j + 1) = p + j + 1 := w_in (by omega) (by omega)
      simp only [e2, e3, e4, e5, e6]
      by_cases c2 : v < 128
      · have e7 : v % 128 = v := by omega
        rw [if_pos c2, if_pos c2, e7]
        by_cases c3 : v = 0
        · rw [if_pos c3]
          by_cases c4 : 0 < j
          · rw [if_pos (by omega), if_pos ⟨c3, c4⟩]; rfl
          · rw [if_neg (by omega), if_neg (by omega)]; rfl
        · rw [if_neg c3, if_neg (by omega)]; rfl
      · rw [if_neg c2, if_neg c2, w_in (n := (j : Int) + 1) (by omega) (by omega)]
        refine ih (j + 1) _ _ (by omega) (by omega) (by rw [pw_succ]; omega) (fun hj9 => ?_) k (by omega)
        have := pw_le (j + 1) hj9
        rw [pw_succ] at this ⊢
        exact w_in (by omega) (by omega)
    · rw [if_neg (by simpa using c), if_neg c]; rfl
theorem spec_get (l : List Int) (hl : ∀ x ∈ l, 0 ≤ x ∧ x < 256) (hn : l.length ≤ 140737488355328) (p : Int) (k : Nat) (hk : 22 < k) : spec_GetNum.f k l p = some (told3 (getNum l p)) := by
  obtain ⟨k, rfl⟩ : ∃ m, k = m + 1 := ⟨k - 1, by omega⟩
  unfold spec_GetNum.f getNum
  by_cases c : p < 0
  · rw [if_pos c, if_pos c]; simp only [spec_GetNum.j0, if_true]; rfl
  · rw [if_neg c, if_neg c]
    simp only [spec_GetNum.j0]
    by_cases c2 : p ≥ l.length
    · rw [if_pos (by simpa using c2)]
      simp only [getM]
      rw [if_neg (by omega)]; rfl
    · rw [if_neg (by simpa using c2)]
      exact spec_get_loop l hl hn p (by omega) (by omega) 9 0 0 1 rfl (by omega) (by decide) (fun _ => rfl) k (by omega)
theorem impl_get_loop (l : List Int) (hl : ∀ x ∈ l, 0 ≤ x ∧ x < 256) (hn : l.length ≤ 140737488355328) (p : Int) (hp : 0 ≤ p) (hp1 : p ≤ l.length) (d : Nat) : ∀ (j : Nat) (x : Int), j + d = 9 → 0 ≤ x → x < pw j → ∀ k, 2 * d + 1 < k →
    impl_GetNum.l0 k l p x j = some (told3 (getM l p d j x)) := by
  induction d with
  | zero =>
    intro j x hj h0 h1 k hk
    obtain ⟨k, rfl⟩ : ∃ m, k = m + 2 := ⟨k - 2, by omega⟩
    simp only [impl_GetNum.l0, impl_GetNum.j1, getM, told3]
    rw [if_neg (by omega), if_neg (by decide)]
  | succ d ih =>
    intro j x hj h0 h1 k hk
    obtain ⟨k, rfl⟩ : ∃ m, k = m + 2 := ⟨k - 2, by omega⟩
    have hp8 := pw_le j (by omega)
    have hpp := pw_pos j
    have e1 : wrap64 (p + j) = p + j := w_in (by omega) (by omega)
    have e7 : wrap64 (7 * (j : Int)) = 7 * j := w_in (by omega) (by omega)
    simp only [impl_GetNum.l0, impl_GetNum.j1, getM, e1, e7]
    rw [if_pos (by omega)]
    by_cases c : p + j < l.length
    · rw [if_pos (by simpa using c), if_pos (by omega), if_pos c, if_pos c, if_pos (by omega)]
      have hb := hl _ (rd_mem (i := p + j) (by omega) c)
      generalize hv : rd l (p + j) = v at *
      have e2 : wrap64 v = v := w_in (by omega) (by omega)
      have hm := mul_small (a := v % 128) (by omega) (by omega) hpp hp8
      have e4 : shl .i64 (v % 128) (7 * (j : Int)) = v % 128 * pw j := by
        unfold shl
        rw [show min (7 * (j : Int)).toNat IntKind.i64.bits = 7 * j from by simp [IntKind.bits]; omega]
        exact wraps_i64 _ hm.1 (by show v % 128 * pw j < _; omega)
      have e5 : Go.bits .or .i64 x (v % 128 * pw j) = x + v % 128 * pw j := or_join (7 * j) (by omega) h0 h1 (by omega) (by show v % 128 * pw j < _; omega)
      have e6 : wrap64 (p + j + 1) = p + j + 1 := w_in (by omega) (by omega)
      simp only [e2, and127 (x := v) (by omega) (by omega), e4, e5, e6]
      by_cases c2 : v < 128
      · have e7 : v % 128 = v := by omega
        rw [if_neg (by omega), if_pos c2, e7]
        by_cases c3 : v = 0
        · rw [if_pos c3]
          by_cases c4 : 0 < j
          · rw [if_pos (by omega), if_pos ⟨c3, c4⟩]; rfl
          · rw [if_neg (by omega), if_neg (by omega)]; rfl
        · rw [if_neg c3, if_neg (by omega)]; rfl
      · rw [if_pos (by omega), if_neg c2, w_in (n := (j : Int) + 1) (by omega) (by omega)]
        exact ih (j + 1) _ (by omega) (by omega) (by rw [pw_succ]; omega) k (by omega)
    · rw [if_neg (by simpa using c), if_neg c]; rfl
theorem impl_get (l : List Int) (hl : ∀ x ∈ l, 0 ≤ x ∧ x < 256) (hn : l.length ≤ 140737488355328) (p : Int) (k : Nat) (hk : 22 < k) : impl_GetNum.f k l p = some (told3 (getNum l p)) := by
  unfold impl_GetNum.f getNum impl_in.f
  rw [w_in (by omega) (by omega)]
  by_cases c : p < 0
  · rw [if_neg (by omega), if_pos c]; rfl
  · rw [if_pos (by omega), if_neg c]
    by_cases c2 : p ≤ (l.length : Int) - 1
    · simp only [decide_eq_true c2, Option.bind_some, if_true]
      exact impl_get_loop l hl hn p (by omega) (by omega) 9 0 0 rfl (by omega) (by decide) k (by omega)
    · simp only [decide_eq_false c2, Option.bind_some, getM]
      rw [if_neg (by decide), if_neg (by omega)]; rfl
/-- GetNum so many times from place p on: the numbers behind those that are there, and the place then. -/
def getsM (l : List Int) : Nat → Int → List Int → Option (List Int × Int)
  | 0, p, acc => some (acc, p)
  | m + 1, p, acc => match getNum l p with
    | none => none
    | some (n, q) => getsM l m q (acc ++ [n])
def told3s : Option (List Int × Int) → List Int × Int × Bool
  | none => ([], 0, false)
  | some (n, p) => (n, p, true)
/-- What a GetNums tells. -/
def getNums (l : List Int) (p : Int) (many : Int) : Option (List Int × Int) := if 0 ≤ many ∧ many ≤ 2000 ∧ 0 ≤ p ∧ p ≤ l.length then getsM l many.toNat p [] else none
theorem getsM_len (l : List Int) : ∀ (m : Nat) (p : Int) (acc r : List Int) (q : Int), getsM l m p acc = some (r, q) → r.length = acc.length + m := by
  intro m
  induction m with
  | zero => intro p acc r q h; simp only [getsM, Option.some.injEq, Prod.mk.injEq] at h; rw [← h.1]; rfl
  | succ m ih =>
    intro p acc r q h
    simp only [getsM] at h
    split at h
    · cases h
    · have := ih _ _ _ _ h; simp at this; omega
theorem getNums_len {l : List Int} {p many : Int} {r : List Int} {q : Int} (h : getNums l p many = some (r, q)) : (r.length : Int) = many ∧ many ≤ 2000 := by
  unfold getNums at h
  by_cases c : 0 ≤ many ∧ many ≤ 2000 ∧ 0 ≤ p ∧ p ≤ l.length
  · rw [if_pos c] at h
    have := getsM_len l _ _ _ _ _ h
    simp at this
    omega
  · rw [if_neg c] at h; cases h
theorem spec_gets_loop (l : List Int) (hl : ∀ x ∈ l, 0 ≤ x ∧ x < 256) (hn : l.length ≤ 140737488355328) (many : Int) (hm : many ≤ 2000) (d : Nat) : ∀ (i : Nat) (p : Int) (acc : List Int), (i : Int) + d = many → acc.length = i → ∀ k, d + 25 < k →
    spec_GetNums.l0 k l p many acc i = some (told3s (getsM l d p acc)) := by
  induction d with
  | zero =>
    intro i p acc hi ha k hk
    obtain ⟨k, rfl⟩ : ∃ m, k = m + 1 := ⟨k - 1, by omega⟩
    simp only [spec_GetNums.l0, getsM]
    rw [if_neg (by omega)]; rfl
  | succ d ih =>
    intro i p acc hi ha k hk
    obtain ⟨k, rfl⟩ : ∃ m, k = m + 1 := ⟨k - 1, by omega⟩
    simp only [spec_GetNums.l0, getsM]
    rw [if_pos (by omega), spec_get l hl hn p k (by omega)]
    simp only [Option.bind_some]
    cases hg : getNum l p with
    | none => simp only [told3, told3s]; rfl
    | some nq =>
      obtain ⟨n, q⟩ := nq
      simp only [told3, if_true]
      rw [if_pos (by omega), w_in (n := (i : Int) + 1) (by omega) (by omega)]
      exact ih (i + 1) q (acc ++ [n]) (by omega) (by simp; omega) k (by omega)
theorem spec_gets (l : List Int) (hl : ∀ x ∈ l, 0 ≤ x ∧ x < 256) (hn : l.length ≤ 140737488355328) (p many : Int) (k : Nat) (hk : 2030 < k) : spec_GetNums.f k l p many = some (told3s (getNums l p many)) := by
  obtain ⟨k, rfl⟩ : ∃ m, k = m + 1 := ⟨k - 1, by omega⟩
  unfold spec_GetNums.f getNums
  simp only [spec_in_tells, Option.bind_some, spec_GetNums.j0]
  by_cases c : 0 ≤ many ∧ many ≤ 2000
  · by_cases c2 : 0 ≤ p ∧ p ≤ l.length
    · rw [if_pos (show 0 ≤ many ∧ many ≤ 2000 ∧ 0 ≤ p ∧ p ≤ l.length from ⟨c.1, c.2, c2.1, c2.2⟩), decide_eq_true c, decide_eq_true c2, if_pos rfl, if_neg (by decide)]
      obtain ⟨m, rfl⟩ := Int.eq_ofNat_of_zero_le c.1
      rw [Int.toNat_natCast]
      exact spec_gets_loop l hl hn m c.2 m 0 p [] (by omega) rfl k (by omega)
    · rw [if_neg (show ¬ (0 ≤ many ∧ many ≤ 2000 ∧ 0 ≤ p ∧ p ≤ l.length) from fun h => c2 h.2.2), decide_eq_true c, decide_eq_false c2, if_pos rfl, if_pos (by decide)]; rfl
  · rw [if_neg (show ¬ (0 ≤ many ∧ many ≤ 2000 ∧ 0 ≤ p ∧ p ≤ l.length) from fun h => c ⟨h.1, h.2.1⟩), decide_eq_false c, if_neg (by decide), if_pos trivial]; rfl
theorem impl_gets_loop (l : List Int) (hl : ∀ x ∈ l, 0 ≤ x ∧ x < 256) (hn : l.length ≤ 140737488355328) (many : Int) (hm : many ≤ 2000) (d : Nat) : ∀ (i : Nat) (p : Int) (acc : List Int), (i : Int) + d = many → acc.length = i → ∀ k, d + 25 < k →
    impl_GetNums.l0 k l p acc many i = some (told3s (getsM l d p acc)) := by
  induction d with
  | zero =>
    intro i p acc hi ha k hk
    obtain ⟨k, rfl⟩ : ∃ m, k = m + 1 := ⟨k - 1, by omega⟩
    simp only [impl_GetNums.l0, getsM]
    rw [if_neg (by omega)]; rfl
  | succ d ih =>
    intro i p acc hi ha k hk
    obtain ⟨k, rfl⟩ : ∃ m, k = m + 1 := ⟨k - 1, by omega⟩
    simp only [impl_GetNums.l0, getsM]
    rw [if_pos (by omega), impl_get l hl hn p k (by omega)]
    simp only [Option.bind_some]
    cases hg : getNum l p with
    | none => simp only [told3, told3s]; rfl
    | some nq =>
      obtain ⟨n, q⟩ := nq
      simp only [told3, if_true]
      rw [if_pos (by omega), w_in (n := (i : Int) + 1) (by omega) (by omega)]
      exact ih (i + 1) q (acc ++ [n]) (by omega) (by simp; omega) k (by omega)
theorem impl_gets (l : List Int) (hl : ∀ x ∈ l, 0 ≤ x ∧ x < 256) (hn : l.length ≤ 140737488355328) (p many : Int) (k : Nat) (hk : 2030 < k) : impl_GetNums.f k l p many = some (told3s (getNums l p many)) := by
  obtain ⟨k, rfl⟩ : ∃ m, k = m + 1 := ⟨k - 1, by omega⟩
  unfold impl_GetNums.f getNums
  simp only [impl_in_tells, Option.bind_some, impl_GetNums.j0]
  by_cases c : 0 ≤ many ∧ many ≤ 2000
  · by_cases c2 : 0 ≤ p ∧ p ≤ l.length
    · rw [if_pos (show 0 ≤ many ∧ many ≤ 2000 ∧ 0 ≤ p ∧ p ≤ l.length from ⟨c.1, c.2, c2.1, c2.2⟩), decide_eq_true c, decide_eq_true c2, if_pos rfl, if_neg (by decide)]
      obtain ⟨m, rfl⟩ := Int.eq_ofNat_of_zero_le c.1
      rw [Int.toNat_natCast]
      exact impl_gets_loop l hl hn m c.2 m 0 p [] (by omega) rfl k (by omega)
    · rw [if_neg (show ¬ (0 ≤ many ∧ many ≤ 2000 ∧ 0 ≤ p ∧ p ≤ l.length) from fun h => c2 h.2.2), decide_eq_true c, decide_eq_false c2, if_pos rfl, if_pos (by decide)]; rfl
  · rw [if_neg (show ¬ (0 ≤ many ∧ many ≤ 2000 ∧ 0 ≤ p ∧ p ≤ l.length) from fun h => c ⟨h.1, h.2.1⟩), decide_eq_false c, if_neg (by decide), if_pos trivial]; rfl
/-- What a ReplyRead makes of what GetNums told, of n bytes. -/
def replyM (g : List Int × Int × Bool) (n : Int) : Int × Int × Bool :=
  if g.2.2 = true ∧ g.2.1 = n then (if 0 ≤ rd g.1 0 ∧ rd g.1 0 ≤ 8 then (if -1000000000000000 ≤ wrap64 (rd g.1 1 - 1000000000000000) ∧ wrap64 (rd g.1 1 - 1000000000000000) ≤ 1000000000000000 then (rd g.1 0, wrap64 (rd g.1 1 - 1000000000000000), true) else (0, 0, false)) else (0, 0, false)) else (0, 0, false)
/-- What a ReplyRead tells. -/
def replyRead (l : List Int) : Int × Int × Bool := replyM (told3s (getNums l 0 2)) l.length
theorem two_long (l : List Int) (h : (told3s (getNums l 0 2)).2.2 = true) : (told3s (getNums l 0 2)).1.length = 2 := by
  cases hg : getNums l 0 2 with
  | none => rw [hg] at h; cases h
  | some rq => have := getNums_len (r := rq.1) (q := rq.2) hg; simp only [told3s]; omega
theorem spec_reply_read (l : List Int) (hl : ∀ x ∈ l, 0 ≤ x ∧ x < 256) (hn : l.length ≤ 140737488355328) (k : Nat) (hk : 2031 < k) : spec_ReplyRead.f k l = some (replyRead l) := by
  obtain ⟨k, rfl⟩ : ∃ m, k = m + 1 := ⟨k - 1, by omega⟩
  have h2 := two_long l
  unfold spec_ReplyRead.f replyRead replyM
  rw [spec_gets l hl hn 0 2 (k + 1) (by omega)]
  simp only [Option.bind_some]
  generalize told3s (getNums l 0 2) = g at *
  by_cases c : g.2.2 = true
  · rw [if_pos c, spec_ReplyRead.j0]
    have := h2 c
    by_cases c1 : g.2.1 = (l.length : Int)
    · rw [if_neg (show ¬ ((g.2.1 != (l.length : Int)) = true) from by simp [c1]), if_pos (show (0 : Int) < g.1.length by omega), if_pos (show (1 : Int) < g.1.length by omega), if_pos (show g.2.2 = true ∧ g.2.1 = (l.length : Int) from ⟨c, c1⟩), spec_in_tells]
      simp only [Option.bind_some, spec_AmountOk.f, spec_in_tells, decide_eq_true_eq]
      by_cases c2 : 0 ≤ rd g.1 0 ∧ rd g.1 0 ≤ 8
      · rw [if_pos c2, if_pos c2]
        by_cases c3 : -1000000000000000 ≤ wrap64 (rd g.1 1 - 1000000000000000) ∧ wrap64 (rd g.1 1 - 1000000000000000) ≤ 1000000000000000
        · rw [if_pos c3, if_pos c3]
        · rw [if_neg c3, if_neg c3]
      · rw [if_neg c2, if_neg c2]
    · rw [if_pos (show ((g.2.1 != (l.length : Int)) = true) from by simpa using c1), if_neg (show ¬ (g.2.2 = true ∧ g.2.1 = (l.length : Int)) from fun h => c1 h.2)]
  · rw [if_neg c, spec_ReplyRead.j0, if_pos rfl, if_neg (show ¬ (g.2.2 = true ∧ g.2.1 = (l.length : Int)) from fun h => c h.1)]
theorem impl_reply_read (l : List Int) (hl : ∀ x ∈ l, 0 ≤ x ∧ x < 256) (hn : l.length ≤ 140737488355328) (k : Nat) (hk : 2031 < k) : impl_ReplyRead.f k l = some (replyRead l) := by
  obtain ⟨k, rfl⟩ : ∃ m, k = m + 1 := ⟨k - 1, by omega⟩
  have h2 := two_long l
  unfold impl_ReplyRead.f replyRead replyM
  rw [impl_gets l hl hn 0 2 (k + 1) (by omega)]
  simp only [Option.bind_some]
  generalize told3s (getNums l 0 2) = g at *
  by_cases c : g.2.2 = true
  · rw [if_pos c, impl_ReplyRead.j0]
    have := h2 c
    by_cases c1 : g.2.1 = (l.length : Int)
    · rw [if_neg (show ¬ ((g.2.1 != (l.length : Int)) = true) from by simp [c1]), if_pos (show (0 : Int) < g.1.length by omega), if_pos (show (1 : Int) < g.1.length by omega), if_pos (show g.2.2 = true ∧ g.2.1 = (l.length : Int) from ⟨c, c1⟩), impl_in_tells]
      simp only [Option.bind_some, impl_AmountOk.f, impl_in_tells, decide_eq_true_eq]
      by_cases c2 : 0 ≤ rd g.1 0 ∧ rd g.1 0 ≤ 8
      · rw [if_pos c2, if_pos c2]
        by_cases c3 : -1000000000000000 ≤ wrap64 (rd g.1 1 - 1000000000000000) ∧ wrap64 (rd g.1 1 - 1000000000000000) ≤ 1000000000000000
        · rw [if_pos c3, if_pos c3]
        · rw [if_neg c3, if_neg c3]
      · rw [if_neg c2, if_neg c2]
    · rw [if_pos (show ((g.2.1 != (l.length : Int)) = true) from by simpa using c1), if_neg (show ¬ (g.2.2 = true ∧ g.2.1 = (l.length : Int)) from fun h => c1 h.2)]
  · rw [if_neg c, impl_ReplyRead.j0, if_pos rfl, if_neg (show ¬ (g.2.2 = true ∧ g.2.1 = (l.length : Int)) from fun h => c h.1)]
/-- A form that stands at a place is read from there. -/
theorem form_ne (m : Nat) : form m ≠ [] := by
  by_cases c : m < 128
  · rw [form_small c]; simp
  · rw [form_big c]; simp
theorem getM_form (l rest : List Int) (p : Int) (hp : 0 ≤ p) (d : Nat) : ∀ (j m : Nat) (x : Int), l.drop (p.toNat + j) = form m ++ rest → (form m).length ≤ d → (m ≠ 0 ∨ j = 0) → getM l p d j x = some (x + m * pw j, p + j + (form m).length) := by
  induction d with
  | zero =>
    intro j m x _ hl _
    exact absurd (List.length_eq_zero_iff.1 (Nat.le_zero.1 hl)) (form_ne m)
  | succ d ih =>
    intro j m x hd hl hm
    have hlen : p.toNat + j < l.length := by
      apply Classical.byContradiction
      intro h
      rw [List.drop_eq_nil_of_le (by omega)] at hd
      exact form_ne m (List.append_eq_nil_iff.1 hd.symm).1
    have hrd : rd l (p + j) = l[p.toNat + j] := by
      rw [show p + (j : Int) = ((p.toNat + j : Nat) : Int) from by omega, rd_lt hlen]
    rw [List.drop_eq_getElem_cons hlen] at hd
    simp only [getM]
    rw [if_pos (by omega), hrd]
    by_cases c : m < 128
    · rw [form_small c] at hd ⊢
      simp only [List.cons_append, List.nil_append, List.cons.injEq] at hd
      rw [hd.1, if_pos (by omega), if_neg (by omega)]
      simp
    · rw [form_big c] at hd hl ⊢
      simp only [List.cons_append, List.cons.injEq] at hd
      rw [hd.1, if_neg (by omega)]
      have := ih (j + 1) (m / 128) (x + ((m % 128 + 128 : Nat) : Int) % 128 * pw j) (by rw [← hd.2]; rfl) (by simpa using hl) (.inl (by omega))
      rw [this, pw_succ]
      have e : ((m % 128 + 128 : Nat) : Int) % 128 = ((m % 128 : Nat) : Int) := by omega
      have e2 : (m : Int) = ((m % 128 : Nat) : Int) + 128 * ((m / 128 : Nat) : Int) := by omega
      rw [e]
      congr 2
      · conv => rhs; rw [e2]
        rw [Int.add_mul, Int.mul_assoc 128, Int.mul_comm 128, Int.add_assoc, Int.mul_assoc]
      · simp only [List.length_cons]; omega
theorem getNum_form (l rest : List Int) (p m : Nat) (hm : m ≤ 9223372036854775807) (hd : l.drop p = form m ++ rest) : getNum l p = some ((m : Int), (p : Int) + (form m).length) := by
  unfold getNum
  rw [if_neg (by omega), getM_form l rest p (by omega) 9 0 m 0 (by simpa using hd) (form_len 8 m (Nat.lt_of_le_of_lt hm (by decide))) (.inr rfl)]
  simp [pw_zero]
theorem putNum_nonneg {x : Int} (h : 0 ≤ x) : putNum x = form x.toNat := by unfold putNum; rw [if_neg (by omega)]
theorem getNum_put (l rest : List Int) (p : Nat) (x : Int) (h0 : 0 ≤ x) (h1 : x ≤ 9223372036854775807) (hd : l.drop p = putNum x ++ rest) : getNum l p = some (x, (p : Int) + (putNum x).length) := by
  rw [putNum_nonneg h0] at hd ⊢
  rw [getNum_form l rest p x.toNat (by omega) hd]
  congr 2
  omega
theorem getsM_put (l : List Int) (ns : List Int) : ∀ (rest : List Int) (p : Nat) (acc : List Int), (∀ x ∈ ns, 0 ≤ x ∧ x ≤ 9223372036854775807) → l.drop p = ns.flatMap putNum ++ rest → getsM l ns.length p acc = some (acc ++ ns, (p : Int) + (ns.flatMap putNum).length) := by
  induction ns with
  | nil => intro rest p acc _ _; simp [getsM]
  | cons x xs ih =>
    intro rest p acc h hd
    have hx := h x (by simp)
    rw [List.flatMap_cons, List.append_assoc] at hd
    simp only [List.length_cons, getsM]
    rw [getNum_put l _ p x hx.1 hx.2 hd]
    simp only
    have hd2 : l.drop (p + (putNum x).length) = xs.flatMap putNum ++ rest := by
      rw [← List.drop_drop, hd, List.drop_left]
    have := ih rest (p + (putNum x).length) (acc ++ [x]) (fun y hy => h y (by simp [hy])) hd2
    rw [show (p : Int) + ((putNum x).length : Int) = ((p + (putNum x).length : Nat) : Int) from by simp, this]
    simp [List.flatMap_cons, Int.add_assoc]
theorem putNums_nonneg {l : List Int} (h : ∀ x ∈ l, 0 ≤ x) : putNums l = l.flatMap putNum := by
  unfold putNums
  rw [if_neg]
  intro hc
  obtain ⟨x, hx, hx2⟩ := List.any_eq_true.1 hc
  have := h x hx
  simp at hx2
  omega
theorem getNums_put (ns rest : List Int) (h : ∀ x ∈ ns, 0 ≤ x ∧ x ≤ 9223372036854775807) (hn : ns.length ≤ 2000) : getNums (putNums ns ++ rest) 0 ns.length = some (ns, ((putNums ns).length : Int)) := by
  unfold getNums
  rw [if_pos (by omega), putNums_nonneg (fun x hx => (h x hx).1), Int.toNat_natCast]
  have := getsM_put (ns.flatMap putNum ++ rest) ns rest 0 [] h (by simp)
  simpa using this
/-- What is read at a place is a form that stands there. -/
theorem getM_inv (l : List Int) (hl : ∀ x ∈ l, 0 ≤ x ∧ x < 256) (p : Nat) (d : Nat) : ∀ (j : Nat) (x n q : Int), getM l p d j x = some (n, q) → ∃ m : Nat, n = x + m * pw j ∧ (m ≠ 0 ∨ j = 0) ∧ l.drop (p + j) = form m ++ l.drop q.toNat ∧ q = p + j + (form m).length := by
  induction d with
  | zero => intro j x n q h; simp [getM] at h
  | succ d ih =>
    intro j x n q h
    simp only [getM] at h
    by_cases c : (p : Int) + j < l.length
    · rw [if_pos c] at h
      have hlt : p + j < l.length := by omega
      have hrd : rd l ((p : Int) + j) = l[p + j] := by
        rw [show (p : Int) + (j : Int) = ((p + j : Nat) : Int) from by omega, rd_lt hlt]
      have hb := hl _ (List.getElem_mem hlt)
      rw [hrd] at h
      by_cases c2 : l[p + j] < 128
      · rw [if_pos c2] at h
        by_cases c3 : l[p + j] = 0 ∧ 0 < j
        · rw [if_pos c3] at h; cases h
        · rw [if_neg c3] at h
          simp only [Option.some.injEq, Prod.mk.injEq] at h
          have hf : form (l[p + j]).toNat = [l[p + j]] := by rw [form_small (by omega)]; simp; omega
          refine ⟨(l[p + j]).toNat, ?_, by omega, ?_, ?_⟩
          · rw [← h.1, Int.toNat_of_nonneg hb.1]
          · rw [hf, ← h.2, List.drop_eq_getElem_cons hlt]
            rw [show ((p : Int) + j + 1).toNat = p + j + 1 from by omega]
            rfl
          · rw [hf, ← h.2]; simp
      · rw [if_neg c2] at h
        obtain ⟨m, h1, h2, h3, h4⟩ := ih (j + 1) _ n q h
        have hm : m ≠ 0 := by omega
        have hf : form (m * 128 + (l[p + j] % 128).toNat) = l[p + j] :: form m := by
          rw [form_big (by omega)]
          have e1 : (m * 128 + (l[p + j] % 128).toNat) / 128 = m := by omega
          have e2 : (((m * 128 + (l[p + j] % 128).toNat) % 128 + 128 : Nat) : Int) = l[p + j] := by omega
          rw [e1, e2]
        refine ⟨m * 128 + (l[p + j] % 128).toNat, ?_, by omega, ?_, ?_⟩
        · rw [h1, pw_succ]
          have e3 : ((m * 128 + (l[p + j] % 128).toNat : Nat) : Int) = (m : Int) * 128 + l[p + j] % 128 := by omega
          rw [e3, Int.add_mul, Int.mul_comm (pw j) 128, ← Int.mul_assoc, Int.add_assoc, Int.add_comm (l[p + j] % 128 * pw j)]
        · rw [hf, List.drop_eq_getElem_cons hlt, show p + j + 1 = p + (j + 1) from rfl, h3]; rfl
        · rw [hf, h4]; simp only [List.length_cons]; omega
    · rw [if_neg c] at h; cases h
theorem getNum_inv {l : List Int} (hl : ∀ x ∈ l, 0 ≤ x ∧ x < 256) {p : Nat} {n q : Int} (h : getNum l p = some (n, q)) : l.drop p = putNum n ++ l.drop q.toNat ∧ q = p + (putNum n).length ∧ 0 ≤ n ∧ n ≤ 9223372036854775807 := by
  have hr := getNum_range hl h
  unfold getNum at h
  rw [if_neg (by omega)] at h
  obtain ⟨m, h1, _, h3, h4⟩ := getM_inv l hl p 9 0 0 n q h
  rw [pw_zero] at h1
  obtain rfl : n = (m : Int) := by omega
  have e : putNum (m : Int) = form m := by rw [putNum_nonneg (by omega), Int.toNat_natCast]
  rw [e]
  exact ⟨h3, by omega, hr.1, hr.2.1⟩
theorem getsM_inv {l : List Int} (hl : ∀ x ∈ l, 0 ≤ x ∧ x < 256) : ∀ (m p : Nat) (acc r : List Int) (q : Int), getsM l m p acc = some (r, q) → ∃ ns, r = acc ++ ns ∧ ns.length = m ∧ l.drop p = ns.flatMap putNum ++ l.drop q.toNat ∧ q = p + (ns.flatMap putNum).length ∧ ∀ x ∈ ns, 0 ≤ x ∧ x ≤ 9223372036854775807 := by
  intro m
  induction m with
  | zero =>
    intro p acc r q h
    simp only [getsM, Option.some.injEq, Prod.mk.injEq] at h
    exact ⟨[], by simp [h.1], rfl, by rw [← h.2]; simp, by rw [← h.2]; simp, by simp⟩
  | succ m ih =>
    intro p acc r q h
    simp only [getsM] at h
    cases hg : getNum l p with
    | none => rw [hg] at h; cases h
    | some nq =>
      obtain ⟨n, q1⟩ := nq
      rw [hg] at h
      simp only at h
      obtain ⟨g1, g2, g3, g4⟩ := getNum_inv hl hg
      obtain ⟨p1, rfl⟩ : ∃ p1 : Nat, q1 = p1 := ⟨q1.toNat, by omega⟩
      obtain ⟨ns, h1, h2, h3, h4, h5⟩ := ih p1 _ r q h
      refine ⟨n :: ns, by rw [h1]; simp, by simp [h2], ?_, ?_, ?_⟩
      · rw [g1, Int.toNat_natCast, h3, List.flatMap_cons, List.append_assoc]
      · rw [h4, List.flatMap_cons, List.length_append]; omega
      · intro x hx
        rcases List.mem_cons.1 hx with rfl | hx
        · exact ⟨g3, g4⟩
        · exact h5 x hx
theorem getNums_inv {l : List Int} (hl : ∀ x ∈ l, 0 ≤ x ∧ x < 256) {many : Int} {r : List Int} {q : Int} (h : getNums l 0 many = some (r, q)) : l = r.flatMap putNum ++ l.drop q.toNat ∧ q = (r.flatMap putNum).length ∧ (r.length : Int) = many ∧ ∀ x ∈ r, 0 ≤ x ∧ x ≤ 9223372036854775807 := by
  have hlen := getNums_len h
  unfold getNums at h
  by_cases c : 0 ≤ many ∧ many ≤ 2000 ∧ (0 : Int) ≤ 0 ∧ 0 ≤ (l.length : Int)
  · rw [if_pos c] at h
    obtain ⟨ns, h1, h2, h3, h4, h5⟩ := getsM_inv hl many.toNat 0 [] r q h
    simp only [List.nil_append] at h1
    subst h1
    exact ⟨by simpa using h3, by simpa using h4, hlen.1, h5⟩
  · rw [if_neg c] at h; cases h
theorem replyRead_pack (c v : Int) (h : (0 ≤ c ∧ c ≤ 8) ∧ (-1000000000000000 ≤ v ∧ v ≤ 1000000000000000)) : replyRead (replyPack c v).1 = (c, v, true) := by
  unfold replyPack
  rw [if_pos h]
  have hg : getNums (putNum c ++ putNum (v + 1000000000000000)) 0 2 = some ([c, v + 1000000000000000], ((putNum c ++ putNum (v + 1000000000000000)).length : Int)) := by
    have := getNums_put [c, v + 1000000000000000] [] (by intro x hx; simp at hx; omega) (by simp)
    rw [putNums_two (by omega) (by omega), List.append_nil] at this
    exact this
  unfold replyRead replyM
  rw [hg]
  have e : wrap64 (v + 1000000000000000 - 1000000000000000) = v := by rw [w_in (by omega) (by omega)]; omega
  have h1 : (told3s (some ([c, v + 1000000000000000], ((putNum c ++ putNum (v + 1000000000000000)).length : Int)))).2.2 = true ∧ (told3s (some ([c, v + 1000000000000000], ((putNum c ++ putNum (v + 1000000000000000)).length : Int)))).2.1 = ((putNum c ++ putNum (v + 1000000000000000)).length : Int) := ⟨rfl, rfl⟩
  rw [if_pos h1]
  show (if 0 ≤ c ∧ c ≤ 8 then (if -1000000000000000 ≤ wrap64 (v + 1000000000000000 - 1000000000000000) ∧ wrap64 (v + 1000000000000000 - 1000000000000000) ≤ 1000000000000000 then (c, wrap64 (v + 1000000000000000 - 1000000000000000), true) else (0, 0, false)) else (0, 0, false)) = _
  rw [e, if_pos h.1, if_pos h.2]
theorem replyM_two (a b q n : Int) : replyM ([a, b], q, true) n = if q = n then (if 0 ≤ a ∧ a ≤ 8 then (if -1000000000000000 ≤ wrap64 (b - 1000000000000000) ∧ wrap64 (b - 1000000000000000) ≤ 1000000000000000 then (a, wrap64 (b - 1000000000000000), true) else (0, 0, false)) else (0, 0, false)) else (0, 0, false) := by
  simp only [replyM, show rd [a, b] 0 = a from rfl, show rd [a, b] 1 = b from rfl, true_and]
theorem replyPack_read (l : List Int) (hl : ∀ x ∈ l, 0 ≤ x ∧ x < 256) : (replyRead l).2.2 = true → replyPack (replyRead l).1 (replyRead l).2.1 = (l, true) := by
  intro h
  cases hg : getNums l 0 2 with
  | none =>
    have e : replyRead l = (0, 0, false) := by unfold replyRead replyM; rw [hg]; rfl
    rw [e] at h; cases h
  | some rq =>
    obtain ⟨r, q⟩ := rq
    obtain ⟨h1, h2, h3, h4⟩ := getNums_inv hl hg
    match r, h3 with
    | [a, b], _ =>
      have e : replyRead l = replyM ([a, b], q, true) l.length := by unfold replyRead; rw [hg]; rfl
      have ha := h4 a (by simp)
      have hb := h4 b (by simp)
      have ew : wrap64 (b - 1000000000000000) = b - 1000000000000000 := w_in (by omega) (by omega)
      rw [e, replyM_two, ew] at h ⊢
      by_cases c1 : q = (l.length : Int)
      · rw [if_pos c1] at h ⊢
        by_cases c2 : 0 ≤ a ∧ a ≤ 8
        · rw [if_pos c2] at h ⊢
          by_cases c3 : -1000000000000000 ≤ b - 1000000000000000 ∧ b - 1000000000000000 ≤ 1000000000000000
          · rw [if_pos c3]
            have hm : (0 ≤ a ∧ a ≤ 8) ∧ (-1000000000000000 ≤ b - 1000000000000000 ∧ b - 1000000000000000 ≤ 1000000000000000) := ⟨c2, c3⟩
            have hl2 : l = putNum a ++ putNum b := by
              have hd : l.drop q.toNat = [] := List.drop_eq_nil_of_le (by omega)
              rw [hd] at h1
              simpa using h1
            show replyPack a (b - 1000000000000000) = (l, true)
            unfold replyPack
            rw [if_pos hm, show b - 1000000000000000 + 1000000000000000 = b from by omega, ← hl2]
          · rw [if_neg c3] at h; cases h
        · rw [if_neg c2] at h; cases h
      · rw [if_neg c1] at h; cases h
theorem replyRead_no (l : List Int) (h : ¬ (replyRead l).2.2 = true) : (replyRead l).1 = 0 ∧ (replyRead l).2.1 = 0 := by
  unfold replyRead replyM at h ⊢
  by_cases c1 : (told3s (getNums l 0 2)).2.2 = true ∧ (told3s (getNums l 0 2)).2.1 = (l.length : Int)
  · rw [if_pos c1] at h ⊢
    by_cases c2 : 0 ≤ rd (told3s (getNums l 0 2)).1 0 ∧ rd (told3s (getNums l 0 2)).1 0 ≤ 8
    · rw [if_pos c2] at h ⊢
      by_cases c3 : -1000000000000000 ≤ wrap64 (rd (told3s (getNums l 0 2)).1 1 - 1000000000000000) ∧ wrap64 (rd (told3s (getNums l 0 2)).1 1 - 1000000000000000) ≤ 1000000000000000
      · rw [if_pos c3] at h; exact absurd rfl h
      · rw [if_neg c3]; exact ⟨rfl, rfl⟩
    · rw [if_neg c2]; exact ⟨rfl, rfl⟩
  · rw [if_neg c1]; exact ⟨rfl, rfl⟩
theorem put_bytes (x : Int) (h : x ≤ 9223372036854775807) : ∀ b ∈ putNum x, 0 ≤ b ∧ b < 256 := by
  have form_bytes : ∀ (d n : Nat), n < 128 ^ (d + 1) → ∀ b ∈ form n, 0 ≤ b ∧ b < 256 := by
    intro d
    induction d with
    | zero => intro n hn b hb; rw [form_small (by simpa using hn)] at hb; simp at hb hn; omega
    | succ d ih =>
      intro n hn b hb
      by_cases c : n < 128
      · rw [form_small c] at hb; simp at hb; omega
      · rw [form_big c] at hb
        rcases List.mem_cons.1 hb with hb | hb
        · omega
        · exact ih (n / 128) (by rw [Nat.pow_succ] at hn; omega) b hb
  unfold putNum
  split
  · simp
  · exact form_bytes 8 _ (Nat.lt_of_le_of_lt (show x.toNat ≤ 9223372036854775807 by omega) (by decide))
theorem and_range (x : Int) (m : Nat) (hm : m < 2 ^ 63) : 0 ≤ Go.bits .and .i64 x m ∧ Go.bits .and .i64 x m ≤ m := by
  have h : (BitVec.ofInt IntKind.i64.bits x &&& BitVec.ofInt IntKind.i64.bits (m : Int)).toNat ≤ m := by
    rw [BitVec.toNat_and, BitVec.ofInt_natCast, BitVec.toNat_ofNat]
    exact Nat.le_trans Nat.and_le_right (Nat.mod_le _ _)
  have e : Go.bits .and .i64 x (m : Int) = (((BitVec.ofInt IntKind.i64.bits x &&& BitVec.ofInt IntKind.i64.bits (m : Int)).toNat : Nat) : Int) := wraps_i64 _ (by omega) (by exact_mod_cast Nat.lt_of_le_of_lt h hm)
  rw [e]
  omega
theorem draw_new (l : List Int) (k : Nat) (hk : 4001 < k) : ∃ h, spec_l1New.f k l = some (l, 0, h) := by
  have loop : ∀ (d i : Nat) (h : Int), i + d = 4001 → ∀ k, d < k → ∃ h', spec_l1New.l0 k l h (i : Int) = some (l, 0, h') := by
    intro d
    induction d with
    | zero =>
      intro i h hi k hk
      obtain ⟨k, rfl⟩ : ∃ m, k = m + 1 := ⟨k - 1, by omega⟩
      simp only [spec_l1New.l0]
      by_cases c : (i : Int) < (l.length : Int)
      · rw [if_pos c, if_neg (by omega)]; exact ⟨_, rfl⟩
      · rw [if_neg c]; exact ⟨_, rfl⟩
    | succ d ih =>
      intro i h hi k hk
      obtain ⟨k, rfl⟩ : ∃ m, k = m + 1 := ⟨k - 1, by omega⟩
      simp only [spec_l1New.l0]
      by_cases c : (i : Int) < (l.length : Int)
      · rw [if_pos c]
        by_cases c2 : (i : Int) < 4000
        · rw [if_pos c2, if_pos (by omega), w_in (n := (i : Int) + 1) (by omega) (by omega)]
          exact ih (i + 1) _ (by omega) k (by omega)
        · rw [if_neg c2]; exact ⟨_, rfl⟩
      · rw [if_neg c]; exact ⟨_, rfl⟩
  unfold spec_l1New.f
  exact loop 4001 0 _ rfl k (by omega)
theorem draw_byte (l : List Int) (i h : Int) (hl : l.length ≤ 1048576) (hi : 0 ≤ i) : ∃ b i' h', spec_l1Byte.f l i h = some (b, i', h') ∧ 0 ≤ b ∧ b ≤ 255 ∧ 0 ≤ i' := by
  unfold spec_l1Byte.f
  by_cases c : i < (l.length : Int)
  · rw [if_pos c, if_pos hi]
    have := and_range (wrap64 (Go.bits .and .i64 (Go.bits .xor .i64 (wrap64 (wrap64 (h * 6364136223846793005) + 1442695040888963407) / 8589934592) (wrap64 (wrap64 (h * 6364136223846793005) + 1442695040888963407) / 35184372088832)) 255 + wrap64 (rd l i))) 255 (by decide)
    exact ⟨_, _, _, rfl, this.1, this.2, by rw [w_in (by omega) (by omega)]; omega⟩
  · rw [if_neg c]
    have := and_range (Go.bits .xor .i64 (wrap64 (wrap64 (h * 6364136223846793005) + 1442695040888963407) / 8589934592) (wrap64 (wrap64 (h * 6364136223846793005) + 1442695040888963407) / 35184372088832)) 255 (by decide)
    exact ⟨_, _, _, rfl, this.1, this.2, hi⟩
theorem draw_below (l : List Int) (i h n : Int) (hl : l.length ≤ 1048576) (hi : 0 ≤ i) : ∃ r i' h', spec_l1Below.f l i h n = some (r, i', h') ∧ 0 ≤ i' ∧ 0 ≤ r ∧ (0 < n → r < n) ∧ (n ≤ 0 → r = 0) ∧ r ≤ 4294967295 := by
  unfold spec_l1Below.f
  by_cases c : n ≤ 0
  · rw [if_pos c]; exact ⟨_, _, _, rfl, hi, by omega, by omega, fun _ => rfl, by omega⟩
  · rw [if_neg c]
    by_cases c2 : n ≤ 256
    · rw [if_pos c2]
      obtain ⟨b, i', h', e, h0, h1, h2⟩ := draw_byte l i h hl hi
      rw [e]
      simp only [Option.bind_some]
      rw [if_neg (by omega), Int.tmod_eq_emod_of_nonneg h0]
      have := Int.emod_lt_of_pos b (show 0 < n by omega)
      have := Int.emod_nonneg b (show n ≠ 0 by omega)
      exact ⟨_, _, _, rfl, h2, by omega, by omega, by omega, by omega⟩
    · rw [if_neg c2]
      obtain ⟨b1, i1, h1, e1, p1, q1, r1⟩ := draw_byte l i h hl hi
      obtain ⟨b2, i2, h2, e2, p2, q2, r2⟩ := draw_byte l i1 h1 hl r1
      obtain ⟨b3, i3, h3, e3, p3, q3, r3⟩ := draw_byte l i2 h2 hl r2
      obtain ⟨b4, i4, h4, e4, p4, q4, r4⟩ := draw_byte l i3 h3 hl r3
      simp only [e1, e2, e3, e4, Option.bind_some]
      rw [if_neg (by omega)]
      have hx : wrap64 (wrap64 (wrap64 (wrap64 (b1 * 16777216) + wrap64 (b2 * 65536)) + wrap64 (b3 * 256)) + b4) = b1 * 16777216 + b2 * 65536 + b3 * 256 + b4 := by
        rw [w_in (n := b1 * 16777216) (by omega) (by omega), w_in (n := b2 * 65536) (by omega) (by omega), w_in (n := b3 * 256) (by omega) (by omega), w_in (n := b1 * 16777216 + b2 * 65536) (by omega) (by omega), w_in (n := b1 * 16777216 + b2 * 65536 + b3 * 256) (by omega) (by omega), w_in (by omega) (by omega)]
      rw [hx, Int.tmod_eq_emod_of_nonneg (by omega)]
      have hlt := Int.emod_lt_of_pos (b1 * 16777216 + b2 * 65536 + b3 * 256 + b4) (show 0 < n by omega)
      have hge := Int.emod_nonneg (b1 * 16777216 + b2 * 65536 + b3 * 256 + b4) (show n ≠ 0 by omega)
      have hle : (b1 * 16777216 + b2 * 65536 + b3 * 256 + b4) % n ≤ b1 * 16777216 + b2 * 65536 + b3 * 256 + b4 := by
        have hd := Int.mul_ediv_add_emod (b1 * 16777216 + b2 * 65536 + b3 * 256 + b4) n
        have hq : 0 ≤ n * ((b1 * 16777216 + b2 * 65536 + b3 * 256 + b4) / n) := Int.mul_nonneg (by omega) (Int.ediv_nonneg (by omega) (by omega))
        omega
      exact ⟨_, _, _, rfl, r4, hge, fun _ => hlt, fun h => absurd h c, by omega⟩
theorem draw_pick (l : List Int) (i h : Int) (xs : List Int) (hl : l.length ≤ 1048576) (hi : 0 ≤ i) (hx : 0 < xs.length) : ∃ r i' h', spec_l1PickInt.f l i h xs = some (r, i', h') ∧ 0 ≤ i' ∧ r ∈ xs := by
  unfold spec_l1PickInt.f
  obtain ⟨r, i', h', e, a, b, c, _, _⟩ := draw_below l i h xs.length hl hi
  rw [e]
  simp only [Option.bind_some]
  have := c (by omega)
  rw [if_pos b, if_pos this]
  exact ⟨_, _, _, rfl, a, rd_mem b this⟩
theorem draw_once (l : List Int) (i h n : Int) (hl : l.length ≤ 1048576) (hi : 0 ≤ i) : ∃ r i' h', spec_l1Once.f l i h n = some (r, i', h') ∧ 0 ≤ i' := by
  unfold spec_l1Once.f
  obtain ⟨r, i', h', e, a, _⟩ := draw_below l i h n hl hi
  rw [e]
  exact ⟨_, _, _, rfl, a⟩
theorem draw_amount (l : List Int) (i h : Int) (hl : l.length ≤ 1048576) (hi : 0 ≤ i) : ∃ r i' h', spec_l1DrawAmount.f l i h = some (r, i', h') ∧ 0 ≤ i' := by
  unfold spec_l1DrawAmount.f
  obtain ⟨r, i1, h1, e1, p1, _⟩ := draw_below l i h 8 hl hi
  rw [e1, Option.bind_some]
  dsimp only
  by_cases c0 : r = 0
  · rw [if_pos c0]
    obtain ⟨r2, i2, h2, e2, p2, _⟩ := draw_pick l i1 h1 [0, 1, -1, 1000000000000000, -1000000000000000, 1000000000000001, -1000000000000001, 9223372036854775807, -9223372036854775808] hl p1 (by simp)
    rw [e2]; exact ⟨_, _, _, rfl, p2⟩
  · rw [if_neg c0]
    by_cases c1 : r = 1
    · rw [if_pos c1]
      obtain ⟨r2, i2, h2, e2, p2, _⟩ := draw_below l i1 h1 2000000000 hl p1
      rw [e2]; exact ⟨_, _, _, rfl, p2⟩
    · rw [if_neg c1]
      by_cases c2 : r = 2
      · rw [if_pos c2]
        obtain ⟨r2, i2, h2, e2, p2, _⟩ := draw_below l i1 h1 5000 hl p1
        rw [e2]; exact ⟨_, _, _, rfl, p2⟩
      · rw [if_neg c2]
        by_cases c3 : r = 3
        · rw [if_pos c3]
          obtain ⟨r2, i2, h2, e2, p2, _⟩ := draw_below l i1 h1 60000000 hl p1
          rw [e2]; exact ⟨_, _, _, rfl, p2⟩
        · rw [if_neg c3]
          obtain ⟨r2, i2, h2, e2, p2, _⟩ := draw_below l i1 h1 1000 hl p1
          rw [e2]; exact ⟨_, _, _, rfl, p2⟩
theorem draw_bytes12_j1 (l : List Int) (i h : Int) (xs : List Int) (hl : l.length ≤ 1048576) (hi : 0 ≤ i) (hx : ∀ x ∈ xs, 0 ≤ x ∧ x < 256) (hn : xs.length ≤ 1048576) (k : Nat) (hk : 0 < k) : ∃ r i' h', spec_l12DrawBytes.j1 k xs l i h = some (r, i', h') ∧ (∀ x ∈ r, 0 ≤ x ∧ x < 256) ∧ r.length ≤ xs.length + 1 := by
  obtain ⟨k, rfl⟩ : ∃ m, k = m + 1 := ⟨k - 1, by omega⟩
  rw [spec_l12DrawBytes.j1]
  have tail : ∀ (ys : List Int) (i1 h1 : Int), 0 ≤ i1 → (∀ x ∈ ys, 0 ≤ x ∧ x < 256) → ys.length ≤ xs.length → ∃ r i' h', ((spec_l1Once.f l i1 h1 9).bind fun b => (if b.1 = true then (if ys.length < 140737488355328 then (some ((ys ++ [0]), b.2.1, b.2.2)) else (none)) else (some (ys, b.2.1, b.2.2)))) = some (r, i', h') ∧ (∀ x ∈ r, 0 ≤ x ∧ x < 256) ∧ r.length ≤ xs.length + 1 := by
    intro ys i1 h1 p1 hy hyl
    obtain ⟨o, i2, h2, e2, p2⟩ := draw_once l i1 h1 9 hl p1
    rw [e2, Option.bind_some]
    dsimp only
    by_cases c : o = true
    · rw [if_pos c, if_pos (by omega)]
      refine ⟨_, _, _, rfl, fun x hx => ?_, by simp; omega⟩
      rcases List.mem_append.1 hx with hx | hx
      · exact hy x hx
      · simp at hx; omega
    · rw [if_neg c]
      exact ⟨_, _, _, rfl, hy, by omega⟩
  obtain ⟨o, i1, h1, e1, p1⟩ := draw_once l i h 9 hl hi
  rw [e1, Option.bind_some]
  dsimp only
  by_cases c : o = true
  · rw [if_pos c]
    obtain ⟨n, i2, h2, e2, p2, q2, lt, _, _⟩ := draw_below l i1 h1 (wrap64 ((xs.length : Int) + 1)) hl p1
    rw [e2, Option.bind_some]
    dsimp only
    rw [w_in (by omega) (by omega)] at lt
    have := lt (by omega)
    rw [if_pos q2, if_pos (by omega), Option.bind_some]
    exact tail (xs.take n.toNat) i2 h2 p2 (fun x hx' => hx x (List.mem_of_mem_take hx')) (by simp; omega)
  · rw [if_neg c]
    exact tail xs i1 h1 p1 hx (Nat.le_refl _)
theorem draw_bytes12 (l : List Int) (i h : Int) (xs : List Int) (hl : l.length ≤ 1048576) (hi : 0 ≤ i) (hx : ∀ x ∈ xs, 0 ≤ x ∧ x < 256) (hn : xs.length ≤ 1048576) (k : Nat) (hk : 1 < k) : ∃ r i' h', spec_l12DrawBytes.f k l i h xs = some (r, i', h') ∧ (∀ x ∈ r, 0 ≤ x ∧ x < 256) ∧ r.length ≤ xs.length + 1 := by
  obtain ⟨k, rfl⟩ : ∃ m, k = m + 1 := ⟨k - 1, by omega⟩
  unfold spec_l12DrawBytes.f
  by_cases c : (xs.length : Int) > 0
  · rw [if_pos c]
    obtain ⟨o, i1, h1, e1, p1⟩ := draw_once l i h 3 hl hi
    rw [e1, Option.bind_some]
    dsimp only
    rw [spec_l12DrawBytes.j0]
    by_cases c2 : o = true
    · rw [if_pos c2]
      obtain ⟨n, i2, h2, e2, p2, q2, lt, _, _⟩ := draw_below l i1 h1 xs.length hl p1
      rw [e2, Option.bind_some]
      dsimp only
      obtain ⟨v, i3, h3, e3, p3, m3⟩ := draw_pick l i2 h2 [0, 1, 2, 11, 12, 127, 128, 255] hl p2 (by simp)
      rw [e3, Option.bind_some]
      dsimp only
      have := lt (by omega)
      rw [if_pos q2, if_pos this]
      obtain ⟨r, i', h', e, a, b⟩ := draw_bytes12_j1 l i3 h3 (xs.set n.toNat (v % 256)) hl p3 (fun x hx' => by
        rcases List.mem_or_eq_of_mem_set hx' with hx' | rfl
        · exact hx x hx'
        · omega) (by simpa using hn) k (by omega)
      exact ⟨r, i', h', e, a, by simpa using b⟩
    · rw [if_neg c2]
      exact draw_bytes12_j1 l i1 h1 xs hl p1 hx hn k (by omega)
  · rw [if_neg c, spec_l12DrawBytes.j0, if_neg (by decide)]
    exact draw_bytes12_j1 l i h xs hl hi hx hn k (by omega)
theorem draw_reply_pack (l : List Int) (hl : l.length ≤ 1048576) (k : Nat) (hk : 4100 < k) : ∃ c v, spec_DrawReplyPack.f k l = some (c, v) := by
  unfold spec_DrawReplyPack.f
  obtain ⟨h, e⟩ := draw_new l k (by omega)
  rw [e, Option.bind_some]
  dsimp only
  obtain ⟨a, i1, h1, e1, p1, _⟩ := draw_below l 0 h 11 hl (by omega)
  rw [e1, Option.bind_some]
  dsimp only
  obtain ⟨b, i2, h2, e2, p2, _⟩ := draw_below l i1 h1 20 hl p1
  rw [e2, Option.bind_some]
  dsimp only
  obtain ⟨v, i3, h3, e3, p3⟩ := draw_amount l i2 h2 hl p2
  rw [e3, Option.bind_some]
  exact ⟨_, _, rfl⟩
theorem replyPack_bytes (c v : Int) : ∀ x ∈ (replyPack c v).1, 0 ≤ x ∧ x < 256 := by
  unfold replyPack
  by_cases h : (0 ≤ c ∧ c ≤ 8) ∧ (-1000000000000000 ≤ v ∧ v ≤ 1000000000000000)
  · rw [if_pos h]
    intro x hx
    rcases List.mem_append.1 hx with hx | hx
    · exact put_bytes c (by omega) x hx
    · exact put_bytes _ (by omega) x hx
  · rw [if_neg h]; simp
theorem draw_reply_read (l : List Int) (hl : l.length ≤ 1048576) (k : Nat) (hk : 4100 < k) : ∃ r, spec_DrawReplyRead.f k l = some r ∧ (∀ x ∈ r, 0 ≤ x ∧ x < 256) ∧ r.length ≤ 100 := by
  unfold spec_DrawReplyRead.f
  obtain ⟨h, e⟩ := draw_new l k (by omega)
  rw [e, Option.bind_some]
  dsimp only
  obtain ⟨a, i1, h1, e1, p1, _⟩ := draw_below l 0 h 9 hl (by omega)
  rw [e1, Option.bind_some]
  dsimp only
  obtain ⟨v, i2, h2, e2, p2⟩ := draw_amount l i1 h1 hl p1
  rw [e2, Option.bind_some]
  dsimp only
  rw [spec_replypack _ _ k (by omega), Option.bind_some]
  have hlen := replyPack_len a (Int.tmod v 100000)
  have hby := replyPack_bytes a (Int.tmod v 100000)
  by_cases c : (replyPack a (Int.tmod v 100000)).2 = true
  · rw [if_pos c]
    obtain ⟨r, i', h', e, x, y⟩ := draw_bytes12 l i2 h2 _ hl p2 hby (by omega) k (by omega)
    rw [e]
    exact ⟨_, rfl, x, by dsimp only; omega⟩
  · rw [if_neg c]
    obtain ⟨r, i', h', e, x, y⟩ := draw_bytes12 l i2 h2 [0] hl p2 (by intro x hx; simp at hx; omega) (by simp) k (by omega)
    rw [e]
    exact ⟨_, rfl, x, by simp at y ⊢; omega⟩
theorem FnReplyBytes : laws_FnReplyBytes.Pure := by
  intro l _ _ _
  obtain ⟨K, hK⟩ : ∃ K, K = 5000 := ⟨_, rfl⟩
  refine ⟨K + 1, ?_⟩
  unfold laws_FnReplyBytes.f laws_big.f
  rw [Option.bind_some]
  by_cases h : (l.length : Int) > 1048576
  · rw [if_pos (by simpa using h)]
  · rw [if_neg (by simpa using h)]
    have hj : laws_FnReplyBytes.j0 (K + 1) l = some true := by
      rw [laws_FnReplyBytes.j0]
      obtain ⟨r, er, hb, hn⟩ := draw_reply_read l (by omega) K (by omega)
      rw [er, Option.bind_some, impl_reply_read r hb (by omega) K (by omega), Option.bind_some, spec_reply_read r hb (by omega) K (by omega), Option.bind_some]
      rw [if_neg (by simp), impl_replypack _ _ K (by omega), Option.bind_some]
      by_cases c : (replyRead r).2.2 = true
      · rw [if_pos c, replyPack_read r hb c]
        simp
      · rw [if_neg c]
        have := replyRead_no r c
        rw [this.1, this.2]
        rfl
    obtain ⟨c, v, e⟩ := draw_reply_pack l (by omega) (K + 1) (by omega)
    rw [e, Option.bind_some]
    dsimp only
    rw [impl_replypack c v (K + 1) (by omega), Option.bind_some, spec_replypack c v (K + 1) (by omega), Option.bind_some, if_neg (by simp)]
    by_cases c1 : (0 ≤ c ∧ c ≤ 8) ∧ (-1000000000000000 ≤ v ∧ v ≤ 1000000000000000)
    · have e2 : (replyPack c v).2 = true := by unfold replyPack; rw [if_pos c1]
      have hlen := replyPack_len c v
      rw [if_pos e2, impl_reply_read _ (replyPack_bytes c v) (by omega) (K + 1) (by omega), Option.bind_some, replyRead_pack c v c1]
      simp only [if_true, beq_self_eq_true, Bool.not_true, Bool.or_self, Bool.false_eq_true, if_false]
      exact hj
    · have e2 : ¬ (replyPack c v).2 = true := by unfold replyPack; rw [if_neg c1]; decide
      rw [if_neg e2]
      exact hj
end Go.Proofs.Ytnafmfhfonhmaaa.Pure
