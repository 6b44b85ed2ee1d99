/- Numbers are read from their forms one behind the other, whatever stands behind them (the pure side of FnNums). No condition. -/
import Derived.Test.YtnafmfhfonhmaaaPFnNumsx
import Derived.Test.YtnafmfhfonhmaaaU0
namespace Go.Proofs.Ytnafmfhfonhmaaa.Pure
open Go.RowKit Go.Proofs.Ytnafmfhfonhmaaa.PFnNums Go.Proofs.YtnafmfhfonhmaaaW.PrintWords Go.Proofs.YtnafmfhfonhmaaaW.PrintLast Go.Proofs.Ytnafmfhfonhmaaa.U0
set_option linter.unusedSimpArgs false
set_option linter.unusedVariables false

theorem impl_in_tells (a lo hi : Int) : impl_in.f a lo hi = some (decide (lo ≤ a ∧ a ≤ hi)) := by
  unfold impl_in.f
  by_cases c : lo ≤ a
  · rw [if_pos (show a ≥ lo from c)]; congr 1; simp [c]
  · rw [if_neg (show ¬ a ≥ lo from c)]; simp [c]
/-- The number form: seven bits a byte, the lowest first, 128 added to each but the last. -/
def form (n : Nat) : List Int := if h : n < 128 then [(n : Int)] else ((n % 128 + 128 : Nat) : Int) :: form (n / 128)
termination_by n
decreasing_by omega
theorem form_small {n : Nat} (h : n < 128) : form n = [(n : Int)] := by rw [form, dif_pos h]
theorem form_big {n : Nat} (h : ¬ n < 128) : form n = ((n % 128 + 128 : Nat) : Int) :: form (n / 128) := by rw [form, dif_neg h]
theorem form_len (d : Nat) : ∀ n, n < 128 ^ (d + 1) → (form n).length ≤ d + 1 := by
  induction d with
  | zero => intro n h; rw [form_small (by simpa using h)]; simp
  | succ d ih =>
    intro n h
    by_cases c : n < 128
    · rw [form_small c]; simp
    · rw [form_big c, List.length_cons]
      have := ih (n / 128) (by rw [Nat.pow_succ] at h; omega)
      omega

/-- What a PutNum tells: the form, or nothing of what is below 0. -/
def putNum (x : Int) : List Int := if x < 0 then [] else form x.toNat
theorem putNum_len (x : Int) (h : x ≤ 9223372036854775807) : (putNum x).length ≤ 9 := by
  unfold putNum
  split
  · simp
  · exact form_len 8 _ (Nat.lt_of_le_of_lt (show x.toNat ≤ 9223372036854775807 by omega) (by decide))
theorem impl_put_loop (d : Nat) : ∀ (n : Nat) (acc : List Int), n < 128 ^ (d + 1) → n ≤ 9223372036854775807 → acc.length + d < 140737488355327 → ∀ k, d < k → impl_PutNum.l0 k n acc = some (acc ++ form n) := by
  induction d with
  | zero =>
    intro n acc h _ ha k hk
    obtain ⟨k, rfl⟩ : ∃ m, k = m + 1 := ⟨k - 1, by omega⟩
    simp only [impl_PutNum.l0]
    rw [if_neg (by omega), if_pos (by omega), form_small (by omega), show ((n : Int)) % 256 = n from by omega]
  | succ d ih =>
    intro n acc h h63 ha k hk
    obtain ⟨k, rfl⟩ : ∃ m, k = m + 1 := ⟨k - 1, by omega⟩
    simp only [impl_PutNum.l0]
    by_cases c : n < 128
    · rw [if_neg (by omega), if_pos (by omega), form_small c, show ((n : Int)) % 256 = n from by omega]
    · rw [if_pos (by omega), if_pos (by omega)]
      have e1 : (n : Int) / 128 = ((n / 128 : Nat) : Int) := by omega
      have e2 : Go.bits .or .i64 (Go.bits .and .i64 (n : Int) 127) 128 % 256 = ((n % 128 + 128 : Nat) : Int) := by
        rw [and127 (by omega) (by omega), or128 (by omega) (by omega)]; omega
      rw [e1, e2, ih (n / 128) _ (by rw [Nat.pow_succ] at h; omega) (by omega) (by simp; omega) k (by omega), form_big c]
      simp

theorem impl_put (x : Int) (h : x ≤ 9223372036854775807) (k : Nat) (hk : 9 < k) : impl_PutNum.f k x = some (putNum x) := by
  unfold impl_PutNum.f putNum
  by_cases c : x < 0
  · rw [if_pos c, if_pos c]
  · obtain ⟨n, rfl⟩ := Int.eq_ofNat_of_zero_le (Int.not_lt.1 c)
    rw [if_neg c, if_neg c, Int.toNat_natCast]
    simpa using impl_put_loop 9 n [] (Nat.lt_of_le_of_lt (show n ≤ 9223372036854775807 by omega) (by decide)) (by omega) (by decide) k hk
/-- What a PutNums tells: the forms, one behind the other; nothing when one is below 0. -/
def putNums (l : List Int) : List Int := if l.any (fun x => decide (x < 0)) then [] else l.flatMap putNum
theorem flat_len (l : List Int) (h : ∀ x ∈ l, x ≤ 9223372036854775807) : (l.flatMap putNum).length ≤ 9 * l.length := by
  induction l with
  | nil => simp
  | cons x xs ih =>
    have h1 := putNum_len x (h x (by simp))
    have h2 := ih (fun y hy => h y (by simp [hy]))
    simp only [List.flatMap_cons, List.length_append, List.length_cons]
    omega
theorem putNums_len (l : List Int) (h : ∀ x ∈ l, x ≤ 9223372036854775807) : (putNums l).length ≤ 9 * l.length := by
  unfold putNums
  split
  · simp
  · exact flat_len l h
theorem impl_putnums_loop (l : List Int) (hl : ∀ x ∈ l, x ≤ 9223372036854775807) (hn : l.length ≤ 1048576) (d : Nat) : ∀ (i : Nat) (acc : List Int), i + d = l.length → acc.length + 9 * d ≤ 9437184 → ∀ k, d + 11 < k →
    impl_PutNums.l0 k acc l l.length i = some (acc ++ (l.drop i).flatMap putNum) := by
  induction d with
  | zero =>
    intro i acc hi ha k hk
    obtain ⟨k, rfl⟩ : ∃ m, k = m + 1 := ⟨k - 1, by omega⟩
    simp only [impl_PutNums.l0]
    rw [if_neg (by omega), List.drop_eq_nil_of_le (by omega)]
    simp
  | succ d ih =>
    intro i acc hi ha k hk
    obtain ⟨k, rfl⟩ : ∃ m, k = m + 1 := ⟨k - 1, by omega⟩
    have hil : i < l.length := by omega
    have hx := hl _ (List.getElem_mem hil)
    simp only [impl_PutNums.l0]
    rw [if_pos (by omega), if_pos (by omega), if_pos (by omega), rd_lt hil, List.drop_eq_getElem_cons hil, List.flatMap_cons]
    rw [impl_put _ hx k (by omega)]
    have hp := putNum_len _ hx
    simp only [Option.bind_some]
    rw [if_pos (by omega), w_in (by omega) (by omega)]
    have := ih (i + 1) (acc ++ putNum l[i]) (by omega) (by simp; omega) k (by omega)
    rw [show ((i : Int) + 1) = ((i + 1 : Nat) : Int) from rfl, this, List.append_assoc]
theorem has_neg (l : List Int) : has_impl_PutNums_1.f l = some (l.any (fun x => decide (x < 0))) := by
  unfold has_impl_PutNums_1.f
  induction l with
  | nil => rfl
  | cons x xs ih =>
    simp only [hasO, impl_PutNums_1.f, Option.bind_some, List.any_cons]
    by_cases c : x < 0
    · simp [c]
    · rw [decide_eq_false c, if_neg (by decide), Bool.false_or]
      exact ih
theorem impl_putnums (l : List Int) (hl : ∀ x ∈ l, x ≤ 9223372036854775807) (hn : l.length ≤ 1048576) (k : Nat) (hk : l.length + 12 < k) : impl_PutNums.f k l = some (putNums l) := by
  unfold impl_PutNums.f putNums
  rw [has_neg]
  simp only [Option.bind_some]
  by_cases c : l.any (fun x => decide (x < 0)) = true
  · rw [if_pos c, if_pos c]
  · rw [if_neg c, if_neg c]
    simpa using impl_putnums_loop l hl hn l.length 0 [] (by omega) (by simp; omega) k (by omega)
/-- 2 to the 7 j. -/
def pw (j : Nat) : Int := 2 ^ (7 * j)
theorem pw_zero : pw 0 = 1 := rfl
theorem pw_succ (j : Nat) : pw (j + 1) = pw j * 128 := by unfold pw; rw [Nat.mul_add, Int.pow_add]; rfl
theorem pw_pos (j : Nat) : 0 < pw j := Int.pow_pos (by decide)
theorem pw_le (j : Nat) (h : j < 9) : pw j ≤ 72057594037927936 := by
  have : j = 0 ∨ j = 1 ∨ j = 2 ∨ j = 3 ∨ j = 4 ∨ j = 5 ∨ j = 6 ∨ j = 7 ∨ j = 8 := by omega
  rcases this with rfl | rfl | rfl | rfl | rfl | rfl | rfl | rfl | rfl <;> decide
/-- The number whose form stands from place p on, its first j bytes read as x already: the number, and the place behind it. d: how many bytes it may still have. -/
def getM (l : List Int) (p : Int) : Nat → Nat → Int → Option (Int × Int)
  | 0, _, _ => none
  | d + 1, j, x => if p + j < l.length then (if rd l (p + j) < 128 then (if rd l (p + j) = 0 ∧ 0 < j then none else some (x + rd l (p + j) * pw j, p + j + 1)) else getM l p d (j + 1) (x + rd l (p + j) % 128 * pw j)) else none
def told3 : Option (Int × Int) → Int × Int × Bool
  | none => (0, 0, false)
  | some (n, p) => (n, p, true)
/-- What a GetNum tells. -/
def getNum (l : List Int) (p : Int) : Option (Int × Int) := if p < 0 then none else getM l p 9 0 0
theorem mul_small {a b : Int} (h0 : 0 ≤ a) (h1 : a < 128) (hb : 0 < b) (hb1 : b ≤ 72057594037927936) : 0 ≤ a * b ∧ a * b + b ≤ 128 * b := by
  have h2 : 0 ≤ a * b := Int.mul_nonneg h0 (by omega)
  have h3 : (a + 1) * b ≤ 128 * b := Int.mul_le_mul_of_nonneg_right (by omega) (by omega)
  rw [Int.add_mul] at h3
  omega
theorem getM_range (l : List Int) (hl : ∀ x ∈ l, 0 ≤ x ∧ x < 256) (p : Int) (hp : 0 ≤ p) (d : Nat) : ∀ (j : Nat) (x : Int), j + d = 9 → 0 ≤ x → x < pw j → ∀ n q, getM l p d j x = some (n, q) → 0 ≤ n ∧ n ≤ 9223372036854775807 ∧ p < q ∧ q ≤ l.length := by
  induction d with
  | zero => intro j x _ _ _ n q h; simp [getM] at h
  | succ d ih =>
    intro j x hj h0 h1 n q h
    have hp8 := pw_le j (by omega)
    have hpp := pw_pos j
    simp only [getM] at h
    by_cases c : p + j < l.length
    · rw [if_pos c] at h
      have hb := hl _ (rd_mem (i := p + j) (by omega) c)
      by_cases c2 : rd l (p + j) < 128
      · rw [if_pos c2] at h
        by_cases c3 : rd l (p + j) = 0 ∧ 0 < j
        · rw [if_pos c3] at h; cases h
        · rw [if_neg c3] at h
          have hm := mul_small hb.1 c2 hpp hp8
          simp only [Option.some.injEq, Prod.mk.injEq] at h
          omega
      · rw [if_neg c2] at h
        have hm := mul_small (a := rd l (p + j) % 128) (by omega) (by omega) hpp hp8
        exact ih (j + 1) _ (by omega) (by omega) (by rw [pw_succ]; omega) n q h
    · rw [if_neg c] at h; cases h
theorem getNum_range {l : List Int} (hl : ∀ x ∈ l, 0 ≤ x ∧ x < 256) {p n q : Int} (h : getNum l p = some (n, q)) : 0 ≤ n ∧ n ≤ 9223372036854775807 ∧ p < q ∧ q ≤ l.length := by
  unfold getNum at h
  by_cases c : p < 0
  · rw [if_pos c] at h; cases h
  · rw [if_neg c] at h
    exact getM_range l hl p (by omega) 9 0 0 rfl (by omega) (by decide) n q h
theorem impl_get_loop (l : List Int) (hl : ∀ x ∈ l, 0 ≤ x ∧ x < 256) (hn : l.length ≤ 140737488355328) (p : Int) (hp : 0 ≤ p) (hp1 : p ≤ l.length) (d : Nat) : ∀ (j : Nat) (x : Int), j + d = 9 → 0 ≤ x → x < pw j → ∀ k, 2 * d + 1 < k →
    impl_GetNum.l0 k l p x j = some (told3 (getM l p d j x)) := by
  induction d with
  | zero =>
    intro j x hj h0 h1 k hk
    obtain ⟨k, rfl⟩ : ∃ m, k = m + 2 := ⟨k - 2, by omega⟩
    simp only [impl_GetNum.l0, impl_GetNum.j1, getM, told3]
    rw [if_neg (by omega), if_neg (by decide)]
  | succ d ih =>
    intro j x hj h0 h1 k hk
    obtain ⟨k, rfl⟩ : ∃ m, k = m + 2 := ⟨k - 2, by omega⟩
    have hp8 := pw_le j (by omega)
    have hpp := pw_pos j
    have e1 : wrap64 (p + j) = p + j := w_in (by omega) (by omega)
    have e7 : wrap64 (7 * (j : Int)) = 7 * j := w_in (by omega) (by omega)
    simp only [impl_GetNum.l0, impl_GetNum.j1, getM, e1, e7]
    rw [if_pos (by omega)]
    by_cases c : p + j < l.length
    · rw [if_pos (by simpa using c), if_pos (by omega), if_pos c, if_pos c, if_pos (by omega)]
      have hb := hl _ (rd_mem (i := p + j) (by omega) c)
      generalize hv : rd l (p + j) = v at *
      have e2 : wrap64 v = v := w_in (by omega) (by omega)
      have hm := mul_small (a := v % 128) (by omega) (by omega) hpp hp8
      have e4 : shl .i64 (v % 128) (7 * (j : Int)) = v % 128 * pw j := by
        unfold shl
        rw [show min (7 * (j : Int)).toNat IntKind.i64.bits = 7 * j from by simp [IntKind.bits]; omega]
        exact wraps_i64 _ hm.1 (by show v % 128 * pw j < _; omega)
      have e5 : Go.bits .or .i64 x (v % 128 * pw j) = x + v % 128 * pw j := or_join (7 * j) (by omega) h0 h1 (by omega) (by show v % 128 * pw j < _; omega)
      have e6 : wrap64 (p + j + 1) = p + j + 1 := w_in (by omega) (by omega)
      simp only [e2, and127 (x := v) (by omega) (by omega), e4, e5, e6]
      by_cases c2 : v < 128
      · have e7 : v % 128 = v := by omega
        rw [if_neg (by omega), if_pos c2, e7]
        by_cases c3 : v = 0
        · rw [if_pos c3]
          by_cases c4 : 0 < j
          · rw [if_pos (by omega), if_pos ⟨c3, c4⟩]; rfl
          · rw [if_neg (by omega), if_neg (by omega)]; rfl
        · rw [if_neg c3, if_neg (by omega)]; rfl
      · rw [if_pos (by omega), if_neg c2, w_in (n := (j : Int) + 1) (by omega) (by omega)]
        exact ih (j + 1) _ (by omega) (by omega) (by rw [pw_succ]; omega) k (by omega)
    · rw [if_neg (by simpa using c), if_neg c]; rfl
theorem impl_get (l : List Int) (hl : ∀ x ∈ l, 0 ≤ x ∧ x < 256) (hn : l.length ≤ 140737488355328) (p : Int) (k : Nat) (hk : 22 < k) : impl_GetNum.f k l p = some (told3 (getNum l p)) := by
  unfold impl_GetNum.f getNum impl_in.f
  rw [w_in (by omega) (by omega)]
  by_cases c : p < 0
  · rw [if_neg (by omega), if_pos c]; rfl
  · rw [if_pos (by omega), if_neg c]
    by_cases c2 : p ≤ (l.length : Int) - 1
    · simp only [decide_eq_true c2, Option.bind_some, if_true]
      exact impl_get_loop l hl hn p (by omega) (by omega) 9 0 0 rfl (by omega) (by decide) k (by omega)
    · simp only [decide_eq_false c2, Option.bind_some, getM]
      rw [if_neg (by decide), if_neg (by omega)]; rfl
/-- GetNum so many times from place p on: the numbers behind those that are there, and the place then. -/
def getsM (l : List Int) : Nat → Int → List Int → Option (List Int × Int)
  | 0, p, acc => some (acc, p)
  | m + 1, p, acc => match getNum l p with
    | none => none
    | some (n, q) => getsM l m q (acc ++ [n])
def told3s : Option (List Int × Int) → List Int × Int × Bool
  | none => ([], 0, false)
  | some (n, p) => (n, p, true)
/-- What a GetNums tells. -/
def getNums (l : List Int) (p : Int) (many : Int) : Option (List Int × Int) := if 0 ≤ many ∧ many ≤ 2000 ∧ 0 ≤ p ∧ p ≤ l.length then getsM l many.toNat p [] else none
theorem getsM_len (l : List Int) : ∀ (m : Nat) (p : Int) (acc r : List Int) (q : Int), getsM l m p acc = some (r, q) → r.length = acc.length + m := by
  intro m
  induction m with
  | zero => intro p acc r q h; simp only [getsM, Option.some.injEq, Prod.mk.injEq] at h; rw [← h.1]; rfl
  | succ m ih =>
    intro p acc r q h
    simp only [getsM] at h
    split at h
    · cases h
    · have := ih _ _ _ _ h; simp at this; omega
theorem getNums_len {l : List Int} {p many : Int} {r : List Int} {q : Int} (h : getNums l p many = some (r, q)) : (r.length : Int) = many ∧ many ≤ 2000 := by
  unfold getNums at h
  by_cases c : 0 ≤ many ∧ many ≤ 2000 ∧ 0 ≤ p ∧ p ≤ l.length
  · rw [if_pos c] at h
    have := getsM_len l _ _ _ _ _ h
    simp at this
    omega
  · rw [if_neg c] at h; cases h
theorem impl_gets_loop (l : List Int) (hl : ∀ x ∈ l, 0 ≤ x ∧ x < 256) (hn : l.length ≤ 140737488355328) (many : Int) (hm : many ≤ 2000) (d : Nat) : ∀ (i : Nat) (p : Int) (acc : List Int), (i : Int) + d = many → acc.length = i → ∀ k, d + 25 < k →
    impl_GetNums.l0 k l p acc many i = some (told3s (getsM l d p acc)) := by
  induction d with
  | zero =>
    intro i p acc hi ha k hk
    obtain ⟨k, rfl⟩ : ∃ m, k = m + 1 := ⟨k - 1, by omega⟩
    simp only [impl_GetNums.l0, getsM]
    rw [if_neg (by omega)]; rfl
  | succ d ih =>
    intro i p acc hi ha k hk
    obtain ⟨k, rfl⟩ : ∃ m, k = m + 1 := ⟨k - 1, by omega⟩
    simp only [impl_GetNums.l0, getsM]
    rw [if_pos (by omega), impl_get l hl hn p k (by omega)]
    simp only [Option.bind_some]
    cases hg : getNum l p with
    | none => simp only [told3, told3s]; rfl
    | some nq =>
      obtain ⟨n, q⟩ := nq
      simp only [told3, if_true]
      rw [if_pos (by omega), w_in (n := (i : Int) + 1) (by omega) (by omega)]
      exact ih (i + 1) q (acc ++ [n]) (by omega) (by simp; omega) k (by omega)
theorem impl_gets (l : List Int) (hl : ∀ x ∈ l, 0 ≤ x ∧ x < 256) (hn : l.length ≤ 140737488355328) (p many : Int) (k : Nat) (hk : 2030 < k) : impl_GetNums.f k l p many = some (told3s (getNums l p many)) := by
  obtain ⟨k, rfl⟩ : ∃ m, k = m + 1 := ⟨k - 1, by omega⟩
  unfold impl_GetNums.f getNums
  simp only [impl_in_tells, Option.bind_some, impl_GetNums.j0]
  by_cases c : 0 ≤ many ∧ many ≤ 2000
  · by_cases c2 : 0 ≤ p ∧ p ≤ l.length
    · rw [if_pos (show 0 ≤ many ∧ many ≤ 2000 ∧ 0 ≤ p ∧ p ≤ l.length from ⟨c.1, c.2, c2.1, c2.2⟩), decide_eq_true c, decide_eq_true c2, if_pos rfl, if_neg (by decide)]
      obtain ⟨m, rfl⟩ := Int.eq_ofNat_of_zero_le c.1
      rw [Int.toNat_natCast]
      exact impl_gets_loop l hl hn m c.2 m 0 p [] (by omega) rfl k (by omega)
    · rw [if_neg (show ¬ (0 ≤ many ∧ many ≤ 2000 ∧ 0 ≤ p ∧ p ≤ l.length) from fun h => c2 h.2.2), decide_eq_true c, decide_eq_false c2, if_pos rfl, if_pos (by decide)]; rfl
  · rw [if_neg (show ¬ (0 ≤ many ∧ many ≤ 2000 ∧ 0 ≤ p ∧ p ≤ l.length) from fun h => c ⟨h.1, h.2.1⟩), decide_eq_false c, if_neg (by decide), if_pos trivial]; rfl
/-- A form that stands at a place is read from there. -/
theorem form_ne (m : Nat) : form m ≠ [] := by
  by_cases c : m < 128
  · rw [form_small c]; simp
  · rw [form_big c]; simp
theorem getM_form (l rest : List Int) (p : Int) (hp : 0 ≤ p) (d : Nat) : ∀ (j m : Nat) (x : Int), l.drop (p.toNat + j) = form m ++ rest → (form m).length ≤ d → (m ≠ 0 ∨ j = 0) → getM l p d j x = some (x + m * pw j, p + j + (form m).length) := by
  induction d with
  | zero =>
    intro j m x _ hl _
    exact absurd (List.length_eq_zero_iff.1 (Nat.le_zero.1 hl)) (form_ne m)
  | succ d ih =>
    intro j m x hd hl hm
    have hlen : p.toNat + j < l.length := by
      apply Classical.byContradiction
      intro h
      rw [List.drop_eq_nil_of_le (by omega)] at hd
      exact form_ne m (List.append_eq_nil_iff.1 hd.symm).1
    have hrd : rd l (p + j) = l[p.toNat + j] := by
      rw [show p + (j : Int) = ((p.toNat + j : Nat) : Int) from by omega, rd_lt hlen]
    rw [List.drop_eq_getElem_cons hlen] at hd
    simp only [getM]
    rw [if_pos (by omega), hrd]
    by_cases c : m < 128
    · rw [form_small c] at hd ⊢
      simp only [List.cons_append, List.nil_append, List.cons.injEq] at hd
      rw [hd.1, if_pos (by omega), if_neg (by omega)]
      simp
    · rw [form_big c] at hd hl ⊢
      simp only [List.cons_append, List.cons.injEq] at hd
      rw [hd.1, if_neg (by omega)]
      have := ih (j + 1) (m / 128) (x + ((m % 128 + 128 : Nat) : Int) % 128 * pw j) (by rw [← hd.2]; rfl) (by simpa using hl) (.inl (by omega))
      rw [this, pw_succ]
      have e : ((m % 128 + 128 : Nat) : Int) % 128 = ((m % 128 : Nat) : Int) := by omega
      have e2 : (m : Int) = ((m % 128 : Nat) : Int) + 128 * ((m / 128 : Nat) : Int) := by omega
      rw [e]
      congr 2
      · conv => rhs; rw [e2]
        rw [Int.add_mul, Int.mul_assoc 128, Int.mul_comm 128, Int.add_assoc, Int.mul_assoc]
      · simp only [List.length_cons]; omega
theorem getNum_form (l rest : List Int) (p m : Nat) (hm : m ≤ 9223372036854775807) (hd : l.drop p = form m ++ rest) : getNum l p = some ((m : Int), (p : Int) + (form m).length) := by
  unfold getNum
  rw [if_neg (by omega), getM_form l rest p (by omega) 9 0 m 0 (by simpa using hd) (form_len 8 m (Nat.lt_of_le_of_lt hm (by decide))) (.inr rfl)]
  simp [pw_zero]
theorem putNum_nonneg {x : Int} (h : 0 ≤ x) : putNum x = form x.toNat := by unfold putNum; rw [if_neg (by omega)]
theorem getNum_put (l rest : List Int) (p : Nat) (x : Int) (h0 : 0 ≤ x) (h1 : x ≤ 9223372036854775807) (hd : l.drop p = putNum x ++ rest) : getNum l p = some (x, (p : Int) + (putNum x).length) := by
  rw [putNum_nonneg h0] at hd ⊢
  rw [getNum_form l rest p x.toNat (by omega) hd]
  congr 2
  omega
theorem getsM_put (l : List Int) (ns : List Int) : ∀ (rest : List Int) (p : Nat) (acc : List Int), (∀ x ∈ ns, 0 ≤ x ∧ x ≤ 9223372036854775807) → l.drop p = ns.flatMap putNum ++ rest → getsM l ns.length p acc = some (acc ++ ns, (p : Int) + (ns.flatMap putNum).length) := by
  induction ns with
  | nil => intro rest p acc _ _; simp [getsM]
  | cons x xs ih =>
    intro rest p acc h hd
    have hx := h x (by simp)
    rw [List.flatMap_cons, List.append_assoc] at hd
    simp only [List.length_cons, getsM]
    rw [getNum_put l _ p x hx.1 hx.2 hd]
    simp only
    have hd2 : l.drop (p + (putNum x).length) = xs.flatMap putNum ++ rest := by
      rw [← List.drop_drop, hd, List.drop_left]
    have := ih rest (p + (putNum x).length) (acc ++ [x]) (fun y hy => h y (by simp [hy])) hd2
    rw [show (p : Int) + ((putNum x).length : Int) = ((p + (putNum x).length : Nat) : Int) from by simp, this]
    simp [List.flatMap_cons, Int.add_assoc]
theorem putNums_nonneg {l : List Int} (h : ∀ x ∈ l, 0 ≤ x) : putNums l = l.flatMap putNum := by
  unfold putNums
  rw [if_neg]
  intro hc
  obtain ⟨x, hx, hx2⟩ := List.any_eq_true.1 hc
  have := h x hx
  simp at hx2
  omega
theorem getNums_put (ns rest : List Int) (h : ∀ x ∈ ns, 0 ≤ x ∧ x ≤ 9223372036854775807) (hn : ns.length ≤ 2000) : getNums (putNums ns ++ rest) 0 ns.length = some (ns, ((putNums ns).length : Int)) := by
  unfold getNums
  rw [if_pos (by omega), putNums_nonneg (fun x hx => (h x hx).1), Int.toNat_natCast]
  have := getsM_put (ns.flatMap putNum ++ rest) ns rest 0 [] h (by simp)
  simpa using this
theorem and_range (x : Int) (m : Nat) (hm : m < 2 ^ 63) : 0 ≤ Go.bits .and .i64 x m ∧ Go.bits .and .i64 x m ≤ m := by
  have h : (BitVec.ofInt IntKind.i64.bits x &&& BitVec.ofInt IntKind.i64.bits (m : Int)).toNat ≤ m := by
    rw [BitVec.toNat_and, BitVec.ofInt_natCast, BitVec.toNat_ofNat]
    exact Nat.le_trans Nat.and_le_right (Nat.mod_le _ _)
  have e : Go.bits .and .i64 x (m : Int) = (((BitVec.ofInt IntKind.i64.bits x &&& BitVec.ofInt IntKind.i64.bits (m : Int)).toNat : Nat) : Int) := wraps_i64 _ (by omega) (by exact_mod_cast Nat.lt_of_le_of_lt h hm)
  rw [e]
  omega
theorem draw_new (l : List Int) (k : Nat) (hk : 4001 < k) : ∃ h, spec_l1New.f k l = some (l, 0, h) := by
  have loop : ∀ (d i : Nat) (h : Int), i + d = 4001 → ∀ k, d < k → ∃ h', spec_l1New.l0 k l h (i : Int) = some (l, 0, h') := by
    intro d
    induction d with
    | zero =>
      intro i h hi k hk
      obtain ⟨k, rfl⟩ : ∃ m, k = m + 1 := ⟨k - 1, by omega⟩
      simp only [spec_l1New.l0]
      by_cases c : (i : Int) < (l.length : Int)
      · rw [if_pos c, if_neg (by omega)]; exact ⟨_, rfl⟩
      · rw [if_neg c]; exact ⟨_, rfl⟩
    | succ d ih =>
      intro i h hi k hk
      obtain ⟨k, rfl⟩ : ∃ m, k = m + 1 := ⟨k - 1, by omega⟩
      simp only [spec_l1New.l0]
      by_cases c : (i : Int) < (l.length : Int)
      · rw [if_pos c]
        by_cases c2 : (i : Int) < 4000
        · rw [if_pos c2, if_pos (by omega), w_in (n := (i : Int) + 1) (by omega) (by omega)]
          exact ih (i + 1) _ (by omega) k (by omega)
        · rw [if_neg c2]; exact ⟨_, rfl⟩
      · rw [if_neg c]; exact ⟨_, rfl⟩
  unfold spec_l1New.f
  exact loop 4001 0 _ rfl k (by omega)
theorem draw_byte (l : List Int) (i h : Int) (hl : l.length ≤ 1048576) (hi : 0 ≤ i) : ∃ b i' h', spec_l1Byte.f l i h = some (b, i', h') ∧ 0 ≤ b ∧ b ≤ 255 ∧ 0 ≤ i' := by
  unfold spec_l1Byte.f
  by_cases c : i < (l.length : Int)
  · rw [if_pos c, if_pos hi]
    have := and_range (wrap64 (Go.bits .and .i64 (Go.bits .xor .i64 (wrap64 (wrap64 (h * 6364136223846793005) + 1442695040888963407) / 8589934592) (wrap64 (wrap64 (h * 6364136223846793005) + 1442695040888963407) / 35184372088832)) 255 + wrap64 (rd l i))) 255 (by decide)
    exact ⟨_, _, _, rfl, this.1, this.2, by rw [w_in (by omega) (by omega)]; omega⟩
  · rw [if_neg c]
    have := and_range (Go.bits .xor .i64 (wrap64 (wrap64 (h * 6364136223846793005) + 1442695040888963407) / 8589934592) (wrap64 (wrap64 (h * 6364136223846793005) + 1442695040888963407) / 35184372088832)) 255 (by decide)
    exact ⟨_, _, _, rfl, this.1, this.2, hi⟩
theorem draw_below (l : List Int) (i h n : Int) (hl : l.length ≤ 1048576) (hi : 0 ≤ i) : ∃ r i' h', spec_l1Below.f l i h n = some (r, i', h') ∧ 0 ≤ i' ∧ 0 ≤ r ∧ (0 < n → r < n) ∧ (n ≤ 0 → r = 0) ∧ r ≤ 4294967295 := by
  unfold spec_l1Below.f
  by_cases c : n ≤ 0
  · rw [if_pos c]; exact ⟨_, _, _, rfl, hi, by omega, by omega, fun _ => rfl, by omega⟩
  · rw [if_neg c]
    by_cases c2 : n ≤ 256
    · rw [if_pos c2]
      obtain ⟨b, i', h', e, h0, h1, h2⟩ := draw_byte l i h hl hi
      rw [e]
      simp only [Option.bind_some]
      rw [if_neg (by omega), Int.tmod_eq_emod_of_nonneg h0]
      have := Int.emod_lt_of_pos b (show 0 < n by omega)
      have := Int.emod_nonneg b (show n ≠ 0 by omega)
      exact ⟨_, _, _, rfl, h2, by omega, by omega, by omega, by omega⟩
    · rw [if_neg c2]
      obtain ⟨b1, i1, h1, e1, p1, q1, r1⟩ := draw_byte l i h hl hi
      obtain ⟨b2, i2, h2, e2, p2, q2, r2⟩ := draw_byte l i1 h1 hl r1
      obtain ⟨b3, i3, h3, e3, p3, q3, r3⟩ := draw_byte l i2 h2 hl r2
      obtain ⟨b4, i4, h4, e4, p4, q4, r4⟩ := draw_byte l i3 h3 hl r3
      simp only [e1, e2, e3, e4, Option.bind_some]
      rw [if_neg (by omega)]
      have hx : wrap64 (wrap64 (wrap64 (wrap64 (b1 * 16777216) + wrap64 (b2 * 65536)) + wrap64 (b3 * 256)) + b4) = b1 * 16777216 + b2 * 65536 + b3 * 256 + b4 := by
        rw [w_in (n := b1 * 16777216) (by omega) (by omega), w_in (n := b2 * 65536) (by omega) (by omega), w_in (n := b3 * 256) (by omega) (by omega), w_in (n := b1 * 16777216 + b2 * 65536) (by omega) (by omega), w_in (n := b1 * 16777216 + b2 * 65536 + b3 * 256) (by omega) (by omega), w_in (by omega) (by omega)]
      rw [hx, Int.tmod_eq_emod_of_nonneg (by omega)]
      have hlt := Int.emod_lt_of_pos (b1 * 16777216 + b2 * 65536 + b3 * 256 + b4) (show 0 < n by omega)
      have hge := Int.emod_nonneg (b1 * 16777216 + b2 * 65536 + b3 * 256 + b4) (show n ≠ 0 by omega)
      have hle : (b1 * 16777216 + b2 * 65536 + b3 * 256 + b4) % n ≤ b1 * 16777216 + b2 * 65536 + b3 * 256 + b4 := by
        have hd := Int.mul_ediv_add_emod (b1 * 16777216 + b2 * 65536 + b3 * 256 + b4) n
        have hq : 0 ≤ n * ((b1 * 16777216 + b2 * 65536 + b3 * 256 + b4) / n) := Int.mul_nonneg (by omega) (Int.ediv_nonneg (by omega) (by omega))
        omega
      exact ⟨_, _, _, rfl, r4, hge, fun _ => hlt, fun h => absurd h c, by omega⟩
theorem draw_pick (l : List Int) (i h : Int) (xs : List Int) (hl : l.length ≤ 1048576) (hi : 0 ≤ i) (hx : 0 < xs.length) : ∃ r i' h', spec_l1PickInt.f l i h xs = some (r, i', h') ∧ 0 ≤ i' ∧ r ∈ xs := by
  unfold spec_l1PickInt.f
  obtain ⟨r, i', h', e, a, b, c, _, _⟩ := draw_below l i h xs.length hl hi
  rw [e]
  simp only [Option.bind_some]
  have := c (by omega)
  rw [if_pos b, if_pos this]
  exact ⟨_, _, _, rfl, a, rd_mem b this⟩
theorem draw_once (l : List Int) (i h n : Int) (hl : l.length ≤ 1048576) (hi : 0 ≤ i) : ∃ r i' h', spec_l1Once.f l i h n = some (r, i', h') ∧ 0 ≤ i' := by
  unfold spec_l1Once.f
  obtain ⟨r, i', h', e, a, _⟩ := draw_below l i h n hl hi
  rw [e]
  exact ⟨_, _, _, rfl, a⟩
theorem draw_num (l : List Int) (i h : Int) (hl : l.length ≤ 1048576) (hi : 0 ≤ i) : ∃ r i' h', spec_l11DrawNum.f l i h = some (r, i', h') ∧ 0 ≤ i' ∧ -1 ≤ r ∧ r ≤ 9223372036854775807 := by
  unfold spec_l11DrawNum.f
  obtain ⟨r1, i1, h1, e1, a1, b1, _, _, d1⟩ := draw_below l i h 1000000 hl hi
  obtain ⟨r2, i2, h2, e2, a2, b2, _, _, d2⟩ := draw_below l i1 h1 300 hl a1
  simp only [e1, e2, Option.bind_some]
  obtain ⟨r3, i3, h3, e3, a3, m3⟩ := draw_pick l i2 h2 [0, 1, 127, 128, 255, 16383, 16384, 2097151, 2097152, -1, 9223372036854775807, 72057594037927935, r1, r2] hl a2 (by simp)
  rw [e3]
  refine ⟨_, _, _, rfl, a3, ?_⟩
  simp only [List.mem_cons, List.not_mem_nil, or_false] at m3
  omega
theorem draw_size (l : List Int) (m : Int) (hl : l.length ≤ 1048576) (h0 : 2 ≤ m) (h1 : m ≤ 1000000) : ∃ s, spec_l1Size.f l m = some s ∧ 2 ≤ s ∧ s ≤ m := by
  unfold spec_l1Size.f
  rw [w_in (n := (l.length : Int) / 20) (by omega) (by omega), w_in (by omega) (by omega)]
  by_cases c : 2 + (l.length : Int) / 20 > m
  · rw [if_pos c]; exact ⟨_, rfl, by omega, by omega⟩
  · rw [if_neg c]; exact ⟨_, rfl, by omega, by omega⟩
theorem draw_putnums_loop (l : List Int) (hl : l.length ≤ 1048576) : ∀ (d i : Nat) (n : Int) (acc : List Int) (a h : Int), (i : Int) + d = n → n ≤ 9 → acc.length = i → (∀ x ∈ acc, -1 ≤ x ∧ x ≤ 9223372036854775807) → 0 ≤ a → ∀ k, d < k → ∃ r, spec_DrawPutNums.l0 k acc n i l a h = some r ∧ (r.length : Int) = n ∧ ∀ x ∈ r, -1 ≤ x ∧ x ≤ 9223372036854775807 := by
  intro d
  induction d with
  | zero =>
    intro i n acc a h hi hn hlen hacc ha k hk
    obtain ⟨k, rfl⟩ : ∃ m, k = m + 1 := ⟨k - 1, by omega⟩
    simp only [spec_DrawPutNums.l0]
    rw [if_neg (by omega)]
    exact ⟨_, rfl, by omega, hacc⟩
  | succ d ih =>
    intro i n acc a h hi hn hlen hacc ha k hk
    obtain ⟨k, rfl⟩ : ∃ m, k = m + 1 := ⟨k - 1, by omega⟩
    simp only [spec_DrawPutNums.l0]
    rw [if_pos (by omega), w_in (n := (i : Int) + 1) (by omega) (by omega)]
    obtain ⟨r, a1, h1, e1, p1, q1, s1⟩ := draw_num l a h hl ha
    rw [e1]
    simp only [Option.bind_some]
    have step : ∀ (y a2 h2 : Int), 0 ≤ a2 → -1 ≤ y → y ≤ 9223372036854775807 → ∃ r', spec_DrawPutNums.l0 k (acc ++ [y]) n ((i : Int) + 1) l a2 h2 = some r' ∧ (r'.length : Int) = n ∧ ∀ x ∈ r', -1 ≤ x ∧ x ≤ 9223372036854775807 := fun y a2 h2 ha2 hy0 hy1 =>
      ih (i + 1) n (acc ++ [y]) a2 h2 (by omega) hn (by simp; omega) (fun x hx => by
        rcases List.mem_append.1 hx with hx | hx
        · exact hacc x hx
        · rw [List.mem_singleton.1 hx]; exact ⟨hy0, hy1⟩) ha2 k (by omega)
    by_cases c : r < 0
    · rw [if_pos c]
      obtain ⟨o, a2, h2, e2, p2⟩ := draw_once l a1 h1 4 hl p1
      rw [e2]
      simp only [Option.bind_some]
      by_cases c2 : o = true
      · rw [if_pos c2, if_pos (by omega)]; exact step r a2 h2 p2 q1 s1
      · rw [if_neg c2, if_pos (by omega), w_in (by omega) (by omega)]; exact step (-r) a2 h2 p2 (by omega) (by omega)
    · rw [if_neg c, if_pos (by omega)]; exact step r a1 h1 p1 q1 s1

theorem draw_putnums (l : List Int) (hl : l.length ≤ 1048576) (k : Nat) (hk : 4100 < k) : ∃ r, spec_DrawPutNums.f k l = some r ∧ r.length ≤ 9 ∧ ∀ x ∈ r, -1 ≤ x ∧ x ≤ 9223372036854775807 := by
  unfold spec_DrawPutNums.f
  obtain ⟨h, e⟩ := draw_new l k (by omega)
  obtain ⟨s, e1, s0, s1⟩ := draw_size l 9 hl (by omega) (by omega)
  rw [e, Option.bind_some]
  dsimp only
  rw [e1, Option.bind_some]
  rw [w_in (by omega) (by omega)]
  obtain ⟨n, a, h2, e2, p, q, lt, _, _⟩ := draw_below l 0 h (s + 1) hl (by omega)
  rw [e2, Option.bind_some]
  dsimp only
  have := lt (by omega)
  obtain ⟨r, er, hr, hx⟩ := draw_putnums_loop l hl n.toNat 0 n [] a h2 (by omega) (by omega) rfl (by simp) p k (by omega)
  exact ⟨r, er, by omega, hx⟩
theorem at_tells (l : List Int) (i : Int) (h0 : 0 ≤ i) : ∃ r, laws_at.f l i = some r := by
  unfold laws_at.f
  by_cases c : i < (l.length : Int)
  · rw [if_pos c, if_pos h0]; exact ⟨_, rfl⟩
  · rw [if_neg c]; exact ⟨_, rfl⟩
theorem sameInts_same (l : List Int) (h : l.length ≤ 140737488355328) (k : Nat) (hk : l.length < k) : laws_sameInts.f k l l = some true := by
  unfold laws_sameInts.f
  rw [if_pos rfl]
  exact same_loop (L := laws_sameInts.l0) (c := fun x y i => rd x i = rd y i) (fun _ _ _ _ => by rw [laws_sameInts.l0]) l (fun _ _ _ => rfl) (by omega) l.length 0 (by omega) k hk
theorem put_bytes (x : Int) (h : x ≤ 9223372036854775807) : ∀ b ∈ putNum x, 0 ≤ b ∧ b < 256 := by
  have form_bytes : ∀ (d n : Nat), n < 128 ^ (d + 1) → ∀ b ∈ form n, 0 ≤ b ∧ b < 256 := by
    intro d
    induction d with
    | zero => intro n hn b hb; rw [form_small (by simpa using hn)] at hb; simp at hb hn; omega
    | succ d ih =>
      intro n hn b hb
      by_cases c : n < 128
      · rw [form_small c] at hb; simp at hb; omega
      · rw [form_big c] at hb
        rcases List.mem_cons.1 hb with hb | hb
        · omega
        · exact ih (n / 128) (by rw [Nat.pow_succ] at hn; omega) b hb
  unfold putNum
  split
  · simp
  · exact form_bytes 8 _ (Nat.lt_of_le_of_lt (show x.toNat ≤ 9223372036854775807 by omega) (by decide))
theorem FnNums : laws_FnNums.Pure := by
  intro l _ _ _
  obtain ⟨K, hK⟩ : ∃ K, K = 5000 := ⟨_, rfl⟩
  refine ⟨K, ?_⟩
  unfold laws_FnNums.f laws_big.f
  simp only [Option.bind_some]
  by_cases h : (l.length : Int) > 1048576
  · rw [if_pos (by simpa using h)]
  · rw [if_neg (by simpa using h)]
    obtain ⟨r, er, hr, hx⟩ := draw_putnums l (by omega) K (by omega)
    rw [er]
    simp only [Option.bind_some]
    rw [impl_putnums r (fun x hx' => (hx x hx').2) (by omega) K (by omega)]
    simp only [Option.bind_some]
    have hbl := putNums_len r (fun x hx' => (hx x hx').2)
    have loop : ∀ (d i : Nat), i + d = r.length → (∀ j, (hj : j < r.length) → j < i → 0 ≤ r[j]) → ∀ k, d + 4000 < k → laws_FnNums.l0 k l r (putNums r) i = some true := by
      intro d
      induction d with
      | zero =>
        intro i hi hp k hk
        obtain ⟨k, rfl⟩ : ∃ m, k = m + 1 := ⟨k - 1, by omega⟩
        have hnn : ∀ x ∈ r, 0 ≤ x ∧ x ≤ 9223372036854775807 := fun x hx' => by
          obtain ⟨j, hj, rfl⟩ := List.mem_iff_getElem.1 hx'
          exact ⟨hp j hj (by omega), (hx _ hx').2⟩
        simp only [laws_FnNums.l0]
        rw [if_neg (by omega)]
        by_cases c : (r.length : Int) = 0
        · rw [if_pos c]
          have hr0 : r = [] := List.length_eq_zero_iff.1 (by omega)
          have hg : getNum [172, 2] 0 = some (300, 2) := by decide
          rw [impl_get [172, 2] (by intro x hx; simp at hx; omega) (by simp) 0 k (by omega), hg, hr0]
          rfl
        · rw [if_neg c]
          obtain ⟨t, et⟩ := at_tells l 1 (by omega)
          rw [et]
          simp only [Option.bind_some]
          rw [if_pos (by omega)]
          have hb : ∀ x ∈ putNums r ++ [t % 256], 0 ≤ x ∧ x < 256 := fun x hx' => by
            rcases List.mem_append.1 hx' with hx' | hx'
            · rw [putNums_nonneg (fun y hy => (hnn y hy).1)] at hx'
              obtain ⟨y, hy, hyb⟩ := List.mem_flatMap.1 hx'
              exact put_bytes y (hnn y hy).2 x hyb
            · simp at hx'; omega
          rw [impl_gets _ hb (by simp; omega) 0 r.length k (by omega), getNums_put r [t % 256] hnn (by omega)]
          simp only [told3s, Option.bind_some, if_true]
          rw [sameInts_same r (by omega) k (by omega)]
          simp only [Option.bind_some, if_true]
          rw [impl_putnums r (fun x hx' => (hx x hx').2) (by omega) k (by omega)]
          simp
      | succ d ih =>
        intro i hi hp k hk
        obtain ⟨k, rfl⟩ : ∃ m, k = m + 1 := ⟨k - 1, by omega⟩
        have hil : i < r.length := by omega
        simp only [laws_FnNums.l0]
        rw [if_pos (by omega), if_pos (by omega), rd_lt hil]
        by_cases c : r[i] < 0
        · rw [if_pos c]
          have hn : putNums r = [] := by
            unfold putNums
            rw [if_pos]
            exact List.any_eq_true.2 ⟨r[i], List.getElem_mem hil, by simpa using c⟩
          rw [hn]; rfl
        · rw [if_neg c, w_in (by omega) (by omega)]
          exact ih (i + 1) (by omega) (fun j hj hji => by
            by_cases e : j = i
            · subst e; omega
            · exact hp j hj (by omega)) k (by omega)
    exact loop r.length 0 (by omega) (fun j hj hji => by omega) K (by omega)
end Go.Proofs.Ytnafmfhfonhmaaa.Pure
