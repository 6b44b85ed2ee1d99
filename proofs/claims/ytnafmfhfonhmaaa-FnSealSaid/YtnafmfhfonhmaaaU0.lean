/- General words for the pure statements of this seat: rounds that suffice, wraps that do nothing, and the loops that copy, compare, mark and look again. -/
import Derived.Test.YtnafmfhfonhmaaaWMore
import Derived.Test.YtnafmfhfonhmaaaWSized
namespace Go.Proofs.Ytnafmfhfonhmaaa.PrintWords
open Go.ChangeShapes Go.WideShapes
/-- The printed rows ask for this word under this name. -/
theorem sized_ints {H : Type} {enc : TypeId × Value → H} {P : Program} {W : World} {base : Nat} {spare : Nat → Bool} {held : Bool} {t e : TypeId} {k : IntKind} {a : Option Addr} {len cap : Nat} {d : DataW H} {ps : List MemPlace} {ts : List TypeId} {ds : List (DataW H)} {j : Nat}
    (hsz : (DataW.weightsEach P ts ds).all (· ≤ reachBytes) = true) (ht : ts[j]? = some t) (hd : ds[j]? = some d) (hu : P.underlying t = some (.slice e)) (he : P.underlying e = some (.int k)) (hc : P.cellsOf e = 1) {B : Nat} (hB : P.bytesOf e = B)
    (h : DataW.Trod enc P W base spare held t (.slice a len cap) d ps) : len * B ≤ 140737488351232 := Go.Proofs.YtnafmfhfonhmaaaW.PrintWords.sized_ints hsz ht hd hu he hc hB h
end Go.Proofs.Ytnafmfhfonhmaaa.PrintWords
namespace Go.Proofs.Ytnafmfhfonhmaaa.U0
open Go.RowKit Go.Proofs.YtnafmfhfonhmaaaW.PrintWords Go.Proofs.YtnafmfhfonhmaaaW.PrintLast

theorem wf_i64 {x : Int} (h : (Lit.int .i64 x).wf = true) : -9223372036854775808 ≤ x ∧ x ≤ 9223372036854775807 := by
  simp [Lit.wf, IntKind.min, IntKind.max, IntKind.signed, IntKind.bits] at h
  omega
theorem wf_u8 {x : Int} (h : (Lit.int .u8 x).wf = true) : 0 ≤ x ∧ x < 256 := by
  simp [Lit.wf, IntKind.min, IntKind.max, IntKind.signed, IntKind.bits] at h
  omega
theorem w_in {n : Int} (h0 : -9223372036854775808 ≤ n) (h1 : n ≤ 9223372036854775807) : wrap64 n = n := by unfold wrap64; omega

/-- The element of a list of numbers at a place that is there. -/
theorem rd_cons_zero (x : Int) (l : List Int) : rd (x :: l) 0 = x := rfl
theorem rd_lt {l : List Int} {i : Nat} (h : i < l.length) : rd l (i : Int) = l[i] := by
  simp [rd, List.getD_eq_getElem?_getD, List.getElem?_eq_getElem h]
theorem rd_mem {l : List Int} {i : Int} (h0 : 0 ≤ i) (h : i < l.length) : rd l i ∈ l := by
  obtain ⟨n, rfl⟩ := Int.eq_ofNat_of_zero_le h0
  rw [rd_lt (by omega)]
  exact List.getElem_mem _

/-- It answers r at each number of rounds from some on. -/
theorem Ev.at_ {α : Type} {g : Nat → Option α} {r : α} (h : Ev g r) : ∃ K, ∀ k, K ≤ k → g k = some r := h

/-- A loop that copies by places: from the all-zero list. -/
theorem copy_loop {α : Type} {L : Nat → List α → List α → Int → Option (List α)} {rdf : List α → Int → α}
    (hL : ∀ k x y i, L (k + 1) x y i = if i < (x.length : Int) then (if 0 ≤ i then (if i < (y.length : Int) then L k x (y.set i.toNat (rdf x i)) (wrap64 (i + 1)) else none) else none) else some y)
    (hrd : ∀ (x : List α) (i : Nat) (h : i < x.length), rdf x (i : Int) = x[i])
    (x : List α) (hx : x.length ≤ 140737488355328) (d : Nat) : ∀ (i : Nat) (y : List α), i + d = x.length → y.length = x.length → (∀ j, (hj : j < i) → y[j]? = x[j]?) → ∀ k, d < k → L k x y (i : Int) = some x := by
  induction d with
  | zero =>
    intro i y hi hy hp k hk
    obtain ⟨k, rfl⟩ : ∃ m, k = m + 1 := ⟨k - 1, by omega⟩
    rw [hL, if_neg (by omega)]
    congr 1
    apply List.ext_getElem? fun j => ?_
    by_cases hj : j < i
    · exact hp j hj
    · rw [List.getElem?_eq_none (by omega), List.getElem?_eq_none (by omega)]
  | succ d ih =>
    intro i y hi hy hp k hk
    obtain ⟨k, rfl⟩ : ∃ m, k = m + 1 := ⟨k - 1, by omega⟩
    rw [hL, if_pos (by omega), if_pos (by omega), if_pos (by omega), w_in (by omega) (by omega)]
    refine ih (i + 1) _ (by omega) (by simpa using hy) (fun j hj => ?_) k (by omega)
    rw [Int.toNat_natCast, List.getElem?_set]
    by_cases e : i = j
    · subst e
      rw [if_pos rfl, if_pos (by omega), hrd x i (by omega), List.getElem?_eq_getElem (by omega)]
    · rw [if_neg e]
      exact hp j (by omega)
theorem copy_all {α : Type} {L : Nat → List α → List α → Int → Option (List α)} {rdf : List α → Int → α}
    (hL : ∀ k x y i, L (k + 1) x y i = if i < (x.length : Int) then (if 0 ≤ i then (if i < (y.length : Int) then L k x (y.set i.toNat (rdf x i)) (wrap64 (i + 1)) else none) else none) else some y)
    (hrd : ∀ (x : List α) (i : Nat) (h : i < x.length), rdf x (i : Int) = x[i])
    (x : List α) (hx : x.length ≤ 140737488355328) (z : α) : ∀ k, x.length < k → L k x (List.replicate x.length z) 0 = some x := by
  intro k hk
  exact copy_loop hL hrd x hx x.length 0 _ (by omega) (by simp) (fun j hj => by omega) k hk

/-- A loop that compares by places: a list with itself. -/
theorem same_loop {α : Type} {L : Nat → List α → List α → Int → Option Bool} {c : List α → List α → Int → Prop} [∀ x y i, Decidable (c x y i)]
    (hL : ∀ k x y i, L (k + 1) x y i = if i < (x.length : Int) then (if 0 ≤ i then (if i < (y.length : Int) then (if c x y i then L k x y (wrap64 (i + 1)) else some false) else none) else none) else some true)
    (x : List α) (hc : ∀ i, 0 ≤ i → i < (x.length : Int) → c x x i) (hx : x.length ≤ 4611686018427387904) (d : Nat) : ∀ (i : Nat), i + d = x.length → ∀ k, d < k → L k x x (i : Int) = some true := by
  induction d with
  | zero =>
    intro i hi k hk
    obtain ⟨k, rfl⟩ : ∃ m, k = m + 1 := ⟨k - 1, by omega⟩
    rw [hL, if_neg (by omega)]
  | succ d ih =>
    intro i hi k hk
    obtain ⟨k, rfl⟩ : ∃ m, k = m + 1 := ⟨k - 1, by omega⟩
    rw [hL, if_pos (by omega), if_pos (by omega), if_pos (by omega), if_pos (hc _ (by omega) (by omega)), w_in (by omega) (by omega)]
    exact ih (i + 1) (by omega) k (by omega)

/-- A loop that marks each place with a running number, told by what becomes of it (g). -/
theorem mark_loop {α : Type} {L : Nat → List α → Int → Int → Option (Int × List α)} {g : Int → α}
    (hL : ∀ k x c i, L (k + 1) x c i = if i < (x.length : Int) then (if 0 ≤ i then L k (x.set i.toNat (g c)) (wrap64 (c + 1)) (wrap64 (i + 1)) else none) else some (c, x))
    (n : Nat) (hn : n ≤ 140737488355328) (c0 : Int) (hc0 : 0 ≤ c0) (hc1 : c0 ≤ 4611686018427387904) (d : Nat) : ∀ (i : Nat) (x : List α), x.length = n → i + d = n → (∀ j, j < i → x[j]? = some (g (c0 + j))) → ∀ k, d < k →
      L k x (c0 + i) (i : Int) = some (c0 + n, (List.range n).map fun (j : Nat) => g (c0 + (j : Int))) := by
  induction d with
  | zero =>
    intro i x hx hi hp k hk
    obtain ⟨k, rfl⟩ : ∃ m, k = m + 1 := ⟨k - 1, by omega⟩
    rw [hL, if_neg (by omega)]
    obtain rfl : i = n := by omega
    congr 2
    apply List.ext_getElem? fun j => ?_
    by_cases hj : j < i
    · rw [hp j hj]; simp [hj]
    · rw [List.getElem?_eq_none (by omega), List.getElem?_eq_none (by simp; omega)]
  | succ d ih =>
    intro i x hx hi hp k hk
    obtain ⟨k, rfl⟩ : ∃ m, k = m + 1 := ⟨k - 1, by omega⟩
    rw [hL, if_pos (by omega), if_pos (by omega), w_in (n := c0 + i + 1) (by omega) (by omega), w_in (by omega) (by omega), Int.add_assoc]
    refine ih (i + 1) _ (by simpa using hx) (by omega) (fun j hj => ?_) k (by omega)
    rw [Int.toNat_natCast, List.getElem?_set]
    by_cases e : i = j
    · subst e
      rw [if_pos rfl, if_pos (by omega)]
    · rw [if_neg e]
      exact hp j (by omega)
/-- A loop that looks whether each place holds its running number. -/
theorem held_loop {α : Type} {L : Nat → List α → Int → Int → Option Int} {g : Int → α} {t : List α → Int → Int → Prop} [∀ x c i, Decidable (t x c i)]
    (hL : ∀ k x c i, L (k + 1) x c i = if i < (x.length : Int) then (if 0 ≤ i then (if t x c i then L k x (wrap64 (c + 1)) (wrap64 (i + 1)) else some (-1)) else none) else some c)
    (n : Nat) (hn : n ≤ 140737488355328) (c0 : Int) (hc0 : 0 ≤ c0) (hc1 : c0 ≤ 4611686018427387904) (x : List α) (hx : x = (List.range n).map fun (j : Nat) => g (c0 + (j : Int)))
    (ht : ∀ (i : Nat) (h : i < x.length) , x[i] = g (c0 + i) → t x (c0 + i) (i : Int)) (d : Nat) : ∀ (i : Nat), i + d = n → ∀ k, d < k → L k x (c0 + i) (i : Int) = some (c0 + n) := by
  have hl : x.length = n := by rw [hx]; simp
  induction d with
  | zero =>
    intro i hi k hk
    obtain ⟨k, rfl⟩ : ∃ m, k = m + 1 := ⟨k - 1, by omega⟩
    obtain rfl : i = n := by omega
    rw [hL, if_neg (by omega)]
  | succ d ih =>
    intro i hi k hk
    obtain ⟨k, rfl⟩ : ∃ m, k = m + 1 := ⟨k - 1, by omega⟩
    have hg : x[i]'(by omega) = g (c0 + i) := by simp [hx]
    rw [hL, if_pos (by omega), if_pos (by omega), if_pos (ht i (by omega) hg), w_in (n := c0 + i + 1) (by omega) (by omega), w_in (by omega) (by omega), Int.add_assoc]
    exact ih (i + 1) (by omega) k (by omega)

/-- Bits of numbers that are not below nothing. -/
theorem wraps_i64 (n : Int) (h₀ : 0 ≤ n) (h₁ : n < 2 ^ 63) : IntKind.i64.wrap n = n := by rw [IntKind.wrap_i64]; omega
theorem and127 {x : Int} (h₀ : 0 ≤ x) (h₁ : x ≤ 9223372036854775807) : Go.bits .and .i64 x 127 = x % 128 := by
  have := bits_mask .i64 63 (by decide) wraps_i64 7 (by decide) x h₀ (by omega)
  simpa using this
theorem or128 {x : Int} (h₀ : 0 ≤ x) (h₁ : x < 128) : Go.bits .or .i64 x 128 = x + 128 := by
  obtain ⟨n, rfl⟩ := Int.eq_ofNat_of_zero_le h₀
  have h := (bits_nat .i64 63 (by decide) wraps_i64 n 128 (by omega) (by omega)).2
  have e : n ||| 128 = n + 128 := by
    rw [Nat.or_comm]
    have := (Nat.two_pow_add_eq_or_of_lt (i := 7) (b := n) (by omega) 1)
    simp at this
    omega
  rw [e] at h
  exact_mod_cast h
theorem or_join {x y : Int} (i : Nat) (hi : i ≤ 62) (hx₀ : 0 ≤ x) (hx : x < 2 ^ i) (hy₀ : 0 ≤ y) (hy : y * 2 ^ i < 2 ^ 63) : Go.bits .or .i64 x (y * 2 ^ i) = x + y * 2 ^ i := by
  obtain ⟨a, rfl⟩ := Int.eq_ofNat_of_zero_le hx₀
  obtain ⟨b, rfl⟩ := Int.eq_ofNat_of_zero_le hy₀
  have ha : a < 2 ^ i := by exact_mod_cast hx
  have hb : b * 2 ^ i < 2 ^ 63 := by exact_mod_cast hy
  have ha' : a < 2 ^ 63 := Nat.lt_of_lt_of_le ha (Nat.pow_le_pow_right (by decide) (by omega))
  have h := (bits_nat .i64 63 (by decide) wraps_i64 a (b * 2 ^ i) ha' hb).2
  have e : a ||| b * 2 ^ i = a + b * 2 ^ i := by
    rw [Nat.or_comm, Nat.mul_comm, ← Nat.two_pow_add_eq_or_of_lt ha, Nat.add_comm]
  rw [e] at h
  simpa using h
end Go.Proofs.Ytnafmfhfonhmaaa.U0
