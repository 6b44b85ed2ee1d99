/- At every row of bytes the program's CmdRead tells what the reference's tells (the pure side). No condition. -/
import Derived.Test.YtnafmfhfonhmaaaPFnExactCmdReadx
import Derived.Test.YtnafmfhfonhmaaaU0
namespace Go.Proofs.Ytnafmfhfonhmaaa.Pure
open Go.RowKit Go.Proofs.Ytnafmfhfonhmaaa.PFnExactCmdRead Go.Proofs.YtnafmfhfonhmaaaW.PrintWords Go.Proofs.YtnafmfhfonhmaaaW.PrintLast Go.Proofs.Ytnafmfhfonhmaaa.U0
set_option linter.unusedSimpArgs false
set_option linter.unusedVariables false

/-- A loop that asks every element of a list of numbers. -/
theorem all_loop {L : Nat → Int → Option Bool} (l : List Int) (p : Int → Bool) (K0 : Nat) (hl : l.length ≤ 4611686018427387904)
    (hL : ∀ k (i : Nat), K0 ≤ k → L (k + 1) (i : Int) = if (i : Int) < (l.length : Int) then (if p (rd l i) = true then L k ((i + 1 : Nat) : Int) else some false) else some true) (d : Nat) : ∀ (i : Nat), i + d = l.length → ∀ k, d + K0 < k → L k (i : Int) = some ((l.drop i).all p) := by
  induction d with
  | zero =>
    intro i hi k hk
    obtain ⟨k, rfl⟩ : ∃ m, k = m + 1 := ⟨k - 1, by omega⟩
    rw [hL k i (by omega), if_neg (by omega), List.drop_eq_nil_of_le (by omega)]; rfl
  | succ d ih =>
    intro i hi k hk
    obtain ⟨k, rfl⟩ : ∃ m, k = m + 1 := ⟨k - 1, by omega⟩
    rw [hL k i (by omega), if_pos (by omega), List.drop_eq_getElem_cons (show i < l.length by omega), List.all_cons, rd_lt (show i < l.length by omega)]
    by_cases c : p (l[i]'(by omega)) = true
    · rw [if_pos c, ih (i + 1) (by omega) k (by omega), c, Bool.true_and]
    · rw [if_neg c, Bool.eq_false_iff.2 c, Bool.false_and]
theorem spec_in_tells (a lo hi : Int) : spec_l1In.f a lo hi = some (decide (lo ≤ a ∧ a ≤ hi)) := by
  unfold spec_l1In.f
  by_cases c : lo ≤ a
  · rw [if_pos (show a ≥ lo from c)]; congr 1; simp [c]
  · rw [if_neg (show ¬ a ≥ lo from c)]; simp [c]
theorem impl_in_tells (a lo hi : Int) : impl_in.f a lo hi = some (decide (lo ≤ a ∧ a ≤ hi)) := by
  unfold impl_in.f
  by_cases c : lo ≤ a
  · rw [if_pos (show a ≥ lo from c)]; congr 1; simp [c]
  · rw [if_neg (show ¬ a ≥ lo from c)]; simp [c]
/-- How many arguments a command of a kind has. -/
def nArgs (a : Int) : Int := if 1 ≤ a ∧ a ≤ 11 then rd [0, 2, 2, 5, 5, 7, 1, 2, 3, 7, 4, 4] a else -1
theorem nArgs_cases {a : Int} (h : 1 ≤ a ∧ a ≤ 11) : a = 1 ∨ a = 2 ∨ a = 3 ∨ a = 4 ∨ a = 5 ∨ a = 6 ∨ a = 7 ∨ a = 8 ∨ a = 9 ∨ a = 10 ∨ a = 11 := by omega
theorem nArgs_le (a : Int) : -1 ≤ nArgs a ∧ nArgs a ≤ 7 := by
  unfold nArgs
  by_cases h : 1 ≤ a ∧ a ≤ 11
  · rw [if_pos h]
    rcases nArgs_cases h with rfl | rfl | rfl | rfl | rfl | rfl | rfl | rfl | rfl | rfl | rfl <;> decide
  · rw [if_neg h]; omega
theorem nArgs_neg {a : Int} : nArgs a < 0 ↔ ¬ (1 ≤ a ∧ a ≤ 11) := by
  unfold nArgs
  by_cases h : 1 ≤ a ∧ a ≤ 11
  · rw [if_pos h]
    refine ⟨fun h2 => absurd h2 ?_, fun h2 => absurd h h2⟩
    rcases nArgs_cases h with rfl | rfl | rfl | rfl | rfl | rfl | rfl | rfl | rfl | rfl | rfl <;> decide
  · rw [if_neg h]
    exact ⟨fun _ => h, fun _ => by decide⟩
theorem spec_cmdargs (a : Int) : spec_CmdArgs.f a = some (nArgs a) := by
  unfold spec_CmdArgs.f nArgs
  rw [spec_in_tells]
  simp only [Option.bind_some, decide_eq_true_eq]
  by_cases h : 1 ≤ a ∧ a ≤ 11
  · rw [if_pos h, if_pos h, if_pos (by omega), if_pos (by simp; omega)]
  · rw [if_neg h, if_neg h]
theorem impl_cmdargs (a : Int) (k : Nat) (hk : 4 < k) : impl_CmdArgs.f k a = some (nArgs a) := by
  obtain ⟨k, rfl⟩ : ∃ m, k = m + 5 := ⟨k - 5, by omega⟩
  unfold nArgs
  by_cases h : 1 ≤ a ∧ a ≤ 11
  · rw [if_pos h]
    rcases nArgs_cases h with rfl | rfl | rfl | rfl | rfl | rfl | rfl | rfl | rfl | rfl | rfl <;> rfl
  · have b : ∀ c : Int, 1 ≤ c → c ≤ 11 → (a == c) = false := fun c h1 h2 => by rw [beq_eq_false_iff_ne]; omega
    unfold impl_CmdArgs.f
    rw [if_neg h, if_neg (by omega), if_neg (by omega), b 7 (by omega) (by omega)]
    simp only [impl_CmdArgs.j0]
    rw [if_neg (by decide), if_neg (by omega), if_neg (by omega), if_neg (by omega), b 11 (by omega) (by omega)]
    simp only [impl_CmdArgs.j1]
    rw [if_neg (by decide), if_neg (by omega), b 4 (by omega) (by omega)]
    simp only [impl_CmdArgs.j2]
    rw [if_neg (by decide), if_neg (by omega), if_neg (by omega)]
def goodArg (x : Int) : Bool := decide (0 ≤ x ∧ x ≤ 1000000000000000)
/-- Is it a command of a kind that there is, with as many arguments, each from 0 to MaxAmount? -/
def cmdOk (a : Int) (l : List Int) : Bool := (l.length : Int) == nArgs a && l.all goodArg
theorem spec_cmdok (a : Int) (l : List Int) (hl : l.length ≤ 1048576) (k : Nat) (hk : l.length + 10 < k) : spec_CmdOk.f k a l = some (cmdOk a l) := by
  obtain ⟨k, rfl⟩ : ∃ m, k = m + 1 := ⟨k - 1, by omega⟩
  have hloop := all_loop (L := fun k i => spec_CmdOk.l0 k i a l) l goodArg 0 (by omega) (fun k i _ => by
    show spec_CmdOk.l0 (k + 1) i a l = _
    rw [spec_CmdOk.l0]
    by_cases c : (i : Int) < (l.length : Int)
    · rw [if_pos c, if_pos c, if_pos (by omega), spec_l1Some.f, spec_in_tells, w_in (by omega) (by omega)]
      simp only [Option.bind_some]
      rfl
    · rw [if_neg c, if_neg c]) l.length 0 (by omega) k (by omega)
  unfold spec_CmdOk.f cmdOk
  rw [spec_cmdargs]
  simp only [Option.bind_some]
  by_cases c : nArgs a < 0
  · rw [if_pos c, spec_CmdOk.j0, if_pos rfl, show ((l.length : Int) == nArgs a) = false from by rw [beq_eq_false_iff_ne]; omega]; rfl
  · rw [if_neg c, spec_CmdOk.j0]
    by_cases c2 : (l.length : Int) = nArgs a
    · rw [if_neg (by simp [c2]), show ((l.length : Int) == nArgs a) = true from by simpa using c2]
      simpa using hloop
    · rw [if_pos (by simpa using c2), show ((l.length : Int) == nArgs a) = false from by simpa using c2]; rfl
theorem one_bad (x : Int) : impl_CmdOk_1.f x = some (!goodArg x) := by
  unfold impl_CmdOk_1.f goodArg
  rw [impl_in_tells]
  rfl
theorem has_bad (l : List Int) : has_impl_CmdOk_1.f l = some (!l.all goodArg) := by
  unfold has_impl_CmdOk_1.f
  induction l with
  | nil => rfl
  | cons x xs ih =>
    simp only [hasO]
    rw [one_bad, Option.bind_some, List.all_cons]
    by_cases c : goodArg x = true
    · rw [c, if_neg (by decide), ih, Bool.true_and]
    · rw [Bool.eq_false_iff.2 c, if_pos (by decide), Bool.false_and]; rfl
theorem impl_cmdok (a : Int) (l : List Int) (k : Nat) (hk : 4 < k) : impl_CmdOk.f k a l = some (cmdOk a l) := by
  unfold impl_CmdOk.f cmdOk
  rw [impl_cmdargs a k hk, has_bad]
  simp only [Option.bind_some, Bool.not_not]
  by_cases c : (l.length : Int) = nArgs a
  · rw [if_pos c, show ((l.length : Int) == nArgs a) = true from by simpa using c, Bool.true_and]
  · rw [if_neg c, show ((l.length : Int) == nArgs a) = false from by simpa using c, Bool.false_and]
theorem eqInt_same (l : List Int) (h : l.length ≤ 140737488355328) (k : Nat) (hk : l.length < k) : laws_eqIntS.f k l l = some true := by
  unfold laws_eqIntS.f
  rw [if_pos rfl]
  exact same_loop (c := fun x y i => rd x i = rd y i) (fun _ _ _ _ => by rw [laws_eqIntS.l0]) l (fun _ _ _ => rfl) (by omega) l.length 0 (by omega) k hk
def markedI (c : Int) (n : Nat) : List Int := (List.range n).map fun (j : Nat) => c + (j : Int)
theorem markedI_len (c : Int) (n : Nat) : (markedI c n).length = n := by simp [markedI]
theorem markInt (l : List Int) (h : l.length ≤ 140737488355328) (c : Int) (hc : 0 ≤ c) (hc1 : c ≤ 4611686018427387904) (k : Nat) (hk : l.length < k) : laws_markIntS.f k l c = some (c + l.length, markedI c l.length) := by
  unfold laws_markIntS.f
  have := mark_loop (L := laws_markIntS.l0) (g := fun c => c) (fun _ _ _ _ => by rw [laws_markIntS.l0]) l.length h c hc hc1 l.length 0 l rfl (by omega) (fun j hj => by omega) k hk
  simpa [markedI] using this
theorem heldInt (n : Nat) (h : n ≤ 140737488355328) (c : Int) (hc : 0 ≤ c) (hc1 : c ≤ 4611686018427387904) (k : Nat) (hk : n < k) : laws_heldIntS.f k (markedI c n) c = some (c + n) := by
  unfold laws_heldIntS.f
  have := held_loop (L := laws_heldIntS.l0) (g := fun c => c) (t := fun x c i => rd x i = c) (fun _ _ _ _ => by rw [laws_heldIntS.l0]) n h c hc hc1 (markedI c n) rfl (fun i hi e => by rw [rd_lt hi]; exact e) n 0 (by omega) k hk
  simpa using this
theorem toByte_same (l : List Int) (h : l.length ≤ 1048576) (k : Nat) (hk : l.length < k) : laws_toByteS.f k l = some l := by
  unfold laws_toByteS.f
  rw [if_pos (by omega), if_pos (by omega), Int.toNat_natCast]
  exact copy_all (fun _ _ _ _ => by rw [laws_toByteS.l0]) (fun _ _ h => rd_lt h) l (by omega) 0 k hk
theorem eqByte_same (l : List Int) (h : l.length ≤ 140737488355328) (k : Nat) (hk : l.length < k) : laws_eqByteS.f k l l = some true := by
  unfold laws_eqByteS.f
  rw [if_pos rfl]
  exact same_loop (c := fun x y i => rd x i = rd y i) (fun _ _ _ _ => by rw [laws_eqByteS.l0]) l (fun _ _ _ => rfl) (by omega) l.length 0 (by omega) k hk
def markedB (c : Int) (n : Nat) : List Int := (List.range n).map fun (j : Nat) => (c + (j : Int)) % 256
theorem markedB_len (c : Int) (n : Nat) : (markedB c n).length = n := by simp [markedB]
theorem markByte (l : List Int) (h : l.length ≤ 140737488355328) (c : Int) (hc : 0 ≤ c) (hc1 : c ≤ 4611686018427387904) (k : Nat) (hk : l.length < k) : laws_markByteS.f k l c = some (c + l.length, markedB c l.length) := by
  unfold laws_markByteS.f
  have := mark_loop (L := laws_markByteS.l0) (g := fun c => c % 256) (fun _ _ _ _ => by rw [laws_markByteS.l0]) l.length h c hc hc1 l.length 0 l rfl (by omega) (fun j hj => by omega) k hk
  simpa [markedB] using this
/-- 2 to the 7 j. -/
def pw (j : Nat) : Int := 2 ^ (7 * j)
theorem pw_zero : pw 0 = 1 := rfl
theorem pw_succ (j : Nat) : pw (j + 1) = pw j * 128 := by unfold pw; rw [Nat.mul_add, Int.pow_add]; rfl
theorem pw_pos (j : Nat) : 0 < pw j := Int.pow_pos (by decide)
theorem pw_le (j : Nat) (h : j < 9) : pw j ≤ 72057594037927936 := by
  have : j = 0 ∨ j = 1 ∨ j = 2 ∨ j = 3 ∨ j = 4 ∨ j = 5 ∨ j = 6 ∨ j = 7 ∨ j = 8 := by omega
  rcases this with rfl | rfl | rfl | rfl | rfl | rfl | rfl | rfl | rfl <;> decide
/-- The number whose form stands from place p on, its first j bytes read as x already: the number, and the place behind it. d: how many bytes it may still have. -/
def getM (l : List Int) (p : Int) : Nat → Nat → Int → Option (Int × Int)
  | 0, _, _ => none
  | d + 1, j, x => if p + j < l.length then (if rd l (p + j) < 128 then (if rd l (p + j) = 0 ∧ 0 < j then none else some (x + rd l (p + j) * pw j, p + j + 1)) else getM l p d (j + 1) (x + rd l (p + j) % 128 * pw j)) else none
def told3 : Option (Int × Int) → Int × Int × Bool
  | none => (0, 0, false)
  | some (n, p) => (n, p, true)
/-- What a GetNum tells. -/
def getNum (l : List Int) (p : Int) : Option (Int × Int) := if p < 0 then none else getM l p 9 0 0
theorem mul_small {a b : Int} (h0 : 0 ≤ a) (h1 : a < 128) (hb : 0 < b) (hb1 : b ≤ 72057594037927936) : 0 ≤ a * b ∧ a * b + b ≤ 128 * b := by
  have h2 : 0 ≤ a * b := Int.mul_nonneg h0 (by omega)
  have h3 : (a + 1) * b ≤ 128 * b := Int.mul_le_mul_of_nonneg_right (by omega) (by omega)
  rw [Int.add_mul] at h3
  omega
theorem getM_range (l : List Int) (hl : ∀ x ∈ l, 0 ≤ x ∧ x < 256) (p : Int) (hp : 0 ≤ p) (d : Nat) : ∀ (j : Nat) (x : Int), j + d = 9 → 0 ≤ x → x < pw j → ∀ n q, getM l p d j x = some (n, q) → 0 ≤ n ∧ n ≤ 9223372036854775807 ∧ p < q ∧ q ≤ l.length := by
  induction d with
  | zero => intro j x _ _ _ n q h; simp [getM] at h
  | succ d ih =>
    intro j x hj h0 h1 n q h
    have hp8 := pw_le j (by omega)
    have hpp := pw_pos j
    simp only [getM] at h
    by_cases c : p + j < l.length
    · rw [if_pos c] at h
      have hb := hl _ (rd_mem (i := p + j) (by omega) c)
      by_cases c2 : rd l (p + j) < 128
      · rw [if_pos c2] at h
        by_cases c3 : rd l (p + j) = 0 ∧ 0 < j
        · rw [if_pos c3] at h; cases h
        · rw [if_neg c3] at h
          have hm := mul_small hb.1 c2 hpp hp8
          simp only [Option.some.injEq, Prod.mk.injEq] at h
          omega
      · rw [if_neg c2] at h
        have hm := mul_small (a := rd l (p + j) % 128) (by omega) (by omega) hpp hp8
        exact ih (j + 1) _ (by omega) (by omega) (by rw [pw_succ]; omega) n q h
    · rw [if_neg c] at h; cases h
theorem getNum_range {l : List Int} (hl : ∀ x ∈ l, 0 ≤ x ∧ x < 256) {p n q : Int} (h : getNum l p = some (n, q)) : 0 ≤ n ∧ n ≤ 9223372036854775807 ∧ p < q ∧ q ≤ l.length := by
  unfold getNum at h
  by_cases c : p < 0
  · rw [if_pos c] at h; cases h
  · rw [if_neg c] at h
    exact getM_range l hl p (by omega) 9 0 0 rfl (by omega) (by decide) n q h
theorem spec_get_loop (l : List Int) (hl : ∀ x ∈ l, 0 ≤ x ∧ x < 256) (hn : l.length ≤ 140737488355328) (p : Int) (hp : 0 ≤ p) (hp1 : p ≤ l.length) (d : Nat) : ∀ (j : Nat) (x u : Int), j + d = 9 → 0 ≤ x → x < pw j → (j < 9 → u = pw j) → ∀ k, 2 * d + 1 < k →
    spec_GetNum.l0 k l p x u j = some (told3 (getM l p d j x)) := by
  induction d with
  | zero =>
    intro j x u hj h0 h1 hu k hk
    obtain ⟨k, rfl⟩ : ∃ m, k = m + 2 := ⟨k - 2, by omega⟩
    simp only [spec_GetNum.l0, spec_GetNum.j2, getM, told3]
    rw [if_neg (by omega), if_neg (by decide)]
  | succ d ih =>
    intro j x u hj h0 h1 hu k hk
    obtain ⟨k, rfl⟩ : ∃ m, k = m + 2 := ⟨k - 2, by omega⟩
    have hp8 := pw_le j (by omega)
    have hpp := pw_pos j
    obtain rfl := hu (by omega)
    have e1 : wrap64 (p + j) = p + j := w_in (by omega) (by omega)
    simp only [spec_GetNum.l0, spec_GetNum.j2, getM, e1]
    rw [if_pos (by omega)]
    by_cases c : p + j < l.length
    · rw [if_pos (by simpa using c), if_pos (by omega), if_pos c, if_pos c]
      have hb := hl _ (rd_mem (i := p + j) (by omega) c)
      generalize hv : rd l (p + j) = v at *
      have e2 : wrap64 v = v := w_in (by omega) (by omega)
      have e3 : Int.tmod v 128 = v % 128 := Int.tmod_eq_emod_of_nonneg (by omega)
      have hm := mul_small (a := v % 128) (by omega) (by omega) hpp hp8
      have e4 : wrap64 (v % 128 * pw j) = v % 128 * pw j := w_in (by omega) (by omega)
      have e5 : wrap64 (x + v % 128 * pw j) = x + v % 128 * pw j := w_in (by omega) (by omega)
      have e6 : wrap64 (p + j + 1) = p + j + 1 := w_in (by omega) (by omega)
      simp only [e2, e3, e4, e5, e6]
      by_cases c2 : v < 128
      · have e7 : v % 128 = v := by omega
        rw [if_pos c2, if_pos c2, e7]
        by_cases c3 : v = 0
        · rw [if_pos c3]
          by_cases c4 : 0 < j
          · rw [if_pos (by omega), if_pos ⟨c3, c4⟩]; rfl
          · rw [if_neg (by omega), if_neg (by omega)]; rfl
        · rw [if_neg c3, if_neg (by omega)]; rfl
      · rw [if_neg c2, if_neg c2, w_in (n := (j : Int) + 1) (by omega) (by omega)]
        refine ih (j + 1) _ _ (by omega) (by omega) (by rw [pw_succ]; omega) (fun hj9 => ?_) k (by omega)
        have := pw_le (j + 1) hj9
        rw [pw_succ] at this ⊢
        exact w_in (by omega) (by omega)
    · rw [if_neg (by simpa using c), if_neg c]; rfl
theorem spec_get (l : List Int) (hl : ∀ x ∈ l, 0 ≤ x ∧ x < 256) (hn : l.length ≤ 140737488355328) (p : Int) (k : Nat) (hk : 22 < k) : spec_GetNum.f k l p = some (told3 (getNum l p)) := by
  obtain ⟨k, rfl⟩ : ∃ m, k = m + 1 := ⟨k - 1, by omega⟩
  unfold spec_GetNum.f getNum
  by_cases c : p < 0
  · rw [if_pos c, if_pos c]; simp only [spec_GetNum.j0, if_true]; rfl
  · rw [if_neg c, if_neg c]
    simp only [spec_GetNum.j0]
    by_cases c2 : p ≥ l.length
    · rw [if_pos (by simpa using c2)]
      simp only [getM]
      rw [if_neg (by omega)]; rfl
    · rw [if_neg (by simpa using c2)]
      exact spec_get_loop l hl hn p (by omega) (by omega) 9 0 0 1 rfl (by omega) (by decide) (fun _ => rfl) k (by omega)
theorem impl_get_loop (l : List Int) (hl : ∀ x ∈ l, 0 ≤ x ∧ x < 256) (hn : l.length ≤ 140737488355328) (p : Int) (hp : 0 ≤ p) (hp1 : p ≤ l.length) (d : Nat) : ∀ (j : Nat) (x : Int), j + d = 9 → 0 ≤ x → x < pw j → ∀ k, 2 * d + 1 < k →
    impl_GetNum.l0 k l p x j = some (told3 (getM l p d j x)) := by
  induction d with
  | zero =>
    intro j x hj h0 h1 k hk
    obtain ⟨k, rfl⟩ : ∃ m, k = m + 2 := ⟨k - 2, by omega⟩
    simp only [impl_GetNum.l0, impl_GetNum.j1, getM, told3]
    rw [if_neg (by omega), if_neg (by decide)]
  | succ d ih =>
    intro j x hj h0 h1 k hk
    obtain ⟨k, rfl⟩ : ∃ m, k = m + 2 := ⟨k - 2, by omega⟩
    have hp8 := pw_le j (by omega)
    have hpp := pw_pos j
    have e1 : wrap64 (p + j) = p + j := w_in (by omega) (by omega)
    have e7 : wrap64 (7 * (j : Int)) = 7 * j := w_in (by omega) (by omega)
    simp only [impl_GetNum.l0, impl_GetNum.j1, getM, e1, e7]
    rw [if_pos (by omega)]
    by_cases c : p + j < l.length
    · rw [if_pos (by simpa using c), if_pos (by omega), if_pos c, if_pos c, if_pos (by omega)]
      have hb := hl _ (rd_mem (i := p + j) (by omega) c)
      generalize hv : rd l (p + j) = v at *
      have e2 : wrap64 v = v := w_in (by omega) (by omega)
      have hm := mul_small (a := v % 128) (by omega) (by omega) hpp hp8
      have e4 : shl .i64 (v % 128) (7 * (j : Int)) = v % 128 * pw j := by
        unfold shl
        rw [show min (7 * (j : Int)).toNat IntKind.i64.bits = 7 * j from by simp [IntKind.bits]; omega]
        exact wraps_i64 _ hm.1 (by show v % 128 * pw j < _; omega)
      have e5 : Go.bits .or .i64 x (v % 128 * pw j) = x + v % 128 * pw j := or_join (7 * j) (by omega) h0 h1 (by omega) (by show v % 128 * pw j < _; omega)
      have e6 : wrap64 (p + j + 1) = p + j + 1 := w_in (by omega) (by omega)
      simp only [e2, and127 (x := v) (by omega) (by omega), e4, e5, e6]
      by_cases c2 : v < 128
      · have e7 : v % 128 = v := by omega
        rw [if_neg (by omega), if_pos c2, e7]
        by_cases c3 : v = 0
        · rw [if_pos c3]
          by_cases c4 : 0 < j
          · rw [if_pos (by omega), if_pos ⟨c3, c4⟩]; rfl
          · rw [if_neg (by omega), if_neg (by omega)]; rfl
        · rw [if_neg c3, if_neg (by omega)]; rfl
      · rw [if_pos (by omega), if_neg c2, w_in (n := (j : Int) + 1) (by omega) (by omega)]
        exact ih (j + 1) _ (by omega) (by omega) (by rw [pw_succ]; omega) k (by omega)
    · rw [if_neg (by simpa using c), if_neg c]; rfl
theorem impl_get (l : List Int) (hl : ∀ x ∈ l, 0 ≤ x ∧ x < 256) (hn : l.length ≤ 140737488355328) (p : Int) (k : Nat) (hk : 22 < k) : impl_GetNum.f k l p = some (told3 (getNum l p)) := by
  unfold impl_GetNum.f getNum impl_in.f
  rw [w_in (by omega) (by omega)]
  by_cases c : p < 0
  · rw [if_neg (by omega), if_pos c]; rfl
  · rw [if_pos (by omega), if_neg c]
    by_cases c2 : p ≤ (l.length : Int) - 1
    · simp only [decide_eq_true c2, Option.bind_some, if_true]
      exact impl_get_loop l hl hn p (by omega) (by omega) 9 0 0 rfl (by omega) (by decide) k (by omega)
    · simp only [decide_eq_false c2, Option.bind_some, getM]
      rw [if_neg (by decide), if_neg (by omega)]; rfl
/-- GetNum so many times from place p on: the numbers behind those that are there, and the place then. -/
def getsM (l : List Int) : Nat → Int → List Int → Option (List Int × Int)
  | 0, p, acc => some (acc, p)
  | m + 1, p, acc => match getNum l p with
    | none => none
    | some (n, q) => getsM l m q (acc ++ [n])
def told3s : Option (List Int × Int) → List Int × Int × Bool
  | none => ([], 0, false)
  | some (n, p) => (n, p, true)
/-- What a GetNums tells. -/
def getNums (l : List Int) (p : Int) (many : Int) : Option (List Int × Int) := if 0 ≤ many ∧ many ≤ 2000 ∧ 0 ≤ p ∧ p ≤ l.length then getsM l many.toNat p [] else none
theorem getsM_len (l : List Int) : ∀ (m : Nat) (p : Int) (acc r : List Int) (q : Int), getsM l m p acc = some (r, q) → r.length = acc.length + m := by
  intro m
  induction m with
  | zero => intro p acc r q h; simp only [getsM, Option.some.injEq, Prod.mk.injEq] at h; rw [← h.1]; rfl
  | succ m ih =>
    intro p acc r q h
    simp only [getsM] at h
    split at h
    · cases h
    · have := ih _ _ _ _ h; simp at this; omega
theorem getNums_len {l : List Int} {p many : Int} {r : List Int} {q : Int} (h : getNums l p many = some (r, q)) : (r.length : Int) = many ∧ many ≤ 2000 := by
  unfold getNums at h
  by_cases c : 0 ≤ many ∧ many ≤ 2000 ∧ 0 ≤ p ∧ p ≤ l.length
  · rw [if_pos c] at h
    have := getsM_len l _ _ _ _ _ h
    simp at this
    omega
  · rw [if_neg c] at h; cases h
theorem spec_gets_loop (l : List Int) (hl : ∀ x ∈ l, 0 ≤ x ∧ x < 256) (hn : l.length ≤ 140737488355328) (many : Int) (hm : many ≤ 2000) (d : Nat) : ∀ (i : Nat) (p : Int) (acc : List Int), (i : Int) + d = many → acc.length = i → ∀ k, d + 25 < k →
    spec_GetNums.l0 k l p many acc i = some (told3s (getsM l d p acc)) := by
  induction d with
  | zero =>
    intro i p acc hi ha k hk
    obtain ⟨k, rfl⟩ : ∃ m, k = m + 1 := ⟨k - 1, by omega⟩
    simp only [spec_GetNums.l0, getsM]
    rw [if_neg (by omega)]; rfl
  | succ d ih =>
    intro i p acc hi ha k hk
    obtain ⟨k, rfl⟩ : ∃ m, k = m + 1 := ⟨k - 1, by omega⟩
    simp only [spec_GetNums.l0, getsM]
    rw [if_pos (by omega), spec_get l hl hn p k (by omega)]
    simp only [Option.bind_some]
    cases hg : getNum l p with
    | none => simp only [told3, told3s]; rfl
    | some nq =>
      obtain ⟨n, q⟩ := nq
      simp only [told3, if_true]
      rw [if_pos (by omega), w_in (n := (i : Int) + 1) (by omega) (by omega)]
      exact ih (i + 1) q (acc ++ [n]) (by omega) (by simp; omega) k (by omega)
theorem spec_gets (l : List Int) (hl : ∀ x ∈ l, 0 ≤ x ∧ x < 256) (hn : l.length ≤ 140737488355328) (p many : Int) (k : Nat) (hk : 2030 < k) : spec_GetNums.f k l p many = some (told3s (getNums l p many)) := by
  obtain ⟨k, rfl⟩ : ∃ m, k = m + 1 := ⟨k - 1, by omega⟩
  unfold spec_GetNums.f getNums
  simp only [spec_in_tells, Option.bind_some, spec_GetNums.j0]
  by_cases c : 0 ≤ many ∧ many ≤ 2000
  · by_cases c2 : 0 ≤ p ∧ p ≤ l.length
    · rw [if_pos (show 0 ≤ many ∧ many ≤ 2000 ∧ 0 ≤ p ∧ p ≤ l.length from ⟨c.1, c.2, c2.1, c2.2⟩), decide_eq_true c, decide_eq_true c2, if_pos rfl, if_neg (by decide)]
      obtain ⟨m, rfl⟩ := Int.eq_ofNat_of_zero_le c.1
      rw [Int.toNat_natCast]
      exact spec_gets_loop l hl hn m c.2 m 0 p [] (by omega) rfl k (by omega)
    · rw [if_neg (show ¬ (0 ≤ many ∧ many ≤ 2000 ∧ 0 ≤ p ∧ p ≤ l.length) from fun h => c2 h.2.2), decide_eq_true c, decide_eq_false c2, if_pos rfl, if_pos (by decide)]; rfl
  · rw [if_neg (show ¬ (0 ≤ many ∧ many ≤ 2000 ∧ 0 ≤ p ∧ p ≤ l.length) from fun h => c ⟨h.1, h.2.1⟩), decide_eq_false c, if_neg (by decide), if_pos trivial]; rfl
theorem impl_gets_loop (l : List Int) (hl : ∀ x ∈ l, 0 ≤ x ∧ x < 256) (hn : l.length ≤ 140737488355328) (many : Int) (hm : many ≤ 2000) (d : Nat) : ∀ (i : Nat) (p : Int) (acc : List Int), (i : Int) + d = many → acc.length = i → ∀ k, d + 25 < k →
    impl_GetNums.l0 k l p acc many i = some (told3s (getsM l d p acc)) := by
  induction d with
  | zero =>
    intro i p acc hi ha k hk
    obtain ⟨k, rfl⟩ : ∃ m, k = m + 1 := ⟨k - 1, by omega⟩
    simp only [impl_GetNums.l0, getsM]
    rw [if_neg (by omega)]; rfl
  | succ d ih =>
    intro i p acc hi ha k hk
    obtain ⟨k, rfl⟩ : ∃ m, k = m + 1 := ⟨k - 1, by omega⟩
    simp only [impl_GetNums.l0, getsM]
    rw [if_pos (by omega), impl_get l hl hn p k (by omega)]
    simp only [Option.bind_some]
    cases hg : getNum l p with
    | none => simp only [told3, told3s]; rfl
    | some nq =>
      obtain ⟨n, q⟩ := nq
      simp only [told3, if_true]
      rw [if_pos (by omega), w_in (n := (i : Int) + 1) (by omega) (by omega)]
      exact ih (i + 1) q (acc ++ [n]) (by omega) (by simp; omega) k (by omega)
theorem impl_gets (l : List Int) (hl : ∀ x ∈ l, 0 ≤ x ∧ x < 256) (hn : l.length ≤ 140737488355328) (p many : Int) (k : Nat) (hk : 2030 < k) : impl_GetNums.f k l p many = some (told3s (getNums l p many)) := by
  obtain ⟨k, rfl⟩ : ∃ m, k = m + 1 := ⟨k - 1, by omega⟩
  unfold impl_GetNums.f getNums
  simp only [impl_in_tells, Option.bind_some, impl_GetNums.j0]
  by_cases c : 0 ≤ many ∧ many ≤ 2000
  · by_cases c2 : 0 ≤ p ∧ p ≤ l.length
    · rw [if_pos (show 0 ≤ many ∧ many ≤ 2000 ∧ 0 ≤ p ∧ p ≤ l.length from ⟨c.1, c.2, c2.1, c2.2⟩), decide_eq_true c, decide_eq_true c2, if_pos rfl, if_neg (by decide)]
      obtain ⟨m, rfl⟩ := Int.eq_ofNat_of_zero_le c.1
      rw [Int.toNat_natCast]
      exact impl_gets_loop l hl hn m c.2 m 0 p [] (by omega) rfl k (by omega)
    · rw [if_neg (show ¬ (0 ≤ many ∧ many ≤ 2000 ∧ 0 ≤ p ∧ p ≤ l.length) from fun h => c2 h.2.2), decide_eq_true c, decide_eq_false c2, if_pos rfl, if_pos (by decide)]; rfl
  · rw [if_neg (show ¬ (0 ≤ many ∧ many ≤ 2000 ∧ 0 ≤ p ∧ p ≤ l.length) from fun h => c ⟨h.1, h.2.1⟩), decide_eq_false c, if_neg (by decide), if_pos trivial]; rfl
/-- What a CmdRead tells. -/
def cmdRead (l : List Int) : Int × List Int × Bool :=
  if (told3 (getNum l 0)).2.2 = true ∧ ¬ nArgs (told3 (getNum l 0)).1 < 0 then
    (if (told3s (getNums l (told3 (getNum l 0)).2.1 (nArgs (told3 (getNum l 0)).1))).2.2 = true ∧ (told3s (getNums l (told3 (getNum l 0)).2.1 (nArgs (told3 (getNum l 0)).1))).2.1 = (l.length : Int) ∧ cmdOk (told3 (getNum l 0)).1 (told3s (getNums l (told3 (getNum l 0)).2.1 (nArgs (told3 (getNum l 0)).1))).1 = true
      then ((told3 (getNum l 0)).1, (told3s (getNums l (told3 (getNum l 0)).2.1 (nArgs (told3 (getNum l 0)).1))).1, true) else (0, [], false)) else (0, [], false)
theorem told3s_len (l : List Int) (p many : Int) : (told3s (getNums l p many)).1.length ≤ 2000 := by
  cases hg : getNums l p many with
  | none => simp [told3s]
  | some rq => have := getNums_len (r := rq.1) (q := rq.2) hg; simp only [told3s]; omega
theorem cmdRead_len (l : List Int) : (cmdRead l).2.1.length ≤ 2000 := by
  have := told3s_len l (told3 (getNum l 0)).2.1 (nArgs (told3 (getNum l 0)).1)
  unfold cmdRead
  split
  · split
    · exact this
    · simp
  · simp
theorem spec_cmdread (l : List Int) (hl : ∀ x ∈ l, 0 ≤ x ∧ x < 256) (hn : l.length ≤ 140737488355328) (k : Nat) (hk : 2100 < k) : spec_CmdRead.f k l = some (cmdRead l) := by
  obtain ⟨k, rfl⟩ : ∃ m, k = m + 1 := ⟨k - 1, by omega⟩
  unfold spec_CmdRead.f cmdRead
  rw [spec_get l hl hn 0 (k + 1) (by omega)]
  have hlen := told3s_len l (told3 (getNum l 0)).2.1 (nArgs (told3 (getNum l 0)).1)
  have hgs := spec_gets l hl hn (told3 (getNum l 0)).2.1 (nArgs (told3 (getNum l 0)).1) k (by omega)
  generalize told3 (getNum l 0) = g at *
  generalize told3s (getNums l g.2.1 (nArgs g.1)) = q at *
  simp only [Option.bind_some]
  by_cases c : g.2.2 = true
  · rw [if_pos c]
    simp only [spec_cmdargs, Option.bind_some, spec_CmdRead.j0]
    by_cases c1 : nArgs g.1 < 0
    · have hm : ¬ (g.2.2 = true ∧ ¬ nArgs g.1 < 0) := fun h => h.2 c1
      rw [decide_eq_true c1, if_pos rfl, if_neg hm]
    · have hm : g.2.2 = true ∧ ¬ nArgs g.1 < 0 := ⟨c, c1⟩
      rw [decide_eq_false c1, if_neg (by decide), if_pos hm]
      simp only [spec_cmdargs, Option.bind_some, hgs]
      by_cases c2 : q.2.2 = true
      · rw [if_pos c2]
        by_cases c3 : q.2.1 = (l.length : Int)
        · rw [if_pos c3, spec_cmdok g.1 q.1 (by omega) k (by omega)]
          simp only [Option.bind_some]
          by_cases c4 : cmdOk g.1 q.1 = true
          · have hm2 : q.2.2 = true ∧ q.2.1 = (l.length : Int) ∧ cmdOk g.1 q.1 = true := ⟨c2, c3, c4⟩
            rw [if_pos c4, if_pos hm2]
          · have hm2 : ¬ (q.2.2 = true ∧ q.2.1 = (l.length : Int) ∧ cmdOk g.1 q.1 = true) := fun h => c4 h.2.2
            rw [if_neg c4, if_neg hm2]
        · have hm2 : ¬ (q.2.2 = true ∧ q.2.1 = (l.length : Int) ∧ cmdOk g.1 q.1 = true) := fun h => c3 h.2.1
          rw [if_neg c3, if_neg hm2]
      · have hm2 : ¬ (q.2.2 = true ∧ q.2.1 = (l.length : Int) ∧ cmdOk g.1 q.1 = true) := fun h => c2 h.1
        rw [if_neg c2, if_neg hm2]
  · have hm : ¬ (g.2.2 = true ∧ ¬ nArgs g.1 < 0) := fun h => c h.1
    rw [if_neg c, if_neg hm, spec_CmdRead.j0, if_pos rfl]
theorem impl_cmdread (l : List Int) (hl : ∀ x ∈ l, 0 ≤ x ∧ x < 256) (hn : l.length ≤ 140737488355328) (k : Nat) (hk : 2100 < k) : impl_CmdRead.f k l = some (cmdRead l) := by
  obtain ⟨k, rfl⟩ : ∃ m, k = m + 1 := ⟨k - 1, by omega⟩
  unfold impl_CmdRead.f cmdRead
  rw [impl_get l hl hn 0 (k + 1) (by omega)]
  have hlen := told3s_len l (told3 (getNum l 0)).2.1 (nArgs (told3 (getNum l 0)).1)
  have hgs := impl_gets l hl hn (told3 (getNum l 0)).2.1 (nArgs (told3 (getNum l 0)).1) k (by omega)
  generalize told3 (getNum l 0) = g at *
  generalize told3s (getNums l g.2.1 (nArgs g.1)) = q at *
  simp only [Option.bind_some]
  by_cases c : g.2.2 = true
  · rw [if_pos c]
    simp only [impl_cmdargs g.1 (k + 1) (by omega), Option.bind_some, impl_CmdRead.j0]
    by_cases c1 : nArgs g.1 < 0
    · have hm : ¬ (g.2.2 = true ∧ ¬ nArgs g.1 < 0) := fun h => h.2 c1
      rw [decide_eq_true c1, if_pos rfl, if_neg hm]
    · have hm : g.2.2 = true ∧ ¬ nArgs g.1 < 0 := ⟨c, c1⟩
      rw [decide_eq_false c1, if_neg (by decide), if_pos hm]
      simp only [impl_cmdargs g.1 k (by omega), Option.bind_some, hgs]
      by_cases c2 : q.2.2 = true
      · rw [if_pos c2]
        by_cases c3 : q.2.1 = (l.length : Int)
        · rw [if_pos c3, impl_cmdok g.1 q.1 k (by omega)]
          simp only [Option.bind_some]
          by_cases c4 : cmdOk g.1 q.1 = true
          · have hm2 : q.2.2 = true ∧ q.2.1 = (l.length : Int) ∧ cmdOk g.1 q.1 = true := ⟨c2, c3, c4⟩
            rw [if_pos c4, if_pos hm2]
          · have hm2 : ¬ (q.2.2 = true ∧ q.2.1 = (l.length : Int) ∧ cmdOk g.1 q.1 = true) := fun h => c4 h.2.2
            rw [if_neg c4, if_neg hm2]
        · have hm2 : ¬ (q.2.2 = true ∧ q.2.1 = (l.length : Int) ∧ cmdOk g.1 q.1 = true) := fun h => c3 h.2.1
          rw [if_neg c3, if_neg hm2]
      · have hm2 : ¬ (q.2.2 = true ∧ q.2.1 = (l.length : Int) ∧ cmdOk g.1 q.1 = true) := fun h => c2 h.1
        rw [if_neg c2, if_neg hm2]
  · have hm : ¬ (g.2.2 = true ∧ ¬ nArgs g.1 < 0) := fun h => c h.1
    rw [if_neg c, if_neg hm, impl_CmdRead.j0, if_pos rfl]
theorem eqCmd_same (a : Int) (l : List Int) (h : l.length ≤ 140737488355328) (k : Nat) (hk : l.length < k) : laws_eqCmd.f k a l a l = some true := by
  unfold laws_eqCmd.f
  rw [if_pos rfl, eqInt_same l h k hk]
  rfl
theorem markCmd_tells (a : Int) (l : List Int) (h : l.length ≤ 140737488355328) (k : Nat) (hk : l.length < k) : laws_markCmd.f k a l 1 = some (1 + (l.length : Int), markedI 1 l.length) := by
  unfold laws_markCmd.f
  rw [markInt l h 1 (by omega) (by omega) k hk]
  rfl
theorem heldCmd_tells (a : Int) (n : Nat) (h : n ≤ 140737488355328) (k : Nat) (hk : n < k) : laws_heldCmd.f k a (markedI 1 n) 1 = some (1 + (n : Int)) := by
  unfold laws_heldCmd.f
  rw [heldInt n h 1 (by omega) (by omega) k hk]
  simp only [Option.bind_some]
  rw [if_neg (by omega)]
theorem FnExactCmdRead : laws_FnExactCmdRead.Pure := by
  intro l _ _ hwf
  have hl : ∀ x ∈ l, 0 ≤ x ∧ x < 256 := fun x hx => wf_u8 (hwf x hx)
  by_cases h : (l.length : Int) > 1048576
  · exact ⟨0, by unfold laws_FnExactCmdRead.f; rw [if_pos h]⟩
  · obtain ⟨K, hK⟩ : ∃ K, K = l.length + 2200 := ⟨_, rfl⟩
    refine ⟨K + 3, ?_⟩
    have hs := fun (k : Nat) (h' : 2100 < k) => spec_cmdread l hl (by omega) k h'
    have hi := fun (k : Nat) (h' : 2100 < k) => impl_cmdread l hl (by omega) k h'
    have ht := fun (k : Nat) (h' : l.length < k) => toByte_same l (by omega) k h'
    have he := fun (k : Nat) (h' : l.length < k) => eqByte_same l (by omega) k h'
    have hm := fun (k : Nat) (h' : l.length < k) => markByte l (by omega) 1 (by omega) (by omega) k h'
    have hr := cmdRead_len l
    generalize cmdRead l = r at *
    have hie := fun (k : Nat) (h' : 2000 < k) => eqCmd_same r.1 r.2.1 (by omega) k (by omega)
    have him := fun (k : Nat) (h' : 2000 < k) => markCmd_tells r.1 r.2.1 (by omega) k (by omega)
    have hih := fun (k : Nat) (h' : 2000 < k) => heldCmd_tells r.1 r.2.1.length (by omega) k (by omega)
    have n1 : ¬ (1 + (l.length : Int) < 0) := by omega
    have n2 : ¬ (1 + (r.2.1.length : Int) < 0) := by omega
    unfold laws_FnExactCmdRead.f
    rw [if_neg h]
    simp (disch := omega) only [hs, hi, ht, he, hm, hie, him, hih, n1, n2, Option.bind_some, if_true, if_false, bne_self_eq_false, Bool.false_eq_true]
    rw [laws_FnExactCmdRead.j0]
    simp (disch := omega) only [hs, hi, ht, he, hm, hie, him, hih, n1, n2, Option.bind_some, if_true, if_false, bne_self_eq_false, Bool.false_eq_true]
    rw [laws_FnExactCmdRead.j1]
    simp (disch := omega) only [hs, hi, ht, he, hm, hie, him, hih, n1, n2, Option.bind_some, if_true, if_false, bne_self_eq_false, Bool.false_eq_true]
    rw [laws_FnExactCmdRead.j2]
    simp (disch := omega) only [hs, hi, ht, he, hm, hie, him, hih, n1, n2, Option.bind_some, if_true, if_false, bne_self_eq_false, Bool.false_eq_true]
end Go.Proofs.Ytnafmfhfonhmaaa.Pure
