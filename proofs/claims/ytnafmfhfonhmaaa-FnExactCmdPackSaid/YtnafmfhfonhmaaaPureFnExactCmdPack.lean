/- At every command the program's CmdPack tells what the reference's tells (the pure side). No condition. -/
import Derived.Test.YtnafmfhfonhmaaaPFnExactCmdPackx
import Derived.Test.YtnafmfhfonhmaaaU0
namespace Go.Proofs.Ytnafmfhfonhmaaa.Pure
open Go.RowKit Go.Proofs.Ytnafmfhfonhmaaa.PFnExactCmdPack Go.Proofs.YtnafmfhfonhmaaaW.PrintWords Go.Proofs.YtnafmfhfonhmaaaW.PrintLast Go.Proofs.Ytnafmfhfonhmaaa.U0
set_option linter.unusedSimpArgs false
set_option linter.unusedVariables false

/-- A loop that asks every element of a list of numbers. -/
theorem all_loop {L : Nat → Int → Option Bool} (l : List Int) (p : Int → Bool) (K0 : Nat) (hl : l.length ≤ 4611686018427387904)
    (hL : ∀ k (i : Nat), K0 ≤ k → L (k + 1) (i : Int) = if (i : Int) < (l.length : Int) then (if p (rd l i) = true then L k ((i + 1 : Nat) : Int) else some false) else some true) (d : Nat) : ∀ (i : Nat), i + d = l.length → ∀ k, d + K0 < k → L k (i : Int) = some ((l.drop i).all p) := by
  induction d with
  | zero =>
    intro i hi k hk
    obtain ⟨k, rfl⟩ : ∃ m, k = m + 1 := ⟨k - 1, by omega⟩
    rw [hL k i (by omega), if_neg (by omega), List.drop_eq_nil_of_le (by omega)]; rfl
  | succ d ih =>
    intro i hi k hk
    obtain ⟨k, rfl⟩ : ∃ m, k = m + 1 := ⟨k - 1, by omega⟩
    rw [hL k i (by omega), if_pos (by omega), List.drop_eq_getElem_cons (show i < l.length by omega), List.all_cons, rd_lt (show i < l.length by omega)]
    by_cases c : p (l[i]'(by omega)) = true
    · rw [if_pos c, ih (i + 1) (by omega) k (by omega), c, Bool.true_and]
    · rw [if_neg c, Bool.eq_false_iff.2 c, Bool.false_and]
theorem spec_in_tells (a lo hi : Int) : spec_l1In.f a lo hi = some (decide (lo ≤ a ∧ a ≤ hi)) := by
  unfold spec_l1In.f
  by_cases c : lo ≤ a
  · rw [if_pos (show a ≥ lo from c)]; congr 1; simp [c]
  · rw [if_neg (show ¬ a ≥ lo from c)]; simp [c]
theorem impl_in_tells (a lo hi : Int) : impl_in.f a lo hi = some (decide (lo ≤ a ∧ a ≤ hi)) := by
  unfold impl_in.f
  by_cases c : lo ≤ a
  · rw [if_pos (show a ≥ lo from c)]; congr 1; simp [c]
  · rw [if_neg (show ¬ a ≥ lo from c)]; simp [c]
/-- How many arguments a command of a kind has. -/
def nArgs (a : Int) : Int := if 1 ≤ a ∧ a ≤ 11 then rd [0, 2, 2, 5, 5, 7, 1, 2, 3, 7, 4, 4] a else -1
theorem nArgs_cases {a : Int} (h : 1 ≤ a ∧ a ≤ 11) : a = 1 ∨ a = 2 ∨ a = 3 ∨ a = 4 ∨ a = 5 ∨ a = 6 ∨ a = 7 ∨ a = 8 ∨ a = 9 ∨ a = 10 ∨ a = 11 := by omega
theorem nArgs_le (a : Int) : -1 ≤ nArgs a ∧ nArgs a ≤ 7 := by
  unfold nArgs
  by_cases h : 1 ≤ a ∧ a ≤ 11
  · rw [if_pos h]
    rcases nArgs_cases h with rfl | rfl | rfl | rfl | rfl | rfl | rfl | rfl | rfl | rfl | rfl <;> decide
  · rw [if_neg h]; omega
theorem nArgs_neg {a : Int} : nArgs a < 0 ↔ ¬ (1 ≤ a ∧ a ≤ 11) := by
  unfold nArgs
  by_cases h : 1 ≤ a ∧ a ≤ 11
  · rw [if_pos h]
    refine ⟨fun h2 => absurd h2 ?_, fun h2 => absurd h h2⟩
    rcases nArgs_cases h with rfl | rfl | rfl | rfl | rfl | rfl | rfl | rfl | rfl | rfl | rfl <;> decide
  · rw [if_neg h]
    exact ⟨fun _ => h, fun _ => by decide⟩
theorem spec_cmdargs (a : Int) : spec_CmdArgs.f a = some (nArgs a) := by
  unfold spec_CmdArgs.f nArgs
  rw [spec_in_tells]
  simp only [Option.bind_some, decide_eq_true_eq]
  by_cases h : 1 ≤ a ∧ a ≤ 11
  · rw [if_pos h, if_pos h, if_pos (by omega), if_pos (by simp; omega)]
  · rw [if_neg h, if_neg h]
theorem impl_cmdargs (a : Int) (k : Nat) (hk : 4 < k) : impl_CmdArgs.f k a = some (nArgs a) := by
  obtain ⟨k, rfl⟩ : ∃ m, k = m + 5 := ⟨k - 5, by omega⟩
  unfold nArgs
  by_cases h : 1 ≤ a ∧ a ≤ 11
  · rw [if_pos h]
    rcases nArgs_cases h with rfl | rfl | rfl | rfl | rfl | rfl | rfl | rfl | rfl | rfl | rfl <;> rfl
  · have b : ∀ c : Int, 1 ≤ c → c ≤ 11 → (a == c) = false := fun c h1 h2 => by rw [beq_eq_false_iff_ne]; omega
    unfold impl_CmdArgs.f
    rw [if_neg h, if_neg (by omega), if_neg (by omega), b 7 (by omega) (by omega)]
    simp only [impl_CmdArgs.j0]
    rw [if_neg (by decide), if_neg (by omega), if_neg (by omega), if_neg (by omega), b 11 (by omega) (by omega)]
    simp only [impl_CmdArgs.j1]
    rw [if_neg (by decide), if_neg (by omega), b 4 (by omega) (by omega)]
    simp only [impl_CmdArgs.j2]
    rw [if_neg (by decide), if_neg (by omega), if_neg (by omega)]
def goodArg (x : Int) : Bool := decide (0 ≤ x ∧ x ≤ 1000000000000000)
/-- Is it a command of a kind that there is, with as many arguments, each from 0 to MaxAmount? -/
def cmdOk (a : Int) (l : List Int) : Bool := (l.length : Int) == nArgs a && l.all goodArg
theorem spec_cmdok (a : Int) (l : List Int) (hl : l.length ≤ 1048576) (k : Nat) (hk : l.length + 10 < k) : spec_CmdOk.f k a l = some (cmdOk a l) := by
  obtain ⟨k, rfl⟩ : ∃ m, k = m + 1 := ⟨k - 1, by omega⟩
  have hloop := all_loop (L := fun k i => spec_CmdOk.l0 k i a l) l goodArg 0 (by omega) (fun k i _ => by
    show spec_CmdOk.l0 (k + 1) i a l = _
    rw [spec_CmdOk.l0]
    by_cases c : (i : Int) < (l.length : Int)
    · rw [if_pos c, if_pos c, if_pos (by omega), spec_l1Some.f, spec_in_tells, w_in (by omega) (by omega)]
      simp only [Option.bind_some]
      rfl
    · rw [if_neg c, if_neg c]) l.length 0 (by omega) k (by omega)
  unfold spec_CmdOk.f cmdOk
  rw [spec_cmdargs]
  simp only [Option.bind_some]
  by_cases c : nArgs a < 0
  · rw [if_pos c, spec_CmdOk.j0, if_pos rfl, show ((l.length : Int) == nArgs a) = false from by rw [beq_eq_false_iff_ne]; omega]; rfl
  · rw [if_neg c, spec_CmdOk.j0]
    by_cases c2 : (l.length : Int) = nArgs a
    · rw [if_neg (by simp [c2]), show ((l.length : Int) == nArgs a) = true from by simpa using c2]
      simpa using hloop
    · rw [if_pos (by simpa using c2), show ((l.length : Int) == nArgs a) = false from by simpa using c2]; rfl
theorem one_bad (x : Int) : impl_CmdOk_1.f x = some (!goodArg x) := by
  unfold impl_CmdOk_1.f goodArg
  rw [impl_in_tells]
  rfl
theorem has_bad (l : List Int) : has_impl_CmdOk_1.f l = some (!l.all goodArg) := by
  unfold has_impl_CmdOk_1.f
  induction l with
  | nil => rfl
  | cons x xs ih =>
    simp only [hasO]
    rw [one_bad, Option.bind_some, List.all_cons]
    by_cases c : goodArg x = true
    · rw [c, if_neg (by decide), ih, Bool.true_and]
    · rw [Bool.eq_false_iff.2 c, if_pos (by decide), Bool.false_and]; rfl
theorem impl_cmdok (a : Int) (l : List Int) (k : Nat) (hk : 4 < k) : impl_CmdOk.f k a l = some (cmdOk a l) := by
  unfold impl_CmdOk.f cmdOk
  rw [impl_cmdargs a k hk, has_bad]
  simp only [Option.bind_some, Bool.not_not]
  by_cases c : (l.length : Int) = nArgs a
  · rw [if_pos c, show ((l.length : Int) == nArgs a) = true from by simpa using c, Bool.true_and]
  · rw [if_neg c, show ((l.length : Int) == nArgs a) = false from by simpa using c, Bool.false_and]
theorem toInt_same (l : List Int) (h : l.length ≤ 1048576) (k : Nat) (hk : l.length < k) : laws_toIntS.f k l = some l := by
  unfold laws_toIntS.f
  rw [if_pos (by omega), if_pos (by omega), Int.toNat_natCast]
  exact copy_all (fun _ _ _ _ => by rw [laws_toIntS.l0]) (fun _ _ h => rd_lt h) l (by omega) 0 k hk
theorem eqInt_same (l : List Int) (h : l.length ≤ 140737488355328) (k : Nat) (hk : l.length < k) : laws_eqIntS.f k l l = some true := by
  unfold laws_eqIntS.f
  rw [if_pos rfl]
  exact same_loop (c := fun x y i => rd x i = rd y i) (fun _ _ _ _ => by rw [laws_eqIntS.l0]) l (fun _ _ _ => rfl) (by omega) l.length 0 (by omega) k hk
def markedI (c : Int) (n : Nat) : List Int := (List.range n).map fun (j : Nat) => c + (j : Int)
theorem markedI_len (c : Int) (n : Nat) : (markedI c n).length = n := by simp [markedI]
theorem markInt (l : List Int) (h : l.length ≤ 140737488355328) (c : Int) (hc : 0 ≤ c) (hc1 : c ≤ 4611686018427387904) (k : Nat) (hk : l.length < k) : laws_markIntS.f k l c = some (c + l.length, markedI c l.length) := by
  unfold laws_markIntS.f
  have := mark_loop (L := laws_markIntS.l0) (g := fun c => c) (fun _ _ _ _ => by rw [laws_markIntS.l0]) l.length h c hc hc1 l.length 0 l rfl (by omega) (fun j hj => by omega) k hk
  simpa [markedI] using this
theorem eqByte_same (l : List Int) (h : l.length ≤ 140737488355328) (k : Nat) (hk : l.length < k) : laws_eqByteS.f k l l = some true := by
  unfold laws_eqByteS.f
  rw [if_pos rfl]
  exact same_loop (c := fun x y i => rd x i = rd y i) (fun _ _ _ _ => by rw [laws_eqByteS.l0]) l (fun _ _ _ => rfl) (by omega) l.length 0 (by omega) k hk
def markedB (c : Int) (n : Nat) : List Int := (List.range n).map fun (j : Nat) => (c + (j : Int)) % 256
theorem markedB_len (c : Int) (n : Nat) : (markedB c n).length = n := by simp [markedB]
theorem markByte (l : List Int) (h : l.length ≤ 140737488355328) (c : Int) (hc : 0 ≤ c) (hc1 : c ≤ 4611686018427387904) (k : Nat) (hk : l.length < k) : laws_markByteS.f k l c = some (c + l.length, markedB c l.length) := by
  unfold laws_markByteS.f
  have := mark_loop (L := laws_markByteS.l0) (g := fun c => c % 256) (fun _ _ _ _ => by rw [laws_markByteS.l0]) l.length h c hc hc1 l.length 0 l rfl (by omega) (fun j hj => by omega) k hk
  simpa [markedB] using this
theorem heldByte (n : Nat) (h : n ≤ 140737488355328) (c : Int) (hc : 0 ≤ c) (hc1 : c ≤ 4611686018427387904) (k : Nat) (hk : n < k) : laws_heldByteS.f k (markedB c n) c = some (c + n) := by
  unfold laws_heldByteS.f
  have := held_loop (L := laws_heldByteS.l0) (g := fun c => c % 256) (t := fun x c i => rd x i = c % 256) (fun _ _ _ _ => by rw [laws_heldByteS.l0]) n h c hc hc1 (markedB c n) rfl (fun i hi e => by rw [rd_lt hi]; exact e) n 0 (by omega) k hk
  simpa using this
/-- The number form: seven bits a byte, the lowest first, 128 added to each but the last. -/
def form (n : Nat) : List Int := if h : n < 128 then [(n : Int)] else ((n % 128 + 128 : Nat) : Int) :: form (n / 128)
termination_by n
decreasing_by omega
theorem form_small {n : Nat} (h : n < 128) : form n = [(n : Int)] := by rw [form, dif_pos h]
theorem form_big {n : Nat} (h : ¬ n < 128) : form n = ((n % 128 + 128 : Nat) : Int) :: form (n / 128) := by rw [form, dif_neg h]
theorem form_len (d : Nat) : ∀ n, n < 128 ^ (d + 1) → (form n).length ≤ d + 1 := by
  induction d with
  | zero => intro n h; rw [form_small (by simpa using h)]; simp
  | succ d ih =>
    intro n h
    by_cases c : n < 128
    · rw [form_small c]; simp
    · rw [form_big c, List.length_cons]
      have := ih (n / 128) (by rw [Nat.pow_succ] at h; omega)
      omega

/-- What a PutNum tells: the form, or nothing of what is below 0. -/
def putNum (x : Int) : List Int := if x < 0 then [] else form x.toNat
theorem putNum_len (x : Int) (h : x ≤ 9223372036854775807) : (putNum x).length ≤ 9 := by
  unfold putNum
  split
  · simp
  · exact form_len 8 _ (Nat.lt_of_le_of_lt (show x.toNat ≤ 9223372036854775807 by omega) (by decide))
theorem spec_put_loop (d : Nat) : ∀ (n : Nat) (acc : List Int), n < 128 ^ (d + 1) → n ≤ 9223372036854775807 → acc.length + d < 140737488355327 → ∀ k, d < k → spec_PutNum.l0 k n acc = some (acc ++ form n) := by
  induction d with
  | zero =>
    intro n acc h _ ha k hk
    obtain ⟨k, rfl⟩ : ∃ m, k = m + 1 := ⟨k - 1, by omega⟩
    simp only [spec_PutNum.l0]
    rw [if_neg (by omega), if_pos (by omega), form_small (by omega), show ((n : Int)) % 256 = n from by omega]
  | succ d ih =>
    intro n acc h h63 ha k hk
    obtain ⟨k, rfl⟩ : ∃ m, k = m + 1 := ⟨k - 1, by omega⟩
    simp only [spec_PutNum.l0]
    by_cases c : n < 128
    · rw [if_neg (by omega), if_pos (by omega), form_small c, show ((n : Int)) % 256 = n from by omega]
    · rw [if_pos (by omega), if_pos (by omega)]
      have e1 : wrap64 (Int.tdiv (n : Int) 128) = ((n / 128 : Nat) : Int) := by
        rw [Int.tdiv_eq_ediv_of_nonneg (by omega), w_in (by omega) (by omega)]; omega
      have e2 : (wrap64 (Int.tmod (n : Int) 128 + 128)) % 256 = ((n % 128 + 128 : Nat) : Int) := by
        rw [Int.tmod_eq_emod_of_nonneg (by omega), w_in (by omega) (by omega)]; omega
      rw [e1, e2, ih (n / 128) _ (by rw [Nat.pow_succ] at h; omega) (by omega) (by simp; omega) k (by omega), form_big c]
      simp
theorem spec_put (x : Int) (h : x ≤ 9223372036854775807) (k : Nat) (hk : 9 < k) : spec_PutNum.f k x = some (putNum x) := by
  unfold spec_PutNum.f putNum
  simp only [Option.bind_some]
  by_cases c : x < 0
  · rw [if_pos c, if_pos c]
  · obtain ⟨n, rfl⟩ := Int.eq_ofNat_of_zero_le (Int.not_lt.1 c)
    rw [if_neg c, if_neg c, Int.toNat_natCast]
    simpa using spec_put_loop 9 n [] (Nat.lt_of_le_of_lt (show n ≤ 9223372036854775807 by omega) (by decide)) (by omega) (by decide) k hk
theorem impl_put_loop (d : Nat) : ∀ (n : Nat) (acc : List Int), n < 128 ^ (d + 1) → n ≤ 9223372036854775807 → acc.length + d < 140737488355327 → ∀ k, d < k → impl_PutNum.l0 k n acc = some (acc ++ form n) := by
  induction d with
  | zero =>
    intro n acc h _ ha k hk
    obtain ⟨k, rfl⟩ : ∃ m, k = m + 1 := ⟨k - 1, by omega⟩
    simp only [impl_PutNum.l0]
    rw [if_neg (by omega), if_pos (by omega), form_small (by omega), show ((n : Int)) % 256 = n from by omega]
  | succ d ih =>
    intro n acc h h63 ha k hk
    obtain ⟨k, rfl⟩ : ∃ m, k = m + 1 := ⟨k - 1, by omega⟩
    simp only [impl_PutNum.l0]
    by_cases c : n < 128
    · rw [if_neg (by omega), if_pos (by omega), form_small c, show ((n : Int)) % 256 = n from by omega]
    · rw [if_pos (by omega), if_pos (by omega)]
      have e1 : (n : Int) / 128 = ((n / 128 : Nat) : Int) := by omega
      have e2 : Go.bits .or .i64 (Go.bits .and .i64 (n : Int) 127) 128 % 256 = ((n % 128 + 128 : Nat) : Int) := by
        rw [and127 (by omega) (by omega), or128 (by omega) (by omega)]; omega
      rw [e1, e2, ih (n / 128) _ (by rw [Nat.pow_succ] at h; omega) (by omega) (by simp; omega) k (by omega), form_big c]
      simp

theorem impl_put (x : Int) (h : x ≤ 9223372036854775807) (k : Nat) (hk : 9 < k) : impl_PutNum.f k x = some (putNum x) := by
  unfold impl_PutNum.f putNum
  by_cases c : x < 0
  · rw [if_pos c, if_pos c]
  · obtain ⟨n, rfl⟩ := Int.eq_ofNat_of_zero_le (Int.not_lt.1 c)
    rw [if_neg c, if_neg c, Int.toNat_natCast]
    simpa using impl_put_loop 9 n [] (Nat.lt_of_le_of_lt (show n ≤ 9223372036854775807 by omega) (by decide)) (by omega) (by decide) k hk
/-- What a PutNums tells: the forms, one behind the other; nothing when one is below 0. -/
def putNums (l : List Int) : List Int := if l.any (fun x => decide (x < 0)) then [] else l.flatMap putNum
theorem flat_len (l : List Int) (h : ∀ x ∈ l, x ≤ 9223372036854775807) : (l.flatMap putNum).length ≤ 9 * l.length := by
  induction l with
  | nil => simp
  | cons x xs ih =>
    have h1 := putNum_len x (h x (by simp))
    have h2 := ih (fun y hy => h y (by simp [hy]))
    simp only [List.flatMap_cons, List.length_append, List.length_cons]
    omega
theorem putNums_len (l : List Int) (h : ∀ x ∈ l, x ≤ 9223372036854775807) : (putNums l).length ≤ 9 * l.length := by
  unfold putNums
  split
  · simp
  · exact flat_len l h
theorem spec_putnums_loop (l : List Int) (hl : ∀ x ∈ l, x ≤ 9223372036854775807) (hn : l.length ≤ 1048576) (d : Nat) : ∀ (i : Nat) (acc : List Int), i + d = l.length → acc.length + 9 * d ≤ 9437184 → ∀ k, d + 11 < k →
    spec_PutNums.l0 k l acc i = some (if (l.drop i).any (fun x => decide (x < 0)) then [] else acc ++ (l.drop i).flatMap putNum) := by
  induction d with
  | zero =>
    intro i acc hi ha k hk
    obtain ⟨k, rfl⟩ : ∃ m, k = m + 1 := ⟨k - 1, by omega⟩
    simp only [spec_PutNums.l0]
    rw [if_neg (by omega), List.drop_eq_nil_of_le (by omega)]
    simp
  | succ d ih =>
    intro i acc hi ha k hk
    obtain ⟨k, rfl⟩ : ∃ m, k = m + 1 := ⟨k - 1, by omega⟩
    have hil : i < l.length := by omega
    have hx := hl _ (List.getElem_mem hil)
    simp only [spec_PutNums.l0]
    rw [if_pos (by omega), if_pos (by omega), rd_lt hil, List.drop_eq_getElem_cons hil, List.any_cons, List.flatMap_cons]
    by_cases c : l[i] < 0
    · rw [if_pos c, decide_eq_true c]; simp
    · rw [if_neg c, decide_eq_false c, spec_put _ hx k (by omega)]
      have hp := putNum_len _ hx
      simp only [Option.bind_some]
      rw [if_pos (by omega), w_in (by omega) (by omega)]
      have := ih (i + 1) (acc ++ putNum l[i]) (by omega) (by simp; omega) k (by omega)
      rw [show ((i : Int) + 1) = ((i + 1 : Nat) : Int) from rfl, this, Bool.false_or, List.append_assoc]
theorem spec_putnums (l : List Int) (hl : ∀ x ∈ l, x ≤ 9223372036854775807) (hn : l.length ≤ 1048576) (k : Nat) (hk : l.length + 11 < k) : spec_PutNums.f k l = some (putNums l) := by
  unfold spec_PutNums.f putNums
  simpa using spec_putnums_loop l hl hn l.length 0 [] (by omega) (by simp; omega) k (by omega)
theorem impl_putnums_loop (l : List Int) (hl : ∀ x ∈ l, x ≤ 9223372036854775807) (hn : l.length ≤ 1048576) (d : Nat) : ∀ (i : Nat) (acc : List Int), i + d = l.length → acc.length + 9 * d ≤ 9437184 → ∀ k, d + 11 < k →
    impl_PutNums.l0 k acc l l.length i = some (acc ++ (l.drop i).flatMap putNum) := by
  induction d with
  | zero =>
    intro i acc hi ha k hk
    obtain ⟨k, rfl⟩ : ∃ m, k = m + 1 := ⟨k - 1, by omega⟩
    simp only [impl_PutNums.l0]
    rw [if_neg (by omega), List.drop_eq_nil_of_le (by omega)]
    simp
  | succ d ih =>
    intro i acc hi ha k hk
    obtain ⟨k, rfl⟩ : ∃ m, k = m + 1 := ⟨k - 1, by omega⟩
    have hil : i < l.length := by omega
    have hx := hl _ (List.getElem_mem hil)
    simp only [impl_PutNums.l0]
    rw [if_pos (by omega), if_pos (by omega), if_pos (by omega), rd_lt hil, List.drop_eq_getElem_cons hil, List.flatMap_cons]
    rw [impl_put _ hx k (by omega)]
    have hp := putNum_len _ hx
    simp only [Option.bind_some]
    rw [if_pos (by omega), w_in (by omega) (by omega)]
    have := ih (i + 1) (acc ++ putNum l[i]) (by omega) (by simp; omega) k (by omega)
    rw [show ((i : Int) + 1) = ((i + 1 : Nat) : Int) from rfl, this, List.append_assoc]
theorem has_neg (l : List Int) : has_impl_PutNums_1.f l = some (l.any (fun x => decide (x < 0))) := by
  unfold has_impl_PutNums_1.f
  induction l with
  | nil => rfl
  | cons x xs ih =>
    simp only [hasO, impl_PutNums_1.f, Option.bind_some, List.any_cons]
    by_cases c : x < 0
    · simp [c]
    · rw [decide_eq_false c, if_neg (by decide), Bool.false_or]
      exact ih
theorem impl_putnums (l : List Int) (hl : ∀ x ∈ l, x ≤ 9223372036854775807) (hn : l.length ≤ 1048576) (k : Nat) (hk : l.length + 12 < k) : impl_PutNums.f k l = some (putNums l) := by
  unfold impl_PutNums.f putNums
  rw [has_neg]
  simp only [Option.bind_some]
  by_cases c : l.any (fun x => decide (x < 0)) = true
  · rw [if_pos c, if_pos c]
  · rw [if_neg c, if_neg c]
    simpa using impl_putnums_loop l hl hn l.length 0 [] (by omega) (by simp; omega) k (by omega)
theorem cmdOk_parts {a : Int} {l : List Int} (h : cmdOk a l = true) : (1 ≤ a ∧ a ≤ 11) ∧ (l.length : Int) = nArgs a ∧ l.length ≤ 7 ∧ ∀ x ∈ l, 0 ≤ x ∧ x ≤ 1000000000000000 := by
  unfold cmdOk at h
  rw [Bool.and_eq_true] at h
  have h1 : (l.length : Int) = nArgs a := by simpa using h.1
  have h2 : ∀ x ∈ l, 0 ≤ x ∧ x ≤ 1000000000000000 := fun x hx => by have := List.all_eq_true.1 h.2 x hx; simpa [goodArg] using this
  have h3 := nArgs_le a
  refine ⟨?_, h1, by omega, h2⟩
  by_cases c : 1 ≤ a ∧ a ≤ 11
  · exact c
  · have := nArgs_neg.2 c
    omega
/-- What a CmdPack tells. -/
def cmdPack (a : Int) (l : List Int) : List Int × Bool := if cmdOk a l = true then (putNum a ++ putNums l, true) else ([], false)
theorem cmdPack_len (a : Int) (l : List Int) : (cmdPack a l).1.length ≤ 72 := by
  unfold cmdPack
  split
  · rename_i h
    obtain ⟨h1, _, h3, h4⟩ := cmdOk_parts h
    have e1 := putNum_len a (by omega)
    have e2 := putNums_len l (fun x hx => by have := h4 x hx; omega)
    simp only [List.length_append]
    omega
  · simp
theorem spec_cmdpack (a : Int) (l : List Int) (hl : l.length ≤ 1048576) (k : Nat) (hk : l.length + 30 < k) : spec_CmdPack.f k a l = some (cmdPack a l) := by
  unfold spec_CmdPack.f cmdPack
  rw [spec_cmdok a l hl k (by omega)]
  simp only [Option.bind_some]
  by_cases c : cmdOk a l = true
  · obtain ⟨h1, _, h3, h4⟩ := cmdOk_parts c
    rw [if_pos c, if_pos c, spec_put a (by omega) k (by omega)]
    simp only [Option.bind_some]
    rw [spec_putnums l (fun x hx => by have := h4 x hx; omega) (by omega) k (by omega)]
    simp only [Option.bind_some]
    have e1 := putNum_len a (by omega)
    have e2 := putNums_len l (fun x hx => by have := h4 x hx; omega)
    rw [if_pos (by omega)]
  · rw [if_neg c, if_neg c]
theorem impl_cmdpack (a : Int) (l : List Int) (hl : l.length ≤ 1048576) (k : Nat) (hk : l.length + 30 < k) : impl_CmdPack.f k a l = some (cmdPack a l) := by
  unfold impl_CmdPack.f cmdPack
  rw [impl_cmdok a l k (by omega)]
  simp only [Option.bind_some]
  by_cases c : cmdOk a l = true
  · obtain ⟨h1, _, h3, h4⟩ := cmdOk_parts c
    rw [if_pos c, if_pos c, impl_put a (by omega) k (by omega)]
    simp only [Option.bind_some]
    rw [impl_putnums l (fun x hx => by have := h4 x hx; omega) (by omega) k (by omega)]
    simp only [Option.bind_some]
    have e1 := putNum_len a (by omega)
    have e2 := putNums_len l (fun x hx => by have := h4 x hx; omega)
    rw [if_pos (by omega)]
  · rw [if_neg c, if_neg c]
theorem szInt_tells (l : List Int) (n : Int) (h0 : 0 ≤ n) (h1 : n ≤ 1048576) (hl : l.length ≤ 9223372036854775807) : laws_szIntS.f l n = some (if (l.length : Int) ≤ n then n - l.length else -1) := by
  unfold laws_szIntS.f
  rw [w_in (by omega) (by omega)]
  by_cases c : (l.length : Int) ≤ n
  · rw [if_neg (by omega), if_pos c]
  · rw [if_pos (by omega), if_neg c]
theorem szCmd_tells (a : Int) (l : List Int) (n : Int) (h0 : 0 ≤ n) (h1 : n ≤ 1048576) (hl : l.length ≤ 9223372036854775807) : laws_szCmd.f a l n = some (if (l.length : Int) ≤ n then n - l.length else -1) := by
  unfold laws_szCmd.f
  rw [szInt_tells l n h0 h1 hl]
  simp only [Option.bind_some]
  by_cases c : (l.length : Int) ≤ n
  · rw [if_pos c, if_neg (by omega)]
  · rw [if_neg c, if_pos (by omega)]
theorem toCmd_same (a : Int) (l : List Int) (h : l.length ≤ 1048576) (k : Nat) (hk : l.length < k) : laws_toCmd.f k a l = some (a, l) := by
  unfold laws_toCmd.f
  rw [toInt_same l h k hk]
  rfl
theorem eqCmd_same (a : Int) (l : List Int) (h : l.length ≤ 140737488355328) (k : Nat) (hk : l.length < k) : laws_eqCmd.f k a l a l = some true := by
  unfold laws_eqCmd.f
  rw [if_pos rfl, eqInt_same l h k hk]
  rfl
theorem markCmd_tells (a : Int) (l : List Int) (h : l.length ≤ 140737488355328) (k : Nat) (hk : l.length < k) : laws_markCmd.f k a l 1 = some (1 + (l.length : Int), markedI 1 l.length) := by
  unfold laws_markCmd.f
  rw [markInt l h 1 (by omega) (by omega) k hk]
  rfl
theorem FnExactCmdPack (a : Int) (l : List Int) (_ : (Lit.int .i64 a).wf = true) (_ : ∀ x ∈ l, (Lit.int .i64 x).wf = true) (hn : l.length ≤ 9223372036854775807) : ∃ k, laws_FnExactCmdPack.f k a l = some true := by
  obtain ⟨K, hK⟩ : ∃ K, K = l.length + 100 := ⟨_, rfl⟩
  refine ⟨K + 3, ?_⟩
  unfold laws_FnExactCmdPack.f
  rw [szCmd_tells a l 1048576 (by omega) (by omega) hn]
  simp only [Option.bind_some]
  by_cases c : (l.length : Int) ≤ 1048576
  · have n0 : ¬ (1048576 - (l.length : Int) < 0) := by omega
    rw [if_pos c, if_neg n0]
    have ht := fun (k : Nat) (h' : l.length < k) => toCmd_same a l (by omega) k h'
    have he := fun (k : Nat) (h' : l.length < k) => eqCmd_same a l (by omega) k h'
    have hm := fun (k : Nat) (h' : l.length < k) => markCmd_tells a l (by omega) k h'
    have hs := fun (k : Nat) (h' : l.length + 30 < k) => spec_cmdpack a l (by omega) k h'
    have hi := fun (k : Nat) (h' : l.length + 30 < k) => impl_cmdpack a l (by omega) k h'
    have hr := cmdPack_len a l
    generalize cmdPack a l = r at *
    have hbe := fun (k : Nat) (h' : 72 < k) => eqByte_same r.1 (by omega) k (by omega)
    have hbm := fun (k : Nat) (h' : 72 < k) => markByte r.1 (by omega) 1 (by omega) (by omega) k (by omega)
    have hbh := fun (k : Nat) (h' : 72 < k) => heldByte r.1.length (by omega) 1 (by omega) (by omega) k (by omega)
    have n1 : ¬ (1 + (l.length : Int) < 0) := by omega
    have n2 : ¬ (1 + (r.1.length : Int) < 0) := by omega
    simp (disch := omega) only [hs, hi, ht, he, hm, hbe, hbm, hbh, n1, n2, Option.bind_some, if_true, if_false, bne_self_eq_false, Bool.false_eq_true, Bool.not_true]
    rw [laws_FnExactCmdPack.j0]
    simp (disch := omega) only [hs, hi, ht, he, hm, hbe, hbm, hbh, n1, n2, Option.bind_some, if_true, if_false, bne_self_eq_false, Bool.false_eq_true, Bool.not_true]
    rw [laws_FnExactCmdPack.j1]
    simp (disch := omega) only [hs, hi, ht, he, hm, hbe, hbm, hbh, n1, n2, Option.bind_some, if_true, if_false, bne_self_eq_false, Bool.false_eq_true, Bool.not_true]
    rw [laws_FnExactCmdPack.j2]
    simp (disch := omega) only [hs, hi, ht, he, hm, hbe, hbm, hbh, n1, n2, Option.bind_some, if_true, if_false, bne_self_eq_false, Bool.false_eq_true, Bool.not_true]
  · rw [if_neg c, if_pos (by omega)]
end Go.Proofs.Ytnafmfhfonhmaaa.Pure
