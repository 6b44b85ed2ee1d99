/- At every command the program's CmdOk tells what the reference's tells (the pure side). No condition. -/
import Derived.Test.YtnafmfhfonhmaaaPFnExactCmdOkx
import Derived.Test.YtnafmfhfonhmaaaU0
namespace Go.Proofs.Ytnafmfhfonhmaaa.Pure
open Go.RowKit Go.Proofs.Ytnafmfhfonhmaaa.PFnExactCmdOk Go.Proofs.YtnafmfhfonhmaaaW.PrintWords Go.Proofs.YtnafmfhfonhmaaaW.PrintLast Go.Proofs.Ytnafmfhfonhmaaa.U0
set_option linter.unusedSimpArgs false
set_option linter.unusedVariables false

/-- A loop that asks every element of a list of numbers. -/
theorem all_loop {L : Nat → Int → Option Bool} (l : List Int) (p : Int → Bool) (K0 : Nat) (hl : l.length ≤ 4611686018427387904)
    (hL : ∀ k (i : Nat), K0 ≤ k → L (k + 1) (i : Int) = if (i : Int) < (l.length : Int) then (if p (rd l i) = true then L k ((i + 1 : Nat) : Int) else some false) else some true) (d : Nat) : ∀ (i : Nat), i + d = l.length → ∀ k, d + K0 < k → L k (i : Int) = some ((l.drop i).all p) := by
  induction d with
  | zero =>
    intro i hi k hk
    obtain ⟨k, rfl⟩ : ∃ m, k = m + 1 := ⟨k - 1, by omega⟩
    rw [hL k i (by omega), if_neg (by omega), List.drop_eq_nil_of_le (by omega)]; rfl
  | succ d ih =>
    intro i hi k hk
    obtain ⟨k, rfl⟩ : ∃ m, k = m + 1 := ⟨k - 1, by omega⟩
    rw [hL k i (by omega), if_pos (by omega), List.drop_eq_getElem_cons (show i < l.length by omega), List.all_cons, rd_lt (show i < l.length by omega)]
    by_cases c : p (l[i]'(by omega)) = true
    · rw [if_pos c, ih (i + 1) (by omega) k (by omega), c, Bool.true_and]
    · rw [if_neg c, Bool.eq_false_iff.2 c, Bool.false_and]
theorem spec_in_tells (a lo hi : Int) : spec_l1In.f a lo hi = some (decide (lo ≤ a ∧ a ≤ hi)) := by
  unfold spec_l1In.f
  by_cases c : lo ≤ a
  · rw [if_pos (show a ≥ lo from c)]; congr 1; simp [c]
  · rw [if_neg (show ¬ a ≥ lo from c)]; simp [c]
/-- How many arguments a command of a kind has. -/
def nArgs (a : Int) : Int := if 1 ≤ a ∧ a ≤ 11 then rd [0, 2, 2, 5, 5, 7, 1, 2, 3, 7, 4, 4] a else -1
theorem nArgs_cases {a : Int} (h : 1 ≤ a ∧ a ≤ 11) : a = 1 ∨ a = 2 ∨ a = 3 ∨ a = 4 ∨ a = 5 ∨ a = 6 ∨ a = 7 ∨ a = 8 ∨ a = 9 ∨ a = 10 ∨ a = 11 := by omega
theorem nArgs_le (a : Int) : -1 ≤ nArgs a ∧ nArgs a ≤ 7 := by
  unfold nArgs
  by_cases h : 1 ≤ a ∧ a ≤ 11
  · rw [if_pos h]
    rcases nArgs_cases h with rfl | rfl | rfl | rfl | rfl | rfl | rfl | rfl | rfl | rfl | rfl <;> decide
  · rw [if_neg h]; omega
theorem nArgs_neg {a : Int} : nArgs a < 0 ↔ ¬ (1 ≤ a ∧ a ≤ 11) := by
  unfold nArgs
  by_cases h : 1 ≤ a ∧ a ≤ 11
  · rw [if_pos h]
    refine ⟨fun h2 => absurd h2 ?_, fun h2 => absurd h h2⟩
    rcases nArgs_cases h with rfl | rfl | rfl | rfl | rfl | rfl | rfl | rfl | rfl | rfl | rfl <;> decide
  · rw [if_neg h]
    exact ⟨fun _ => h, fun _ => by decide⟩
theorem spec_cmdargs (a : Int) : spec_CmdArgs.f a = some (nArgs a) := by
  unfold spec_CmdArgs.f nArgs
  rw [spec_in_tells]
  simp only [Option.bind_some, decide_eq_true_eq]
  by_cases h : 1 ≤ a ∧ a ≤ 11
  · rw [if_pos h, if_pos h, if_pos (by omega), if_pos (by simp; omega)]
  · rw [if_neg h, if_neg h]
theorem impl_cmdargs (a : Int) (k : Nat) (hk : 4 < k) : impl_CmdArgs.f k a = some (nArgs a) := by
  obtain ⟨k, rfl⟩ : ∃ m, k = m + 5 := ⟨k - 5, by omega⟩
  unfold nArgs
  by_cases h : 1 ≤ a ∧ a ≤ 11
  · rw [if_pos h]
    rcases nArgs_cases h with rfl | rfl | rfl | rfl | rfl | rfl | rfl | rfl | rfl | rfl | rfl <;> rfl
  · have b : ∀ c : Int, 1 ≤ c → c ≤ 11 → (a == c) = false := fun c h1 h2 => by rw [beq_eq_false_iff_ne]; omega
    unfold impl_CmdArgs.f
    rw [if_neg h, if_neg (by omega), if_neg (by omega), b 7 (by omega) (by omega)]
    simp only [impl_CmdArgs.j0]
    rw [if_neg (by decide), if_neg (by omega), if_neg (by omega), if_neg (by omega), b 11 (by omega) (by omega)]
    simp only [impl_CmdArgs.j1]
    rw [if_neg (by decide), if_neg (by omega), b 4 (by omega) (by omega)]
    simp only [impl_CmdArgs.j2]
    rw [if_neg (by decide), if_neg (by omega), if_neg (by omega)]
def goodArg (x : Int) : Bool := decide (0 ≤ x ∧ x ≤ 1000000000000000)
/-- Is it a command of a kind that there is, with as many arguments, each from 0 to MaxAmount? -/
def cmdOk (a : Int) (l : List Int) : Bool := (l.length : Int) == nArgs a && l.all goodArg
theorem spec_cmdok (a : Int) (l : List Int) (hl : l.length ≤ 1048576) (k : Nat) (hk : l.length + 10 < k) : spec_CmdOk.f k a l = some (cmdOk a l) := by
  obtain ⟨k, rfl⟩ : ∃ m, k = m + 1 := ⟨k - 1, by omega⟩
  have hloop := all_loop (L := fun k i => spec_CmdOk.l0 k i a l) l goodArg 0 (by omega) (fun k i _ => by
    show spec_CmdOk.l0 (k + 1) i a l = _
    rw [spec_CmdOk.l0]
    by_cases c : (i : Int) < (l.length : Int)
    · rw [if_pos c, if_pos c, if_pos (by omega), spec_l1Some.f, spec_in_tells, w_in (by omega) (by omega)]
      simp only [Option.bind_some]
      rfl
    · rw [if_neg c, if_neg c]) l.length 0 (by omega) k (by omega)
  unfold spec_CmdOk.f cmdOk
  rw [spec_cmdargs]
  simp only [Option.bind_some]
  by_cases c : nArgs a < 0
  · rw [if_pos c, spec_CmdOk.j0, if_pos rfl, show ((l.length : Int) == nArgs a) = false from by rw [beq_eq_false_iff_ne]; omega]; rfl
  · rw [if_neg c, spec_CmdOk.j0]
    by_cases c2 : (l.length : Int) = nArgs a
    · rw [if_neg (by simp [c2]), show ((l.length : Int) == nArgs a) = true from by simpa using c2]
      simpa using hloop
    · rw [if_pos (by simpa using c2), show ((l.length : Int) == nArgs a) = false from by simpa using c2]; rfl
theorem not_any_good (l : List Int) : (!l.any impl_CmdOk.p) = l.all goodArg := by
  rw [List.not_any_eq_all_not]
  congr 1
  funext x
  simp [impl_CmdOk.p, goodArg]
theorem impl_cmdok (a : Int) (l : List Int) (k : Nat) (hk : 4 < k) : impl_CmdOk.f k a l = some (cmdOk a l) := by
  unfold impl_CmdOk.f cmdOk
  rw [impl_cmdargs a k hk]
  simp only [Option.bind_some]
  rw [not_any_good]
theorem toInt_same (l : List Int) (h : l.length ≤ 1048576) (k : Nat) (hk : l.length < k) : laws_toIntS.f k l = some l := by
  unfold laws_toIntS.f
  rw [if_pos (by omega), if_pos (by omega), Int.toNat_natCast]
  exact copy_all (fun _ _ _ _ => by rw [laws_toIntS.l0]) (fun _ _ h => rd_lt h) l (by omega) 0 k hk
theorem eqInt_same (l : List Int) (h : l.length ≤ 140737488355328) (k : Nat) (hk : l.length < k) : laws_eqIntS.f k l l = some true := by
  unfold laws_eqIntS.f
  rw [if_pos rfl]
  exact same_loop (c := fun x y i => rd x i = rd y i) (fun _ _ _ _ => by rw [laws_eqIntS.l0]) l (fun _ _ _ => rfl) (by omega) l.length 0 (by omega) k hk
theorem szInt_tells (l : List Int) (n : Int) (h0 : 0 ≤ n) (h1 : n ≤ 1048576) (hl : l.length ≤ 9223372036854775807) : laws_szIntS.f l n = some (if (l.length : Int) ≤ n then n - l.length else -1) := by
  unfold laws_szIntS.f
  rw [w_in (by omega) (by omega)]
  by_cases c : (l.length : Int) ≤ n
  · rw [if_neg (by omega), if_pos c]
  · rw [if_pos (by omega), if_neg c]
theorem szCmd_tells (a : Int) (l : List Int) (n : Int) (h0 : 0 ≤ n) (h1 : n ≤ 1048576) (hl : l.length ≤ 9223372036854775807) : laws_szCmd.f a l n = some (if (l.length : Int) ≤ n then n - l.length else -1) := by
  unfold laws_szCmd.f
  rw [szInt_tells l n h0 h1 hl]
  simp only [Option.bind_some]
  by_cases c : (l.length : Int) ≤ n
  · rw [if_pos c, if_neg (by omega)]
  · rw [if_neg c, if_pos (by omega)]
theorem toCmd_same (a : Int) (l : List Int) (h : l.length ≤ 1048576) (k : Nat) (hk : l.length < k) : laws_toCmd.f k a l = some (a, l) := by
  unfold laws_toCmd.f
  rw [toInt_same l h k hk]
  rfl
theorem eqCmd_same (a : Int) (l : List Int) (h : l.length ≤ 140737488355328) (k : Nat) (hk : l.length < k) : laws_eqCmd.f k a l a l = some true := by
  unfold laws_eqCmd.f
  rw [if_pos rfl, eqInt_same l h k hk]
  rfl
theorem FnExactCmdOk (a : Int) (l : List Int) (_ : (Lit.int .i64 a).wf = true) (_ : ∀ x ∈ l, (Lit.int .i64 x).wf = true) (hn : l.length ≤ 9223372036854775807) : ∃ k, laws_FnExactCmdOk.f k a l = some true := by
  obtain ⟨K, hK⟩ : ∃ K, K = l.length + 20 := ⟨_, rfl⟩
  refine ⟨K, ?_⟩
  unfold laws_FnExactCmdOk.f
  rw [szCmd_tells a l 1048576 (by omega) (by omega) hn]
  simp only [Option.bind_some]
  by_cases c : (l.length : Int) ≤ 1048576
  · rw [if_pos c, if_neg (by omega)]
    have ht := toCmd_same a l (by omega) K (by omega)
    have he := eqCmd_same a l (by omega) K (by omega)
    have hs := spec_cmdok a l (by omega) K (by omega)
    have hi := impl_cmdok a l K (by omega)
    simp only [ht, he, hs, hi, Option.bind_some, if_true, bne_self_eq_false, Bool.false_eq_true, if_false]
  · rw [if_neg c, if_pos (by omega)]
end Go.Proofs.Ytnafmfhfonhmaaa.Pure
