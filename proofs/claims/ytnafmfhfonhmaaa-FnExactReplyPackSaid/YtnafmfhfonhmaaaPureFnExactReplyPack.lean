/- At every reply the program's ReplyPack tells what the reference's tells (the pure side). No condition. -/
import Derived.Test.YtnafmfhfonhmaaaPFnExactReplyPackx
import Derived.Test.YtnafmfhfonhmaaaU0
namespace Go.Proofs.Ytnafmfhfonhmaaa.Pure
open Go.RowKit Go.Proofs.Ytnafmfhfonhmaaa.PFnExactReplyPack Go.Proofs.YtnafmfhfonhmaaaW.PrintWords Go.Proofs.YtnafmfhfonhmaaaW.PrintLast Go.Proofs.Ytnafmfhfonhmaaa.U0
set_option linter.unusedSimpArgs false
set_option linter.unusedVariables false

theorem spec_in_tells (a lo hi : Int) : spec_l1In.f a lo hi = some (decide (lo ≤ a ∧ a ≤ hi)) := by
  unfold spec_l1In.f
  by_cases c : lo ≤ a
  · rw [if_pos (show a ≥ lo from c)]; congr 1; simp [c]
  · rw [if_neg (show ¬ a ≥ lo from c)]; simp [c]
theorem impl_in_tells (a lo hi : Int) : impl_in.f a lo hi = some (decide (lo ≤ a ∧ a ≤ hi)) := by
  unfold impl_in.f
  by_cases c : lo ≤ a
  · rw [if_pos (show a ≥ lo from c)]; congr 1; simp [c]
  · rw [if_neg (show ¬ a ≥ lo from c)]; simp [c]
theorem eqByte_same (l : List Int) (h : l.length ≤ 140737488355328) (k : Nat) (hk : l.length < k) : laws_eqByteS.f k l l = some true := by
  unfold laws_eqByteS.f
  rw [if_pos rfl]
  exact same_loop (c := fun x y i => rd x i = rd y i) (fun _ _ _ _ => by rw [laws_eqByteS.l0]) l (fun _ _ _ => rfl) (by omega) l.length 0 (by omega) k hk
def markedB (c : Int) (n : Nat) : List Int := (List.range n).map fun (j : Nat) => (c + (j : Int)) % 256
theorem markedB_len (c : Int) (n : Nat) : (markedB c n).length = n := by simp [markedB]
theorem markByte (l : List Int) (h : l.length ≤ 140737488355328) (c : Int) (hc : 0 ≤ c) (hc1 : c ≤ 4611686018427387904) (k : Nat) (hk : l.length < k) : laws_markByteS.f k l c = some (c + l.length, markedB c l.length) := by
  unfold laws_markByteS.f
  have := mark_loop (L := laws_markByteS.l0) (g := fun c => c % 256) (fun _ _ _ _ => by rw [laws_markByteS.l0]) l.length h c hc hc1 l.length 0 l rfl (by omega) (fun j hj => by omega) k hk
  simpa [markedB] using this
theorem heldByte (n : Nat) (h : n ≤ 140737488355328) (c : Int) (hc : 0 ≤ c) (hc1 : c ≤ 4611686018427387904) (k : Nat) (hk : n < k) : laws_heldByteS.f k (markedB c n) c = some (c + n) := by
  unfold laws_heldByteS.f
  have := held_loop (L := laws_heldByteS.l0) (g := fun c => c % 256) (t := fun x c i => rd x i = c % 256) (fun _ _ _ _ => by rw [laws_heldByteS.l0]) n h c hc hc1 (markedB c n) rfl (fun i hi e => by rw [rd_lt hi]; exact e) n 0 (by omega) k hk
  simpa using this
/-- The number form: seven bits a byte, the lowest first, 128 added to each but the last. -/
def form (n : Nat) : List Int := if h : n < 128 then [(n : Int)] else ((n % 128 + 128 : Nat) : Int) :: form (n / 128)
termination_by n
decreasing_by omega
theorem form_small {n : Nat} (h : n < 128) : form n = [(n : Int)] := by rw [form, dif_pos h]
theorem form_big {n : Nat} (h : ¬ n < 128) : form n = ((n % 128 + 128 : Nat) : Int) :: form (n / 128) := by rw [form, dif_neg h]
theorem form_len (d : Nat) : ∀ n, n < 128 ^ (d + 1) → (form n).length ≤ d + 1 := by
  induction d with
  | zero => intro n h; rw [form_small (by simpa using h)]; simp
  | succ d ih =>
    intro n h
    by_cases c : n < 128
    · rw [form_small c]; simp
    · rw [form_big c, List.length_cons]
      have := ih (n / 128) (by rw [Nat.pow_succ] at h; omega)
      omega

/-- What a PutNum tells: the form, or nothing of what is below 0. -/
def putNum (x : Int) : List Int := if x < 0 then [] else form x.toNat
theorem putNum_len (x : Int) (h : x ≤ 9223372036854775807) : (putNum x).length ≤ 9 := by
  unfold putNum
  split
  · simp
  · exact form_len 8 _ (Nat.lt_of_le_of_lt (show x.toNat ≤ 9223372036854775807 by omega) (by decide))
theorem spec_put_loop (d : Nat) : ∀ (n : Nat) (acc : List Int), n < 128 ^ (d + 1) → n ≤ 9223372036854775807 → acc.length + d < 140737488355327 → ∀ k, d < k → spec_PutNum.l0 k n acc = some (acc ++ form n) := by
  induction d with
  | zero =>
    intro n acc h _ ha k hk
    obtain ⟨k, rfl⟩ : ∃ m, k = m + 1 := ⟨k - 1, by omega⟩
    simp only [spec_PutNum.l0]
    rw [if_neg (by omega), if_pos (by omega), form_small (by omega), show ((n : Int)) % 256 = n from by omega]
  | succ d ih =>
    intro n acc h h63 ha k hk
    obtain ⟨k, rfl⟩ : ∃ m, k = m + 1 := ⟨k - 1, by omega⟩
    simp only [spec_PutNum.l0]
    by_cases c : n < 128
    · rw [if_neg (by omega), if_pos (by omega), form_small c, show ((n : Int)) % 256 = n from by omega]
    · rw [if_pos (by omega), if_pos (by omega)]
      have e1 : wrap64 (Int.tdiv (n : Int) 128) = ((n / 128 : Nat) : Int) := by
        rw [Int.tdiv_eq_ediv_of_nonneg (by omega), w_in (by omega) (by omega)]; omega
      have e2 : (wrap64 (Int.tmod (n : Int) 128 + 128)) % 256 = ((n % 128 + 128 : Nat) : Int) := by
        rw [Int.tmod_eq_emod_of_nonneg (by omega), w_in (by omega) (by omega)]; omega
      rw [e1, e2, ih (n / 128) _ (by rw [Nat.pow_succ] at h; omega) (by omega) (by simp; omega) k (by omega), form_big c]
      simp
theorem spec_put (x : Int) (h : x ≤ 9223372036854775807) (k : Nat) (hk : 9 < k) : spec_PutNum.f k x = some (putNum x) := by
  unfold spec_PutNum.f putNum
  simp only [Option.bind_some]
  by_cases c : x < 0
  · rw [if_pos c, if_pos c]
  · obtain ⟨n, rfl⟩ := Int.eq_ofNat_of_zero_le (Int.not_lt.1 c)
    rw [if_neg c, if_neg c, Int.toNat_natCast]
    simpa using spec_put_loop 9 n [] (Nat.lt_of_le_of_lt (show n ≤ 9223372036854775807 by omega) (by decide)) (by omega) (by decide) k hk
theorem impl_put_loop (d : Nat) : ∀ (n : Nat) (acc : List Int), n < 128 ^ (d + 1) → n ≤ 9223372036854775807 → acc.length + d < 140737488355327 → ∀ k, d < k → impl_PutNum.l0 k n acc = some (acc ++ form n) := by
  induction d with
  | zero =>
    intro n acc h _ ha k hk
    obtain ⟨k, rfl⟩ : ∃ m, k = m + 1 := ⟨k - 1, by omega⟩
    simp only [impl_PutNum.l0]
    rw [if_neg (by omega), if_pos (by omega), form_small (by omega), show ((n : Int)) % 256 = n from by omega]
  | succ d ih =>
    intro n acc h h63 ha k hk
    obtain ⟨k, rfl⟩ : ∃ m, k = m + 1 := ⟨k - 1, by omega⟩
    simp only [impl_PutNum.l0]
    by_cases c : n < 128
    · rw [if_neg (by omega), if_pos (by omega), form_small c, show ((n : Int)) % 256 = n from by omega]
    · rw [if_pos (by omega), if_pos (by omega)]
      have e1 : (n : Int) / 128 = ((n / 128 : Nat) : Int) := by omega
      have e2 : Go.bits .or .i64 (Go.bits .and .i64 (n : Int) 127) 128 % 256 = ((n % 128 + 128 : Nat) : Int) := by
        rw [and127 (by omega) (by omega), or128 (by omega) (by omega)]; omega
      rw [e1, e2, ih (n / 128) _ (by rw [Nat.pow_succ] at h; omega) (by omega) (by simp; omega) k (by omega), form_big c]
      simp

theorem impl_put (x : Int) (h : x ≤ 9223372036854775807) (k : Nat) (hk : 9 < k) : impl_PutNum.f k x = some (putNum x) := by
  unfold impl_PutNum.f putNum
  by_cases c : x < 0
  · rw [if_pos c, if_pos c]
  · obtain ⟨n, rfl⟩ := Int.eq_ofNat_of_zero_le (Int.not_lt.1 c)
    rw [if_neg c, if_neg c, Int.toNat_natCast]
    simpa using impl_put_loop 9 n [] (Nat.lt_of_le_of_lt (show n ≤ 9223372036854775807 by omega) (by decide)) (by omega) (by decide) k hk
/-- What a PutNums tells: the forms, one behind the other; nothing when one is below 0. -/
def putNums (l : List Int) : List Int := if l.any (fun x => decide (x < 0)) then [] else l.flatMap putNum
theorem flat_len (l : List Int) (h : ∀ x ∈ l, x ≤ 9223372036854775807) : (l.flatMap putNum).length ≤ 9 * l.length := by
  induction l with
  | nil => simp
  | cons x xs ih =>
    have h1 := putNum_len x (h x (by simp))
    have h2 := ih (fun y hy => h y (by simp [hy]))
    simp only [List.flatMap_cons, List.length_append, List.length_cons]
    omega
theorem putNums_len (l : List Int) (h : ∀ x ∈ l, x ≤ 9223372036854775807) : (putNums l).length ≤ 9 * l.length := by
  unfold putNums
  split
  · simp
  · exact flat_len l h
theorem impl_putnums_loop (l : List Int) (hl : ∀ x ∈ l, x ≤ 9223372036854775807) (hn : l.length ≤ 1048576) (d : Nat) : ∀ (i : Nat) (acc : List Int), i + d = l.length → acc.length + 9 * d ≤ 9437184 → ∀ k, d + 11 < k →
    impl_PutNums.l0 k acc l l.length i = some (acc ++ (l.drop i).flatMap putNum) := by
  induction d with
  | zero =>
    intro i acc hi ha k hk
    obtain ⟨k, rfl⟩ : ∃ m, k = m + 1 := ⟨k - 1, by omega⟩
    simp only [impl_PutNums.l0]
    rw [if_neg (by omega), List.drop_eq_nil_of_le (by omega)]
    simp
  | succ d ih =>
    intro i acc hi ha k hk
    obtain ⟨k, rfl⟩ : ∃ m, k = m + 1 := ⟨k - 1, by omega⟩
    have hil : i < l.length := by omega
    have hx := hl _ (List.getElem_mem hil)
    simp only [impl_PutNums.l0]
    rw [if_pos (by omega), if_pos (by omega), if_pos (by omega), rd_lt hil, List.drop_eq_getElem_cons hil, List.flatMap_cons]
    rw [impl_put _ hx k (by omega)]
    have hp := putNum_len _ hx
    simp only [Option.bind_some]
    rw [if_pos (by omega), w_in (by omega) (by omega)]
    have := ih (i + 1) (acc ++ putNum l[i]) (by omega) (by simp; omega) k (by omega)
    rw [show ((i : Int) + 1) = ((i + 1 : Nat) : Int) from rfl, this, List.append_assoc]
theorem has_neg (l : List Int) : has_impl_PutNums_1.f l = some (l.any (fun x => decide (x < 0))) := by
  unfold has_impl_PutNums_1.f
  induction l with
  | nil => rfl
  | cons x xs ih =>
    simp only [hasO, impl_PutNums_1.f, Option.bind_some, List.any_cons]
    by_cases c : x < 0
    · simp [c]
    · rw [decide_eq_false c, if_neg (by decide), Bool.false_or]
      exact ih
theorem impl_putnums (l : List Int) (hl : ∀ x ∈ l, x ≤ 9223372036854775807) (hn : l.length ≤ 1048576) (k : Nat) (hk : l.length + 12 < k) : impl_PutNums.f k l = some (putNums l) := by
  unfold impl_PutNums.f putNums
  rw [has_neg]
  simp only [Option.bind_some]
  by_cases c : l.any (fun x => decide (x < 0)) = true
  · rw [if_pos c, if_pos c]
  · rw [if_neg c, if_neg c]
    simpa using impl_putnums_loop l hl hn l.length 0 [] (by omega) (by simp; omega) k (by omega)
/-- What a ReplyPack tells. -/
def replyPack (c v : Int) : List Int × Bool := if (0 ≤ c ∧ c ≤ 8) ∧ (-1000000000000000 ≤ v ∧ v ≤ 1000000000000000) then (putNum c ++ putNum (v + 1000000000000000), true) else ([], false)
theorem replyPack_len (c v : Int) : (replyPack c v).1.length ≤ 18 := by
  unfold replyPack
  by_cases h : (0 ≤ c ∧ c ≤ 8) ∧ (-1000000000000000 ≤ v ∧ v ≤ 1000000000000000)
  · rw [if_pos h]
    have h1 := putNum_len c (by omega)
    have h2 := putNum_len (v + 1000000000000000) (by omega)
    simp only [List.length_append]
    omega
  · rw [if_neg h]; simp
theorem spec_replypack (c v : Int) (k : Nat) (hk : 10 < k) : spec_ReplyPack.f k c v = some (replyPack c v) := by
  obtain ⟨k, rfl⟩ : ∃ m, k = m + 1 := ⟨k - 1, by omega⟩
  unfold spec_ReplyPack.f replyPack
  simp only [spec_in_tells, spec_AmountOk.f, Option.bind_some, decide_eq_true_eq, spec_ReplyPack.j0]
  by_cases h1 : 0 ≤ c ∧ c ≤ 8
  · by_cases h2 : -1000000000000000 ≤ v ∧ v ≤ 1000000000000000
    · rw [if_pos h1, if_pos (⟨h1, h2⟩ : (0 ≤ c ∧ c ≤ 8) ∧ _), decide_eq_true h2, if_neg (by decide), w_in (by omega) (by omega), spec_put c (by omega) k (by omega), spec_put (v + 1000000000000000) (by omega) k (by omega)]
      have e1 := putNum_len c (by omega)
      have e2 := putNum_len (v + 1000000000000000) (by omega)
      simp only [Option.bind_some]
      rw [if_pos (by omega)]
    · have hm : ¬ ((0 ≤ c ∧ c ≤ 8) ∧ (-1000000000000000 ≤ v ∧ v ≤ 1000000000000000)) := fun h => h2 h.2
      rw [if_pos h1, if_neg hm, decide_eq_false h2, if_pos (by decide)]
  · have hm : ¬ ((0 ≤ c ∧ c ≤ 8) ∧ (-1000000000000000 ≤ v ∧ v ≤ 1000000000000000)) := fun h => h1 h.1
    rw [if_neg h1, if_neg hm, if_pos trivial]
theorem putNums_two {a b : Int} (ha : 0 ≤ a) (hb : 0 ≤ b) : putNums [a, b] = putNum a ++ putNum b := by
  unfold putNums
  simp [Int.not_lt.2 ha, Int.not_lt.2 hb]
theorem impl_replypack (c v : Int) (k : Nat) (hk : 15 < k) : impl_ReplyPack.f k c v = some (replyPack c v) := by
  unfold impl_ReplyPack.f replyPack
  simp only [impl_in_tells, impl_AmountOk.f, Option.bind_some, decide_eq_true_eq]
  by_cases h1 : 0 ≤ c ∧ c ≤ 8
  · by_cases h2 : -1000000000000000 ≤ v ∧ v ≤ 1000000000000000
    · rw [if_pos h1, if_pos h2, if_pos (⟨h1, h2⟩ : (0 ≤ c ∧ c ≤ 8) ∧ _), w_in (by omega) (by omega), impl_putnums [c, v + 1000000000000000] (by intro x hx; simp at hx; omega) (by simp) k (by simp; omega), putNums_two (by omega) (by omega)]
      rfl
    · have hm : ¬ ((0 ≤ c ∧ c ≤ 8) ∧ (-1000000000000000 ≤ v ∧ v ≤ 1000000000000000)) := fun h => h2 h.2
      rw [if_pos h1, if_neg h2, if_neg hm]
  · have hm : ¬ ((0 ≤ c ∧ c ≤ 8) ∧ (-1000000000000000 ≤ v ∧ v ≤ 1000000000000000)) := fun h => h1 h.1
    rw [if_neg h1, if_neg hm]
theorem FnExactReplyPack (c v : Int) (_ : (Lit.int .i64 c).wf = true) (_ : (Lit.int .i64 v).wf = true) : ∃ k, laws_FnExactReplyPack.f k c v = some true := by
  obtain ⟨K, hK⟩ : ∃ K, K = 30 := ⟨_, rfl⟩
  refine ⟨K + 3, ?_⟩
  have hr := replyPack_len c v
  have hs := fun (k : Nat) (h' : 15 < k) => spec_replypack c v k (by omega)
  have hi := fun (k : Nat) (h' : 15 < k) => impl_replypack c v k h'
  have ht : laws_toReply.f c v = some (c, v) := rfl
  generalize replyPack c v = r at *
  have hbe := fun (k : Nat) (h' : 18 < k) => eqByte_same r.1 (by omega) k (by omega)
  have hbm := fun (k : Nat) (h' : 18 < k) => markByte r.1 (by omega) 1 (by omega) (by omega) k (by omega)
  have hbh := fun (k : Nat) (h' : 18 < k) => heldByte r.1.length (by omega) 1 (by omega) (by omega) k (by omega)
  have n2 : ¬ (1 + (r.1.length : Int) < 0) := by omega
  unfold laws_FnExactReplyPack.f
  simp (disch := omega) only [hs, hi, ht, hbe, hbm, hbh, n2, Option.bind_some, if_true, if_false, bne_self_eq_false, Bool.false_eq_true, Bool.not_true]
  rw [laws_FnExactReplyPack.j0]
  simp (disch := omega) only [hs, hi, ht, hbe, hbm, hbh, n2, Option.bind_some, if_true, if_false, bne_self_eq_false, Bool.false_eq_true, Bool.not_true]
  rw [laws_FnExactReplyPack.j1]
  simp (disch := omega) only [hs, hi, ht, hbe, hbm, hbh, n2, Option.bind_some, if_true, if_false, bne_self_eq_false, Bool.false_eq_true, Bool.not_true]
end Go.Proofs.Ytnafmfhfonhmaaa.Pure
