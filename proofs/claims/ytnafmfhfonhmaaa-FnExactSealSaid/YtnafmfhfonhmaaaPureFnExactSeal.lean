/- At every row of bytes the program's Seal tells what the reference's tells (the pure side). No condition. -/
import Derived.Test.YtnafmfhfonhmaaaPFnExactSealx
import Derived.Test.YtnafmfhfonhmaaaU0
namespace Go.Proofs.Ytnafmfhfonhmaaa.Pure
open Go.RowKit Go.Proofs.Ytnafmfhfonhmaaa.PFnExactSeal Go.Proofs.YtnafmfhfonhmaaaW.PrintWords Go.Proofs.YtnafmfhfonhmaaaW.PrintLast Go.Proofs.Ytnafmfhfonhmaaa.U0
set_option linter.unusedSimpArgs false
set_option linter.unusedVariables false

theorem toByte_same (l : List Int) (h : l.length ≤ 1048576) (k : Nat) (hk : l.length < k) : laws_toByteS.f k l = some l := by
  unfold laws_toByteS.f
  rw [if_pos (by omega), if_pos (by omega), Int.toNat_natCast]
  exact copy_all (fun _ _ _ _ => by rw [laws_toByteS.l0]) (fun _ _ h => rd_lt h) l (by omega) 0 k hk
theorem eqByte_same (l : List Int) (h : l.length ≤ 140737488355328) (k : Nat) (hk : l.length < k) : laws_eqByteS.f k l l = some true := by
  unfold laws_eqByteS.f
  rw [if_pos rfl]
  exact same_loop (c := fun x y i => rd x i = rd y i) (fun _ _ _ _ => by rw [laws_eqByteS.l0]) l (fun _ _ _ => rfl) (by omega) l.length 0 (by omega) k hk
def markedB (c : Int) (n : Nat) : List Int := (List.range n).map fun (j : Nat) => (c + (j : Int)) % 256
theorem markedB_len (c : Int) (n : Nat) : (markedB c n).length = n := by simp [markedB]
theorem markByte (l : List Int) (h : l.length ≤ 140737488355328) (c : Int) (hc : 0 ≤ c) (hc1 : c ≤ 4611686018427387904) (k : Nat) (hk : l.length < k) : laws_markByteS.f k l c = some (c + l.length, markedB c l.length) := by
  unfold laws_markByteS.f
  have := mark_loop (L := laws_markByteS.l0) (g := fun c => c % 256) (fun _ _ _ _ => by rw [laws_markByteS.l0]) l.length h c hc hc1 l.length 0 l rfl (by omega) (fun j hj => by omega) k hk
  simpa [markedB] using this
theorem heldByte (n : Nat) (h : n ≤ 140737488355328) (c : Int) (hc : 0 ≤ c) (hc1 : c ≤ 4611686018427387904) (k : Nat) (hk : n < k) : laws_heldByteS.f k (markedB c n) c = some (c + n) := by
  unfold laws_heldByteS.f
  have := held_loop (L := laws_heldByteS.l0) (g := fun c => c % 256) (t := fun x c i => rd x i = c % 256) (fun _ _ _ _ => by rw [laws_heldByteS.l0]) n h c hc hc1 (markedB c n) rfl (fun i hi e => by rw [rd_lt hi]; exact e) n 0 (by omega) k hk
  simpa using this
/-- The number form: seven bits a byte, the lowest first, 128 added to each but the last. -/
def form (n : Nat) : List Int := if h : n < 128 then [(n : Int)] else ((n % 128 + 128 : Nat) : Int) :: form (n / 128)
termination_by n
decreasing_by omega
theorem form_small {n : Nat} (h : n < 128) : form n = [(n : Int)] := by rw [form, dif_pos h]
theorem form_big {n : Nat} (h : ¬ n < 128) : form n = ((n % 128 + 128 : Nat) : Int) :: form (n / 128) := by rw [form, dif_neg h]
theorem form_len (d : Nat) : ∀ n, n < 128 ^ (d + 1) → (form n).length ≤ d + 1 := by
  induction d with
  | zero => intro n h; rw [form_small (by simpa using h)]; simp
  | succ d ih =>
    intro n h
    by_cases c : n < 128
    · rw [form_small c]; simp
    · rw [form_big c, List.length_cons]
      have := ih (n / 128) (by rw [Nat.pow_succ] at h; omega)
      omega

/-- What a PutNum tells: the form, or nothing of what is below 0. -/
def putNum (x : Int) : List Int := if x < 0 then [] else form x.toNat
theorem putNum_len (x : Int) (h : x ≤ 9223372036854775807) : (putNum x).length ≤ 9 := by
  unfold putNum
  split
  · simp
  · exact form_len 8 _ (Nat.lt_of_le_of_lt (show x.toNat ≤ 9223372036854775807 by omega) (by decide))
theorem spec_put_loop (d : Nat) : ∀ (n : Nat) (acc : List Int), n < 128 ^ (d + 1) → n ≤ 9223372036854775807 → acc.length + d < 140737488355327 → ∀ k, d < k → spec_PutNum.l0 k n acc = some (acc ++ form n) := by
  induction d with
  | zero =>
    intro n acc h _ ha k hk
    obtain ⟨k, rfl⟩ : ∃ m, k = m + 1 := ⟨k - 1, by omega⟩
    simp only [spec_PutNum.l0]
    rw [if_neg (by omega), if_pos (by omega), form_small (by omega), show ((n : Int)) % 256 = n from by omega]
  | succ d ih =>
    intro n acc h h63 ha k hk
    obtain ⟨k, rfl⟩ : ∃ m, k = m + 1 := ⟨k - 1, by omega⟩
    simp only [spec_PutNum.l0]
    by_cases c : n < 128
    · rw [if_neg (by omega), if_pos (by omega), form_small c, show ((n : Int)) % 256 = n from by omega]
    · rw [if_pos (by omega), if_pos (by omega)]
      have e1 : wrap64 (Int.tdiv (n : Int) 128) = ((n / 128 : Nat) : Int) := by
        rw [Int.tdiv_eq_ediv_of_nonneg (by omega), w_in (by omega) (by omega)]; omega
      have e2 : (wrap64 (Int.tmod (n : Int) 128 + 128)) % 256 = ((n % 128 + 128 : Nat) : Int) := by
        rw [Int.tmod_eq_emod_of_nonneg (by omega), w_in (by omega) (by omega)]; omega
      rw [e1, e2, ih (n / 128) _ (by rw [Nat.pow_succ] at h; omega) (by omega) (by simp; omega) k (by omega), form_big c]
      simp
theorem spec_put (x : Int) (h : x ≤ 9223372036854775807) (k : Nat) (hk : 9 < k) : spec_PutNum.f k x = some (putNum x) := by
  unfold spec_PutNum.f putNum
  simp only [Option.bind_some]
  by_cases c : x < 0
  · rw [if_pos c, if_pos c]
  · obtain ⟨n, rfl⟩ := Int.eq_ofNat_of_zero_le (Int.not_lt.1 c)
    rw [if_neg c, if_neg c, Int.toNat_natCast]
    simpa using spec_put_loop 9 n [] (Nat.lt_of_le_of_lt (show n ≤ 9223372036854775807 by omega) (by decide)) (by omega) (by decide) k hk
theorem impl_put_loop (d : Nat) : ∀ (n : Nat) (acc : List Int), n < 128 ^ (d + 1) → n ≤ 9223372036854775807 → acc.length + d < 140737488355327 → ∀ k, d < k → impl_PutNum.l0 k n acc = some (acc ++ form n) := by
  induction d with
  | zero =>
    intro n acc h _ ha k hk
    obtain ⟨k, rfl⟩ : ∃ m, k = m + 1 := ⟨k - 1, by omega⟩
    simp only [impl_PutNum.l0]
    rw [if_neg (by omega), if_pos (by omega), form_small (by omega), show ((n : Int)) % 256 = n from by omega]
  | succ d ih =>
    intro n acc h h63 ha k hk
    obtain ⟨k, rfl⟩ : ∃ m, k = m + 1 := ⟨k - 1, by omega⟩
    simp only [impl_PutNum.l0]
    by_cases c : n < 128
    · rw [if_neg (by omega), if_pos (by omega), form_small c, show ((n : Int)) % 256 = n from by omega]
    · rw [if_pos (by omega), if_pos (by omega)]
      have e1 : (n : Int) / 128 = ((n / 128 : Nat) : Int) := by omega
      have e2 : Go.bits .or .i64 (Go.bits .and .i64 (n : Int) 127) 128 % 256 = ((n % 128 + 128 : Nat) : Int) := by
        rw [and127 (by omega) (by omega), or128 (by omega) (by omega)]; omega
      rw [e1, e2, ih (n / 128) _ (by rw [Nat.pow_succ] at h; omega) (by omega) (by simp; omega) k (by omega), form_big c]
      simp

theorem impl_put (x : Int) (h : x ≤ 9223372036854775807) (k : Nat) (hk : 9 < k) : impl_PutNum.f k x = some (putNum x) := by
  unfold impl_PutNum.f putNum
  by_cases c : x < 0
  · rw [if_pos c, if_pos c]
  · obtain ⟨n, rfl⟩ := Int.eq_ofNat_of_zero_le (Int.not_lt.1 c)
    rw [if_neg c, if_neg c, Int.toNat_natCast]
    simpa using impl_put_loop 9 n [] (Nat.lt_of_le_of_lt (show n ≤ 9223372036854775807 by omega) (by decide)) (by omega) (by decide) k hk
def ckM (l : List Int) : Nat → Nat → Int → Int → Int
  | 0, _, x, y => wrap64 (wrap64 (65536 * y) + x)
  | d + 1, i, x, y => ckM l d (i + 1) (Int.tmod (wrap64 (wrap64 (x + wrap64 (rd l (i : Int))) + 1)) 65535) (Int.tmod (wrap64 (y + Int.tmod (wrap64 (wrap64 (x + wrap64 (rd l (i : Int))) + 1)) 65535)) 65535)
/-- What a Check tells. -/
def chk (l : List Int) : Int := ckM l l.length 0 0 0
theorem check_both (l : List Int) (h : l.length ≤ 1048576) (d : Nat) : ∀ (i : Nat) (x y : Int), i + d = l.length → ∀ k, d < k → spec_Check.l0 k l x y i = some (ckM l d i x y) ∧ impl_Check.l0 k x y l l.length i = some (ckM l d i x y) := by
  induction d with
  | zero =>
    intro i x y hi k hk
    obtain ⟨k, rfl⟩ : ∃ m, k = m + 1 := ⟨k - 1, by omega⟩
    simp only [spec_Check.l0, impl_Check.l0]
    rw [if_neg (by omega), if_neg (by omega)]
    exact ⟨rfl, rfl⟩
  | succ d ih =>
    intro i x y hi k hk
    obtain ⟨k, rfl⟩ : ∃ m, k = m + 1 := ⟨k - 1, by omega⟩
    simp only [spec_Check.l0, impl_Check.l0]
    rw [if_pos (by omega), if_pos (by omega), if_pos (by omega), if_pos (by omega), if_pos (by omega), w_in (n := (i : Int) + 1) (by omega) (by omega)]
    exact ih (i + 1) _ _ (by omega) k (by omega)
theorem ckM_range (l : List Int) (hl : ∀ x ∈ l, 0 ≤ x ∧ x < 256) (d : Nat) : ∀ (i : Nat) (x y : Int), i + d = l.length → 0 ≤ x → x < 65535 → 0 ≤ y → y < 65535 → 0 ≤ ckM l d i x y ∧ ckM l d i x y < 4294967296 := by
  induction d with
  | zero =>
    intro i x y hi h0 h1 h2 h3
    unfold ckM
    rw [w_in (n := 65536 * y) (by omega) (by omega), w_in (by omega) (by omega)]
    omega
  | succ d ih =>
    intro i x y hi h0 h1 h2 h3
    have hb := hl _ (rd_mem (i := (i : Int)) (by omega) (by omega))
    unfold ckM
    generalize rd l (i : Int) = v at *
    have e1 : wrap64 v = v := w_in (by omega) (by omega)
    have e2 : wrap64 (x + v) = x + v := w_in (by omega) (by omega)
    have e3 : wrap64 (x + v + 1) = x + v + 1 := w_in (by omega) (by omega)
    have e4 : Int.tmod (x + v + 1) 65535 = (x + v + 1) % 65535 := Int.tmod_eq_emod_of_nonneg (by omega)
    have e5 : wrap64 (y + (x + v + 1) % 65535) = y + (x + v + 1) % 65535 := w_in (by omega) (by omega)
    have e6 : Int.tmod (y + (x + v + 1) % 65535) 65535 = (y + (x + v + 1) % 65535) % 65535 := Int.tmod_eq_emod_of_nonneg (by omega)
    rw [e1, e2, e3, e4, e5, e6]
    exact ih (i + 1) _ _ (by omega) (by omega) (by omega) (by omega) (by omega)
theorem chk_range (l : List Int) (hl : ∀ x ∈ l, 0 ≤ x ∧ x < 256) : 0 ≤ chk l ∧ chk l < 4294967296 := ckM_range l hl l.length 0 0 0 (by omega) (by decide) (by decide) (by decide) (by decide)
theorem spec_chk (l : List Int) (h : l.length ≤ 1048576) (k : Nat) (hk : l.length < k) : spec_Check.f k l = some (chk l) := (check_both l h l.length 0 0 0 (by omega) k hk).1
theorem impl_chk (l : List Int) (h : l.length ≤ 1048576) (k : Nat) (hk : l.length < k) : impl_Check.f k l = some (chk l) := (check_both l h l.length 0 0 0 (by omega) k hk).2
def four (r : Int) : List Int := [r % 256, (r / 256) % 256, (r / 65536) % 256, (r / 16777216) % 256]
theorem of_four (l : List Int) (h : l.length = 4) : ∃ a b c d, l = [a, b, c, d] := by
  match l, h with
  | [a, b, c, d], _ => exact ⟨a, b, c, d, rfl⟩
theorem rdL_at (x : List (List Int)) (i : Nat) (h : i < x.length) : rd_L1 x (i : Int) = x[i] := by
  unfold rd_L1
  rw [Int.toNat_natCast, List.getD_eq_getElem?_getD, List.getElem?_eq_getElem h]; rfl
theorem concat_l1 (x : List (List Int)) (hn : x.length ≤ 140737488355328) (d : Nat) : ∀ (i : Nat) (acc : List Int), i + d = x.length → acc.length + (x.drop i).flatten.length < 140737488355328 → ∀ k, slices_Concat_byte_byte.l1 (k + d + 1) acc x x.length i = some (acc ++ (x.drop i).flatten) := by
  induction d with
  | zero =>
    intro i acc hi _ k
    rw [slices_Concat_byte_byte.l1, if_neg (by omega), List.drop_eq_nil_of_le (by omega), List.flatten_nil, List.append_nil]
  | succ d ih =>
    intro i acc hi hs k
    have e : x.drop i = x[i]'(by omega) :: x.drop (i + 1) := List.drop_eq_getElem_cons (by omega)
    rw [e, List.flatten_cons, List.length_append] at hs
    rw [show k + (d + 1) + 1 = (k + d + 1) + 1 from rfl, slices_Concat_byte_byte.l1, if_pos (by omega), if_pos (by omega), if_pos (by omega), rdL_at x i (by omega), if_pos (by omega), w_in (n := (i : Int) + 1) (by omega) (by omega)]
    have := ih (i + 1) (acc ++ x[i]'(by omega)) (by omega) (by rw [List.length_append]; omega) k
    rw [show ((i : Int) + 1) = ((i + 1 : Nat) : Int) from rfl, this, e, List.flatten_cons, List.append_assoc]
theorem concat_l0 (x : List (List Int)) (hn : x.length ≤ 140737488355328) (d : Nat) : ∀ (i : Nat) (s : Int), i + d = x.length → 0 ≤ s → s + (x.drop i).flatten.length ≤ 140737488351232 → ∀ k, slices_Concat_byte_byte.l0 (k + d + 1) x s x x.length i = (slices_Grow_byte_byte.f [] (s + (x.drop i).flatten.length)).bind fun t => slices_Concat_byte_byte.l1 k t x x.length 0 := by
  induction d with
  | zero =>
    intro i s hi _ _ k
    rw [slices_Concat_byte_byte.l0, if_neg (by omega), List.drop_eq_nil_of_le (by omega), List.flatten_nil, List.length_nil, Int.natCast_zero, Int.add_zero]
  | succ d ih =>
    intro i s hi h0 hs k
    have e : x.drop i = x[i]'(by omega) :: x.drop (i + 1) := List.drop_eq_getElem_cons (by omega)
    rw [e, List.flatten_cons, List.length_append] at hs
    have w1 : wrap64 (s + ((x[i]'(by omega)).length : Int)) = s + ((x[i]'(by omega)).length : Int) := w_in (by omega) (by omega)
    rw [show k + (d + 1) + 1 = (k + d + 1) + 1 from rfl, slices_Concat_byte_byte.l0, if_pos (by omega), if_pos (by omega), if_pos (by omega), rdL_at x i (by omega), w1, if_neg (by omega), w_in (n := (i : Int) + 1) (by omega) (by omega)]
    have := ih (i + 1) (s + ((x[i]'(by omega)).length : Int)) (by omega) (by omega) (by omega) k
    rw [show ((i : Int) + 1) = ((i + 1 : Nat) : Int) from rfl, this, e, List.flatten_cons, List.length_append, Int.natCast_add, Int.add_assoc]
theorem concat_all (x : List (List Int)) (h0 : 0 < x.flatten.length) (hn : x.length ≤ 1000) (h : x.flatten.length ≤ 140737488351232) (k : Nat) (hk : 2 * x.length + 2 ≤ k) : slices_Concat_byte_byte.f k x = some x.flatten := by
  obtain ⟨m, rfl⟩ : ∃ m, k = (m + x.length + 1) + x.length + 1 := ⟨k - (2 * x.length + 2), by omega⟩
  unfold slices_Concat_byte_byte.f
  have e := concat_l0 x (by omega) x.length 0 0 (by omega) (by omega) (by rw [List.drop_zero]; omega) (m + x.length + 1)
  rw [List.drop_zero] at e
  refine e.trans ?_
  unfold slices_Grow_byte_byte.f
  rw [if_pos ⟨rfl, by omega, by omega⟩, Option.bind_some]
  have e2 := concat_l1 x (by omega) x.length 0 [] (by omega) (by rw [List.drop_zero, List.length_nil]; omega) m
  rw [List.drop_zero, List.nil_append] at e2
  exact e2
/-- What a Seal tells. -/
def sealM (l : List Int) : List Int × Bool := if (l.length : Int) > 9000 then ([], false) else (putNum l.length ++ l ++ four (chk l), true)
theorem four_len (r : Int) : (four r).length = 4 := rfl
theorem seal_len (l : List Int) : (sealM l).1.length ≤ 9100 := by
  unfold sealM
  split
  · simp
  · have := putNum_len l.length (by omega)
    simp only [List.length_append, four_len]; omega
theorem spec_seal (l : List Int) (k : Nat) (hk : 9030 < k) : spec_Seal.f k l = some (sealM l) := by
  unfold spec_Seal.f sealM
  by_cases c : (l.length : Int) > 9000
  · rw [if_pos c, if_pos c]
  · have hp := putNum_len l.length (by omega)
    rw [if_neg c, if_neg c, spec_chk l (by omega) k (by omega), Option.bind_some, spec_put l.length (by omega) k (by omega), Option.bind_some, if_pos (by omega), Option.bind_some, Option.bind_some, if_pos (by simp only [List.length_append, List.length_cons, List.length_nil]; omega)]
    rfl
theorem impl_seal (l : List Int) (k : Nat) (hk : 9030 < k) : impl_Seal.f k l = some (sealM l) := by
  unfold impl_Seal.f sealM
  by_cases c : (l.length : Int) > 9000
  · rw [if_pos c, if_pos c]
  · have hp := putNum_len l.length (by omega)
    rw [if_neg c, if_neg c, impl_put l.length (by omega) k (by omega), Option.bind_some]
    unfold impl_checkBytes.f
    rw [impl_chk l (by omega) k (by omega), Option.bind_some, Option.bind_some]
    rw [show [chk l % 256, chk l / 256 % 256, chk l / 65536 % 256, chk l / 16777216 % 256] = four (chk l) from rfl]
    have e : [putNum (l.length : Int), l, four (chk l)].flatten = putNum l.length ++ l ++ four (chk l) := by simp
    have hl : [putNum (l.length : Int), l, four (chk l)].flatten.length = (putNum (l.length : Int)).length + l.length + 4 := by rw [e]; simp only [List.length_append, four_len]
    rw [concat_all _ (by omega) (by simp) (by omega) k (by simp only [List.length_cons, List.length_nil]; omega), Option.bind_some, e]
theorem FnExactSeal : laws_FnExactSeal.Pure := by
  intro l _ _ _
  by_cases h : (l.length : Int) > 1048576
  · exact ⟨0, by unfold laws_FnExactSeal.f; rw [if_pos h]⟩
  · obtain ⟨K, hK⟩ : ∃ K, K = l.length + 9200 := ⟨_, rfl⟩
    refine ⟨K + 3, ?_⟩
    have hs := fun (k : Nat) (h' : 9030 < k) => spec_seal l k h'
    have hi := fun (k : Nat) (h' : 9030 < k) => impl_seal l k h'
    have ht := fun (k : Nat) (h' : l.length < k) => toByte_same l (by omega) k h'
    have he := fun (k : Nat) (h' : l.length < k) => eqByte_same l (by omega) k h'
    have hm := fun (k : Nat) (h' : l.length < k) => markByte l (by omega) 1 (by omega) (by omega) k h'
    have hr := seal_len l
    generalize sealM l = r at *
    have hre := fun (k : Nat) (h' : 9100 < k) => eqByte_same r.1 (by omega) k (by omega)
    have hrm := fun (k : Nat) (h' : 9100 < k) => markByte r.1 (by omega) 1 (by omega) (by omega) k (by omega)
    have hrh := fun (k : Nat) (h' : 9100 < k) => heldByte r.1.length (by omega) 1 (by omega) (by omega) k (by omega)
    have n1 : ¬ (1 + (l.length : Int) < 0) := by omega
    have n2 : ¬ (1 + (r.1.length : Int) < 0) := by omega
    unfold laws_FnExactSeal.f
    rw [if_neg h]
    simp (disch := omega) only [hs, hi, ht, he, hm, hre, hrm, hrh, n1, n2, Option.bind_some, if_true, if_false, bne_self_eq_false, Bool.false_eq_true]
    rw [laws_FnExactSeal.j0]
    simp (disch := omega) only [hs, hi, ht, he, hm, hre, hrm, hrh, n1, n2, Option.bind_some, if_true, if_false, bne_self_eq_false, Bool.false_eq_true]
    rw [laws_FnExactSeal.j1]
    simp (disch := omega) only [hs, hi, ht, he, hm, hre, hrm, hrh, n1, n2, Option.bind_some, if_true, if_false, bne_self_eq_false, Bool.false_eq_true]
    rw [laws_FnExactSeal.j2]
    simp (disch := omega) only [hs, hi, ht, he, hm, hre, hrm, hrh, n1, n2, Option.bind_some, if_true, if_false, bne_self_eq_false, Bool.false_eq_true]
end Go.Proofs.Ytnafmfhfonhmaaa.Pure
