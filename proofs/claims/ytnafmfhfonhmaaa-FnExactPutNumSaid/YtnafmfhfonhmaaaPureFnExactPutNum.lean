/- At every number the program's PutNum tells what the reference's tells (the pure side). No condition. -/
import Derived.Test.YtnafmfhfonhmaaaPFnExactPutNumx
import Derived.Test.YtnafmfhfonhmaaaU0
namespace Go.Proofs.Ytnafmfhfonhmaaa.Pure
open Go.RowKit Go.Proofs.Ytnafmfhfonhmaaa.PFnExactPutNum Go.Proofs.YtnafmfhfonhmaaaW.PrintWords Go.Proofs.YtnafmfhfonhmaaaW.PrintLast Go.Proofs.Ytnafmfhfonhmaaa.U0

theorem eqByte_same (l : List Int) (h : l.length ≤ 140737488355328) (k : Nat) (hk : l.length < k) : laws_eqByteS.f k l l = some true := by
  unfold laws_eqByteS.f
  rw [if_pos rfl]
  exact same_loop (c := fun x y i => rd x i = rd y i) (fun _ _ _ _ => by rw [laws_eqByteS.l0]) l (fun _ _ _ => rfl) (by omega) l.length 0 (by omega) k hk
def markedB (c : Int) (n : Nat) : List Int := (List.range n).map fun (j : Nat) => (c + (j : Int)) % 256
theorem markedB_len (c : Int) (n : Nat) : (markedB c n).length = n := by simp [markedB]
theorem markByte (l : List Int) (h : l.length ≤ 140737488355328) (c : Int) (hc : 0 ≤ c) (hc1 : c ≤ 4611686018427387904) (k : Nat) (hk : l.length < k) : laws_markByteS.f k l c = some (c + l.length, markedB c l.length) := by
  unfold laws_markByteS.f
  have := mark_loop (L := laws_markByteS.l0) (g := fun c => c % 256) (fun _ _ _ _ => by rw [laws_markByteS.l0]) l.length h c hc hc1 l.length 0 l rfl (by omega) (fun j hj => by omega) k hk
  simpa [markedB] using this
theorem heldByte (n : Nat) (h : n ≤ 140737488355328) (c : Int) (hc : 0 ≤ c) (hc1 : c ≤ 4611686018427387904) (k : Nat) (hk : n < k) : laws_heldByteS.f k (markedB c n) c = some (c + n) := by
  unfold laws_heldByteS.f
  have := held_loop (L := laws_heldByteS.l0) (g := fun c => c % 256) (t := fun x c i => rd x i = c % 256) (fun _ _ _ _ => by rw [laws_heldByteS.l0]) n h c hc hc1 (markedB c n) rfl (fun i hi e => by rw [rd_lt hi]; exact e) n 0 (by omega) k hk
  simpa using this
/-- The number form: seven bits a byte, the lowest first, 128 added to each but the last. -/
def form (n : Nat) : List Int := if h : n < 128 then [(n : Int)] else ((n % 128 + 128 : Nat) : Int) :: form (n / 128)
termination_by n
decreasing_by omega
theorem form_small {n : Nat} (h : n < 128) : form n = [(n : Int)] := by rw [form, dif_pos h]
theorem form_big {n : Nat} (h : ¬ n < 128) : form n = ((n % 128 + 128 : Nat) : Int) :: form (n / 128) := by rw [form, dif_neg h]
theorem form_len (d : Nat) : ∀ n, n < 128 ^ (d + 1) → (form n).length ≤ d + 1 := by
  induction d with
  | zero => intro n h; rw [form_small (by simpa using h)]; simp
  | succ d ih =>
    intro n h
    by_cases c : n < 128
    · rw [form_small c]; simp
    · rw [form_big c, List.length_cons]
      have := ih (n / 128) (by rw [Nat.pow_succ] at h; omega)
      omega

/-- What a PutNum tells: the form, or nothing of what is below 0. -/
def putNum (x : Int) : List Int := if x < 0 then [] else form x.toNat
theorem putNum_len (x : Int) (h : x ≤ 9223372036854775807) : (putNum x).length ≤ 9 := by
  unfold putNum
  split
  · simp
  · exact form_len 8 _ (Nat.lt_of_le_of_lt (show x.toNat ≤ 9223372036854775807 by omega) (by decide))
theorem spec_put_loop (d : Nat) : ∀ (n : Nat) (acc : List Int), n < 128 ^ (d + 1) → n ≤ 9223372036854775807 → acc.length + d < 140737488355327 → ∀ k, d < k → spec_PutNum.l0 k n acc = some (acc ++ form n) := by
  induction d with
  | zero =>
    intro n acc h _ ha k hk
    obtain ⟨k, rfl⟩ : ∃ m, k = m + 1 := ⟨k - 1, by omega⟩
    simp only [spec_PutNum.l0]
    rw [if_neg (by omega), if_pos (by omega), form_small (by omega), show ((n : Int)) % 256 = n from by omega]
  | succ d ih =>
    intro n acc h h63 ha k hk
    obtain ⟨k, rfl⟩ : ∃ m, k = m + 1 := ⟨k - 1, by omega⟩
    simp only [spec_PutNum.l0]
    by_cases c : n < 128
    · rw [if_neg (by omega), if_pos (by omega), form_small c, show ((n : Int)) % 256 = n from by omega]
    · rw [if_pos (by omega), if_pos (by omega)]
      have e1 : wrap64 (Int.tdiv (n : Int) 128) = ((n / 128 : Nat) : Int) := by
        rw [Int.tdiv_eq_ediv_of_nonneg (by omega), w_in (by omega) (by omega)]; omega
      have e2 : (wrap64 (Int.tmod (n : Int) 128 + 128)) % 256 = ((n % 128 + 128 : Nat) : Int) := by
        rw [Int.tmod_eq_emod_of_nonneg (by omega), w_in (by omega) (by omega)]; omega
      rw [e1, e2, ih (n / 128) _ (by rw [Nat.pow_succ] at h; omega) (by omega) (by simp; omega) k (by omega), form_big c]
      simp
theorem spec_put (x : Int) (h : x ≤ 9223372036854775807) (k : Nat) (hk : 9 < k) : spec_PutNum.f k x = some (putNum x) := by
  unfold spec_PutNum.f putNum
  simp only [Option.bind_some]
  by_cases c : x < 0
  · rw [if_pos c, if_pos c]
  · obtain ⟨n, rfl⟩ := Int.eq_ofNat_of_zero_le (Int.not_lt.1 c)
    rw [if_neg c, if_neg c, Int.toNat_natCast]
    simpa using spec_put_loop 9 n [] (Nat.lt_of_le_of_lt (show n ≤ 9223372036854775807 by omega) (by decide)) (by omega) (by decide) k hk
theorem impl_put_loop (d : Nat) : ∀ (n : Nat) (acc : List Int), n < 128 ^ (d + 1) → n ≤ 9223372036854775807 → acc.length + d < 140737488355327 → ∀ k, d < k → impl_PutNum.l0 k n acc = some (acc ++ form n) := by
  induction d with
  | zero =>
    intro n acc h _ ha k hk
    obtain ⟨k, rfl⟩ : ∃ m, k = m + 1 := ⟨k - 1, by omega⟩
    simp only [impl_PutNum.l0]
    rw [if_neg (by omega), if_pos (by omega), form_small (by omega), show ((n : Int)) % 256 = n from by omega]
  | succ d ih =>
    intro n acc h h63 ha k hk
    obtain ⟨k, rfl⟩ : ∃ m, k = m + 1 := ⟨k - 1, by omega⟩
    simp only [impl_PutNum.l0]
    by_cases c : n < 128
    · rw [if_neg (by omega), if_pos (by omega), form_small c, show ((n : Int)) % 256 = n from by omega]
    · rw [if_pos (by omega), if_pos (by omega)]
      have e1 : (n : Int) / 128 = ((n / 128 : Nat) : Int) := by omega
      have e2 : Go.bits .or .i64 (Go.bits .and .i64 (n : Int) 127) 128 % 256 = ((n % 128 + 128 : Nat) : Int) := by
        rw [and127 (by omega) (by omega), or128 (by omega) (by omega)]; omega
      rw [e1, e2, ih (n / 128) _ (by rw [Nat.pow_succ] at h; omega) (by omega) (by simp; omega) k (by omega), form_big c]
      simp

theorem impl_put (x : Int) (h : x ≤ 9223372036854775807) (k : Nat) (hk : 9 < k) : impl_PutNum.f k x = some (putNum x) := by
  unfold impl_PutNum.f putNum
  by_cases c : x < 0
  · rw [if_pos c, if_pos c]
  · obtain ⟨n, rfl⟩ := Int.eq_ofNat_of_zero_le (Int.not_lt.1 c)
    rw [if_neg c, if_neg c, Int.toNat_natCast]
    simpa using impl_put_loop 9 n [] (Nat.lt_of_le_of_lt (show n ≤ 9223372036854775807 by omega) (by decide)) (by omega) (by decide) k hk
theorem FnExactPutNum : laws_FnExactPutNum.Pure := by
  intro x hx
  have h63 := (wf_i64 hx).2
  refine ⟨20, ?_⟩
  have hl := putNum_len x h63
  have hs := spec_put x h63 20 (by omega)
  have hi := impl_put x h63 20 (by omega)
  have he := eqByte_same (putNum x) (by omega) 20 (by omega)
  have hm := markByte (putNum x) (by omega) 1 (by omega) (by omega) 20 (by omega)
  have hh := heldByte (putNum x).length (by omega) 1 (by omega) (by omega) 20 (by omega)
  unfold laws_FnExactPutNum.f
  simp only [hs, hi, he, hm, hh, Option.bind_some, if_true]
  rw [if_neg (by omega), if_neg (by omega)]
end Go.Proofs.Ytnafmfhfonhmaaa.Pure
