/- Numbers as bytes. No condition. -/
import Derived.Test.YtnlajjoheegbiaaShPb
namespace Go.Proofs.Ytnlajjoheegbiaa.Sh
open Go.RowKit
set_option linter.unusedVariables false
set_option linter.unusedSimpArgs false
def pnN (n : Nat) : List By := if h : 127 < n then ⟨(n % 128 + 128 : Nat)⟩ :: pnN (n / 128) else [⟨n⟩]
termination_by n
decreasing_by omega
def pnI (x : Int) : List By := pnN x.toNat
theorem pnI_gt {x : Int} (h : x > 127) : pnI x = ⟨x % 128 + 128⟩ :: pnI (x / 128) := by
  unfold pnI
  rw [pnN, dif_pos (by omega)]
  congr 2
  · omega
  · congr 1
    omega
theorem pnI_le {x : Int} (h0 : 0 ≤ x) (h : ¬ x > 127) : pnI x = [⟨x⟩] := by
  unfold pnI
  rw [pnN, dif_neg (by omega)]
  congr 2
  omega
theorem pnN_len : ∀ (k n : Nat), n < 128 ^ (k + 1) → (pnN n).length ≤ k + 1
  | 0, n, h => by
    rw [pnN, dif_neg (by omega)]
    simp
  | k + 1, n, h => by
    rw [pnN]
    split
    · have h1 : n / 128 < 128 ^ (k + 1) := by
        rw [Nat.div_lt_iff_lt_mul (by omega)]
        rwa [Nat.pow_succ] at h
      have := pnN_len k (n / 128) h1
      simp only [List.length_cons]
      omega
    · simp
theorem pnI_len {x : Int} (h : x ≤ 9223372036854775807) : (pnI x).length ≤ 9 := pnN_len 8 _ (by
  have : (128 : Nat) ^ (8 + 1) = 9223372036854775808 := by decide
  omega)
theorem pnI_pos (x : Int) : 0 < (pnI x).length := by
  unfold pnI
  rw [pnN]
  split <;> simp
noncomputable def putNum (x : Int) : List By := sel (x < 0) [] (pnI x)
noncomputable def putNums (l : List Int) : List By := sel (∃ x ∈ l, x < 0) [] (l.flatMap pnI)
theorem u8_wrap {n : Int} (h : 0 ≤ n ∧ n < 256) : IntKind.u8.wrap n = n := by simp [IntKind.wrap, IntKind.bits, IntKind.signed]; omega
theorem bits_and {n k : Nat} (hn : n < 9223372036854775808) (hk : k < 9223372036854775808) : IntKind.i64.wrap ((BitVec.ofInt IntKind.i64.bits (n : Int) &&& BitVec.ofInt IntKind.i64.bits (k : Int)).toNat : Int) = ((n &&& k : Nat) : Int) := by
  have h1 : (BitVec.ofInt IntKind.i64.bits (n : Int) &&& BitVec.ofInt IntKind.i64.bits (k : Int)).toNat = n &&& k := by
    rw [BitVec.toNat_and, BitVec.ofInt_natCast, BitVec.ofInt_natCast, BitVec.toNat_ofNat, BitVec.toNat_ofNat, Nat.mod_eq_of_lt (by show n < 2 ^ 64; omega), Nat.mod_eq_of_lt (by show k < 2 ^ 64; omega)]
  rw [h1]
  have h2 : n &&& k ≤ k := Nat.and_le_right
  exact w64_eq (by omega)
theorem bits_or {n k : Nat} (hn : n < 9223372036854775808) (hk : k < 9223372036854775808) : IntKind.i64.wrap ((BitVec.ofInt IntKind.i64.bits (n : Int) ||| BitVec.ofInt IntKind.i64.bits (k : Int)).toNat : Int) = ((n ||| k : Nat) : Int) := by
  have h1 : (BitVec.ofInt IntKind.i64.bits (n : Int) ||| BitVec.ofInt IntKind.i64.bits (k : Int)).toNat = n ||| k := by
    rw [BitVec.toNat_or, BitVec.ofInt_natCast, BitVec.ofInt_natCast, BitVec.toNat_ofNat, BitVec.toNat_ofNat, Nat.mod_eq_of_lt (by show n < 2 ^ 64; omega), Nat.mod_eq_of_lt (by show k < 2 ^ 64; omega)]
  rw [h1]
  have h2 : n ||| k < 2 ^ 63 := Nat.or_lt_two_pow (by omega) (by omega)
  exact w64_eq (by omega)
theorem byte_or {y : Int} (h : 0 ≤ y ∧ y ≤ 9223372036854775807) : IntKind.u8.wrap (IntKind.i64.wrap ↑(BitVec.ofInt IntKind.i64.bits (IntKind.i64.wrap ↑(BitVec.ofInt IntKind.i64.bits y &&& BitVec.ofInt IntKind.i64.bits 127).toNat) ||| BitVec.ofInt IntKind.i64.bits 128).toNat) = y % 128 + 128 := by
  obtain ⟨n, rfl⟩ := Int.eq_ofNat_of_zero_le h.1
  have e1 : (n : Nat) &&& 127 = n % 128 := Nat.and_two_pow_sub_one_eq_mod n 7
  have e2 : (n % 128) ||| 128 = n % 128 + 128 := by
    have h7 : 128 * 1 + n % 128 = 128 * 1 ||| n % 128 := Nat.two_pow_add_eq_or_of_lt (i := 7) (b := n % 128) (by omega) 1
    rw [Nat.mul_one] at h7
    rw [Nat.or_comm, ← h7]
    omega
  have e3 := bits_and (n := n) (k := 127) (by omega) (by omega)
  rw [e1] at e3
  have e4 := bits_or (n := n % 128) (k := 128) (by omega) (by omega)
  rw [e2] at e4
  have e3' : IntKind.i64.wrap ↑(BitVec.ofInt IntKind.i64.bits (n : Int) &&& BitVec.ofInt IntKind.i64.bits 127).toNat = ((n % 128 : Nat) : Int) := e3
  have e4' : IntKind.i64.wrap ↑(BitVec.ofInt IntKind.i64.bits ((n % 128 : Nat) : Int) ||| BitVec.ofInt IntKind.i64.bits 128).toNat = ((n % 128 + 128 : Nat) : Int) := e4
  rw [e3', e4', u8_wrap (by omega)]
  omega
theorem shr7 {y : Int} : y.fdiv (2 ^ min (Int.toNat 7) IntKind.i64.bits) = y / 128 := by
  show y.fdiv 128 = y / 128
  rw [Int.fdiv_eq_ediv_of_nonneg _ (by omega)]
set_option maxHeartbeats 4000000 in
theorem impl_sumOf {l : List Int} (hq : (∀ x ∈ l, -1000000000000000 ≤ x ∧ x ≤ 1000000000000000) ∧ l.length ≤ 1000) : FC Try.prog 45 [.c (.row 0 0 l.length)] ([ro 3 l]) (I (sumF id l)) ([ro 3 l]) := by
  refine fent tk 17 [.tmp 2] Try.func45 (by kernel_rfl) rfl rfl rfl rfl rfl rfl rfl ?_
  repeat' (first
    | (with_reducible apply zds); exact tk; rfl; rfl; rfl; rfl; rfl
    | (with_reducible apply zd); rfl; exact tk; rfl
    | (with_reducible first | intro _ | apply wseq | apply zreg | apply thenQ_n | apply thenQ_r | apply thenQ_e | apply znil | apply wret | apply bodyQ_r | apply wblk | apply blkQ_n | apply blkQ_r | apply wskip | apply wexit)
    | apply wct rfl
    | apply wcf rfl
    | (with_reducible apply blkQ_x rfl)
    | (with_reducible apply blkQ_y rfl)
    | (with_reducible apply zcmp); rfl; exact tk; rfl; rfl; rfl
    | (with_reducible apply zar); rfl; rfl; rfl; rfl; (first | omega | ((try simp only [List.length_append, List.length_cons, List.length_nil, List.length_map]); (try dsimp only); omega)); rfl; rfl
    | (with_reducible apply zix); rfl; exact tk; rfl; rfl; rfl; rfl; rfl; rfl; rfl; (first | omega | ((try simp only [List.length_append, List.length_cons, List.length_nil, List.length_map]); (try dsimp only); omega)); rfl; rfl
    | (with_reducible apply zle); rfl; exact tk; rfl; rfl; rfl; rfl; (first | omega | ((try simp only [List.length_append, List.length_cons, List.length_nil, List.length_map]); (try dsimp only); omega)); rfl; rfl; rfl; rfl
    | fail)
  refine wlp (X := Int × Int) [6, 7] [0] (fun x => [(8, I x.1), (3, I x.2)]) (fun _ => []) (fun x => (0 ≤ x.1 ∧ x.1 ≤ l.length) ∧ x.2 = sumF id (pf l x.1)) (fun x => (l.length - x.1).toNat) (0, 0) ⟨by dsimp only; omega, rfl⟩ rfl rfl (fun _ => rfl) (fun _ => rfl) ⟨rfl, rfl, rfl, rfl, rfl, rfl, rfl, rfl⟩ (fun x hx => ?_)
  obtain ⟨i, n⟩ := x
  obtain ⟨h0, hn⟩ := hx
  dsimp only at h0 hn ⊢
  have hbd := sumF_bnd (f := id) hq.1 h0
  rw [← hn] at hbd
  have hm := fun (h : i < l.length) => hq.1 _ (rd_mem ⟨h0.1, h⟩)
  repeat' (first
    | (with_reducible apply zds); exact tk; rfl; rfl; rfl; rfl; rfl
    | (with_reducible apply zd); rfl; exact tk; rfl
    | (with_reducible apply zar); rfl; rfl; rfl; rfl; (have h1 := hm (by assumption); have h2 := hq.2; omega); rfl; rfl
    | (with_reducible first | intro _ | apply wseq | apply zreg | apply thenQ_n | apply thenQ_r | apply thenQ_e | apply znil | apply wret | apply bodyQ_r | apply wblk | apply blkQ_n | apply blkQ_r | apply wskip | apply wexit)
    | apply wct rfl
    | apply wcf rfl
    | (with_reducible apply blkQ_x rfl)
    | (with_reducible apply blkQ_y rfl)
    | (with_reducible apply zcmp); rfl; exact tk; rfl; rfl; rfl
    | (with_reducible apply zar); rfl; rfl; rfl; rfl; (first | omega | ((try simp only [List.length_append, List.length_cons, List.length_nil, List.length_map]); (try dsimp only); omega)); rfl; rfl
    | (with_reducible apply zix); rfl; exact tk; rfl; rfl; rfl; rfl; rfl; rfl; rfl; (first | omega | ((try simp only [List.length_append, List.length_cons, List.length_nil, List.length_map]); (try dsimp only); omega)); rfl; rfl
    | (with_reducible apply zle); rfl; exact tk; rfl; rfl; rfl; rfl; (first | omega | ((try simp only [List.length_append, List.length_cons, List.length_nil, List.length_map]); (try dsimp only); omega)); rfl; rfl; rfl; rfl
    | fail)
  · rename_i h
    exact endR (i + 1, _) [0] ⟨rfl, rfl, rfl, rfl, rfl, rfl, rfl, rfl⟩ ⟨by dsimp only; omega, by dsimp only; rw [sumF_succ ⟨h0.1, h⟩, hn]; rfl⟩ (by first | omega | (dsimp only; omega))
  · rename_i h
    rw [pf_all h] at hn
    exact endI [0] rfl rfl rfl rfl rfl rfl hn.symm
set_option maxHeartbeats 4000000 in
theorem spec_PutNum {x : Int} (hx : x ≤ 9223372036854775807) : FC Try.prog 97 [I x] ([]) (.c (.row 0 0 (putNum x).length)) ([ow 5 (putNum x)]) := by
  refine fent tk 24 [.tmp 2] Try.func97 (by kernel_rfl) rfl rfl rfl rfl rfl rfl rfl ?_
  have hl9 := pnI_len hx
  repeat' (first
    | (with_reducible apply zds); exact tk; rfl; rfl; rfl; rfl; rfl
    | (with_reducible apply zd); rfl; exact tk; rfl
    | (with_reducible first | intro _ | apply wseq | apply zreg | apply thenQ_n | apply thenQ_r | apply thenQ_e | apply znil | apply wret | apply bodyQ_r | apply wblk | apply blkQ_n | apply blkQ_r | apply wskip | apply wexit)
    | apply wct rfl
    | apply wcf rfl
    | (with_reducible apply blkQ_x rfl)
    | (with_reducible apply blkQ_y rfl)
    | (with_reducible apply zcmp); rfl; exact tk; rfl; rfl; rfl
    | (with_reducible apply zar); rfl; rfl; rfl; rfl; (first | omega | ((try simp only [List.length_append, List.length_cons, List.length_nil, List.length_map]); (try dsimp only); omega)); rfl; rfl
    | (with_reducible apply zlit (α := By) (e := 5)); rfl; exact tk; rfl; rfl; rfl; rfl; rfl; rfl; rfl; rfl; rfl; rfl; rfl; rfl; rfl
    | (with_reducible apply zap); rfl; exact tk; rfl; rfl; rfl; rfl; rfl; rfl; rfl; rfl; rfl; rfl; (first | omega | ((try simp only [List.length_append, List.length_cons, List.length_nil, List.length_map]); (try dsimp only); omega)); rfl; rfl; rfl; rfl; rfl
    | (with_reducible apply zaw); rfl; rfl; rfl; rfl; (first | trivial | (show (_ : Int) ≠ _; omega)); rfl; rfl
    | (with_reducible apply zcv); rfl; exact tk; rfl; rfl; rfl; rfl; rfl; rfl
    | fail)
  · rename_i h
    exact endG (X' := .c (.row 0 0 [].length)) (hs' := [ow 5 ([] : List By)]) [0] rfl rfl rfl rfl rfl rfl (by rw [putNum, sel_t h]) (by rw [putNum, sel_t h])
  rename_i hneg
  refine wlp (X := Int × List By) [] [0] (fun y => [(0, I y.1), (3, .c (.row 0 0 y.2.length))]) (fun y => [(0, ow 5 y.2)]) (fun y => (0 ≤ y.1 ∧ y.1 ≤ 9223372036854775807) ∧ y.2 ++ pnI y.1 = pnI x) (fun y => y.1.toNat) (x, []) ⟨by dsimp only; omega, rfl⟩ rfl rfl (fun _ => rfl) (fun _ => rfl) ⟨rfl, rfl, rfl, rfl, rfl, rfl, rfl, rfl⟩ (fun y hy => ?_)
  obtain ⟨y, out⟩ := y
  obtain ⟨h0, he⟩ := hy
  dsimp only at h0 he ⊢
  have hol : out.length ≤ 9 := by have := congrArg List.length he; rw [List.length_append] at this; omega
  have e1 : y.tmod 128 = y % 128 := Int.tmod_eq_emod_of_nonneg h0.1
  have e2 : IntKind.i64.wrap (y.tdiv 128) = y / 128 := by rw [Int.tdiv_eq_ediv_of_nonneg h0.1]; exact w64_eq (by omega)
  have e3 : IntKind.u8.wrap (y.tmod 128 + 128) = y % 128 + 128 := by rw [e1]; exact u8_wrap (by omega)
  repeat' (first
    | (with_reducible apply zds); exact tk; rfl; rfl; rfl; rfl; rfl
    | (with_reducible apply zd); rfl; exact tk; rfl
    | (with_reducible first | intro _ | apply wseq | apply zreg | apply thenQ_n | apply thenQ_r | apply thenQ_e | apply znil | apply wret | apply bodyQ_r | apply wblk | apply blkQ_n | apply blkQ_r | apply wskip | apply wexit)
    | apply wct rfl
    | apply wcf rfl
    | (with_reducible apply blkQ_x rfl)
    | (with_reducible apply blkQ_y rfl)
    | (with_reducible apply zcmp); rfl; exact tk; rfl; rfl; rfl
    | (with_reducible apply zar); rfl; rfl; rfl; rfl; (first | omega | ((try simp only [List.length_append, List.length_cons, List.length_nil, List.length_map]); (try dsimp only); omega)); rfl; rfl
    | (with_reducible apply zlit (α := By) (e := 5)); rfl; exact tk; rfl; rfl; rfl; rfl; rfl; rfl; rfl; rfl; rfl; rfl; rfl; rfl; rfl
    | (with_reducible apply zap); rfl; exact tk; rfl; rfl; rfl; rfl; rfl; rfl; rfl; rfl; rfl; rfl; (first | omega | ((try simp only [List.length_append, List.length_cons, List.length_nil, List.length_map]); (try dsimp only); omega)); rfl; rfl; rfl; rfl; rfl
    | (with_reducible apply zaw); rfl; rfl; rfl; rfl; (first | trivial | (show (_ : Int) ≠ _; omega)); rfl; rfl
    | (with_reducible apply zcv); rfl; exact tk; rfl; rfl; rfl; rfl; rfl; rfl
    | fail)
  · rename_i h
    rw [e2, e3]
    exact endR (y / 128, out ++ [⟨y % 128 + 128⟩]) [2] ⟨rfl, rfl, rfl, rfl, rfl, rfl, rfl, rfl⟩ ⟨by dsimp only; omega, by dsimp only; rw [← he, pnI_gt h]; simp⟩ (by dsimp only; omega)
  · rename_i h
    exact endG (X' := .c (.row 0 0 (out ++ [(⟨IntKind.u8.wrap y⟩ : By)]).length)) (hs' := [ow 5 (out ++ [(⟨IntKind.u8.wrap y⟩ : By)])]) [2] rfl rfl rfl rfl rfl rfl (by rw [putNum, sel_f hneg, ← he, pnI_le h0.1 h, u8_wrap (by omega)]) (by rw [putNum, sel_f hneg, ← he, pnI_le h0.1 h, u8_wrap (by omega)])
set_option maxHeartbeats 4000000 in
theorem impl_PutNum {x : Int} (hx : x ≤ 9223372036854775807) : FC Try.prog 100 [I x] ([]) (.c (.row 0 0 (putNum x).length)) ([ow 5 (putNum x)]) := by
  refine fent tk 23 [.tmp 2] Try.func100 (by kernel_rfl) rfl rfl rfl rfl rfl rfl rfl ?_
  have hl9 := pnI_len hx
  repeat' (first
    | (with_reducible apply zds); exact tk; rfl; rfl; rfl; rfl; rfl
    | (with_reducible apply zd); rfl; exact tk; rfl
    | (with_reducible apply znila (d := 2) 5 1); rfl; rfl; rfl
    | (with_reducible first | intro _ | apply wseq | apply zreg | apply thenQ_n | apply thenQ_r | apply thenQ_e | apply znil | apply wret | apply bodyQ_r | apply wblk | apply blkQ_n | apply blkQ_r | apply wskip | apply wexit)
    | apply wct rfl
    | apply wcf rfl
    | (with_reducible apply blkQ_x rfl)
    | (with_reducible apply blkQ_y rfl)
    | (with_reducible apply zcmp); rfl; exact tk; rfl; rfl; rfl
    | (with_reducible apply zlit (α := By) (e := 5)); rfl; exact tk; rfl; rfl; rfl; rfl; rfl; rfl; rfl; rfl; rfl; rfl; rfl; rfl; rfl
    | (with_reducible apply zap); rfl; exact tk; rfl; rfl; rfl; rfl; rfl; rfl; rfl; rfl; rfl; rfl; (first | omega | ((try simp only [List.length_append, List.length_cons, List.length_nil, List.length_map]); (try dsimp only); omega)); rfl; rfl; rfl; rfl; rfl
    | (with_reducible apply zaw); rfl; rfl; rfl; rfl; (first | trivial | (show (_ : Int) ≠ _; omega)); rfl; rfl
    | (with_reducible apply zsh); rfl; rfl; rfl; rfl; omega; rfl; rfl
    | (with_reducible apply zcv); rfl; exact tk; rfl; rfl; rfl; rfl; rfl; rfl
    | fail)
  · rename_i h
    exact endG (X' := .c (.row 0 0 0)) (hs' := [ow 5 ([] : List By)]) [1] rfl rfl rfl rfl rfl rfl (by rw [putNum, sel_t h]; rfl) (by rw [putNum, sel_t h])
  rename_i hneg
  refine wlp (X := Int × List By) [] [1] (fun y => [(0, I y.1), (3, .c (.row 0 0 y.2.length))]) (fun y => [(0, ow 5 y.2)]) (fun y => (0 ≤ y.1 ∧ y.1 ≤ 9223372036854775807) ∧ y.2 ++ pnI y.1 = pnI x) (fun y => y.1.toNat) (x, []) ⟨by dsimp only; omega, rfl⟩ rfl rfl (fun _ => rfl) (fun _ => rfl) ⟨rfl, rfl, rfl, rfl, rfl, rfl, rfl, rfl⟩ (fun y hy => ?_)
  obtain ⟨y, out⟩ := y
  obtain ⟨h0, he⟩ := hy
  dsimp only at h0 he ⊢
  have hol : out.length ≤ 9 := by have := congrArg List.length he; rw [List.length_append] at this; omega
  repeat' (first
    | (with_reducible apply zds); exact tk; rfl; rfl; rfl; rfl; rfl
    | (with_reducible apply zd); rfl; exact tk; rfl
    | (with_reducible first | intro _ | apply wseq | apply zreg | apply thenQ_n | apply thenQ_r | apply thenQ_e | apply znil | apply wret | apply bodyQ_r | apply wblk | apply blkQ_n | apply blkQ_r | apply wskip | apply wexit)
    | apply wct rfl
    | apply wcf rfl
    | (with_reducible apply blkQ_x rfl)
    | (with_reducible apply blkQ_y rfl)
    | (with_reducible apply zcmp); rfl; exact tk; rfl; rfl; rfl
    | (with_reducible apply zlit (α := By) (e := 5)); rfl; exact tk; rfl; rfl; rfl; rfl; rfl; rfl; rfl; rfl; rfl; rfl; rfl; rfl; rfl
    | (with_reducible apply zap); rfl; exact tk; rfl; rfl; rfl; rfl; rfl; rfl; rfl; rfl; rfl; rfl; (first | omega | ((try simp only [List.length_append, List.length_cons, List.length_nil, List.length_map]); (try dsimp only); omega)); rfl; rfl; rfl; rfl; rfl
    | (with_reducible apply zaw); rfl; rfl; rfl; rfl; (first | trivial | (show (_ : Int) ≠ _; omega)); rfl; rfl
    | (with_reducible apply zsh); rfl; rfl; rfl; rfl; omega; rfl; rfl
    | (with_reducible apply zcv); rfl; exact tk; rfl; rfl; rfl; rfl; rfl; rfl
    | fail)
  · rename_i h
    rw [byte_or h0, shr7]
    exact endR (y / 128, out ++ [⟨y % 128 + 128⟩]) [2] ⟨rfl, rfl, rfl, rfl, rfl, rfl, rfl, rfl⟩ ⟨by dsimp only; omega, by dsimp only; rw [← he, pnI_gt h]; simp⟩ (by dsimp only; omega)
  · rename_i h
    exact endG (X' := .c (.row 0 0 (out ++ [(⟨IntKind.u8.wrap y⟩ : By)]).length)) (hs' := [ow 5 (out ++ [(⟨IntKind.u8.wrap y⟩ : By)])]) [2] rfl rfl rfl rfl rfl rfl (by rw [putNum, sel_f hneg, ← he, pnI_le h0.1 h, u8_wrap (by omega)]) (by rw [putNum, sel_f hneg, ← he, pnI_le h0.1 h, u8_wrap (by omega)])
end Go.Proofs.Ytnlajjoheegbiaa.Sh
