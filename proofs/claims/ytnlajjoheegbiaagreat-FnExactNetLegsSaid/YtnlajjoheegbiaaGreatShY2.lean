/- The laws' own functions over rows of numbers and of bytes. No condition. -/
import Derived.Test.YtnlajjoheegbiaaGreatShY
import Derived.Test.YtnlajjoheegbiaaGreatShU
namespace Go.Proofs.YtnlajjoheegbiaaGreat.Sh
open Go.RowKit
set_option linter.unusedVariables false
set_option linter.unusedSimpArgs false
set_option maxHeartbeats 4000000 in
theorem laws_toIntS {l : List Int} (hl : l.length ≤ 1048576) : FC Tryz.prog 22 [.c (.row 0 0 l.length)] ([ro 3 l]) (.c (.row 1 0 l.length)) ([ro 3 l, ow 3 l]) := by
  refine fent tk 22 [.tmp 2] Tryz.func22 (by kernel_rfl) rfl rfl rfl rfl rfl rfl rfl ?_
  repeat' (first
    | (with_reducible apply zds); exact tk; rfl; rfl; rfl; rfl; rfl
    | (with_reducible apply zd); rfl; exact tk; rfl
    | (with_reducible first | intro _ | apply wseq | apply zreg | apply thenQ_n | apply thenQ_r | apply thenQ_e | apply znil | apply wret | apply bodyQ_r | apply wblk | apply blkQ_n | apply blkQ_r | apply wskip | apply wexit)
    | apply wct rfl
    | apply wcf rfl
    | (with_reducible apply blkQ_x rfl)
    | (with_reducible apply blkQ_y rfl)
    | (with_reducible apply zcmp); rfl; exact tk; rfl; rfl; rfl
    | (with_reducible apply zar); rfl; rfl; rfl; rfl; (first | omega | ((try simp only [List.length_append, List.length_cons, List.length_nil, List.length_map]); (try dsimp only); omega)); rfl; rfl
    | (with_reducible apply zix); rfl; exact tk; rfl; rfl; rfl; rfl; rfl; rfl; rfl; (first | omega | ((try simp only [List.length_append, List.length_cons, List.length_nil, List.length_map]); (try dsimp only); omega)); rfl; rfl
    | (with_reducible apply zle); rfl; exact tk; rfl; rfl; rfl; rfl; (first | omega | ((try simp only [List.length_append, List.length_cons, List.length_nil, List.length_map]); (try dsimp only); omega)); rfl; rfl; rfl; rfl
    | (with_reducible apply zse); rfl; exact tk; rfl; rfl; rfl; rfl; rfl; rfl; (first | omega | ((try simp only [List.length_append, List.length_cons, List.length_nil, List.length_map]); (try dsimp only); omega)); rfl; rfl; rfl; rfl; rfl
    | (with_reducible apply zmk (α := Int) (e := 3)); rfl; exact tk; rfl; rfl; rfl; rfl; rfl; rfl; rfl; rfl; (refine ⟨?_, ?_, ?_⟩ <;> first | omega | (dsimp only; omega)); rfl; rfl; rfl
    | fail)
  refine wlp (X := Int × List Int) [0, 3] [0, 1] (fun p => [(4, I p.1)]) (fun p => [(1, ow 3 p.2)]) (fun p => (0 ≤ p.1 ∧ p.1 ≤ l.length) ∧ p.2.length = l.length ∧ ∀ j : Int, 0 ≤ j → j < p.1 → rd p.2 j = rd l j) (fun p => (l.length - p.1).toNat) (0, List.replicate l.length Enc.z) ⟨by dsimp only; omega, by simp, fun j h0 h1 => by dsimp only at h1; omega⟩ rfl rfl (fun _ => rfl) (fun _ => rfl) ⟨rfl, rfl, rfl, rfl, rfl, rfl, rfl, rfl⟩ (fun p hp => ?_)
  obtain ⟨i, xs⟩ := p
  obtain ⟨h0, hlen, hall⟩ := hp
  dsimp only at h0 hlen hall ⊢
  repeat' (first
    | (with_reducible apply zds); exact tk; rfl; rfl; rfl; rfl; rfl
    | (with_reducible apply zd); rfl; exact tk; rfl
    | (with_reducible first | intro _ | apply wseq | apply zreg | apply thenQ_n | apply thenQ_r | apply thenQ_e | apply znil | apply wret | apply bodyQ_r | apply wblk | apply blkQ_n | apply blkQ_r | apply wskip | apply wexit)
    | apply wct rfl
    | apply wcf rfl
    | (with_reducible apply blkQ_x rfl)
    | (with_reducible apply blkQ_y rfl)
    | (with_reducible apply zcmp); rfl; exact tk; rfl; rfl; rfl
    | (with_reducible apply zar); rfl; rfl; rfl; rfl; (first | omega | ((try simp only [List.length_append, List.length_cons, List.length_nil, List.length_map]); (try dsimp only); omega)); rfl; rfl
    | (with_reducible apply zix); rfl; exact tk; rfl; rfl; rfl; rfl; rfl; rfl; rfl; (first | omega | ((try simp only [List.length_append, List.length_cons, List.length_nil, List.length_map]); (try dsimp only); omega)); rfl; rfl
    | (with_reducible apply zle); rfl; exact tk; rfl; rfl; rfl; rfl; (first | omega | ((try simp only [List.length_append, List.length_cons, List.length_nil, List.length_map]); (try dsimp only); omega)); rfl; rfl; rfl; rfl
    | (with_reducible apply zse); rfl; exact tk; rfl; rfl; rfl; rfl; rfl; rfl; (first | omega | ((try simp only [List.length_append, List.length_cons, List.length_nil, List.length_map]); (try dsimp only); omega)); rfl; rfl; rfl; rfl; rfl
    | (with_reducible apply zmk (α := Int) (e := 3)); rfl; exact tk; rfl; rfl; rfl; rfl; rfl; rfl; rfl; rfl; (refine ⟨?_, ?_, ?_⟩ <;> first | omega | (dsimp only; omega)); rfl; rfl; rfl
    | fail)
  all_goals first
    | (obtain rfl : xs = l := ext_rd hlen (fun j h1 h2 => hall j h1 (by omega))
       exact endV [0, 1] rfl rfl rfl rfl rfl rfl)
    | exact endR (i + 1, upd xs i (rd l i)) [0, 1] ⟨rfl, rfl, rfl, rfl, rfl, rfl, rfl, rfl⟩ ⟨by dsimp only; omega, by simp [upd_len, hlen], fun j h1 h2 => by
        dsimp only at h2 ⊢
        rw [rd_upd (by omega) h1]
        split
        · rename_i e; rw [e]
        · exact hall j h1 (by omega)⟩ (by first | omega | (dsimp only; omega))
set_option maxHeartbeats 4000000 in
theorem laws_eqIntS {l m : List Int} : FC Tryz.prog 25 [.c (.row 0 0 l.length), .c (.row 1 0 m.length)] ([ro 3 l, ro 3 m]) (B (dB (l = m))) ([ro 3 l, ro 3 m]) := by
  refine fent tk 26 [.tmp 4] Tryz.func25 (by kernel_rfl) rfl rfl rfl rfl rfl rfl rfl ?_
  refine wlen l 0 rfl (fun hl => ?_)
  repeat' (first
    | (with_reducible apply zds); exact tk; rfl; rfl; rfl; rfl; rfl
    | (with_reducible apply zd); rfl; exact tk; rfl
    | (with_reducible first | intro _ | apply wseq | apply zreg | apply thenQ_n | apply thenQ_r | apply thenQ_e | apply znil | apply wret | apply bodyQ_r | apply wblk | apply blkQ_n | apply blkQ_r | apply wskip | apply wexit)
    | apply wct rfl
    | apply wcf rfl
    | (with_reducible apply blkQ_x rfl)
    | (with_reducible apply blkQ_y rfl)
    | (with_reducible apply zcmp); rfl; exact tk; rfl; rfl; rfl
    | (with_reducible apply zne); rfl; exact tk; rfl; rfl; rfl; rfl
    | (with_reducible apply zar); rfl; rfl; rfl; rfl; (first | omega | ((try simp only [List.length_append, List.length_cons, List.length_nil, List.length_map]); (try dsimp only); omega)); rfl; rfl
    | (with_reducible apply zix); rfl; exact tk; rfl; rfl; rfl; rfl; rfl; rfl; rfl; (first | omega | ((try simp only [List.length_append, List.length_cons, List.length_nil, List.length_map]); (try dsimp only); omega)); rfl; rfl
    | (with_reducible apply zle); rfl; exact tk; rfl; rfl; rfl; rfl; (first | omega | ((try simp only [List.length_append, List.length_cons, List.length_nil, List.length_map]); (try dsimp only); omega)); rfl; rfl; rfl; rfl
    | refine zdq (id := 6) rfl (by kernel_rfl) [(.p, 0), (.p, 1), (.p, 2), (.p, 4), (.p, 5), (.p, 6), (.t, 3), (.t, 7), (.p, 8)] [] (by kernel_rfl) rfl ?_
    | fail)
  · rename_i hne
    exact endN [0, 1] rfl rfl rfl rfl rfl rfl (fun e => hne (by rw [e]))
  · rename_i hlen
    refine wlp (X := Int) [0, 1] [0, 1] (fun i => [(5, I i)]) (fun _ => []) (fun i => 0 ≤ i ∧ i ≤ l.length ∧ ∀ j : Int, 0 ≤ j → j < i → rd l j = rd m j) (fun i => (l.length - i).toNat) 0 ⟨by omega, by omega, fun j h0 h1 => by omega⟩ rfl rfl (fun _ => rfl) (fun _ => rfl) ⟨rfl, rfl, rfl, rfl, rfl, rfl, rfl, rfl⟩ (fun i hi => ?_)
    obtain ⟨h0, hi, hall⟩ := hi
    repeat' (first
      | (with_reducible apply zds); exact tk; rfl; rfl; rfl; rfl; rfl
      | (with_reducible apply zd); rfl; exact tk; rfl
      | (with_reducible first | intro _ | apply wseq | apply zreg | apply thenQ_n | apply thenQ_r | apply thenQ_e | apply znil | apply wret | apply bodyQ_r | apply wblk | apply blkQ_n | apply blkQ_r | apply wskip | apply wexit)
      | apply wct rfl
      | apply wcf rfl
      | (with_reducible apply blkQ_x rfl)
      | (with_reducible apply blkQ_y rfl)
      | (with_reducible apply zcmp); rfl; exact tk; rfl; rfl; rfl
      | (with_reducible apply zne); rfl; exact tk; rfl; rfl; rfl; rfl
      | (with_reducible apply zar); rfl; rfl; rfl; rfl; (first | omega | ((try simp only [List.length_append, List.length_cons, List.length_nil, List.length_map]); (try dsimp only); omega)); rfl; rfl
      | (with_reducible apply zix); rfl; exact tk; rfl; rfl; rfl; rfl; rfl; rfl; rfl; (first | omega | ((try simp only [List.length_append, List.length_cons, List.length_nil, List.length_map]); (try dsimp only); omega)); rfl; rfl
      | (with_reducible apply zle); rfl; exact tk; rfl; rfl; rfl; rfl; (first | omega | ((try simp only [List.length_append, List.length_cons, List.length_nil, List.length_map]); (try dsimp only); omega)); rfl; rfl; rfl; rfl
      | refine zdq (id := 6) rfl (by kernel_rfl) [(.p, 0), (.p, 1), (.p, 2), (.p, 4), (.p, 5), (.p, 6), (.t, 3), (.t, 7), (.p, 8)] [] (by kernel_rfl) rfl ?_
      | fail)
    all_goals first
      | exact endY [0, 1] rfl rfl rfl rfl rfl rfl (ext_rd (by omega) (fun j h1 h2 => hall j h1 (by omega)))
      | exact endN [0, 1] rfl rfl rfl rfl rfl rfl (fun e => by subst e; contradiction)
      | exact endR (i + 1) [0, 1] ⟨rfl, rfl, rfl, rfl, rfl, rfl, rfl, rfl⟩ ⟨by omega, by omega, all_step hall (by first | assumption | (generalize rd l i = x at *; generalize rd m i = y at *; cases x; cases y; simp_all))⟩ (by first | omega | (dsimp only; omega))
/-- What a law writes into a row. -/
def mkInt (n : Nat) (k : Int) : List Int := (List.range n).map (fun (j : Nat) => k + j)
theorem mkInt_len (n : Nat) (k : Int) : (mkInt n k).length = n := by simp [mkInt]
theorem rd_mkInt {n : Nat} {k j : Int} (h : 0 ≤ j ∧ j < n) : rd (mkInt n k) j = k + j := by
  obtain ⟨i, rfl⟩ := Int.eq_ofNat_of_zero_le h.1
  have h1 : i < n := by omega
  simp [rd, mkInt, List.getD_eq_getElem?_getD, h1]
set_option maxHeartbeats 4000000 in
theorem laws_markIntS {l : List Int} {k : Int} (hk : 0 ≤ k ∧ k ≤ 1099511627776) (hl : l.length ≤ 4294967296) : FC Tryz.prog 26 [.c (.row 0 0 l.length), I k] ([ow 3 l]) (I (k + l.length)) ([ow 3 (mkInt l.length k)]) := by
  refine fent tk 19 [.tmp 4] Tryz.func26 (by kernel_rfl) rfl rfl rfl rfl rfl rfl rfl ?_
  repeat' (first
    | (with_reducible apply zds); exact tk; rfl; rfl; rfl; rfl; rfl
    | (with_reducible apply zd); rfl; exact tk; rfl
    | (with_reducible first | intro _ | apply wseq | apply zreg | apply thenQ_n | apply thenQ_r | apply thenQ_e | apply znil | apply wret | apply bodyQ_r | apply wblk | apply blkQ_n | apply blkQ_r | apply wskip | apply wexit)
    | apply wct rfl
    | apply wcf rfl
    | (with_reducible apply blkQ_x rfl)
    | (with_reducible apply blkQ_y rfl)
    | (with_reducible apply zcmp); rfl; exact tk; rfl; rfl; rfl
    | (with_reducible apply zar); rfl; rfl; rfl; rfl; (first | omega | ((try simp only [List.length_append, List.length_cons, List.length_nil, List.length_map]); (try dsimp only); omega)); rfl; rfl
    | (with_reducible apply zix); rfl; exact tk; rfl; rfl; rfl; rfl; rfl; rfl; rfl; (first | omega | ((try simp only [List.length_append, List.length_cons, List.length_nil, List.length_map]); (try dsimp only); omega)); rfl; rfl
    | (with_reducible apply zle); rfl; exact tk; rfl; rfl; rfl; rfl; (first | omega | ((try simp only [List.length_append, List.length_cons, List.length_nil, List.length_map]); (try dsimp only); omega)); rfl; rfl; rfl; rfl
    | (with_reducible apply zse); rfl; exact tk; rfl; rfl; rfl; rfl; rfl; rfl; (first | omega | ((try simp only [List.length_append, List.length_cons, List.length_nil, List.length_map]); (try dsimp only); omega)); rfl; rfl; rfl; rfl; rfl
    | fail)
  refine wlp (X := Int × Int × List Int) [0] [0] (fun p => [(1, I p.2.1), (5, I p.1)]) (fun p => [(0, ow 3 p.2.2)]) (fun p => (0 ≤ p.1 ∧ p.1 ≤ l.length) ∧ p.2.1 = k + p.1 ∧ p.2.2.length = l.length ∧ ∀ j : Int, 0 ≤ j → j < p.1 → rd p.2.2 j = k + j) (fun p => (l.length - p.1).toNat) (0, k, l) ⟨by dsimp only; omega, by dsimp only; omega, rfl, fun j h0 h1 => by dsimp only at h1; omega⟩ rfl rfl (fun _ => rfl) (fun _ => rfl) ⟨rfl, rfl, rfl, rfl, rfl, rfl, rfl, rfl⟩ (fun p hp => ?_)
  obtain ⟨i, kk, xs⟩ := p
  obtain ⟨h0, hkk, hlen, hall⟩ := hp
  dsimp only at h0 hkk hlen hall ⊢
  repeat' (first
    | (with_reducible apply zds); exact tk; rfl; rfl; rfl; rfl; rfl
    | (with_reducible apply zd); rfl; exact tk; rfl
    | (with_reducible first | intro _ | apply wseq | apply zreg | apply thenQ_n | apply thenQ_r | apply thenQ_e | apply znil | apply wret | apply bodyQ_r | apply wblk | apply blkQ_n | apply blkQ_r | apply wskip | apply wexit)
    | apply wct rfl
    | apply wcf rfl
    | (with_reducible apply blkQ_x rfl)
    | (with_reducible apply blkQ_y rfl)
    | (with_reducible apply zcmp); rfl; exact tk; rfl; rfl; rfl
    | (with_reducible apply zar); rfl; rfl; rfl; rfl; (first | omega | ((try simp only [List.length_append, List.length_cons, List.length_nil, List.length_map]); (try dsimp only); omega)); rfl; rfl
    | (with_reducible apply zix); rfl; exact tk; rfl; rfl; rfl; rfl; rfl; rfl; rfl; (first | omega | ((try simp only [List.length_append, List.length_cons, List.length_nil, List.length_map]); (try dsimp only); omega)); rfl; rfl
    | (with_reducible apply zle); rfl; exact tk; rfl; rfl; rfl; rfl; (first | omega | ((try simp only [List.length_append, List.length_cons, List.length_nil, List.length_map]); (try dsimp only); omega)); rfl; rfl; rfl; rfl
    | (with_reducible apply zse); rfl; exact tk; rfl; rfl; rfl; rfl; rfl; rfl; (first | omega | ((try simp only [List.length_append, List.length_cons, List.length_nil, List.length_map]); (try dsimp only); omega)); rfl; rfl; rfl; rfl; rfl
    | fail)
  all_goals first
    | (obtain rfl : xs = mkInt l.length k := ext_rd (by rw [hlen, mkInt_len]) (fun j h1 h2 => by rw [hall j h1 (by omega), rd_mkInt (by omega)])
       exact endI [0] rfl rfl rfl rfl rfl rfl (by omega))
    | exact endR (i + 1, kk + 1, upd xs i (kk)) [0] ⟨rfl, rfl, rfl, rfl, rfl, rfl, rfl, rfl⟩ ⟨by dsimp only; omega, by dsimp only; omega, by simp [upd_len, hlen], fun j h1 h2 => by
        dsimp only at h2 ⊢
        rw [rd_upd (by omega) h1]
        split
        · rename_i e
          subst e
          rw [hkk]
        · exact hall j h1 (by omega)⟩ (by first | omega | (dsimp only; omega))
set_option maxHeartbeats 4000000 in
theorem laws_eqByteS {l m : List By} : FC Tryz.prog 16 [.c (.row 0 0 l.length), .c (.row 1 0 m.length)] ([ro 5 l, ro 5 m]) (B (dB (l = m))) ([ro 5 l, ro 5 m]) := by
  refine fent tk 26 [.tmp 4] Tryz.func16 (by kernel_rfl) rfl rfl rfl rfl rfl rfl rfl ?_
  refine wlen l 0 rfl (fun hl => ?_)
  repeat' (first
    | (with_reducible apply zds); exact tk; rfl; rfl; rfl; rfl; rfl
    | (with_reducible apply zd); rfl; exact tk; rfl
    | (with_reducible first | intro _ | apply wseq | apply zreg | apply thenQ_n | apply thenQ_r | apply thenQ_e | apply znil | apply wret | apply bodyQ_r | apply wblk | apply blkQ_n | apply blkQ_r | apply wskip | apply wexit)
    | apply wct rfl
    | apply wcf rfl
    | (with_reducible apply blkQ_x rfl)
    | (with_reducible apply blkQ_y rfl)
    | (with_reducible apply zcmp); rfl; exact tk; rfl; rfl; rfl
    | (with_reducible apply zne); rfl; exact tk; rfl; rfl; rfl; rfl
    | (with_reducible apply zar); rfl; rfl; rfl; rfl; (first | omega | ((try simp only [List.length_append, List.length_cons, List.length_nil, List.length_map]); (try dsimp only); omega)); rfl; rfl
    | (with_reducible apply zix); rfl; exact tk; rfl; rfl; rfl; rfl; rfl; rfl; rfl; (first | omega | ((try simp only [List.length_append, List.length_cons, List.length_nil, List.length_map]); (try dsimp only); omega)); rfl; rfl
    | (with_reducible apply zle); rfl; exact tk; rfl; rfl; rfl; rfl; (first | omega | ((try simp only [List.length_append, List.length_cons, List.length_nil, List.length_map]); (try dsimp only); omega)); rfl; rfl; rfl; rfl
    | refine zdq (id := 6) rfl (by kernel_rfl) [(.p, 0), (.p, 1), (.p, 2), (.p, 4), (.p, 5), (.p, 6), (.t, 3), (.t, 7), (.p, 8)] [] (by kernel_rfl) rfl ?_
    | fail)
  · rename_i hne
    exact endN [0, 1] rfl rfl rfl rfl rfl rfl (fun e => hne (by rw [e]))
  · rename_i hlen
    refine wlp (X := Int) [0, 1] [0, 1] (fun i => [(5, I i)]) (fun _ => []) (fun i => 0 ≤ i ∧ i ≤ l.length ∧ ∀ j : Int, 0 ≤ j → j < i → rd l j = rd m j) (fun i => (l.length - i).toNat) 0 ⟨by omega, by omega, fun j h0 h1 => by omega⟩ rfl rfl (fun _ => rfl) (fun _ => rfl) ⟨rfl, rfl, rfl, rfl, rfl, rfl, rfl, rfl⟩ (fun i hi => ?_)
    obtain ⟨h0, hi, hall⟩ := hi
    repeat' (first
      | (with_reducible apply zds); exact tk; rfl; rfl; rfl; rfl; rfl
      | (with_reducible apply zd); rfl; exact tk; rfl
      | (with_reducible first | intro _ | apply wseq | apply zreg | apply thenQ_n | apply thenQ_r | apply thenQ_e | apply znil | apply wret | apply bodyQ_r | apply wblk | apply blkQ_n | apply blkQ_r | apply wskip | apply wexit)
      | apply wct rfl
      | apply wcf rfl
      | (with_reducible apply blkQ_x rfl)
      | (with_reducible apply blkQ_y rfl)
      | (with_reducible apply zcmp); rfl; exact tk; rfl; rfl; rfl
      | (with_reducible apply zne); rfl; exact tk; rfl; rfl; rfl; rfl
      | (with_reducible apply zar); rfl; rfl; rfl; rfl; (first | omega | ((try simp only [List.length_append, List.length_cons, List.length_nil, List.length_map]); (try dsimp only); omega)); rfl; rfl
      | (with_reducible apply zix); rfl; exact tk; rfl; rfl; rfl; rfl; rfl; rfl; rfl; (first | omega | ((try simp only [List.length_append, List.length_cons, List.length_nil, List.length_map]); (try dsimp only); omega)); rfl; rfl
      | (with_reducible apply zle); rfl; exact tk; rfl; rfl; rfl; rfl; (first | omega | ((try simp only [List.length_append, List.length_cons, List.length_nil, List.length_map]); (try dsimp only); omega)); rfl; rfl; rfl; rfl
      | refine zdq (id := 6) rfl (by kernel_rfl) [(.p, 0), (.p, 1), (.p, 2), (.p, 4), (.p, 5), (.p, 6), (.t, 3), (.t, 7), (.p, 8)] [] (by kernel_rfl) rfl ?_
      | fail)
    all_goals first
      | exact endY [0, 1] rfl rfl rfl rfl rfl rfl (ext_rd (by omega) (fun j h1 h2 => hall j h1 (by omega)))
      | exact endN [0, 1] rfl rfl rfl rfl rfl rfl (fun e => by subst e; contradiction)
      | exact endR (i + 1) [0, 1] ⟨rfl, rfl, rfl, rfl, rfl, rfl, rfl, rfl⟩ ⟨by omega, by omega, all_step hall (by first | assumption | (generalize rd l i = x at *; generalize rd m i = y at *; cases x; cases y; simp_all))⟩ (by first | omega | (dsimp only; omega))
/-- What a law writes into a row. -/
def mkByte (n : Nat) (k : Int) : List By := (List.range n).map (fun (j : Nat) => ⟨IntKind.u8.wrap (k + j)⟩)
theorem mkByte_len (n : Nat) (k : Int) : (mkByte n k).length = n := by simp [mkByte]
theorem rd_mkByte {n : Nat} {k j : Int} (h : 0 ≤ j ∧ j < n) : rd (mkByte n k) j = ⟨IntKind.u8.wrap (k + j)⟩ := by
  obtain ⟨i, rfl⟩ := Int.eq_ofNat_of_zero_le h.1
  have h1 : i < n := by omega
  simp [rd, mkByte, List.getD_eq_getElem?_getD, h1]
set_option maxHeartbeats 4000000 in
theorem laws_markByteS {l : List By} {k : Int} (hk : 0 ≤ k ∧ k ≤ 1099511627776) (hl : l.length ≤ 4294967296) : FC Tryz.prog 19 [.c (.row 0 0 l.length), I k] ([ow 5 l]) (I (k + l.length)) ([ow 5 (mkByte l.length k)]) := by
  refine fent tk 20 [.tmp 4] Tryz.func19 (by kernel_rfl) rfl rfl rfl rfl rfl rfl rfl ?_
  repeat' (first
    | (with_reducible apply zds); exact tk; rfl; rfl; rfl; rfl; rfl
    | (with_reducible apply zd); rfl; exact tk; rfl
    | (with_reducible first | intro _ | apply wseq | apply zreg | apply thenQ_n | apply thenQ_r | apply thenQ_e | apply znil | apply wret | apply bodyQ_r | apply wblk | apply blkQ_n | apply blkQ_r | apply wskip | apply wexit)
    | apply wct rfl
    | apply wcf rfl
    | (with_reducible apply blkQ_x rfl)
    | (with_reducible apply blkQ_y rfl)
    | (with_reducible apply zcmp); rfl; exact tk; rfl; rfl; rfl
    | (with_reducible apply zar); rfl; rfl; rfl; rfl; (first | omega | ((try simp only [List.length_append, List.length_cons, List.length_nil, List.length_map]); (try dsimp only); omega)); rfl; rfl
    | (with_reducible apply zix); rfl; exact tk; rfl; rfl; rfl; rfl; rfl; rfl; rfl; (first | omega | ((try simp only [List.length_append, List.length_cons, List.length_nil, List.length_map]); (try dsimp only); omega)); rfl; rfl
    | (with_reducible apply zle); rfl; exact tk; rfl; rfl; rfl; rfl; (first | omega | ((try simp only [List.length_append, List.length_cons, List.length_nil, List.length_map]); (try dsimp only); omega)); rfl; rfl; rfl; rfl
    | (with_reducible apply zse); rfl; exact tk; rfl; rfl; rfl; rfl; rfl; rfl; (first | omega | ((try simp only [List.length_append, List.length_cons, List.length_nil, List.length_map]); (try dsimp only); omega)); rfl; rfl; rfl; rfl; rfl
    | (with_reducible apply zcv); rfl; exact tk; rfl; rfl; rfl; rfl; rfl; rfl
    | fail)
  refine wlp (X := Int × Int × List By) [0] [0] (fun p => [(1, I p.2.1), (5, I p.1)]) (fun p => [(0, ow 5 p.2.2)]) (fun p => (0 ≤ p.1 ∧ p.1 ≤ l.length) ∧ p.2.1 = k + p.1 ∧ p.2.2.length = l.length ∧ ∀ j : Int, 0 ≤ j → j < p.1 → rd p.2.2 j = ⟨IntKind.u8.wrap (k + j)⟩) (fun p => (l.length - p.1).toNat) (0, k, l) ⟨by dsimp only; omega, by dsimp only; omega, rfl, fun j h0 h1 => by dsimp only at h1; omega⟩ rfl rfl (fun _ => rfl) (fun _ => rfl) ⟨rfl, rfl, rfl, rfl, rfl, rfl, rfl, rfl⟩ (fun p hp => ?_)
  obtain ⟨i, kk, xs⟩ := p
  obtain ⟨h0, hkk, hlen, hall⟩ := hp
  dsimp only at h0 hkk hlen hall ⊢
  repeat' (first
    | (with_reducible apply zds); exact tk; rfl; rfl; rfl; rfl; rfl
    | (with_reducible apply zd); rfl; exact tk; rfl
    | (with_reducible first | intro _ | apply wseq | apply zreg | apply thenQ_n | apply thenQ_r | apply thenQ_e | apply znil | apply wret | apply bodyQ_r | apply wblk | apply blkQ_n | apply blkQ_r | apply wskip | apply wexit)
    | apply wct rfl
    | apply wcf rfl
    | (with_reducible apply blkQ_x rfl)
    | (with_reducible apply blkQ_y rfl)
    | (with_reducible apply zcmp); rfl; exact tk; rfl; rfl; rfl
    | (with_reducible apply zar); rfl; rfl; rfl; rfl; (first | omega | ((try simp only [List.length_append, List.length_cons, List.length_nil, List.length_map]); (try dsimp only); omega)); rfl; rfl
    | (with_reducible apply zix); rfl; exact tk; rfl; rfl; rfl; rfl; rfl; rfl; rfl; (first | omega | ((try simp only [List.length_append, List.length_cons, List.length_nil, List.length_map]); (try dsimp only); omega)); rfl; rfl
    | (with_reducible apply zle); rfl; exact tk; rfl; rfl; rfl; rfl; (first | omega | ((try simp only [List.length_append, List.length_cons, List.length_nil, List.length_map]); (try dsimp only); omega)); rfl; rfl; rfl; rfl
    | (with_reducible apply zse); rfl; exact tk; rfl; rfl; rfl; rfl; rfl; rfl; (first | omega | ((try simp only [List.length_append, List.length_cons, List.length_nil, List.length_map]); (try dsimp only); omega)); rfl; rfl; rfl; rfl; rfl
    | (with_reducible apply zcv); rfl; exact tk; rfl; rfl; rfl; rfl; rfl; rfl
    | fail)
  all_goals first
    | (obtain rfl : xs = mkByte l.length k := ext_rd (by rw [hlen, mkByte_len]) (fun j h1 h2 => by rw [hall j h1 (by omega), rd_mkByte (by omega)])
       exact endI [0] rfl rfl rfl rfl rfl rfl (by omega))
    | exact endR (i + 1, kk + 1, upd xs i (⟨IntKind.u8.wrap kk⟩)) [0] ⟨rfl, rfl, rfl, rfl, rfl, rfl, rfl, rfl⟩ ⟨by dsimp only; omega, by dsimp only; omega, by simp [upd_len, hlen], fun j h1 h2 => by
        dsimp only at h2 ⊢
        rw [rd_upd (by omega) h1]
        split
        · rename_i e
          subst e
          rw [hkk]
        · exact hall j h1 (by omega)⟩ (by first | omega | (dsimp only; omega))
set_option maxHeartbeats 4000000 in
theorem laws_heldByteS {l : List By} {k : Int} {n : Nat} (hk : 0 ≤ k ∧ k ≤ 1099511627776) (hl : l.length ≤ 4294967296) (hn : n = l.length) : FC Tryz.prog 20 [.c (.row 0 0 n), I k] ([ro 5 l]) (I (pick (l = mkByte n k) (k + n) (-1))) ([ro 5 l]) := by
  refine fent tk 22 [.tmp 4] Tryz.func20 (by kernel_rfl) rfl rfl rfl rfl rfl rfl rfl ?_
  subst hn
  repeat' (first
    | (with_reducible apply zds); exact tk; rfl; rfl; rfl; rfl; rfl
    | (with_reducible apply zd); rfl; exact tk; rfl
    | (with_reducible first | intro _ | apply wseq | apply zreg | apply thenQ_n | apply thenQ_r | apply thenQ_e | apply znil | apply wret | apply bodyQ_r | apply wblk | apply blkQ_n | apply blkQ_r | apply wskip | apply wexit)
    | apply wct rfl
    | apply wcf rfl
    | (with_reducible apply blkQ_x rfl)
    | (with_reducible apply blkQ_y rfl)
    | (with_reducible apply zcmp); rfl; exact tk; rfl; rfl; rfl
    | (with_reducible apply zne); rfl; exact tk; rfl; rfl; rfl; rfl
    | (with_reducible apply zar); rfl; rfl; rfl; rfl; (first | omega | ((try simp only [List.length_append, List.length_cons, List.length_nil, List.length_map]); (try dsimp only); omega)); rfl; rfl
    | (with_reducible apply zix); rfl; exact tk; rfl; rfl; rfl; rfl; rfl; rfl; rfl; (first | omega | ((try simp only [List.length_append, List.length_cons, List.length_nil, List.length_map]); (try dsimp only); omega)); rfl; rfl
    | (with_reducible apply zle); rfl; exact tk; rfl; rfl; rfl; rfl; (first | omega | ((try simp only [List.length_append, List.length_cons, List.length_nil, List.length_map]); (try dsimp only); omega)); rfl; rfl; rfl; rfl
    | (with_reducible apply zcv); rfl; exact tk; rfl; rfl; rfl; rfl; rfl; rfl
    | fail)
  refine wlp (X := Int × Int) [0] [0] (fun p => [(1, I p.2), (5, I p.1)]) (fun _ => []) (fun p => (0 ≤ p.1 ∧ p.1 ≤ l.length) ∧ p.2 = k + p.1 ∧ ∀ j : Int, 0 ≤ j → j < p.1 → rd l j = ⟨IntKind.u8.wrap (k + j)⟩) (fun p => (l.length - p.1).toNat) (0, k) ⟨by dsimp only; omega, by dsimp only; omega, fun j h0 h1 => by dsimp only at h1; omega⟩ rfl rfl (fun _ => rfl) (fun _ => rfl) ⟨rfl, rfl, rfl, rfl, rfl, rfl, rfl, rfl⟩ (fun p hp => ?_)
  obtain ⟨i, kk⟩ := p
  obtain ⟨h0, hkk, hall⟩ := hp
  dsimp only at h0 hkk hall ⊢
  repeat' (first
    | (with_reducible apply zds); exact tk; rfl; rfl; rfl; rfl; rfl
    | (with_reducible apply zd); rfl; exact tk; rfl
    | (with_reducible first | intro _ | apply wseq | apply zreg | apply thenQ_n | apply thenQ_r | apply thenQ_e | apply znil | apply wret | apply bodyQ_r | apply wblk | apply blkQ_n | apply blkQ_r | apply wskip | apply wexit)
    | apply wct rfl
    | apply wcf rfl
    | (with_reducible apply blkQ_x rfl)
    | (with_reducible apply blkQ_y rfl)
    | (with_reducible apply zcmp); rfl; exact tk; rfl; rfl; rfl
    | (with_reducible apply zne); rfl; exact tk; rfl; rfl; rfl; rfl
    | (with_reducible apply zar); rfl; rfl; rfl; rfl; (first | omega | ((try simp only [List.length_append, List.length_cons, List.length_nil, List.length_map]); (try dsimp only); omega)); rfl; rfl
    | (with_reducible apply zix); rfl; exact tk; rfl; rfl; rfl; rfl; rfl; rfl; rfl; (first | omega | ((try simp only [List.length_append, List.length_cons, List.length_nil, List.length_map]); (try dsimp only); omega)); rfl; rfl
    | (with_reducible apply zle); rfl; exact tk; rfl; rfl; rfl; rfl; (first | omega | ((try simp only [List.length_append, List.length_cons, List.length_nil, List.length_map]); (try dsimp only); omega)); rfl; rfl; rfl; rfl
    | (with_reducible apply zcv); rfl; exact tk; rfl; rfl; rfl; rfl; rfl; rfl
    | fail)
  all_goals first
    | exact endI [0] rfl rfl rfl rfl rfl rfl (by
        rw [pick_t (ext_rd (by rw [mkByte_len]) (fun j h1 h2 => by rw [hall j h1 (by omega), rd_mkByte (by omega)]))]
        omega)
    | exact endI [0] rfl rfl rfl rfl rfl rfl (pick_f (fun e => by
        have he : rd l i = rd (mkByte l.length k) i := by rw [← e]
        rw [rd_mkByte (by omega), ← hkk] at he
        rename_i h1
        exact h1 (by rw [he])))
    | exact endR (i + 1, kk + 1) [0] ⟨rfl, rfl, rfl, rfl, rfl, rfl, rfl, rfl⟩ ⟨by dsimp only; omega, by dsimp only; omega, all_step hall (by
        rw [← hkk]
        first | assumption | (generalize rd l i = x at *; cases x; dsimp only at *; simp_all))⟩ (by first | omega | (dsimp only; omega))
set_option maxHeartbeats 4000000 in
theorem laws_szIntS {l : List Int} {left : Int} (hl : 0 ≤ left ∧ left ≤ 1048576) : FC Tryz.prog 202 [.c (.row 0 0 l.length), I left] ([ro 3 l]) (I (szN left l.length)) ([ro 3 l]) := by
  refine fent tk 12 [.tmp 4] Tryz.func202 (by kernel_rfl) rfl rfl rfl rfl rfl rfl rfl ?_
  refine wlen l 0 rfl (fun hlen => ?_)
  repeat' (first
    | (with_reducible apply zds); exact tk; rfl; rfl; rfl; rfl; rfl
    | (with_reducible apply zd); rfl; exact tk; rfl
    | (with_reducible first | intro _ | apply wseq | apply zreg | apply thenQ_n | apply thenQ_r | apply thenQ_e | apply znil | apply wret | apply bodyQ_r | apply wblk | apply blkQ_n | apply blkQ_r | apply wskip | apply wexit)
    | apply wct rfl
    | apply wcf rfl
    | (with_reducible apply zcmp); rfl; exact tk; rfl; rfl; rfl
    | (with_reducible apply zar); rfl; rfl; rfl; rfl; (first | omega | ((try simp only [List.length_append, List.length_cons, List.length_nil, List.length_map]); (try dsimp only); omega)); rfl; rfl
    | fail)
  all_goals exact endI [0] rfl rfl rfl rfl rfl rfl (by unfold szN; split <;> omega)
end Go.Proofs.YtnlajjoheegbiaaGreat.Sh
