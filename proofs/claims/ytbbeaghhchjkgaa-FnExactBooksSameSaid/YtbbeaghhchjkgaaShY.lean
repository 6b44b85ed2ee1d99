/- The laws' own functions over rows. No condition. -/
import Derived.Test.YtbbeaghhchjkgaaShS
namespace Go.Proofs.Ytbbeaghhchjkgaa.Sh
open Go.RowKit
set_option linter.unusedVariables false
set_option linter.unusedSimpArgs false
theorem rd_upd {α : Type} [Enc α] {l : List α} {i j : Int} {x : α} (h : 0 ≤ i ∧ i < l.length) (hj : 0 ≤ j) : rd (upd l i x) j = if j = i then x else rd l j := by
  unfold rd upd
  rw [List.getD_eq_getElem?_getD, List.getD_eq_getElem?_getD, List.getElem?_set]
  by_cases e : j = i
  · subst e
    rw [if_pos rfl, if_pos (by omega), if_pos rfl]
    rfl
  · rw [if_neg (by omega), if_neg e]
theorem rd_set {α : Type} [Enc α] {l : List α} {i j : Int} {x : α} (h : 0 ≤ i ∧ i < l.length) (hj : 0 ≤ j) : rd (l.set i.toNat x) j = if j = i then x else rd l j := rd_upd h hj
theorem rd_same {α : Type} [Enc α] {l : List α} {i : Int} {x : α} (h : 0 ≤ i ∧ i < l.length) : rd (upd l i x) i = x := by rw [rd_upd h h.1, if_pos rfl]
theorem upd_upd {α : Type} (l : List α) (i : Int) (x y : α) : upd (upd l i x) i y = upd l i y := by simp [upd]
theorem ext_rd {α : Type} [Enc α] {l m : List α} (hl : l.length = m.length) (h : ∀ j : Int, 0 ≤ j → j < l.length → rd l j = rd m j) : l = m := by
  refine List.ext_getElem hl (fun i h1 h2 => ?_)
  have := h i (by omega) (by omega)
  simpa [rd, List.getD_eq_getElem?_getD, h1, h2] using this
set_option maxHeartbeats 4000000 in
theorem laws_toAccount {a0 a1 : Int} : FC Try.prog 100 [.agg [.sc (.int .i64 a0), .sc (.int .i64 a1)]] ([]) (.agg [.sc (.int .i64 a0), .sc (.int .i64 a1)]) ([]) := by
  refine fent tk 11 [.cell 2 _] Try.func100 (by kernel_rfl) rfl rfl rfl rfl rfl rfl rfl ?_
  repeat' (first
    | (with_reducible apply zd); rfl; exact tk; rfl
    | (with_reducible first | intro _ | apply wseq | apply zreg | apply thenQ_n | apply thenQ_r | apply thenQ_e | apply znil | apply wret | apply bodyQ_r | apply wblk | apply blkQ_n | apply blkQ_r | apply wskip | apply wexit))
  all_goals exact endV [] rfl rfl rfl rfl rfl rfl
set_option maxHeartbeats 4000000 in
theorem laws_toAccountS {l : List Account} (hl : l.length ≤ 1048576) : FC Try.prog 72 [.c (.row 0 0 l.length)] ([ro 126 l]) (.c (.row 1 0 l.length)) ([ro 126 l, ow 91 l]) := by
  refine fent tk 23 [.tmp 2] Try.func72 (by kernel_rfl) rfl rfl rfl rfl rfl rfl rfl ?_
  repeat' (first
    | (with_reducible apply zd); rfl; exact tk; rfl
    | (with_reducible first | intro _ | apply wseq | apply zreg | apply thenQ_n | apply thenQ_r | apply thenQ_e | apply znil | apply wret | apply bodyQ_r | apply wblk | apply blkQ_n | apply blkQ_r | apply wskip | apply wexit)
    | apply wct rfl
    | apply wcf rfl
    | (with_reducible apply blkQ_x rfl)
    | (with_reducible apply blkQ_y rfl)
    | (with_reducible apply zcmp); rfl; exact tk; rfl; rfl; rfl
    | (with_reducible apply zar); rfl; rfl; rfl; rfl; omega; rfl; rfl
    | (with_reducible apply zix); rfl; exact tk; rfl; rfl; rfl; rfl; rfl; rfl; rfl; omega; rfl; rfl
    | (with_reducible apply zle); rfl; exact tk; rfl; rfl; rfl; rfl; omega; rfl; rfl; rfl; rfl
    | (with_reducible apply zse); rfl; exact tk; rfl; rfl; rfl; rfl; rfl; rfl; omega; rfl; rfl; rfl; rfl; rfl
    | (with_reducible apply zmk (α := Account) (e := 91)); rfl; exact tk; rfl; rfl; rfl; rfl; rfl; rfl; rfl; rfl; (refine ⟨?_, ?_, ?_⟩ <;> first | omega | (dsimp only; omega)); rfl; rfl; rfl
    | (with_reducible apply zc); rfl; rfl; rfl; rfl; rfl; rfl; rfl; rfl; rfl; rfl; exact laws_toAccount; exact fun _ => rfl; rfl; rfl; rfl)
  refine wloop (X := Int × List Account) (fun p => 0 ≤ p.1 ∧ p.1 ≤ l.length ∧ p.2.length = l.length ∧ ∀ j : Int, 0 ≤ j → j < p.1 → rd p.2 j = rd l j) (fun p => ⟨23, 1, [(0, .c (.row 0 0 l.length)), (3, .c (.row 1 0 l.length)), (4, I p.1)], [ro 126 l, ow 91 p.2]⟩) (fun p => (l.length - p.1).toNat) (0, List.replicate l.length Enc.z) [0, 1] ⟨by dsimp only; omega, by dsimp only; omega, by simp, fun j h0 h1 => by dsimp only at h1; omega⟩ ⟨rfl, rfl, rfl, rfl, rfl, rfl, rfl, rfl⟩ (fun p hp => ?_)
  obtain ⟨i, xs⟩ := p
  obtain ⟨h0, hi, hlen, hall⟩ := hp
  dsimp only at h0 hi hlen hall ⊢
  repeat' (first
    | (with_reducible apply zd); rfl; exact tk; rfl
    | (with_reducible first | intro _ | apply wseq | apply zreg | apply thenQ_n | apply thenQ_r | apply thenQ_e | apply znil | apply wret | apply bodyQ_r | apply wblk | apply blkQ_n | apply blkQ_r | apply wskip | apply wexit)
    | apply wct rfl
    | apply wcf rfl
    | (with_reducible apply blkQ_x rfl)
    | (with_reducible apply blkQ_y rfl)
    | (with_reducible apply zcmp); rfl; exact tk; rfl; rfl; rfl
    | (with_reducible apply zar); rfl; rfl; rfl; rfl; omega; rfl; rfl
    | (with_reducible apply zix); rfl; exact tk; rfl; rfl; rfl; rfl; rfl; rfl; rfl; omega; rfl; rfl
    | (with_reducible apply zle); rfl; exact tk; rfl; rfl; rfl; rfl; omega; rfl; rfl; rfl; rfl
    | (with_reducible apply zse); rfl; exact tk; rfl; rfl; rfl; rfl; rfl; rfl; omega; rfl; rfl; rfl; rfl; rfl
    | (with_reducible apply zmk (α := Account) (e := 91)); rfl; exact tk; rfl; rfl; rfl; rfl; rfl; rfl; rfl; rfl; (refine ⟨?_, ?_, ?_⟩ <;> first | omega | (dsimp only; omega)); rfl; rfl; rfl
    | (with_reducible apply zc); rfl; rfl; rfl; rfl; rfl; rfl; rfl; rfl; rfl; rfl; exact laws_toAccount; exact fun _ => rfl; rfl; rfl; rfl)
  all_goals first
    | (obtain rfl : xs = l := ext_rd hlen (fun j h1 h2 => hall j h1 (by omega))
       exact endV [0, 1] rfl rfl rfl rfl rfl rfl)
    | exact ⟨(i + 1, upd xs i (rd l i)), [0, 1], ⟨by dsimp only; omega, by dsimp only; omega, by simp [upd_len, hlen], fun j h1 h2 => by
        dsimp only at h2 ⊢
        rw [rd_upd (by omega) h1]
        split
        · rename_i e; rw [e]
        · exact hall j h1 (by omega)⟩, by dsimp only; omega, rfl, rfl, rfl, rfl, rfl, rfl, rfl, rfl⟩
set_option maxHeartbeats 4000000 in
theorem laws_toInstr {a0 a1 : Int} : FC Try.prog 101 [.agg [.sc (.int .i64 a0), .sc (.int .i64 a1)]] ([]) (.agg [.sc (.int .i64 a0), .sc (.int .i64 a1)]) ([]) := by
  refine fent tk 11 [.cell 2 _] Try.func101 (by kernel_rfl) rfl rfl rfl rfl rfl rfl rfl ?_
  repeat' (first
    | (with_reducible apply zd); rfl; exact tk; rfl
    | (with_reducible first | intro _ | apply wseq | apply zreg | apply thenQ_n | apply thenQ_r | apply thenQ_e | apply znil | apply wret | apply bodyQ_r | apply wblk | apply blkQ_n | apply blkQ_r | apply wskip | apply wexit))
  all_goals exact endV [] rfl rfl rfl rfl rfl rfl
set_option maxHeartbeats 4000000 in
theorem laws_toInstrS {l : List Instr} (hl : l.length ≤ 1048576) : FC Try.prog 73 [.c (.row 0 0 l.length)] ([ro 128 l]) (.c (.row 1 0 l.length)) ([ro 128 l, ow 92 l]) := by
  refine fent tk 23 [.tmp 2] Try.func73 (by kernel_rfl) rfl rfl rfl rfl rfl rfl rfl ?_
  repeat' (first
    | (with_reducible apply zd); rfl; exact tk; rfl
    | (with_reducible first | intro _ | apply wseq | apply zreg | apply thenQ_n | apply thenQ_r | apply thenQ_e | apply znil | apply wret | apply bodyQ_r | apply wblk | apply blkQ_n | apply blkQ_r | apply wskip | apply wexit)
    | apply wct rfl
    | apply wcf rfl
    | (with_reducible apply blkQ_x rfl)
    | (with_reducible apply blkQ_y rfl)
    | (with_reducible apply zcmp); rfl; exact tk; rfl; rfl; rfl
    | (with_reducible apply zar); rfl; rfl; rfl; rfl; omega; rfl; rfl
    | (with_reducible apply zix); rfl; exact tk; rfl; rfl; rfl; rfl; rfl; rfl; rfl; omega; rfl; rfl
    | (with_reducible apply zle); rfl; exact tk; rfl; rfl; rfl; rfl; omega; rfl; rfl; rfl; rfl
    | (with_reducible apply zse); rfl; exact tk; rfl; rfl; rfl; rfl; rfl; rfl; omega; rfl; rfl; rfl; rfl; rfl
    | (with_reducible apply zmk (α := Instr) (e := 92)); rfl; exact tk; rfl; rfl; rfl; rfl; rfl; rfl; rfl; rfl; (refine ⟨?_, ?_, ?_⟩ <;> first | omega | (dsimp only; omega)); rfl; rfl; rfl
    | (with_reducible apply zc); rfl; rfl; rfl; rfl; rfl; rfl; rfl; rfl; rfl; rfl; exact laws_toInstr; exact fun _ => rfl; rfl; rfl; rfl)
  refine wloop (X := Int × List Instr) (fun p => 0 ≤ p.1 ∧ p.1 ≤ l.length ∧ p.2.length = l.length ∧ ∀ j : Int, 0 ≤ j → j < p.1 → rd p.2 j = rd l j) (fun p => ⟨23, 1, [(0, .c (.row 0 0 l.length)), (3, .c (.row 1 0 l.length)), (4, I p.1)], [ro 128 l, ow 92 p.2]⟩) (fun p => (l.length - p.1).toNat) (0, List.replicate l.length Enc.z) [0, 1] ⟨by dsimp only; omega, by dsimp only; omega, by simp, fun j h0 h1 => by dsimp only at h1; omega⟩ ⟨rfl, rfl, rfl, rfl, rfl, rfl, rfl, rfl⟩ (fun p hp => ?_)
  obtain ⟨i, xs⟩ := p
  obtain ⟨h0, hi, hlen, hall⟩ := hp
  dsimp only at h0 hi hlen hall ⊢
  repeat' (first
    | (with_reducible apply zd); rfl; exact tk; rfl
    | (with_reducible first | intro _ | apply wseq | apply zreg | apply thenQ_n | apply thenQ_r | apply thenQ_e | apply znil | apply wret | apply bodyQ_r | apply wblk | apply blkQ_n | apply blkQ_r | apply wskip | apply wexit)
    | apply wct rfl
    | apply wcf rfl
    | (with_reducible apply blkQ_x rfl)
    | (with_reducible apply blkQ_y rfl)
    | (with_reducible apply zcmp); rfl; exact tk; rfl; rfl; rfl
    | (with_reducible apply zar); rfl; rfl; rfl; rfl; omega; rfl; rfl
    | (with_reducible apply zix); rfl; exact tk; rfl; rfl; rfl; rfl; rfl; rfl; rfl; omega; rfl; rfl
    | (with_reducible apply zle); rfl; exact tk; rfl; rfl; rfl; rfl; omega; rfl; rfl; rfl; rfl
    | (with_reducible apply zse); rfl; exact tk; rfl; rfl; rfl; rfl; rfl; rfl; omega; rfl; rfl; rfl; rfl; rfl
    | (with_reducible apply zmk (α := Instr) (e := 92)); rfl; exact tk; rfl; rfl; rfl; rfl; rfl; rfl; rfl; rfl; (refine ⟨?_, ?_, ?_⟩ <;> first | omega | (dsimp only; omega)); rfl; rfl; rfl
    | (with_reducible apply zc); rfl; rfl; rfl; rfl; rfl; rfl; rfl; rfl; rfl; rfl; exact laws_toInstr; exact fun _ => rfl; rfl; rfl; rfl)
  all_goals first
    | (obtain rfl : xs = l := ext_rd hlen (fun j h1 h2 => hall j h1 (by omega))
       exact endV [0, 1] rfl rfl rfl rfl rfl rfl)
    | exact ⟨(i + 1, upd xs i (rd l i)), [0, 1], ⟨by dsimp only; omega, by dsimp only; omega, by simp [upd_len, hlen], fun j h1 h2 => by
        dsimp only at h2 ⊢
        rw [rd_upd (by omega) h1]
        split
        · rename_i e; rw [e]
        · exact hall j h1 (by omega)⟩, by dsimp only; omega, rfl, rfl, rfl, rfl, rfl, rfl, rfl, rfl⟩
set_option maxHeartbeats 4000000 in
theorem laws_toBal {a0 a1 a2 : Int} : FC Try.prog 102 [.agg [.sc (.int .i64 a0), .sc (.int .i64 a1), .sc (.int .i64 a2)]] ([]) (.agg [.sc (.int .i64 a0), .sc (.int .i64 a1), .sc (.int .i64 a2)]) ([]) := by
  refine fent tk 14 [.cell 2 _] Try.func102 (by kernel_rfl) rfl rfl rfl rfl rfl rfl rfl ?_
  repeat' (first
    | (with_reducible apply zd); rfl; exact tk; rfl
    | (with_reducible first | intro _ | apply wseq | apply zreg | apply thenQ_n | apply thenQ_r | apply thenQ_e | apply znil | apply wret | apply bodyQ_r | apply wblk | apply blkQ_n | apply blkQ_r | apply wskip | apply wexit))
  all_goals exact endV [] rfl rfl rfl rfl rfl rfl
set_option maxHeartbeats 4000000 in
theorem laws_toBalS {l : List Bal} (hl : l.length ≤ 1048576) : FC Try.prog 74 [.c (.row 0 0 l.length)] ([ro 130 l]) (.c (.row 1 0 l.length)) ([ro 130 l, ow 94 l]) := by
  refine fent tk 23 [.tmp 2] Try.func74 (by kernel_rfl) rfl rfl rfl rfl rfl rfl rfl ?_
  repeat' (first
    | (with_reducible apply zd); rfl; exact tk; rfl
    | (with_reducible first | intro _ | apply wseq | apply zreg | apply thenQ_n | apply thenQ_r | apply thenQ_e | apply znil | apply wret | apply bodyQ_r | apply wblk | apply blkQ_n | apply blkQ_r | apply wskip | apply wexit)
    | apply wct rfl
    | apply wcf rfl
    | (with_reducible apply blkQ_x rfl)
    | (with_reducible apply blkQ_y rfl)
    | (with_reducible apply zcmp); rfl; exact tk; rfl; rfl; rfl
    | (with_reducible apply zar); rfl; rfl; rfl; rfl; omega; rfl; rfl
    | (with_reducible apply zix); rfl; exact tk; rfl; rfl; rfl; rfl; rfl; rfl; rfl; omega; rfl; rfl
    | (with_reducible apply zle); rfl; exact tk; rfl; rfl; rfl; rfl; omega; rfl; rfl; rfl; rfl
    | (with_reducible apply zse); rfl; exact tk; rfl; rfl; rfl; rfl; rfl; rfl; omega; rfl; rfl; rfl; rfl; rfl
    | (with_reducible apply zmk (α := Bal) (e := 94)); rfl; exact tk; rfl; rfl; rfl; rfl; rfl; rfl; rfl; rfl; (refine ⟨?_, ?_, ?_⟩ <;> first | omega | (dsimp only; omega)); rfl; rfl; rfl
    | (with_reducible apply zc); rfl; rfl; rfl; rfl; rfl; rfl; rfl; rfl; rfl; rfl; exact laws_toBal; exact fun _ => rfl; rfl; rfl; rfl)
  refine wloop (X := Int × List Bal) (fun p => 0 ≤ p.1 ∧ p.1 ≤ l.length ∧ p.2.length = l.length ∧ ∀ j : Int, 0 ≤ j → j < p.1 → rd p.2 j = rd l j) (fun p => ⟨23, 1, [(0, .c (.row 0 0 l.length)), (3, .c (.row 1 0 l.length)), (4, I p.1)], [ro 130 l, ow 94 p.2]⟩) (fun p => (l.length - p.1).toNat) (0, List.replicate l.length Enc.z) [0, 1] ⟨by dsimp only; omega, by dsimp only; omega, by simp, fun j h0 h1 => by dsimp only at h1; omega⟩ ⟨rfl, rfl, rfl, rfl, rfl, rfl, rfl, rfl⟩ (fun p hp => ?_)
  obtain ⟨i, xs⟩ := p
  obtain ⟨h0, hi, hlen, hall⟩ := hp
  dsimp only at h0 hi hlen hall ⊢
  repeat' (first
    | (with_reducible apply zd); rfl; exact tk; rfl
    | (with_reducible first | intro _ | apply wseq | apply zreg | apply thenQ_n | apply thenQ_r | apply thenQ_e | apply znil | apply wret | apply bodyQ_r | apply wblk | apply blkQ_n | apply blkQ_r | apply wskip | apply wexit)
    | apply wct rfl
    | apply wcf rfl
    | (with_reducible apply blkQ_x rfl)
    | (with_reducible apply blkQ_y rfl)
    | (with_reducible apply zcmp); rfl; exact tk; rfl; rfl; rfl
    | (with_reducible apply zar); rfl; rfl; rfl; rfl; omega; rfl; rfl
    | (with_reducible apply zix); rfl; exact tk; rfl; rfl; rfl; rfl; rfl; rfl; rfl; omega; rfl; rfl
    | (with_reducible apply zle); rfl; exact tk; rfl; rfl; rfl; rfl; omega; rfl; rfl; rfl; rfl
    | (with_reducible apply zse); rfl; exact tk; rfl; rfl; rfl; rfl; rfl; rfl; omega; rfl; rfl; rfl; rfl; rfl
    | (with_reducible apply zmk (α := Bal) (e := 94)); rfl; exact tk; rfl; rfl; rfl; rfl; rfl; rfl; rfl; rfl; (refine ⟨?_, ?_, ?_⟩ <;> first | omega | (dsimp only; omega)); rfl; rfl; rfl
    | (with_reducible apply zc); rfl; rfl; rfl; rfl; rfl; rfl; rfl; rfl; rfl; rfl; exact laws_toBal; exact fun _ => rfl; rfl; rfl; rfl)
  all_goals first
    | (obtain rfl : xs = l := ext_rd hlen (fun j h1 h2 => hall j h1 (by omega))
       exact endV [0, 1] rfl rfl rfl rfl rfl rfl)
    | exact ⟨(i + 1, upd xs i (rd l i)), [0, 1], ⟨by dsimp only; omega, by dsimp only; omega, by simp [upd_len, hlen], fun j h1 h2 => by
        dsimp only at h2 ⊢
        rw [rd_upd (by omega) h1]
        split
        · rename_i e; rw [e]
        · exact hall j h1 (by omega)⟩, by dsimp only; omega, rfl, rfl, rfl, rfl, rfl, rfl, rfl, rfl⟩
set_option maxHeartbeats 4000000 in
theorem laws_toLot {a0 a1 a2 a3 a4 : Int} : FC Try.prog 103 [.agg [.sc (.int .i64 a0), .sc (.int .i64 a1), .sc (.int .i64 a2), .sc (.int .i64 a3), .sc (.int .i64 a4)]] ([]) (.agg [.sc (.int .i64 a0), .sc (.int .i64 a1), .sc (.int .i64 a2), .sc (.int .i64 a3), .sc (.int .i64 a4)]) ([]) := by
  refine fent tk 20 [.cell 2 _] Try.func103 (by kernel_rfl) rfl rfl rfl rfl rfl rfl rfl ?_
  repeat' (first
    | (with_reducible apply zd); rfl; exact tk; rfl
    | (with_reducible first | intro _ | apply wseq | apply zreg | apply thenQ_n | apply thenQ_r | apply thenQ_e | apply znil | apply wret | apply bodyQ_r | apply wblk | apply blkQ_n | apply blkQ_r | apply wskip | apply wexit))
  all_goals exact endV [] rfl rfl rfl rfl rfl rfl
set_option maxHeartbeats 4000000 in
theorem laws_toLotS {l : List Lot} (hl : l.length ≤ 1048576) : FC Try.prog 75 [.c (.row 0 0 l.length)] ([ro 132 l]) (.c (.row 1 0 l.length)) ([ro 132 l, ow 96 l]) := by
  refine fent tk 23 [.tmp 2] Try.func75 (by kernel_rfl) rfl rfl rfl rfl rfl rfl rfl ?_
  repeat' (first
    | (with_reducible apply zd); rfl; exact tk; rfl
    | (with_reducible first | intro _ | apply wseq | apply zreg | apply thenQ_n | apply thenQ_r | apply thenQ_e | apply znil | apply wret | apply bodyQ_r | apply wblk | apply blkQ_n | apply blkQ_r | apply wskip | apply wexit)
    | apply wct rfl
    | apply wcf rfl
    | (with_reducible apply blkQ_x rfl)
    | (with_reducible apply blkQ_y rfl)
    | (with_reducible apply zcmp); rfl; exact tk; rfl; rfl; rfl
    | (with_reducible apply zar); rfl; rfl; rfl; rfl; omega; rfl; rfl
    | (with_reducible apply zix); rfl; exact tk; rfl; rfl; rfl; rfl; rfl; rfl; rfl; omega; rfl; rfl
    | (with_reducible apply zle); rfl; exact tk; rfl; rfl; rfl; rfl; omega; rfl; rfl; rfl; rfl
    | (with_reducible apply zse); rfl; exact tk; rfl; rfl; rfl; rfl; rfl; rfl; omega; rfl; rfl; rfl; rfl; rfl
    | (with_reducible apply zmk (α := Lot) (e := 96)); rfl; exact tk; rfl; rfl; rfl; rfl; rfl; rfl; rfl; rfl; (refine ⟨?_, ?_, ?_⟩ <;> first | omega | (dsimp only; omega)); rfl; rfl; rfl
    | (with_reducible apply zc); rfl; rfl; rfl; rfl; rfl; rfl; rfl; rfl; rfl; rfl; exact laws_toLot; exact fun _ => rfl; rfl; rfl; rfl)
  refine wloop (X := Int × List Lot) (fun p => 0 ≤ p.1 ∧ p.1 ≤ l.length ∧ p.2.length = l.length ∧ ∀ j : Int, 0 ≤ j → j < p.1 → rd p.2 j = rd l j) (fun p => ⟨23, 1, [(0, .c (.row 0 0 l.length)), (3, .c (.row 1 0 l.length)), (4, I p.1)], [ro 132 l, ow 96 p.2]⟩) (fun p => (l.length - p.1).toNat) (0, List.replicate l.length Enc.z) [0, 1] ⟨by dsimp only; omega, by dsimp only; omega, by simp, fun j h0 h1 => by dsimp only at h1; omega⟩ ⟨rfl, rfl, rfl, rfl, rfl, rfl, rfl, rfl⟩ (fun p hp => ?_)
  obtain ⟨i, xs⟩ := p
  obtain ⟨h0, hi, hlen, hall⟩ := hp
  dsimp only at h0 hi hlen hall ⊢
  repeat' (first
    | (with_reducible apply zd); rfl; exact tk; rfl
    | (with_reducible first | intro _ | apply wseq | apply zreg | apply thenQ_n | apply thenQ_r | apply thenQ_e | apply znil | apply wret | apply bodyQ_r | apply wblk | apply blkQ_n | apply blkQ_r | apply wskip | apply wexit)
    | apply wct rfl
    | apply wcf rfl
    | (with_reducible apply blkQ_x rfl)
    | (with_reducible apply blkQ_y rfl)
    | (with_reducible apply zcmp); rfl; exact tk; rfl; rfl; rfl
    | (with_reducible apply zar); rfl; rfl; rfl; rfl; omega; rfl; rfl
    | (with_reducible apply zix); rfl; exact tk; rfl; rfl; rfl; rfl; rfl; rfl; rfl; omega; rfl; rfl
    | (with_reducible apply zle); rfl; exact tk; rfl; rfl; rfl; rfl; omega; rfl; rfl; rfl; rfl
    | (with_reducible apply zse); rfl; exact tk; rfl; rfl; rfl; rfl; rfl; rfl; omega; rfl; rfl; rfl; rfl; rfl
    | (with_reducible apply zmk (α := Lot) (e := 96)); rfl; exact tk; rfl; rfl; rfl; rfl; rfl; rfl; rfl; rfl; (refine ⟨?_, ?_, ?_⟩ <;> first | omega | (dsimp only; omega)); rfl; rfl; rfl
    | (with_reducible apply zc); rfl; rfl; rfl; rfl; rfl; rfl; rfl; rfl; rfl; rfl; exact laws_toLot; exact fun _ => rfl; rfl; rfl; rfl)
  all_goals first
    | (obtain rfl : xs = l := ext_rd hlen (fun j h1 h2 => hall j h1 (by omega))
       exact endV [0, 1] rfl rfl rfl rfl rfl rfl)
    | exact ⟨(i + 1, upd xs i (rd l i)), [0, 1], ⟨by dsimp only; omega, by dsimp only; omega, by simp [upd_len, hlen], fun j h1 h2 => by
        dsimp only at h2 ⊢
        rw [rd_upd (by omega) h1]
        split
        · rename_i e; rw [e]
        · exact hall j h1 (by omega)⟩, by dsimp only; omega, rfl, rfl, rfl, rfl, rfl, rfl, rfl, rfl⟩
set_option maxHeartbeats 4000000 in
theorem laws_toTrade {a0 a1 a2 a3 a4 a5 a6 a7 : Int} : FC Try.prog 104 [.agg [.sc (.int .i64 a0), .sc (.int .i64 a1), .sc (.int .i64 a2), .sc (.int .i64 a3), .sc (.int .i64 a4), .sc (.int .i64 a5), .sc (.int .i64 a6), .sc (.int .i64 a7)]] ([]) (.agg [.sc (.int .i64 a0), .sc (.int .i64 a1), .sc (.int .i64 a2), .sc (.int .i64 a3), .sc (.int .i64 a4), .sc (.int .i64 a5), .sc (.int .i64 a6), .sc (.int .i64 a7)]) ([]) := by
  refine fent tk 29 [.cell 2 _] Try.func104 (by kernel_rfl) rfl rfl rfl rfl rfl rfl rfl ?_
  repeat' (first
    | (with_reducible apply zd); rfl; exact tk; rfl
    | (with_reducible first | intro _ | apply wseq | apply zreg | apply thenQ_n | apply thenQ_r | apply thenQ_e | apply znil | apply wret | apply bodyQ_r | apply wblk | apply blkQ_n | apply blkQ_r | apply wskip | apply wexit))
  all_goals exact endV [] rfl rfl rfl rfl rfl rfl
set_option maxHeartbeats 4000000 in
theorem laws_toTradeS {l : List Trade} (hl : l.length ≤ 1048576) : FC Try.prog 76 [.c (.row 0 0 l.length)] ([ro 134 l]) (.c (.row 1 0 l.length)) ([ro 134 l, ow 98 l]) := by
  refine fent tk 23 [.tmp 2] Try.func76 (by kernel_rfl) rfl rfl rfl rfl rfl rfl rfl ?_
  repeat' (first
    | (with_reducible apply zd); rfl; exact tk; rfl
    | (with_reducible first | intro _ | apply wseq | apply zreg | apply thenQ_n | apply thenQ_r | apply thenQ_e | apply znil | apply wret | apply bodyQ_r | apply wblk | apply blkQ_n | apply blkQ_r | apply wskip | apply wexit)
    | apply wct rfl
    | apply wcf rfl
    | (with_reducible apply blkQ_x rfl)
    | (with_reducible apply blkQ_y rfl)
    | (with_reducible apply zcmp); rfl; exact tk; rfl; rfl; rfl
    | (with_reducible apply zar); rfl; rfl; rfl; rfl; omega; rfl; rfl
    | (with_reducible apply zix); rfl; exact tk; rfl; rfl; rfl; rfl; rfl; rfl; rfl; omega; rfl; rfl
    | (with_reducible apply zle); rfl; exact tk; rfl; rfl; rfl; rfl; omega; rfl; rfl; rfl; rfl
    | (with_reducible apply zse); rfl; exact tk; rfl; rfl; rfl; rfl; rfl; rfl; omega; rfl; rfl; rfl; rfl; rfl
    | (with_reducible apply zmk (α := Trade) (e := 98)); rfl; exact tk; rfl; rfl; rfl; rfl; rfl; rfl; rfl; rfl; (refine ⟨?_, ?_, ?_⟩ <;> first | omega | (dsimp only; omega)); rfl; rfl; rfl
    | (with_reducible apply zc); rfl; rfl; rfl; rfl; rfl; rfl; rfl; rfl; rfl; rfl; exact laws_toTrade; exact fun _ => rfl; rfl; rfl; rfl)
  refine wloop (X := Int × List Trade) (fun p => 0 ≤ p.1 ∧ p.1 ≤ l.length ∧ p.2.length = l.length ∧ ∀ j : Int, 0 ≤ j → j < p.1 → rd p.2 j = rd l j) (fun p => ⟨23, 1, [(0, .c (.row 0 0 l.length)), (3, .c (.row 1 0 l.length)), (4, I p.1)], [ro 134 l, ow 98 p.2]⟩) (fun p => (l.length - p.1).toNat) (0, List.replicate l.length Enc.z) [0, 1] ⟨by dsimp only; omega, by dsimp only; omega, by simp, fun j h0 h1 => by dsimp only at h1; omega⟩ ⟨rfl, rfl, rfl, rfl, rfl, rfl, rfl, rfl⟩ (fun p hp => ?_)
  obtain ⟨i, xs⟩ := p
  obtain ⟨h0, hi, hlen, hall⟩ := hp
  dsimp only at h0 hi hlen hall ⊢
  repeat' (first
    | (with_reducible apply zd); rfl; exact tk; rfl
    | (with_reducible first | intro _ | apply wseq | apply zreg | apply thenQ_n | apply thenQ_r | apply thenQ_e | apply znil | apply wret | apply bodyQ_r | apply wblk | apply blkQ_n | apply blkQ_r | apply wskip | apply wexit)
    | apply wct rfl
    | apply wcf rfl
    | (with_reducible apply blkQ_x rfl)
    | (with_reducible apply blkQ_y rfl)
    | (with_reducible apply zcmp); rfl; exact tk; rfl; rfl; rfl
    | (with_reducible apply zar); rfl; rfl; rfl; rfl; omega; rfl; rfl
    | (with_reducible apply zix); rfl; exact tk; rfl; rfl; rfl; rfl; rfl; rfl; rfl; omega; rfl; rfl
    | (with_reducible apply zle); rfl; exact tk; rfl; rfl; rfl; rfl; omega; rfl; rfl; rfl; rfl
    | (with_reducible apply zse); rfl; exact tk; rfl; rfl; rfl; rfl; rfl; rfl; omega; rfl; rfl; rfl; rfl; rfl
    | (with_reducible apply zmk (α := Trade) (e := 98)); rfl; exact tk; rfl; rfl; rfl; rfl; rfl; rfl; rfl; rfl; (refine ⟨?_, ?_, ?_⟩ <;> first | omega | (dsimp only; omega)); rfl; rfl; rfl
    | (with_reducible apply zc); rfl; rfl; rfl; rfl; rfl; rfl; rfl; rfl; rfl; rfl; exact laws_toTrade; exact fun _ => rfl; rfl; rfl; rfl)
  all_goals first
    | (obtain rfl : xs = l := ext_rd hlen (fun j h1 h2 => hall j h1 (by omega))
       exact endV [0, 1] rfl rfl rfl rfl rfl rfl)
    | exact ⟨(i + 1, upd xs i (rd l i)), [0, 1], ⟨by dsimp only; omega, by dsimp only; omega, by simp [upd_len, hlen], fun j h1 h2 => by
        dsimp only at h2 ⊢
        rw [rd_upd (by omega) h1]
        split
        · rename_i e; rw [e]
        · exact hall j h1 (by omega)⟩, by dsimp only; omega, rfl, rfl, rfl, rfl, rfl, rfl, rfl, rfl⟩
def szN (left : Int) (n : Nat) : Int := if left - n < 0 then -1 else left - n
theorem szr {x : Int} {n : Nat} (h : 0 ≤ x ∧ x ≤ 1048576) (hn : ¬ szN x n < 0) : 0 ≤ szN x n ∧ szN x n ≤ 1048576 := by
  unfold szN at *
  split at hn
  · omega
  · rename_i h1
    rw [if_neg h1]
    omega
set_option maxHeartbeats 4000000 in
theorem laws_szAccountS {l : List Account} {left : Int} (hl : 0 ≤ left ∧ left ≤ 1048576) : FC Try.prog 67 [.c (.row 0 0 l.length), I left] ([ro 126 l]) (I (szN left l.length)) ([ro 126 l]) := by
  refine fent tk 12 [.tmp 4] Try.func67 (by kernel_rfl) rfl rfl rfl rfl rfl rfl rfl ?_
  refine wlen l 0 rfl (fun hlen => ?_)
  repeat' (first
    | (with_reducible apply zd); rfl; exact tk; rfl
    | (with_reducible first | intro _ | apply wseq | apply zreg | apply thenQ_n | apply thenQ_r | apply thenQ_e | apply znil | apply wret | apply bodyQ_r | apply wblk | apply blkQ_n | apply blkQ_r | apply wskip | apply wexit)
    | apply wct rfl
    | apply wcf rfl
    | (with_reducible apply zcmp); rfl; exact tk; rfl; rfl; rfl
    | (with_reducible apply zar); rfl; rfl; rfl; rfl; omega; rfl; rfl)
  all_goals exact endI [0] rfl rfl rfl rfl rfl rfl (by unfold szN; split <;> omega)
set_option maxHeartbeats 4000000 in
theorem laws_eqAccount {a0 a1 b0 b1 : Int} : FC Try.prog 105 [.agg [.sc (.int .i64 a0), .sc (.int .i64 a1)], .agg [.sc (.int .i64 b0), .sc (.int .i64 b1)]] ([]) (B (dB (a0 = b0 ∧ a1 = b1))) ([]) := by
  refine fent tk 15 [.tmp 4] Try.func105 (by kernel_rfl) rfl rfl rfl rfl rfl rfl rfl ?_
  repeat' (first
    | (with_reducible apply zd); rfl; exact tk; rfl
    | (with_reducible first | intro _ | apply wseq | apply zreg | apply thenQ_n | apply thenQ_r | apply thenQ_e | apply znil | apply wret | apply bodyQ_r | apply wblk | apply blkQ_n | apply blkQ_r | apply wskip | apply wexit)
    | apply wct rfl
    | apply wcf rfl
    | (with_reducible apply zne); rfl; exact tk; rfl; rfl; rfl; rfl)
  all_goals first | exact endY [] rfl rfl rfl rfl rfl rfl (by simp_all) | exact endN [] rfl rfl rfl rfl rfl rfl (by simp_all)
set_option maxHeartbeats 4000000 in
theorem laws_eqAccountS {l m : List Account} : FC Try.prog 82 [.c (.row 0 0 l.length), .c (.row 1 0 m.length)] ([ro 91 l, ro 91 m]) (B (dB (l = m))) ([ro 91 l, ro 91 m]) := by
  refine fent tk 27 [.tmp 4] Try.func82 (by kernel_rfl) rfl rfl rfl rfl rfl rfl rfl ?_
  refine wlen l 0 rfl (fun hl => ?_)
  repeat' (first
    | (with_reducible apply zd); rfl; exact tk; rfl
    | (with_reducible first | intro _ | apply wseq | apply zreg | apply thenQ_n | apply thenQ_r | apply thenQ_e | apply znil | apply wret | apply bodyQ_r | apply wblk | apply blkQ_n | apply blkQ_r | apply wskip | apply wexit)
    | apply wct rfl
    | apply wcf rfl
    | (with_reducible apply blkQ_x rfl)
    | (with_reducible apply blkQ_y rfl)
    | (with_reducible apply zcmp); rfl; exact tk; rfl; rfl; rfl
    | (with_reducible apply zne); rfl; exact tk; rfl; rfl; rfl; rfl
    | (with_reducible apply zar); rfl; rfl; rfl; rfl; omega; rfl; rfl
    | (with_reducible apply zix); rfl; exact tk; rfl; rfl; rfl; rfl; rfl; rfl; rfl; omega; rfl; rfl
    | (with_reducible apply zle); rfl; exact tk; rfl; rfl; rfl; rfl; omega; rfl; rfl; rfl; rfl
    | refine zdraw (id := 6) (by kernel_rfl) [(.p, 0), (.p, 1), (.p, 2), (.p, 4), (.p, 5), (.p, 6), (.t, 3), (.t, 7), (.o, 8), (.p, 9)] [] (by kernel_rfl) rfl ?_
    | (with_reducible apply zcp); rfl; rfl; rfl; rfl; rfl; rfl; rfl; rfl; rfl; rfl; exact laws_eqAccount; rfl; rfl)
  · rename_i hne
    exact endN [0, 1] rfl rfl rfl rfl rfl rfl (fun e => hne (by rw [e]))
  · rename_i hlen
    refine wloop (X := Int) (fun i => 0 ≤ i ∧ i ≤ l.length ∧ ∀ j : Int, 0 ≤ j → j < i → rd l j = rd m j) (fun i => ⟨27, 2, [(0, .c (.row 0 0 l.length)), (1, .c (.row 1 0 m.length)), (5, I i)], [ro 91 l, ro 91 m]⟩) (fun i => (l.length - i).toNat) 0 [0, 1] ⟨by omega, by omega, fun j h0 h1 => by omega⟩ ⟨rfl, rfl, rfl, rfl, rfl, rfl, rfl, rfl⟩ (fun i hi => ?_)
    obtain ⟨h0, hi, hall⟩ := hi
    repeat' (first
      | (with_reducible apply zd); rfl; exact tk; rfl
      | (with_reducible first | intro _ | apply wseq | apply zreg | apply thenQ_n | apply thenQ_r | apply thenQ_e | apply znil | apply wret | apply bodyQ_r | apply wblk | apply blkQ_n | apply blkQ_r | apply wskip | apply wexit)
      | apply wct rfl
      | apply wcf rfl
      | (with_reducible apply blkQ_x rfl)
      | (with_reducible apply blkQ_y rfl)
      | (with_reducible apply zcmp); rfl; exact tk; rfl; rfl; rfl
      | (with_reducible apply zne); rfl; exact tk; rfl; rfl; rfl; rfl
      | (with_reducible apply zar); rfl; rfl; rfl; rfl; omega; rfl; rfl
      | (with_reducible apply zix); rfl; exact tk; rfl; rfl; rfl; rfl; rfl; rfl; rfl; omega; rfl; rfl
      | (with_reducible apply zle); rfl; exact tk; rfl; rfl; rfl; rfl; omega; rfl; rfl; rfl; rfl
      | refine zdraw (id := 6) (by kernel_rfl) [(.p, 0), (.p, 1), (.p, 2), (.p, 4), (.p, 5), (.p, 6), (.t, 3), (.t, 7), (.o, 8), (.p, 9)] [] (by kernel_rfl) rfl ?_
      | (with_reducible apply zcp); rfl; rfl; rfl; rfl; rfl; rfl; rfl; rfl; rfl; rfl; exact laws_eqAccount; rfl; rfl)
    all_goals first
      | exact endY [0, 1] rfl rfl rfl rfl rfl rfl (ext_rd (by omega) (fun j h1 h2 => hall j h1 (by omega)))
      | exact endN [0, 1] rfl rfl rfl rfl rfl rfl (fun e => by subst e; simp_all)
      | exact ⟨i + 1, [0, 1], ⟨by omega, by omega, all_step hall (by rename_i h; obtain ⟨e0, e1⟩ := h; generalize rd l i = x at *; generalize rd m i = y at *; cases x; cases y; simp_all)⟩, by dsimp only; omega, rfl, rfl, rfl, rfl, rfl, rfl, rfl, rfl⟩
set_option maxHeartbeats 4000000 in
theorem laws_szInstrS {l : List Instr} {left : Int} (hl : 0 ≤ left ∧ left ≤ 1048576) : FC Try.prog 68 [.c (.row 0 0 l.length), I left] ([ro 128 l]) (I (szN left l.length)) ([ro 128 l]) := by
  refine fent tk 12 [.tmp 4] Try.func68 (by kernel_rfl) rfl rfl rfl rfl rfl rfl rfl ?_
  refine wlen l 0 rfl (fun hlen => ?_)
  repeat' (first
    | (with_reducible apply zd); rfl; exact tk; rfl
    | (with_reducible first | intro _ | apply wseq | apply zreg | apply thenQ_n | apply thenQ_r | apply thenQ_e | apply znil | apply wret | apply bodyQ_r | apply wblk | apply blkQ_n | apply blkQ_r | apply wskip | apply wexit)
    | apply wct rfl
    | apply wcf rfl
    | (with_reducible apply zcmp); rfl; exact tk; rfl; rfl; rfl
    | (with_reducible apply zar); rfl; rfl; rfl; rfl; omega; rfl; rfl)
  all_goals exact endI [0] rfl rfl rfl rfl rfl rfl (by unfold szN; split <;> omega)
set_option maxHeartbeats 4000000 in
theorem laws_eqInstr {a0 a1 b0 b1 : Int} : FC Try.prog 106 [.agg [.sc (.int .i64 a0), .sc (.int .i64 a1)], .agg [.sc (.int .i64 b0), .sc (.int .i64 b1)]] ([]) (B (dB (a0 = b0 ∧ a1 = b1))) ([]) := by
  refine fent tk 15 [.tmp 4] Try.func106 (by kernel_rfl) rfl rfl rfl rfl rfl rfl rfl ?_
  repeat' (first
    | (with_reducible apply zd); rfl; exact tk; rfl
    | (with_reducible first | intro _ | apply wseq | apply zreg | apply thenQ_n | apply thenQ_r | apply thenQ_e | apply znil | apply wret | apply bodyQ_r | apply wblk | apply blkQ_n | apply blkQ_r | apply wskip | apply wexit)
    | apply wct rfl
    | apply wcf rfl
    | (with_reducible apply zne); rfl; exact tk; rfl; rfl; rfl; rfl)
  all_goals first | exact endY [] rfl rfl rfl rfl rfl rfl (by simp_all) | exact endN [] rfl rfl rfl rfl rfl rfl (by simp_all)
set_option maxHeartbeats 4000000 in
theorem laws_eqInstrS {l m : List Instr} : FC Try.prog 83 [.c (.row 0 0 l.length), .c (.row 1 0 m.length)] ([ro 92 l, ro 92 m]) (B (dB (l = m))) ([ro 92 l, ro 92 m]) := by
  refine fent tk 27 [.tmp 4] Try.func83 (by kernel_rfl) rfl rfl rfl rfl rfl rfl rfl ?_
  refine wlen l 0 rfl (fun hl => ?_)
  repeat' (first
    | (with_reducible apply zd); rfl; exact tk; rfl
    | (with_reducible first | intro _ | apply wseq | apply zreg | apply thenQ_n | apply thenQ_r | apply thenQ_e | apply znil | apply wret | apply bodyQ_r | apply wblk | apply blkQ_n | apply blkQ_r | apply wskip | apply wexit)
    | apply wct rfl
    | apply wcf rfl
    | (with_reducible apply blkQ_x rfl)
    | (with_reducible apply blkQ_y rfl)
    | (with_reducible apply zcmp); rfl; exact tk; rfl; rfl; rfl
    | (with_reducible apply zne); rfl; exact tk; rfl; rfl; rfl; rfl
    | (with_reducible apply zar); rfl; rfl; rfl; rfl; omega; rfl; rfl
    | (with_reducible apply zix); rfl; exact tk; rfl; rfl; rfl; rfl; rfl; rfl; rfl; omega; rfl; rfl
    | (with_reducible apply zle); rfl; exact tk; rfl; rfl; rfl; rfl; omega; rfl; rfl; rfl; rfl
    | refine zdraw (id := 6) (by kernel_rfl) [(.p, 0), (.p, 1), (.p, 2), (.p, 4), (.p, 5), (.p, 6), (.t, 3), (.t, 7), (.o, 8), (.p, 9)] [] (by kernel_rfl) rfl ?_
    | (with_reducible apply zcp); rfl; rfl; rfl; rfl; rfl; rfl; rfl; rfl; rfl; rfl; exact laws_eqInstr; rfl; rfl)
  · rename_i hne
    exact endN [0, 1] rfl rfl rfl rfl rfl rfl (fun e => hne (by rw [e]))
  · rename_i hlen
    refine wloop (X := Int) (fun i => 0 ≤ i ∧ i ≤ l.length ∧ ∀ j : Int, 0 ≤ j → j < i → rd l j = rd m j) (fun i => ⟨27, 2, [(0, .c (.row 0 0 l.length)), (1, .c (.row 1 0 m.length)), (5, I i)], [ro 92 l, ro 92 m]⟩) (fun i => (l.length - i).toNat) 0 [0, 1] ⟨by omega, by omega, fun j h0 h1 => by omega⟩ ⟨rfl, rfl, rfl, rfl, rfl, rfl, rfl, rfl⟩ (fun i hi => ?_)
    obtain ⟨h0, hi, hall⟩ := hi
    repeat' (first
      | (with_reducible apply zd); rfl; exact tk; rfl
      | (with_reducible first | intro _ | apply wseq | apply zreg | apply thenQ_n | apply thenQ_r | apply thenQ_e | apply znil | apply wret | apply bodyQ_r | apply wblk | apply blkQ_n | apply blkQ_r | apply wskip | apply wexit)
      | apply wct rfl
      | apply wcf rfl
      | (with_reducible apply blkQ_x rfl)
      | (with_reducible apply blkQ_y rfl)
      | (with_reducible apply zcmp); rfl; exact tk; rfl; rfl; rfl
      | (with_reducible apply zne); rfl; exact tk; rfl; rfl; rfl; rfl
      | (with_reducible apply zar); rfl; rfl; rfl; rfl; omega; rfl; rfl
      | (with_reducible apply zix); rfl; exact tk; rfl; rfl; rfl; rfl; rfl; rfl; rfl; omega; rfl; rfl
      | (with_reducible apply zle); rfl; exact tk; rfl; rfl; rfl; rfl; omega; rfl; rfl; rfl; rfl
      | refine zdraw (id := 6) (by kernel_rfl) [(.p, 0), (.p, 1), (.p, 2), (.p, 4), (.p, 5), (.p, 6), (.t, 3), (.t, 7), (.o, 8), (.p, 9)] [] (by kernel_rfl) rfl ?_
      | (with_reducible apply zcp); rfl; rfl; rfl; rfl; rfl; rfl; rfl; rfl; rfl; rfl; exact laws_eqInstr; rfl; rfl)
    all_goals first
      | exact endY [0, 1] rfl rfl rfl rfl rfl rfl (ext_rd (by omega) (fun j h1 h2 => hall j h1 (by omega)))
      | exact endN [0, 1] rfl rfl rfl rfl rfl rfl (fun e => by subst e; simp_all)
      | exact ⟨i + 1, [0, 1], ⟨by omega, by omega, all_step hall (by rename_i h; obtain ⟨e0, e1⟩ := h; generalize rd l i = x at *; generalize rd m i = y at *; cases x; cases y; simp_all)⟩, by dsimp only; omega, rfl, rfl, rfl, rfl, rfl, rfl, rfl, rfl⟩
set_option maxHeartbeats 4000000 in
theorem laws_szBalS {l : List Bal} {left : Int} (hl : 0 ≤ left ∧ left ≤ 1048576) : FC Try.prog 69 [.c (.row 0 0 l.length), I left] ([ro 130 l]) (I (szN left l.length)) ([ro 130 l]) := by
  refine fent tk 12 [.tmp 4] Try.func69 (by kernel_rfl) rfl rfl rfl rfl rfl rfl rfl ?_
  refine wlen l 0 rfl (fun hlen => ?_)
  repeat' (first
    | (with_reducible apply zd); rfl; exact tk; rfl
    | (with_reducible first | intro _ | apply wseq | apply zreg | apply thenQ_n | apply thenQ_r | apply thenQ_e | apply znil | apply wret | apply bodyQ_r | apply wblk | apply blkQ_n | apply blkQ_r | apply wskip | apply wexit)
    | apply wct rfl
    | apply wcf rfl
    | (with_reducible apply zcmp); rfl; exact tk; rfl; rfl; rfl
    | (with_reducible apply zar); rfl; rfl; rfl; rfl; omega; rfl; rfl)
  all_goals exact endI [0] rfl rfl rfl rfl rfl rfl (by unfold szN; split <;> omega)
set_option maxHeartbeats 4000000 in
theorem laws_eqBal {a0 a1 a2 b0 b1 b2 : Int} : FC Try.prog 107 [.agg [.sc (.int .i64 a0), .sc (.int .i64 a1), .sc (.int .i64 a2)], .agg [.sc (.int .i64 b0), .sc (.int .i64 b1), .sc (.int .i64 b2)]] ([]) (B (dB (a0 = b0 ∧ a1 = b1 ∧ a2 = b2))) ([]) := by
  refine fent tk 20 [.tmp 4] Try.func107 (by kernel_rfl) rfl rfl rfl rfl rfl rfl rfl ?_
  repeat' (first
    | (with_reducible apply zd); rfl; exact tk; rfl
    | (with_reducible first | intro _ | apply wseq | apply zreg | apply thenQ_n | apply thenQ_r | apply thenQ_e | apply znil | apply wret | apply bodyQ_r | apply wblk | apply blkQ_n | apply blkQ_r | apply wskip | apply wexit)
    | apply wct rfl
    | apply wcf rfl
    | (with_reducible apply zne); rfl; exact tk; rfl; rfl; rfl; rfl)
  all_goals first | exact endY [] rfl rfl rfl rfl rfl rfl (by simp_all) | exact endN [] rfl rfl rfl rfl rfl rfl (by simp_all)
set_option maxHeartbeats 4000000 in
theorem laws_eqBalS {l m : List Bal} : FC Try.prog 84 [.c (.row 0 0 l.length), .c (.row 1 0 m.length)] ([ro 94 l, ro 94 m]) (B (dB (l = m))) ([ro 94 l, ro 94 m]) := by
  refine fent tk 27 [.tmp 4] Try.func84 (by kernel_rfl) rfl rfl rfl rfl rfl rfl rfl ?_
  refine wlen l 0 rfl (fun hl => ?_)
  repeat' (first
    | (with_reducible apply zd); rfl; exact tk; rfl
    | (with_reducible first | intro _ | apply wseq | apply zreg | apply thenQ_n | apply thenQ_r | apply thenQ_e | apply znil | apply wret | apply bodyQ_r | apply wblk | apply blkQ_n | apply blkQ_r | apply wskip | apply wexit)
    | apply wct rfl
    | apply wcf rfl
    | (with_reducible apply blkQ_x rfl)
    | (with_reducible apply blkQ_y rfl)
    | (with_reducible apply zcmp); rfl; exact tk; rfl; rfl; rfl
    | (with_reducible apply zne); rfl; exact tk; rfl; rfl; rfl; rfl
    | (with_reducible apply zar); rfl; rfl; rfl; rfl; omega; rfl; rfl
    | (with_reducible apply zix); rfl; exact tk; rfl; rfl; rfl; rfl; rfl; rfl; rfl; omega; rfl; rfl
    | (with_reducible apply zle); rfl; exact tk; rfl; rfl; rfl; rfl; omega; rfl; rfl; rfl; rfl
    | refine zdraw (id := 6) (by kernel_rfl) [(.p, 0), (.p, 1), (.p, 2), (.p, 4), (.p, 5), (.p, 6), (.t, 3), (.t, 7), (.o, 8), (.p, 9)] [] (by kernel_rfl) rfl ?_
    | (with_reducible apply zcp); rfl; rfl; rfl; rfl; rfl; rfl; rfl; rfl; rfl; rfl; exact laws_eqBal; rfl; rfl)
  · rename_i hne
    exact endN [0, 1] rfl rfl rfl rfl rfl rfl (fun e => hne (by rw [e]))
  · rename_i hlen
    refine wloop (X := Int) (fun i => 0 ≤ i ∧ i ≤ l.length ∧ ∀ j : Int, 0 ≤ j → j < i → rd l j = rd m j) (fun i => ⟨27, 2, [(0, .c (.row 0 0 l.length)), (1, .c (.row 1 0 m.length)), (5, I i)], [ro 94 l, ro 94 m]⟩) (fun i => (l.length - i).toNat) 0 [0, 1] ⟨by omega, by omega, fun j h0 h1 => by omega⟩ ⟨rfl, rfl, rfl, rfl, rfl, rfl, rfl, rfl⟩ (fun i hi => ?_)
    obtain ⟨h0, hi, hall⟩ := hi
    repeat' (first
      | (with_reducible apply zd); rfl; exact tk; rfl
      | (with_reducible first | intro _ | apply wseq | apply zreg | apply thenQ_n | apply thenQ_r | apply thenQ_e | apply znil | apply wret | apply bodyQ_r | apply wblk | apply blkQ_n | apply blkQ_r | apply wskip | apply wexit)
      | apply wct rfl
      | apply wcf rfl
      | (with_reducible apply blkQ_x rfl)
      | (with_reducible apply blkQ_y rfl)
      | (with_reducible apply zcmp); rfl; exact tk; rfl; rfl; rfl
      | (with_reducible apply zne); rfl; exact tk; rfl; rfl; rfl; rfl
      | (with_reducible apply zar); rfl; rfl; rfl; rfl; omega; rfl; rfl
      | (with_reducible apply zix); rfl; exact tk; rfl; rfl; rfl; rfl; rfl; rfl; rfl; omega; rfl; rfl
      | (with_reducible apply zle); rfl; exact tk; rfl; rfl; rfl; rfl; omega; rfl; rfl; rfl; rfl
      | refine zdraw (id := 6) (by kernel_rfl) [(.p, 0), (.p, 1), (.p, 2), (.p, 4), (.p, 5), (.p, 6), (.t, 3), (.t, 7), (.o, 8), (.p, 9)] [] (by kernel_rfl) rfl ?_
      | (with_reducible apply zcp); rfl; rfl; rfl; rfl; rfl; rfl; rfl; rfl; rfl; rfl; exact laws_eqBal; rfl; rfl)
    all_goals first
      | exact endY [0, 1] rfl rfl rfl rfl rfl rfl (ext_rd (by omega) (fun j h1 h2 => hall j h1 (by omega)))
      | exact endN [0, 1] rfl rfl rfl rfl rfl rfl (fun e => by subst e; simp_all)
      | exact ⟨i + 1, [0, 1], ⟨by omega, by omega, all_step hall (by rename_i h; obtain ⟨e0, e1, e2⟩ := h; generalize rd l i = x at *; generalize rd m i = y at *; cases x; cases y; simp_all)⟩, by dsimp only; omega, rfl, rfl, rfl, rfl, rfl, rfl, rfl, rfl⟩
set_option maxHeartbeats 4000000 in
theorem laws_szLotS {l : List Lot} {left : Int} (hl : 0 ≤ left ∧ left ≤ 1048576) : FC Try.prog 70 [.c (.row 0 0 l.length), I left] ([ro 132 l]) (I (szN left l.length)) ([ro 132 l]) := by
  refine fent tk 12 [.tmp 4] Try.func70 (by kernel_rfl) rfl rfl rfl rfl rfl rfl rfl ?_
  refine wlen l 0 rfl (fun hlen => ?_)
  repeat' (first
    | (with_reducible apply zd); rfl; exact tk; rfl
    | (with_reducible first | intro _ | apply wseq | apply zreg | apply thenQ_n | apply thenQ_r | apply thenQ_e | apply znil | apply wret | apply bodyQ_r | apply wblk | apply blkQ_n | apply blkQ_r | apply wskip | apply wexit)
    | apply wct rfl
    | apply wcf rfl
    | (with_reducible apply zcmp); rfl; exact tk; rfl; rfl; rfl
    | (with_reducible apply zar); rfl; rfl; rfl; rfl; omega; rfl; rfl)
  all_goals exact endI [0] rfl rfl rfl rfl rfl rfl (by unfold szN; split <;> omega)
set_option maxHeartbeats 4000000 in
theorem laws_eqLot {a0 a1 a2 a3 a4 b0 b1 b2 b3 b4 : Int} : FC Try.prog 108 [.agg [.sc (.int .i64 a0), .sc (.int .i64 a1), .sc (.int .i64 a2), .sc (.int .i64 a3), .sc (.int .i64 a4)], .agg [.sc (.int .i64 b0), .sc (.int .i64 b1), .sc (.int .i64 b2), .sc (.int .i64 b3), .sc (.int .i64 b4)]] ([]) (B (dB (a0 = b0 ∧ a1 = b1 ∧ a2 = b2 ∧ a3 = b3 ∧ a4 = b4))) ([]) := by
  refine fent tk 30 [.tmp 4] Try.func108 (by kernel_rfl) rfl rfl rfl rfl rfl rfl rfl ?_
  repeat' (first
    | (with_reducible apply zd); rfl; exact tk; rfl
    | (with_reducible first | intro _ | apply wseq | apply zreg | apply thenQ_n | apply thenQ_r | apply thenQ_e | apply znil | apply wret | apply bodyQ_r | apply wblk | apply blkQ_n | apply blkQ_r | apply wskip | apply wexit)
    | apply wct rfl
    | apply wcf rfl
    | (with_reducible apply zne); rfl; exact tk; rfl; rfl; rfl; rfl)
  all_goals first | exact endY [] rfl rfl rfl rfl rfl rfl (by simp_all) | exact endN [] rfl rfl rfl rfl rfl rfl (by simp_all)
set_option maxHeartbeats 4000000 in
theorem laws_eqLotS {l m : List Lot} : FC Try.prog 85 [.c (.row 0 0 l.length), .c (.row 1 0 m.length)] ([ro 96 l, ro 96 m]) (B (dB (l = m))) ([ro 96 l, ro 96 m]) := by
  refine fent tk 27 [.tmp 4] Try.func85 (by kernel_rfl) rfl rfl rfl rfl rfl rfl rfl ?_
  refine wlen l 0 rfl (fun hl => ?_)
  repeat' (first
    | (with_reducible apply zd); rfl; exact tk; rfl
    | (with_reducible first | intro _ | apply wseq | apply zreg | apply thenQ_n | apply thenQ_r | apply thenQ_e | apply znil | apply wret | apply bodyQ_r | apply wblk | apply blkQ_n | apply blkQ_r | apply wskip | apply wexit)
    | apply wct rfl
    | apply wcf rfl
    | (with_reducible apply blkQ_x rfl)
    | (with_reducible apply blkQ_y rfl)
    | (with_reducible apply zcmp); rfl; exact tk; rfl; rfl; rfl
    | (with_reducible apply zne); rfl; exact tk; rfl; rfl; rfl; rfl
    | (with_reducible apply zar); rfl; rfl; rfl; rfl; omega; rfl; rfl
    | (with_reducible apply zix); rfl; exact tk; rfl; rfl; rfl; rfl; rfl; rfl; rfl; omega; rfl; rfl
    | (with_reducible apply zle); rfl; exact tk; rfl; rfl; rfl; rfl; omega; rfl; rfl; rfl; rfl
    | refine zdraw (id := 6) (by kernel_rfl) [(.p, 0), (.p, 1), (.p, 2), (.p, 4), (.p, 5), (.p, 6), (.t, 3), (.t, 7), (.o, 8), (.p, 9)] [] (by kernel_rfl) rfl ?_
    | (with_reducible apply zcp); rfl; rfl; rfl; rfl; rfl; rfl; rfl; rfl; rfl; rfl; exact laws_eqLot; rfl; rfl)
  · rename_i hne
    exact endN [0, 1] rfl rfl rfl rfl rfl rfl (fun e => hne (by rw [e]))
  · rename_i hlen
    refine wloop (X := Int) (fun i => 0 ≤ i ∧ i ≤ l.length ∧ ∀ j : Int, 0 ≤ j → j < i → rd l j = rd m j) (fun i => ⟨27, 2, [(0, .c (.row 0 0 l.length)), (1, .c (.row 1 0 m.length)), (5, I i)], [ro 96 l, ro 96 m]⟩) (fun i => (l.length - i).toNat) 0 [0, 1] ⟨by omega, by omega, fun j h0 h1 => by omega⟩ ⟨rfl, rfl, rfl, rfl, rfl, rfl, rfl, rfl⟩ (fun i hi => ?_)
    obtain ⟨h0, hi, hall⟩ := hi
    repeat' (first
      | (with_reducible apply zd); rfl; exact tk; rfl
      | (with_reducible first | intro _ | apply wseq | apply zreg | apply thenQ_n | apply thenQ_r | apply thenQ_e | apply znil | apply wret | apply bodyQ_r | apply wblk | apply blkQ_n | apply blkQ_r | apply wskip | apply wexit)
      | apply wct rfl
      | apply wcf rfl
      | (with_reducible apply blkQ_x rfl)
      | (with_reducible apply blkQ_y rfl)
      | (with_reducible apply zcmp); rfl; exact tk; rfl; rfl; rfl
      | (with_reducible apply zne); rfl; exact tk; rfl; rfl; rfl; rfl
      | (with_reducible apply zar); rfl; rfl; rfl; rfl; omega; rfl; rfl
      | (with_reducible apply zix); rfl; exact tk; rfl; rfl; rfl; rfl; rfl; rfl; rfl; omega; rfl; rfl
      | (with_reducible apply zle); rfl; exact tk; rfl; rfl; rfl; rfl; omega; rfl; rfl; rfl; rfl
      | refine zdraw (id := 6) (by kernel_rfl) [(.p, 0), (.p, 1), (.p, 2), (.p, 4), (.p, 5), (.p, 6), (.t, 3), (.t, 7), (.o, 8), (.p, 9)] [] (by kernel_rfl) rfl ?_
      | (with_reducible apply zcp); rfl; rfl; rfl; rfl; rfl; rfl; rfl; rfl; rfl; rfl; exact laws_eqLot; rfl; rfl)
    all_goals first
      | exact endY [0, 1] rfl rfl rfl rfl rfl rfl (ext_rd (by omega) (fun j h1 h2 => hall j h1 (by omega)))
      | exact endN [0, 1] rfl rfl rfl rfl rfl rfl (fun e => by subst e; simp_all)
      | exact ⟨i + 1, [0, 1], ⟨by omega, by omega, all_step hall (by rename_i h; obtain ⟨e0, e1, e2, e3, e4⟩ := h; generalize rd l i = x at *; generalize rd m i = y at *; cases x; cases y; simp_all)⟩, by dsimp only; omega, rfl, rfl, rfl, rfl, rfl, rfl, rfl, rfl⟩
set_option maxHeartbeats 4000000 in
theorem laws_szTradeS {l : List Trade} {left : Int} (hl : 0 ≤ left ∧ left ≤ 1048576) : FC Try.prog 71 [.c (.row 0 0 l.length), I left] ([ro 134 l]) (I (szN left l.length)) ([ro 134 l]) := by
  refine fent tk 12 [.tmp 4] Try.func71 (by kernel_rfl) rfl rfl rfl rfl rfl rfl rfl ?_
  refine wlen l 0 rfl (fun hlen => ?_)
  repeat' (first
    | (with_reducible apply zd); rfl; exact tk; rfl
    | (with_reducible first | intro _ | apply wseq | apply zreg | apply thenQ_n | apply thenQ_r | apply thenQ_e | apply znil | apply wret | apply bodyQ_r | apply wblk | apply blkQ_n | apply blkQ_r | apply wskip | apply wexit)
    | apply wct rfl
    | apply wcf rfl
    | (with_reducible apply zcmp); rfl; exact tk; rfl; rfl; rfl
    | (with_reducible apply zar); rfl; rfl; rfl; rfl; omega; rfl; rfl)
  all_goals exact endI [0] rfl rfl rfl rfl rfl rfl (by unfold szN; split <;> omega)
set_option maxHeartbeats 4000000 in
theorem laws_eqTrade {a0 a1 a2 a3 a4 a5 a6 a7 b0 b1 b2 b3 b4 b5 b6 b7 : Int} : FC Try.prog 109 [.agg [.sc (.int .i64 a0), .sc (.int .i64 a1), .sc (.int .i64 a2), .sc (.int .i64 a3), .sc (.int .i64 a4), .sc (.int .i64 a5), .sc (.int .i64 a6), .sc (.int .i64 a7)], .agg [.sc (.int .i64 b0), .sc (.int .i64 b1), .sc (.int .i64 b2), .sc (.int .i64 b3), .sc (.int .i64 b4), .sc (.int .i64 b5), .sc (.int .i64 b6), .sc (.int .i64 b7)]] ([]) (B (dB (a0 = b0 ∧ a1 = b1 ∧ a2 = b2 ∧ a3 = b3 ∧ a4 = b4 ∧ a5 = b5 ∧ a6 = b6 ∧ a7 = b7))) ([]) := by
  refine fent tk 45 [.tmp 4] Try.func109 (by kernel_rfl) rfl rfl rfl rfl rfl rfl rfl ?_
  repeat' (first
    | (with_reducible apply zd); rfl; exact tk; rfl
    | (with_reducible first | intro _ | apply wseq | apply zreg | apply thenQ_n | apply thenQ_r | apply thenQ_e | apply znil | apply wret | apply bodyQ_r | apply wblk | apply blkQ_n | apply blkQ_r | apply wskip | apply wexit)
    | apply wct rfl
    | apply wcf rfl
    | (with_reducible apply zne); rfl; exact tk; rfl; rfl; rfl; rfl)
  all_goals first | exact endY [] rfl rfl rfl rfl rfl rfl (by simp_all) | exact endN [] rfl rfl rfl rfl rfl rfl (by simp_all)
set_option maxHeartbeats 4000000 in
theorem laws_eqTradeS {l m : List Trade} : FC Try.prog 86 [.c (.row 0 0 l.length), .c (.row 1 0 m.length)] ([ro 98 l, ro 98 m]) (B (dB (l = m))) ([ro 98 l, ro 98 m]) := by
  refine fent tk 27 [.tmp 4] Try.func86 (by kernel_rfl) rfl rfl rfl rfl rfl rfl rfl ?_
  refine wlen l 0 rfl (fun hl => ?_)
  repeat' (first
    | (with_reducible apply zd); rfl; exact tk; rfl
    | (with_reducible first | intro _ | apply wseq | apply zreg | apply thenQ_n | apply thenQ_r | apply thenQ_e | apply znil | apply wret | apply bodyQ_r | apply wblk | apply blkQ_n | apply blkQ_r | apply wskip | apply wexit)
    | apply wct rfl
    | apply wcf rfl
    | (with_reducible apply blkQ_x rfl)
    | (with_reducible apply blkQ_y rfl)
    | (with_reducible apply zcmp); rfl; exact tk; rfl; rfl; rfl
    | (with_reducible apply zne); rfl; exact tk; rfl; rfl; rfl; rfl
    | (with_reducible apply zar); rfl; rfl; rfl; rfl; omega; rfl; rfl
    | (with_reducible apply zix); rfl; exact tk; rfl; rfl; rfl; rfl; rfl; rfl; rfl; omega; rfl; rfl
    | (with_reducible apply zle); rfl; exact tk; rfl; rfl; rfl; rfl; omega; rfl; rfl; rfl; rfl
    | refine zdraw (id := 6) (by kernel_rfl) [(.p, 0), (.p, 1), (.p, 2), (.p, 4), (.p, 5), (.p, 6), (.t, 3), (.t, 7), (.o, 8), (.p, 9)] [] (by kernel_rfl) rfl ?_
    | (with_reducible apply zcp); rfl; rfl; rfl; rfl; rfl; rfl; rfl; rfl; rfl; rfl; exact laws_eqTrade; rfl; rfl)
  · rename_i hne
    exact endN [0, 1] rfl rfl rfl rfl rfl rfl (fun e => hne (by rw [e]))
  · rename_i hlen
    refine wloop (X := Int) (fun i => 0 ≤ i ∧ i ≤ l.length ∧ ∀ j : Int, 0 ≤ j → j < i → rd l j = rd m j) (fun i => ⟨27, 2, [(0, .c (.row 0 0 l.length)), (1, .c (.row 1 0 m.length)), (5, I i)], [ro 98 l, ro 98 m]⟩) (fun i => (l.length - i).toNat) 0 [0, 1] ⟨by omega, by omega, fun j h0 h1 => by omega⟩ ⟨rfl, rfl, rfl, rfl, rfl, rfl, rfl, rfl⟩ (fun i hi => ?_)
    obtain ⟨h0, hi, hall⟩ := hi
    repeat' (first
      | (with_reducible apply zd); rfl; exact tk; rfl
      | (with_reducible first | intro _ | apply wseq | apply zreg | apply thenQ_n | apply thenQ_r | apply thenQ_e | apply znil | apply wret | apply bodyQ_r | apply wblk | apply blkQ_n | apply blkQ_r | apply wskip | apply wexit)
      | apply wct rfl
      | apply wcf rfl
      | (with_reducible apply blkQ_x rfl)
      | (with_reducible apply blkQ_y rfl)
      | (with_reducible apply zcmp); rfl; exact tk; rfl; rfl; rfl
      | (with_reducible apply zne); rfl; exact tk; rfl; rfl; rfl; rfl
      | (with_reducible apply zar); rfl; rfl; rfl; rfl; omega; rfl; rfl
      | (with_reducible apply zix); rfl; exact tk; rfl; rfl; rfl; rfl; rfl; rfl; rfl; omega; rfl; rfl
      | (with_reducible apply zle); rfl; exact tk; rfl; rfl; rfl; rfl; omega; rfl; rfl; rfl; rfl
      | refine zdraw (id := 6) (by kernel_rfl) [(.p, 0), (.p, 1), (.p, 2), (.p, 4), (.p, 5), (.p, 6), (.t, 3), (.t, 7), (.o, 8), (.p, 9)] [] (by kernel_rfl) rfl ?_
      | (with_reducible apply zcp); rfl; rfl; rfl; rfl; rfl; rfl; rfl; rfl; rfl; rfl; exact laws_eqTrade; rfl; rfl)
    all_goals first
      | exact endY [0, 1] rfl rfl rfl rfl rfl rfl (ext_rd (by omega) (fun j h1 h2 => hall j h1 (by omega)))
      | exact endN [0, 1] rfl rfl rfl rfl rfl rfl (fun e => by subst e; simp_all)
      | exact ⟨i + 1, [0, 1], ⟨by omega, by omega, all_step hall (by rename_i h; obtain ⟨e0, e1, e2, e3, e4, e5, e6, e7⟩ := h; generalize rd l i = x at *; generalize rd m i = y at *; cases x; cases y; simp_all)⟩, by dsimp only; omega, rfl, rfl, rfl, rfl, rfl, rfl, rfl, rfl⟩

/-- What a law writes into a row. -/
def mkAccount (n : Nat) (k : Int) : List Account := (List.range n).map (fun (j : Nat) => ⟨k + 2 * j, k + 2 * j + 1⟩)
theorem mkAccount_len (n : Nat) (k : Int) : (mkAccount n k).length = n := by simp [mkAccount]
theorem rd_mkAccount {n : Nat} {k j : Int} (h : 0 ≤ j ∧ j < n) : rd (mkAccount n k) j = ⟨k + 2 * j, k + 2 * j + 1⟩ := by
  obtain ⟨i, rfl⟩ := Int.eq_ofNat_of_zero_le h.1
  have h1 : i < n := by omega
  simp [rd, mkAccount, List.getD_eq_getElem?_getD, h1]
/-- What a law writes into a row. -/
def mkInstr (n : Nat) (k : Int) : List Instr := (List.range n).map (fun (j : Nat) => ⟨k + 2 * j, k + 2 * j + 1⟩)
theorem mkInstr_len (n : Nat) (k : Int) : (mkInstr n k).length = n := by simp [mkInstr]
theorem rd_mkInstr {n : Nat} {k j : Int} (h : 0 ≤ j ∧ j < n) : rd (mkInstr n k) j = ⟨k + 2 * j, k + 2 * j + 1⟩ := by
  obtain ⟨i, rfl⟩ := Int.eq_ofNat_of_zero_le h.1
  have h1 : i < n := by omega
  simp [rd, mkInstr, List.getD_eq_getElem?_getD, h1]
/-- What a law writes into a row. -/
def mkBal (n : Nat) (k : Int) : List Bal := (List.range n).map (fun (j : Nat) => ⟨k + 3 * j, k + 3 * j + 1, k + 3 * j + 2⟩)
theorem mkBal_len (n : Nat) (k : Int) : (mkBal n k).length = n := by simp [mkBal]
theorem rd_mkBal {n : Nat} {k j : Int} (h : 0 ≤ j ∧ j < n) : rd (mkBal n k) j = ⟨k + 3 * j, k + 3 * j + 1, k + 3 * j + 2⟩ := by
  obtain ⟨i, rfl⟩ := Int.eq_ofNat_of_zero_le h.1
  have h1 : i < n := by omega
  simp [rd, mkBal, List.getD_eq_getElem?_getD, h1]
/-- What a law writes into a row. -/
def mkLot (n : Nat) (k : Int) : List Lot := (List.range n).map (fun (j : Nat) => ⟨k + 5 * j, k + 5 * j + 1, k + 5 * j + 2, k + 5 * j + 3, k + 5 * j + 4⟩)
theorem mkLot_len (n : Nat) (k : Int) : (mkLot n k).length = n := by simp [mkLot]
theorem rd_mkLot {n : Nat} {k j : Int} (h : 0 ≤ j ∧ j < n) : rd (mkLot n k) j = ⟨k + 5 * j, k + 5 * j + 1, k + 5 * j + 2, k + 5 * j + 3, k + 5 * j + 4⟩ := by
  obtain ⟨i, rfl⟩ := Int.eq_ofNat_of_zero_le h.1
  have h1 : i < n := by omega
  simp [rd, mkLot, List.getD_eq_getElem?_getD, h1]
/-- What a law writes into a row. -/
def mkTrade (n : Nat) (k : Int) : List Trade := (List.range n).map (fun (j : Nat) => ⟨k + 8 * j, k + 8 * j + 1, k + 8 * j + 2, k + 8 * j + 3, k + 8 * j + 4, k + 8 * j + 5, k + 8 * j + 6, k + 8 * j + 7⟩)
theorem mkTrade_len (n : Nat) (k : Int) : (mkTrade n k).length = n := by simp [mkTrade]
theorem rd_mkTrade {n : Nat} {k j : Int} (h : 0 ≤ j ∧ j < n) : rd (mkTrade n k) j = ⟨k + 8 * j, k + 8 * j + 1, k + 8 * j + 2, k + 8 * j + 3, k + 8 * j + 4, k + 8 * j + 5, k + 8 * j + 6, k + 8 * j + 7⟩ := by
  obtain ⟨i, rfl⟩ := Int.eq_ofNat_of_zero_le h.1
  have h1 : i < n := by omega
  simp [rd, mkTrade, List.getD_eq_getElem?_getD, h1]
/-- What a law writes into a row. -/
def mkLeg (n : Nat) (k : Int) : List Leg := (List.range n).map (fun (j : Nat) => ⟨k + 3 * j, k + 3 * j + 1, k + 3 * j + 2⟩)
theorem mkLeg_len (n : Nat) (k : Int) : (mkLeg n k).length = n := by simp [mkLeg]
theorem rd_mkLeg {n : Nat} {k j : Int} (h : 0 ≤ j ∧ j < n) : rd (mkLeg n k) j = ⟨k + 3 * j, k + 3 * j + 1, k + 3 * j + 2⟩ := by
  obtain ⟨i, rfl⟩ := Int.eq_ofNat_of_zero_le h.1
  have h1 : i < n := by omega
  simp [rd, mkLeg, List.getD_eq_getElem?_getD, h1]
end Go.Proofs.Ytbbeaghhchjkgaa.Sh
