/- The laws' own functions over rows. No condition. -/
import Derived.Test.YtgehbhkfehmdkaaGreatKSpShN
namespace Go.Proofs.YtgehbhkfehmdkaaGreat.Sh
open Go.RowKit
set_option linter.unusedVariables false
set_option linter.unusedSimpArgs false
theorem rd_upd {α : Type} [Enc α] {l : List α} {i j : Int} {x : α} (h : 0 ≤ i ∧ i < l.length) (hj : 0 ≤ j) : rd (upd l i x) j = if j = i then x else rd l j := by
  unfold rd upd
  rw [List.getD_eq_getElem?_getD, List.getD_eq_getElem?_getD, List.getElem?_set]
  by_cases e : j = i
  · subst e
    rw [if_pos rfl, if_pos (by omega), if_pos rfl]
    rfl
  · rw [if_neg (by omega), if_neg e]
theorem rd_set {α : Type} [Enc α] {l : List α} {i j : Int} {x : α} (h : 0 ≤ i ∧ i < l.length) (hj : 0 ≤ j) : rd (l.set i.toNat x) j = if j = i then x else rd l j := rd_upd h hj
theorem rd_same {α : Type} [Enc α] {l : List α} {i : Int} {x : α} (h : 0 ≤ i ∧ i < l.length) : rd (upd l i x) i = x := by rw [rd_upd h h.1, if_pos rfl]
theorem upd_upd {α : Type} (l : List α) (i : Int) (x y : α) : upd (upd l i x) i y = upd l i y := by simp [upd]
theorem ext_rd {α : Type} [Enc α] {l m : List α} (hl : l.length = m.length) (h : ∀ j : Int, 0 ≤ j → j < l.length → rd l j = rd m j) : l = m := by
  refine List.ext_getElem hl (fun i h1 h2 => ?_)
  have := h i (by omega) (by omega)
  simpa [rd, List.getD_eq_getElem?_getD, h1, h2] using this
set_option maxHeartbeats 4000000 in
theorem laws_toAccount {a0 a1 : Int} : FC Tryz.prog 265 [.agg [.sc (.int .i64 a0), .sc (.int .i64 a1)]] ([]) (.agg [.sc (.int .i64 a0), .sc (.int .i64 a1)]) ([]) := by
  refine fent tk 11 [.cell 2 _] Tryz.func265 (by kernel_rfl) rfl rfl rfl rfl rfl rfl rfl ?_
  repeat' (first
 | (with_reducible apply zds); exact tk; rfl; rfl; rfl; rfl; rfl
 | (with_reducible apply zd); rfl; exact tk; rfl
 | (with_reducible first | intro _ | apply wseq | apply zreg | apply thenQ_n | apply thenQ_r | apply thenQ_e | apply znil | apply wret | apply bodyQ_r | apply wblk | apply blkQ_n | apply blkQ_r | apply wskip | apply wexit)
 | fail)
  all_goals exact endV [] rfl rfl rfl rfl rfl rfl
set_option maxHeartbeats 4000000 in
theorem laws_toAccountS {l : List Account} (hl : l.length ≤ 1048576) : FC Tryz.prog 180 [.c (.row 0 0 l.length)] ([ro 245 l]) (.c (.row 1 0 l.length)) ([ro 245 l, ow 42 l]) := by
  refine fent tk 23 [.tmp 2] Tryz.func180 (by kernel_rfl) rfl rfl rfl rfl rfl rfl rfl ?_
  repeat' (first
 | (with_reducible apply zds); exact tk; rfl; rfl; rfl; rfl; rfl
 | (with_reducible apply zd); rfl; exact tk; rfl
 | (with_reducible first | intro _ | apply wseq | apply zreg | apply thenQ_n | apply thenQ_r | apply thenQ_e | apply znil | apply wret | apply bodyQ_r | apply wblk | apply blkQ_n | apply blkQ_r | apply wskip | apply wexit)
 | (with_reducible apply zmk (α := Account) (e := 42)); rfl; exact tk; (iterate 8 rfl); (refine ⟨?_, ?_, ?_⟩ <;> first | omega | (dsimp only; omega)); rfl; rfl; rfl
 | fail)
  refine wloop (X := Int × List Account) (fun p => 0 ≤ p.1 ∧ p.1 ≤ l.length ∧ p.2.length = l.length ∧ ∀ j : Int, 0 ≤ j → j < p.1 → rd p.2 j = rd l j) (fun p => ⟨23, 1, [(0, .c (.row 0 0 l.length)), (3, .c (.row 1 0 l.length)), (4, I p.1)], [ro 245 l, ow 42 p.2]⟩) (fun p => (l.length - p.1).toNat) (0, List.replicate l.length Enc.z) [0, 1] ⟨by dsimp only; omega, by dsimp only; omega, by simp, fun j h0 h1 => by dsimp only at h1; omega⟩ ⟨rfl, rfl, rfl, rfl, rfl, rfl, rfl, rfl⟩ (fun p hp => ?_)
  obtain ⟨i, xs⟩ := p
  obtain ⟨h0, hi, hlen, hall⟩ := hp
  dsimp only at h0 hi hlen hall ⊢
  repeat' (first
 | (with_reducible apply zds); exact tk; rfl; rfl; rfl; rfl; rfl
 | (with_reducible apply zd); rfl; exact tk; rfl
 | (with_reducible first | intro _ | apply wseq | apply zreg | apply thenQ_n | apply thenQ_r | apply thenQ_e | apply znil | apply wret | apply bodyQ_r | apply wblk | apply blkQ_n | apply blkQ_r | apply wskip | apply wexit)
 | apply wct rfl
 | apply wcf rfl
 | (with_reducible apply blkQ_x rfl)
 | (with_reducible apply zcmp); rfl; exact tk; rfl; rfl; rfl
 | (with_reducible apply zar); rfl; rfl; rfl; rfl; (first | omega | ((try simp only [List.length_append, List.length_cons, List.length_nil, List.length_map]); (try dsimp only); omega)); rfl; rfl
 | (with_reducible apply zix); rfl; exact tk; (iterate 7 rfl); (first | omega | ((try simp only [List.length_append, List.length_cons, List.length_nil, List.length_map]); (try dsimp only); omega)); rfl; rfl
 | (with_reducible apply zle); rfl; exact tk; rfl; rfl; rfl; rfl; (first | omega | ((try simp only [List.length_append, List.length_cons, List.length_nil, List.length_map]); (try dsimp only); omega)); rfl; rfl; rfl; rfl
 | (with_reducible apply zse); rfl; exact tk; (iterate 6 rfl); (first | omega | ((try simp only [List.length_append, List.length_cons, List.length_nil, List.length_map]); (try dsimp only); omega)); rfl; rfl; rfl; rfl; rfl
 | (with_reducible apply zc); (iterate 10 rfl); exact laws_toAccount; exact fun _ => rfl; rfl; rfl; rfl
 | fail)
  all_goals first
    | (obtain rfl : xs = l := ext_rd hlen (fun j h1 h2 => hall j h1 (by omega))
       exact endV [0, 1] rfl rfl rfl rfl rfl rfl)
    | exact ⟨(i + 1, upd xs i (rd l i)), [0, 1], ⟨by dsimp only; omega, by dsimp only; omega, by simp [upd_len, hlen], fun j h1 h2 => by
        dsimp only at h2 ⊢
        rw [rd_upd (by omega) h1]
        split
        · rename_i e; rw [e]
        · exact hall j h1 (by omega)⟩, by dsimp only; omega, rfl, rfl, rfl, rfl, rfl, rfl, rfl, rfl⟩
set_option maxHeartbeats 4000000 in
theorem laws_toInstr {a0 a1 : Int} : FC Tryz.prog 266 [.agg [.sc (.int .i64 a0), .sc (.int .i64 a1)]] ([]) (.agg [.sc (.int .i64 a0), .sc (.int .i64 a1)]) ([]) := by
  refine fent tk 11 [.cell 2 _] Tryz.func266 (by kernel_rfl) rfl rfl rfl rfl rfl rfl rfl ?_
  repeat' (first
 | (with_reducible apply zds); exact tk; rfl; rfl; rfl; rfl; rfl
 | (with_reducible apply zd); rfl; exact tk; rfl
 | (with_reducible first | intro _ | apply wseq | apply zreg | apply thenQ_n | apply thenQ_r | apply thenQ_e | apply znil | apply wret | apply bodyQ_r | apply wblk | apply blkQ_n | apply blkQ_r | apply wskip | apply wexit)
 | fail)
  all_goals exact endV [] rfl rfl rfl rfl rfl rfl
set_option maxHeartbeats 4000000 in
theorem laws_toInstrS {l : List Instr} (hl : l.length ≤ 1048576) : FC Tryz.prog 181 [.c (.row 0 0 l.length)] ([ro 247 l]) (.c (.row 1 0 l.length)) ([ro 247 l, ow 74 l]) := by
  refine fent tk 23 [.tmp 2] Tryz.func181 (by kernel_rfl) rfl rfl rfl rfl rfl rfl rfl ?_
  repeat' (first
 | (with_reducible apply zds); exact tk; rfl; rfl; rfl; rfl; rfl
 | (with_reducible apply zd); rfl; exact tk; rfl
 | (with_reducible first | intro _ | apply wseq | apply zreg | apply thenQ_n | apply thenQ_r | apply thenQ_e | apply znil | apply wret | apply bodyQ_r | apply wblk | apply blkQ_n | apply blkQ_r | apply wskip | apply wexit)
 | (with_reducible apply zmk (α := Instr) (e := 74)); rfl; exact tk; (iterate 8 rfl); (refine ⟨?_, ?_, ?_⟩ <;> first | omega | (dsimp only; omega)); rfl; rfl; rfl
 | fail)
  refine wloop (X := Int × List Instr) (fun p => 0 ≤ p.1 ∧ p.1 ≤ l.length ∧ p.2.length = l.length ∧ ∀ j : Int, 0 ≤ j → j < p.1 → rd p.2 j = rd l j) (fun p => ⟨23, 1, [(0, .c (.row 0 0 l.length)), (3, .c (.row 1 0 l.length)), (4, I p.1)], [ro 247 l, ow 74 p.2]⟩) (fun p => (l.length - p.1).toNat) (0, List.replicate l.length Enc.z) [0, 1] ⟨by dsimp only; omega, by dsimp only; omega, by simp, fun j h0 h1 => by dsimp only at h1; omega⟩ ⟨rfl, rfl, rfl, rfl, rfl, rfl, rfl, rfl⟩ (fun p hp => ?_)
  obtain ⟨i, xs⟩ := p
  obtain ⟨h0, hi, hlen, hall⟩ := hp
  dsimp only at h0 hi hlen hall ⊢
  repeat' (first
 | (with_reducible apply zds); exact tk; rfl; rfl; rfl; rfl; rfl
 | (with_reducible apply zd); rfl; exact tk; rfl
 | (with_reducible first | intro _ | apply wseq | apply zreg | apply thenQ_n | apply thenQ_r | apply thenQ_e | apply znil | apply wret | apply bodyQ_r | apply wblk | apply blkQ_n | apply blkQ_r | apply wskip | apply wexit)
 | apply wct rfl
 | apply wcf rfl
 | (with_reducible apply blkQ_x rfl)
 | (with_reducible apply zcmp); rfl; exact tk; rfl; rfl; rfl
 | (with_reducible apply zar); rfl; rfl; rfl; rfl; (first | omega | ((try simp only [List.length_append, List.length_cons, List.length_nil, List.length_map]); (try dsimp only); omega)); rfl; rfl
 | (with_reducible apply zix); rfl; exact tk; (iterate 7 rfl); (first | omega | ((try simp only [List.length_append, List.length_cons, List.length_nil, List.length_map]); (try dsimp only); omega)); rfl; rfl
 | (with_reducible apply zle); rfl; exact tk; rfl; rfl; rfl; rfl; (first | omega | ((try simp only [List.length_append, List.length_cons, List.length_nil, List.length_map]); (try dsimp only); omega)); rfl; rfl; rfl; rfl
 | (with_reducible apply zse); rfl; exact tk; (iterate 6 rfl); (first | omega | ((try simp only [List.length_append, List.length_cons, List.length_nil, List.length_map]); (try dsimp only); omega)); rfl; rfl; rfl; rfl; rfl
 | (with_reducible apply zc); (iterate 10 rfl); exact laws_toInstr; exact fun _ => rfl; rfl; rfl; rfl
 | fail)
  all_goals first
    | (obtain rfl : xs = l := ext_rd hlen (fun j h1 h2 => hall j h1 (by omega))
       exact endV [0, 1] rfl rfl rfl rfl rfl rfl)
    | exact ⟨(i + 1, upd xs i (rd l i)), [0, 1], ⟨by dsimp only; omega, by dsimp only; omega, by simp [upd_len, hlen], fun j h1 h2 => by
        dsimp only at h2 ⊢
        rw [rd_upd (by omega) h1]
        split
        · rename_i e; rw [e]
        · exact hall j h1 (by omega)⟩, by dsimp only; omega, rfl, rfl, rfl, rfl, rfl, rfl, rfl, rfl⟩
set_option maxHeartbeats 4000000 in
theorem laws_toBal {a0 a1 a2 : Int} : FC Tryz.prog 267 [.agg [.sc (.int .i64 a0), .sc (.int .i64 a1), .sc (.int .i64 a2)]] ([]) (.agg [.sc (.int .i64 a0), .sc (.int .i64 a1), .sc (.int .i64 a2)]) ([]) := by
  refine fent tk 14 [.cell 2 _] Tryz.func267 (by kernel_rfl) rfl rfl rfl rfl rfl rfl rfl ?_
  repeat' (first
 | (with_reducible apply zds); exact tk; rfl; rfl; rfl; rfl; rfl
 | (with_reducible apply zd); rfl; exact tk; rfl
 | (with_reducible first | intro _ | apply wseq | apply zreg | apply thenQ_n | apply thenQ_r | apply thenQ_e | apply znil | apply wret | apply bodyQ_r | apply wblk | apply blkQ_n | apply blkQ_r | apply wskip | apply wexit)
 | fail)
  all_goals exact endV [] rfl rfl rfl rfl rfl rfl
set_option maxHeartbeats 4000000 in
theorem laws_toBalS {l : List Bal} (hl : l.length ≤ 1048576) : FC Tryz.prog 182 [.c (.row 0 0 l.length)] ([ro 249 l]) (.c (.row 1 0 l.length)) ([ro 249 l, ow 135 l]) := by
  refine fent tk 23 [.tmp 2] Tryz.func182 (by kernel_rfl) rfl rfl rfl rfl rfl rfl rfl ?_
  repeat' (first
 | (with_reducible apply zds); exact tk; rfl; rfl; rfl; rfl; rfl
 | (with_reducible apply zd); rfl; exact tk; rfl
 | (with_reducible first | intro _ | apply wseq | apply zreg | apply thenQ_n | apply thenQ_r | apply thenQ_e | apply znil | apply wret | apply bodyQ_r | apply wblk | apply blkQ_n | apply blkQ_r | apply wskip | apply wexit)
 | (with_reducible apply zmk (α := Bal) (e := 135)); rfl; exact tk; (iterate 8 rfl); (refine ⟨?_, ?_, ?_⟩ <;> first | omega | (dsimp only; omega)); rfl; rfl; rfl
 | fail)
  refine wloop (X := Int × List Bal) (fun p => 0 ≤ p.1 ∧ p.1 ≤ l.length ∧ p.2.length = l.length ∧ ∀ j : Int, 0 ≤ j → j < p.1 → rd p.2 j = rd l j) (fun p => ⟨23, 1, [(0, .c (.row 0 0 l.length)), (3, .c (.row 1 0 l.length)), (4, I p.1)], [ro 249 l, ow 135 p.2]⟩) (fun p => (l.length - p.1).toNat) (0, List.replicate l.length Enc.z) [0, 1] ⟨by dsimp only; omega, by dsimp only; omega, by simp, fun j h0 h1 => by dsimp only at h1; omega⟩ ⟨rfl, rfl, rfl, rfl, rfl, rfl, rfl, rfl⟩ (fun p hp => ?_)
  obtain ⟨i, xs⟩ := p
  obtain ⟨h0, hi, hlen, hall⟩ := hp
  dsimp only at h0 hi hlen hall ⊢
  repeat' (first
 | (with_reducible apply zds); exact tk; rfl; rfl; rfl; rfl; rfl
 | (with_reducible apply zd); rfl; exact tk; rfl
 | (with_reducible first | intro _ | apply wseq | apply zreg | apply thenQ_n | apply thenQ_r | apply thenQ_e | apply znil | apply wret | apply bodyQ_r | apply wblk | apply blkQ_n | apply blkQ_r | apply wskip | apply wexit)
 | apply wct rfl
 | apply wcf rfl
 | (with_reducible apply blkQ_x rfl)
 | (with_reducible apply zcmp); rfl; exact tk; rfl; rfl; rfl
 | (with_reducible apply zar); rfl; rfl; rfl; rfl; (first | omega | ((try simp only [List.length_append, List.length_cons, List.length_nil, List.length_map]); (try dsimp only); omega)); rfl; rfl
 | (with_reducible apply zix); rfl; exact tk; (iterate 7 rfl); (first | omega | ((try simp only [List.length_append, List.length_cons, List.length_nil, List.length_map]); (try dsimp only); omega)); rfl; rfl
 | (with_reducible apply zle); rfl; exact tk; rfl; rfl; rfl; rfl; (first | omega | ((try simp only [List.length_append, List.length_cons, List.length_nil, List.length_map]); (try dsimp only); omega)); rfl; rfl; rfl; rfl
 | (with_reducible apply zse); rfl; exact tk; (iterate 6 rfl); (first | omega | ((try simp only [List.length_append, List.length_cons, List.length_nil, List.length_map]); (try dsimp only); omega)); rfl; rfl; rfl; rfl; rfl
 | (with_reducible apply zc); (iterate 10 rfl); exact laws_toBal; exact fun _ => rfl; rfl; rfl; rfl
 | fail)
  all_goals first
    | (obtain rfl : xs = l := ext_rd hlen (fun j h1 h2 => hall j h1 (by omega))
       exact endV [0, 1] rfl rfl rfl rfl rfl rfl)
    | exact ⟨(i + 1, upd xs i (rd l i)), [0, 1], ⟨by dsimp only; omega, by dsimp only; omega, by simp [upd_len, hlen], fun j h1 h2 => by
        dsimp only at h2 ⊢
        rw [rd_upd (by omega) h1]
        split
        · rename_i e; rw [e]
        · exact hall j h1 (by omega)⟩, by dsimp only; omega, rfl, rfl, rfl, rfl, rfl, rfl, rfl, rfl⟩
set_option maxHeartbeats 4000000 in
theorem laws_toLot {a0 a1 a2 a3 a4 : Int} : FC Tryz.prog 268 [.agg [.sc (.int .i64 a0), .sc (.int .i64 a1), .sc (.int .i64 a2), .sc (.int .i64 a3), .sc (.int .i64 a4)]] ([]) (.agg [.sc (.int .i64 a0), .sc (.int .i64 a1), .sc (.int .i64 a2), .sc (.int .i64 a3), .sc (.int .i64 a4)]) ([]) := by
  refine fent tk 20 [.cell 2 _] Tryz.func268 (by kernel_rfl) rfl rfl rfl rfl rfl rfl rfl ?_
  repeat' (first
 | (with_reducible apply zds); exact tk; rfl; rfl; rfl; rfl; rfl
 | (with_reducible apply zd); rfl; exact tk; rfl
 | (with_reducible first | intro _ | apply wseq | apply zreg | apply thenQ_n | apply thenQ_r | apply thenQ_e | apply znil | apply wret | apply bodyQ_r | apply wblk | apply blkQ_n | apply blkQ_r | apply wskip | apply wexit)
 | fail)
  all_goals exact endV [] rfl rfl rfl rfl rfl rfl
set_option maxHeartbeats 4000000 in
theorem laws_toLotS {l : List Lot} (hl : l.length ≤ 1048576) : FC Tryz.prog 183 [.c (.row 0 0 l.length)] ([ro 251 l]) (.c (.row 1 0 l.length)) ([ro 251 l, ow 137 l]) := by
  refine fent tk 23 [.tmp 2] Tryz.func183 (by kernel_rfl) rfl rfl rfl rfl rfl rfl rfl ?_
  repeat' (first
 | (with_reducible apply zds); exact tk; rfl; rfl; rfl; rfl; rfl
 | (with_reducible apply zd); rfl; exact tk; rfl
 | (with_reducible first | intro _ | apply wseq | apply zreg | apply thenQ_n | apply thenQ_r | apply thenQ_e | apply znil | apply wret | apply bodyQ_r | apply wblk | apply blkQ_n | apply blkQ_r | apply wskip | apply wexit)
 | (with_reducible apply zmk (α := Lot) (e := 137)); rfl; exact tk; (iterate 8 rfl); (refine ⟨?_, ?_, ?_⟩ <;> first | omega | (dsimp only; omega)); rfl; rfl; rfl
 | fail)
  refine wloop (X := Int × List Lot) (fun p => 0 ≤ p.1 ∧ p.1 ≤ l.length ∧ p.2.length = l.length ∧ ∀ j : Int, 0 ≤ j → j < p.1 → rd p.2 j = rd l j) (fun p => ⟨23, 1, [(0, .c (.row 0 0 l.length)), (3, .c (.row 1 0 l.length)), (4, I p.1)], [ro 251 l, ow 137 p.2]⟩) (fun p => (l.length - p.1).toNat) (0, List.replicate l.length Enc.z) [0, 1] ⟨by dsimp only; omega, by dsimp only; omega, by simp, fun j h0 h1 => by dsimp only at h1; omega⟩ ⟨rfl, rfl, rfl, rfl, rfl, rfl, rfl, rfl⟩ (fun p hp => ?_)
  obtain ⟨i, xs⟩ := p
  obtain ⟨h0, hi, hlen, hall⟩ := hp
  dsimp only at h0 hi hlen hall ⊢
  repeat' (first
 | (with_reducible apply zds); exact tk; rfl; rfl; rfl; rfl; rfl
 | (with_reducible apply zd); rfl; exact tk; rfl
 | (with_reducible first | intro _ | apply wseq | apply zreg | apply thenQ_n | apply thenQ_r | apply thenQ_e | apply znil | apply wret | apply bodyQ_r | apply wblk | apply blkQ_n | apply blkQ_r | apply wskip | apply wexit)
 | apply wct rfl
 | apply wcf rfl
 | (with_reducible apply blkQ_x rfl)
 | (with_reducible apply zcmp); rfl; exact tk; rfl; rfl; rfl
 | (with_reducible apply zar); rfl; rfl; rfl; rfl; (first | omega | ((try simp only [List.length_append, List.length_cons, List.length_nil, List.length_map]); (try dsimp only); omega)); rfl; rfl
 | (with_reducible apply zix); rfl; exact tk; (iterate 7 rfl); (first | omega | ((try simp only [List.length_append, List.length_cons, List.length_nil, List.length_map]); (try dsimp only); omega)); rfl; rfl
 | (with_reducible apply zle); rfl; exact tk; rfl; rfl; rfl; rfl; (first | omega | ((try simp only [List.length_append, List.length_cons, List.length_nil, List.length_map]); (try dsimp only); omega)); rfl; rfl; rfl; rfl
 | (with_reducible apply zse); rfl; exact tk; (iterate 6 rfl); (first | omega | ((try simp only [List.length_append, List.length_cons, List.length_nil, List.length_map]); (try dsimp only); omega)); rfl; rfl; rfl; rfl; rfl
 | (with_reducible apply zc); (iterate 10 rfl); exact laws_toLot; exact fun _ => rfl; rfl; rfl; rfl
 | fail)
  all_goals first
    | (obtain rfl : xs = l := ext_rd hlen (fun j h1 h2 => hall j h1 (by omega))
       exact endV [0, 1] rfl rfl rfl rfl rfl rfl)
    | exact ⟨(i + 1, upd xs i (rd l i)), [0, 1], ⟨by dsimp only; omega, by dsimp only; omega, by simp [upd_len, hlen], fun j h1 h2 => by
        dsimp only at h2 ⊢
        rw [rd_upd (by omega) h1]
        split
        · rename_i e; rw [e]
        · exact hall j h1 (by omega)⟩, by dsimp only; omega, rfl, rfl, rfl, rfl, rfl, rfl, rfl, rfl⟩
set_option maxHeartbeats 4000000 in
theorem laws_toTrade {a0 a1 a2 a3 a4 a5 a6 a7 : Int} : FC Tryz.prog 269 [.agg [.sc (.int .i64 a0), .sc (.int .i64 a1), .sc (.int .i64 a2), .sc (.int .i64 a3), .sc (.int .i64 a4), .sc (.int .i64 a5), .sc (.int .i64 a6), .sc (.int .i64 a7)]] ([]) (.agg [.sc (.int .i64 a0), .sc (.int .i64 a1), .sc (.int .i64 a2), .sc (.int .i64 a3), .sc (.int .i64 a4), .sc (.int .i64 a5), .sc (.int .i64 a6), .sc (.int .i64 a7)]) ([]) := by
  refine fent tk 29 [.cell 2 _] Tryz.func269 (by kernel_rfl) rfl rfl rfl rfl rfl rfl rfl ?_
  repeat' (first
 | (with_reducible apply zds); exact tk; rfl; rfl; rfl; rfl; rfl
 | (with_reducible apply zd); rfl; exact tk; rfl
 | (with_reducible first | intro _ | apply wseq | apply zreg | apply thenQ_n | apply thenQ_r | apply thenQ_e | apply znil | apply wret | apply bodyQ_r | apply wblk | apply blkQ_n | apply blkQ_r | apply wskip | apply wexit)
 | fail)
  all_goals exact endV [] rfl rfl rfl rfl rfl rfl
set_option maxHeartbeats 4000000 in
theorem laws_toTradeS {l : List Trade} (hl : l.length ≤ 1048576) : FC Tryz.prog 184 [.c (.row 0 0 l.length)] ([ro 253 l]) (.c (.row 1 0 l.length)) ([ro 253 l, ow 103 l]) := by
  refine fent tk 23 [.tmp 2] Tryz.func184 (by kernel_rfl) rfl rfl rfl rfl rfl rfl rfl ?_
  repeat' (first
 | (with_reducible apply zds); exact tk; rfl; rfl; rfl; rfl; rfl
 | (with_reducible apply zd); rfl; exact tk; rfl
 | (with_reducible first | intro _ | apply wseq | apply zreg | apply thenQ_n | apply thenQ_r | apply thenQ_e | apply znil | apply wret | apply bodyQ_r | apply wblk | apply blkQ_n | apply blkQ_r | apply wskip | apply wexit)
 | (with_reducible apply zmk (α := Trade) (e := 103)); rfl; exact tk; (iterate 8 rfl); (refine ⟨?_, ?_, ?_⟩ <;> first | omega | (dsimp only; omega)); rfl; rfl; rfl
 | fail)
  refine wloop (X := Int × List Trade) (fun p => 0 ≤ p.1 ∧ p.1 ≤ l.length ∧ p.2.length = l.length ∧ ∀ j : Int, 0 ≤ j → j < p.1 → rd p.2 j = rd l j) (fun p => ⟨23, 1, [(0, .c (.row 0 0 l.length)), (3, .c (.row 1 0 l.length)), (4, I p.1)], [ro 253 l, ow 103 p.2]⟩) (fun p => (l.length - p.1).toNat) (0, List.replicate l.length Enc.z) [0, 1] ⟨by dsimp only; omega, by dsimp only; omega, by simp, fun j h0 h1 => by dsimp only at h1; omega⟩ ⟨rfl, rfl, rfl, rfl, rfl, rfl, rfl, rfl⟩ (fun p hp => ?_)
  obtain ⟨i, xs⟩ := p
  obtain ⟨h0, hi, hlen, hall⟩ := hp
  dsimp only at h0 hi hlen hall ⊢
  repeat' (first
 | (with_reducible apply zds); exact tk; rfl; rfl; rfl; rfl; rfl
 | (with_reducible apply zd); rfl; exact tk; rfl
 | (with_reducible first | intro _ | apply wseq | apply zreg | apply thenQ_n | apply thenQ_r | apply thenQ_e | apply znil | apply wret | apply bodyQ_r | apply wblk | apply blkQ_n | apply blkQ_r | apply wskip | apply wexit)
 | apply wct rfl
 | apply wcf rfl
 | (with_reducible apply blkQ_x rfl)
 | (with_reducible apply zcmp); rfl; exact tk; rfl; rfl; rfl
 | (with_reducible apply zar); rfl; rfl; rfl; rfl; (first | omega | ((try simp only [List.length_append, List.length_cons, List.length_nil, List.length_map]); (try dsimp only); omega)); rfl; rfl
 | (with_reducible apply zix); rfl; exact tk; (iterate 7 rfl); (first | omega | ((try simp only [List.length_append, List.length_cons, List.length_nil, List.length_map]); (try dsimp only); omega)); rfl; rfl
 | (with_reducible apply zle); rfl; exact tk; rfl; rfl; rfl; rfl; (first | omega | ((try simp only [List.length_append, List.length_cons, List.length_nil, List.length_map]); (try dsimp only); omega)); rfl; rfl; rfl; rfl
 | (with_reducible apply zse); rfl; exact tk; (iterate 6 rfl); (first | omega | ((try simp only [List.length_append, List.length_cons, List.length_nil, List.length_map]); (try dsimp only); omega)); rfl; rfl; rfl; rfl; rfl
 | (with_reducible apply zc); (iterate 10 rfl); exact laws_toTrade; exact fun _ => rfl; rfl; rfl; rfl
 | fail)
  all_goals first
    | (obtain rfl : xs = l := ext_rd hlen (fun j h1 h2 => hall j h1 (by omega))
       exact endV [0, 1] rfl rfl rfl rfl rfl rfl)
    | exact ⟨(i + 1, upd xs i (rd l i)), [0, 1], ⟨by dsimp only; omega, by dsimp only; omega, by simp [upd_len, hlen], fun j h1 h2 => by
        dsimp only at h2 ⊢
        rw [rd_upd (by omega) h1]
        split
        · rename_i e; rw [e]
        · exact hall j h1 (by omega)⟩, by dsimp only; omega, rfl, rfl, rfl, rfl, rfl, rfl, rfl, rfl⟩
def szN (left : Int) (n : Nat) : Int := if left - n < 0 then -1 else left - n
theorem szr {x : Int} {n : Nat} (h : 0 ≤ x ∧ x ≤ 1048576) (hn : ¬ szN x n < 0) : 0 ≤ szN x n ∧ szN x n ≤ 1048576 := by
  unfold szN at *
  split at hn
  · omega
  · rename_i h1
    rw [if_neg h1]
    omega
set_option maxHeartbeats 4000000 in
theorem laws_szAccountS {l : List Account} {left : Int} (hl : 0 ≤ left ∧ left ≤ 1048576) : FC Tryz.prog 175 [.c (.row 0 0 l.length), I left] ([ro 245 l]) (I (szN left l.length)) ([ro 245 l]) := by
  refine fent tk 12 [.tmp 4] Tryz.func175 (by kernel_rfl) rfl rfl rfl rfl rfl rfl rfl ?_
  refine wlen l 0 rfl (fun hlen => ?_)
  repeat' (first
 | (with_reducible apply zds); exact tk; rfl; rfl; rfl; rfl; rfl
 | (with_reducible apply zd); rfl; exact tk; rfl
 | (with_reducible first | intro _ | apply wseq | apply zreg | apply thenQ_n | apply thenQ_r | apply thenQ_e | apply znil | apply wret | apply bodyQ_r | apply wblk | apply blkQ_n | apply blkQ_r | apply wskip | apply wexit)
 | apply wct rfl
 | apply wcf rfl
 | (with_reducible apply zcmp); rfl; exact tk; rfl; rfl; rfl
 | (with_reducible apply zar); rfl; rfl; rfl; rfl; (first | omega | ((try simp only [List.length_append, List.length_cons, List.length_nil, List.length_map]); (try dsimp only); omega)); rfl; rfl
 | fail)
  all_goals exact endI [0] rfl rfl rfl rfl rfl rfl (by unfold szN; split <;> omega)
set_option maxHeartbeats 4000000 in
theorem laws_eqAccount {a0 a1 b0 b1 : Int} : FC Tryz.prog 270 [.agg [.sc (.int .i64 a0), .sc (.int .i64 a1)], .agg [.sc (.int .i64 b0), .sc (.int .i64 b1)]] ([]) (B (dB (a0 = b0 ∧ a1 = b1))) ([]) := by
  refine fent tk 15 [.tmp 4] Tryz.func270 (by kernel_rfl) rfl rfl rfl rfl rfl rfl rfl ?_
  repeat' (first
 | (with_reducible apply zds); exact tk; rfl; rfl; rfl; rfl; rfl
 | (with_reducible apply zd); rfl; exact tk; rfl
 | (with_reducible first | intro _ | apply wseq | apply zreg | apply thenQ_n | apply thenQ_r | apply thenQ_e | apply znil | apply wret | apply bodyQ_r | apply wblk | apply blkQ_n | apply blkQ_r | apply wskip | apply wexit)
 | apply wct rfl
 | apply wcf rfl
 | (with_reducible apply zne); rfl; exact tk; rfl; rfl; rfl; rfl
 | fail)
  all_goals first | exact endY [] rfl rfl rfl rfl rfl rfl (by simp_all) | exact endN [] rfl rfl rfl rfl rfl rfl (by simp_all)
set_option maxHeartbeats 4000000 in
theorem laws_eqAccountS {l m : List Account} : FC Tryz.prog 185 [.c (.row 0 0 l.length), .c (.row 1 0 m.length)] ([ro 42 l, ro 42 m]) (B (dB (l = m))) ([ro 42 l, ro 42 m]) := by
  refine fent tk 27 [.tmp 4] Tryz.func185 (by kernel_rfl) rfl rfl rfl rfl rfl rfl rfl ?_
  refine wlen l 0 rfl (fun hl => ?_)
  repeat' (first
 | (with_reducible apply zds); exact tk; rfl; rfl; rfl; rfl; rfl
 | (with_reducible apply zd); rfl; exact tk; rfl
 | (with_reducible first | intro _ | apply wseq | apply zreg | apply thenQ_n | apply thenQ_r | apply thenQ_e | apply znil | apply wret | apply bodyQ_r | apply wblk | apply blkQ_n | apply blkQ_r | apply wskip | apply wexit)
 | apply wct rfl
 | apply wcf rfl
 | (with_reducible apply zne); rfl; exact tk; rfl; rfl; rfl; rfl
 | fail)
  · rename_i hne
    exact endN [0, 1] rfl rfl rfl rfl rfl rfl (fun e => hne (by rw [e]))
  · rename_i hlen
    refine wloop (X := Int) (fun i => 0 ≤ i ∧ i ≤ l.length ∧ ∀ j : Int, 0 ≤ j → j < i → rd l j = rd m j) (fun i => ⟨27, 2, [(0, .c (.row 0 0 l.length)), (1, .c (.row 1 0 m.length)), (5, I i)], [ro 42 l, ro 42 m]⟩) (fun i => (l.length - i).toNat) 0 [0, 1] ⟨by omega, by omega, fun j h0 h1 => by omega⟩ ⟨rfl, rfl, rfl, rfl, rfl, rfl, rfl, rfl⟩ (fun i hi => ?_)
    obtain ⟨h0, hi, hall⟩ := hi
    repeat' (first
 | (with_reducible apply zds); exact tk; rfl; rfl; rfl; rfl; rfl
 | (with_reducible apply zd); rfl; exact tk; rfl
 | (with_reducible first | intro _ | apply wseq | apply zreg | apply thenQ_n | apply thenQ_r | apply thenQ_e | apply znil | apply wret | apply bodyQ_r | apply wblk | apply blkQ_n | apply blkQ_r | apply wskip | apply wexit)
 | apply wct rfl
 | apply wcf rfl
 | (with_reducible apply blkQ_x rfl)
 | (with_reducible apply zcmp); rfl; exact tk; rfl; rfl; rfl
 | (with_reducible apply zar); rfl; rfl; rfl; rfl; (first | omega | ((try simp only [List.length_append, List.length_cons, List.length_nil, List.length_map]); (try dsimp only); omega)); rfl; rfl
 | (with_reducible apply zix); rfl; exact tk; (iterate 7 rfl); (first | omega | ((try simp only [List.length_append, List.length_cons, List.length_nil, List.length_map]); (try dsimp only); omega)); rfl; rfl
 | (with_reducible apply zle); rfl; exact tk; rfl; rfl; rfl; rfl; (first | omega | ((try simp only [List.length_append, List.length_cons, List.length_nil, List.length_map]); (try dsimp only); omega)); rfl; rfl; rfl; rfl
 | refine zdq (id := 6) rfl (by kernel_rfl) [(.p, 0), (.p, 1), (.p, 2), (.p, 4), (.p, 5), (.p, 6), (.t, 3), (.t, 7), (.o, 8), (.p, 9)] [] (by kernel_rfl) rfl ?_
 | (with_reducible apply zcp); (iterate 10 rfl); exact laws_eqAccount; rfl; rfl
 | fail)
    all_goals first
      | exact endY [0, 1] rfl rfl rfl rfl rfl rfl (ext_rd (by omega) (fun j h1 h2 => hall j h1 (by omega)))
      | exact endN [0, 1] rfl rfl rfl rfl rfl rfl (fun e => by subst e; simp_all)
      | exact ⟨i + 1, [0, 1], ⟨by omega, by omega, all_step hall (by rename_i h; obtain ⟨e0, e1⟩ := h; generalize rd l i = x at *; generalize rd m i = y at *; cases x; cases y; simp_all)⟩, by dsimp only; omega, rfl, rfl, rfl, rfl, rfl, rfl, rfl, rfl⟩
set_option maxHeartbeats 4000000 in
theorem laws_szInstrS {l : List Instr} {left : Int} (hl : 0 ≤ left ∧ left ≤ 1048576) : FC Tryz.prog 176 [.c (.row 0 0 l.length), I left] ([ro 247 l]) (I (szN left l.length)) ([ro 247 l]) := by
  refine fent tk 12 [.tmp 4] Tryz.func176 (by kernel_rfl) rfl rfl rfl rfl rfl rfl rfl ?_
  refine wlen l 0 rfl (fun hlen => ?_)
  repeat' (first
 | (with_reducible apply zds); exact tk; rfl; rfl; rfl; rfl; rfl
 | (with_reducible apply zd); rfl; exact tk; rfl
 | (with_reducible first | intro _ | apply wseq | apply zreg | apply thenQ_n | apply thenQ_r | apply thenQ_e | apply znil | apply wret | apply bodyQ_r | apply wblk | apply blkQ_n | apply blkQ_r | apply wskip | apply wexit)
 | apply wct rfl
 | apply wcf rfl
 | (with_reducible apply zcmp); rfl; exact tk; rfl; rfl; rfl
 | (with_reducible apply zar); rfl; rfl; rfl; rfl; (first | omega | ((try simp only [List.length_append, List.length_cons, List.length_nil, List.length_map]); (try dsimp only); omega)); rfl; rfl
 | fail)
  all_goals exact endI [0] rfl rfl rfl rfl rfl rfl (by unfold szN; split <;> omega)
set_option maxHeartbeats 4000000 in
theorem laws_eqInstr {a0 a1 b0 b1 : Int} : FC Tryz.prog 271 [.agg [.sc (.int .i64 a0), .sc (.int .i64 a1)], .agg [.sc (.int .i64 b0), .sc (.int .i64 b1)]] ([]) (B (dB (a0 = b0 ∧ a1 = b1))) ([]) := by
  refine fent tk 15 [.tmp 4] Tryz.func271 (by kernel_rfl) rfl rfl rfl rfl rfl rfl rfl ?_
  repeat' (first
 | (with_reducible apply zds); exact tk; rfl; rfl; rfl; rfl; rfl
 | (with_reducible apply zd); rfl; exact tk; rfl
 | (with_reducible first | intro _ | apply wseq | apply zreg | apply thenQ_n | apply thenQ_r | apply thenQ_e | apply znil | apply wret | apply bodyQ_r | apply wblk | apply blkQ_n | apply blkQ_r | apply wskip | apply wexit)
 | apply wct rfl
 | apply wcf rfl
 | (with_reducible apply zne); rfl; exact tk; rfl; rfl; rfl; rfl
 | fail)
  all_goals first | exact endY [] rfl rfl rfl rfl rfl rfl (by simp_all) | exact endN [] rfl rfl rfl rfl rfl rfl (by simp_all)
set_option maxHeartbeats 4000000 in
theorem laws_eqInstrS {l m : List Instr} : FC Tryz.prog 186 [.c (.row 0 0 l.length), .c (.row 1 0 m.length)] ([ro 74 l, ro 74 m]) (B (dB (l = m))) ([ro 74 l, ro 74 m]) := by
  refine fent tk 27 [.tmp 4] Tryz.func186 (by kernel_rfl) rfl rfl rfl rfl rfl rfl rfl ?_
  refine wlen l 0 rfl (fun hl => ?_)
  repeat' (first
 | (with_reducible apply zds); exact tk; rfl; rfl; rfl; rfl; rfl
 | (with_reducible apply zd); rfl; exact tk; rfl
 | (with_reducible first | intro _ | apply wseq | apply zreg | apply thenQ_n | apply thenQ_r | apply thenQ_e | apply znil | apply wret | apply bodyQ_r | apply wblk | apply blkQ_n | apply blkQ_r | apply wskip | apply wexit)
 | apply wct rfl
 | apply wcf rfl
 | (with_reducible apply zne); rfl; exact tk; rfl; rfl; rfl; rfl
 | fail)
  · rename_i hne
    exact endN [0, 1] rfl rfl rfl rfl rfl rfl (fun e => hne (by rw [e]))
  · rename_i hlen
    refine wloop (X := Int) (fun i => 0 ≤ i ∧ i ≤ l.length ∧ ∀ j : Int, 0 ≤ j → j < i → rd l j = rd m j) (fun i => ⟨27, 2, [(0, .c (.row 0 0 l.length)), (1, .c (.row 1 0 m.length)), (5, I i)], [ro 74 l, ro 74 m]⟩) (fun i => (l.length - i).toNat) 0 [0, 1] ⟨by omega, by omega, fun j h0 h1 => by omega⟩ ⟨rfl, rfl, rfl, rfl, rfl, rfl, rfl, rfl⟩ (fun i hi => ?_)
    obtain ⟨h0, hi, hall⟩ := hi
    repeat' (first
 | (with_reducible apply zds); exact tk; rfl; rfl; rfl; rfl; rfl
 | (with_reducible apply zd); rfl; exact tk; rfl
 | (with_reducible first | intro _ | apply wseq | apply zreg | apply thenQ_n | apply thenQ_r | apply thenQ_e | apply znil | apply wret | apply bodyQ_r | apply wblk | apply blkQ_n | apply blkQ_r | apply wskip | apply wexit)
 | apply wct rfl
 | apply wcf rfl
 | (with_reducible apply blkQ_x rfl)
 | (with_reducible apply zcmp); rfl; exact tk; rfl; rfl; rfl
 | (with_reducible apply zar); rfl; rfl; rfl; rfl; (first | omega | ((try simp only [List.length_append, List.length_cons, List.length_nil, List.length_map]); (try dsimp only); omega)); rfl; rfl
 | (with_reducible apply zix); rfl; exact tk; (iterate 7 rfl); (first | omega | ((try simp only [List.length_append, List.length_cons, List.length_nil, List.length_map]); (try dsimp only); omega)); rfl; rfl
 | (with_reducible apply zle); rfl; exact tk; rfl; rfl; rfl; rfl; (first | omega | ((try simp only [List.length_append, List.length_cons, List.length_nil, List.length_map]); (try dsimp only); omega)); rfl; rfl; rfl; rfl
 | refine zdq (id := 6) rfl (by kernel_rfl) [(.p, 0), (.p, 1), (.p, 2), (.p, 4), (.p, 5), (.p, 6), (.t, 3), (.t, 7), (.o, 8), (.p, 9)] [] (by kernel_rfl) rfl ?_
 | (with_reducible apply zcp); (iterate 10 rfl); exact laws_eqInstr; rfl; rfl
 | fail)
    all_goals first
      | exact endY [0, 1] rfl rfl rfl rfl rfl rfl (ext_rd (by omega) (fun j h1 h2 => hall j h1 (by omega)))
      | exact endN [0, 1] rfl rfl rfl rfl rfl rfl (fun e => by subst e; simp_all)
      | exact ⟨i + 1, [0, 1], ⟨by omega, by omega, all_step hall (by rename_i h; obtain ⟨e0, e1⟩ := h; generalize rd l i = x at *; generalize rd m i = y at *; cases x; cases y; simp_all)⟩, by dsimp only; omega, rfl, rfl, rfl, rfl, rfl, rfl, rfl, rfl⟩
set_option maxHeartbeats 4000000 in
theorem laws_szBalS {l : List Bal} {left : Int} (hl : 0 ≤ left ∧ left ≤ 1048576) : FC Tryz.prog 177 [.c (.row 0 0 l.length), I left] ([ro 249 l]) (I (szN left l.length)) ([ro 249 l]) := by
  refine fent tk 12 [.tmp 4] Tryz.func177 (by kernel_rfl) rfl rfl rfl rfl rfl rfl rfl ?_
  refine wlen l 0 rfl (fun hlen => ?_)
  repeat' (first
 | (with_reducible apply zds); exact tk; rfl; rfl; rfl; rfl; rfl
 | (with_reducible apply zd); rfl; exact tk; rfl
 | (with_reducible first | intro _ | apply wseq | apply zreg | apply thenQ_n | apply thenQ_r | apply thenQ_e | apply znil | apply wret | apply bodyQ_r | apply wblk | apply blkQ_n | apply blkQ_r | apply wskip | apply wexit)
 | apply wct rfl
 | apply wcf rfl
 | (with_reducible apply zcmp); rfl; exact tk; rfl; rfl; rfl
 | (with_reducible apply zar); rfl; rfl; rfl; rfl; (first | omega | ((try simp only [List.length_append, List.length_cons, List.length_nil, List.length_map]); (try dsimp only); omega)); rfl; rfl
 | fail)
  all_goals exact endI [0] rfl rfl rfl rfl rfl rfl (by unfold szN; split <;> omega)
set_option maxHeartbeats 4000000 in
theorem laws_eqBal {a0 a1 a2 b0 b1 b2 : Int} : FC Tryz.prog 272 [.agg [.sc (.int .i64 a0), .sc (.int .i64 a1), .sc (.int .i64 a2)], .agg [.sc (.int .i64 b0), .sc (.int .i64 b1), .sc (.int .i64 b2)]] ([]) (B (dB (a0 = b0 ∧ a1 = b1 ∧ a2 = b2))) ([]) := by
  refine fent tk 20 [.tmp 4] Tryz.func272 (by kernel_rfl) rfl rfl rfl rfl rfl rfl rfl ?_
  repeat' (first
 | (with_reducible apply zds); exact tk; rfl; rfl; rfl; rfl; rfl
 | (with_reducible apply zd); rfl; exact tk; rfl
 | (with_reducible first | intro _ | apply wseq | apply zreg | apply thenQ_n | apply thenQ_r | apply thenQ_e | apply znil | apply wret | apply bodyQ_r | apply wblk | apply blkQ_n | apply blkQ_r | apply wskip | apply wexit)
 | apply wct rfl
 | apply wcf rfl
 | (with_reducible apply zne); rfl; exact tk; rfl; rfl; rfl; rfl
 | fail)
  all_goals first | exact endY [] rfl rfl rfl rfl rfl rfl (by simp_all) | exact endN [] rfl rfl rfl rfl rfl rfl (by simp_all)
set_option maxHeartbeats 4000000 in
theorem laws_eqBalS {l m : List Bal} : FC Tryz.prog 187 [.c (.row 0 0 l.length), .c (.row 1 0 m.length)] ([ro 135 l, ro 135 m]) (B (dB (l = m))) ([ro 135 l, ro 135 m]) := by
  refine fent tk 27 [.tmp 4] Tryz.func187 (by kernel_rfl) rfl rfl rfl rfl rfl rfl rfl ?_
  refine wlen l 0 rfl (fun hl => ?_)
  repeat' (first
 | (with_reducible apply zds); exact tk; rfl; rfl; rfl; rfl; rfl
 | (with_reducible apply zd); rfl; exact tk; rfl
 | (with_reducible first | intro _ | apply wseq | apply zreg | apply thenQ_n | apply thenQ_r | apply thenQ_e | apply znil | apply wret | apply bodyQ_r | apply wblk | apply blkQ_n | apply blkQ_r | apply wskip | apply wexit)
 | apply wct rfl
 | apply wcf rfl
 | (with_reducible apply zne); rfl; exact tk; rfl; rfl; rfl; rfl
 | fail)
  · rename_i hne
    exact endN [0, 1] rfl rfl rfl rfl rfl rfl (fun e => hne (by rw [e]))
  · rename_i hlen
    refine wloop (X := Int) (fun i => 0 ≤ i ∧ i ≤ l.length ∧ ∀ j : Int, 0 ≤ j → j < i → rd l j = rd m j) (fun i => ⟨27, 2, [(0, .c (.row 0 0 l.length)), (1, .c (.row 1 0 m.length)), (5, I i)], [ro 135 l, ro 135 m]⟩) (fun i => (l.length - i).toNat) 0 [0, 1] ⟨by omega, by omega, fun j h0 h1 => by omega⟩ ⟨rfl, rfl, rfl, rfl, rfl, rfl, rfl, rfl⟩ (fun i hi => ?_)
    obtain ⟨h0, hi, hall⟩ := hi
    repeat' (first
 | (with_reducible apply zds); exact tk; rfl; rfl; rfl; rfl; rfl
 | (with_reducible apply zd); rfl; exact tk; rfl
 | (with_reducible first | intro _ | apply wseq | apply zreg | apply thenQ_n | apply thenQ_r | apply thenQ_e | apply znil | apply wret | apply bodyQ_r | apply wblk | apply blkQ_n | apply blkQ_r | apply wskip | apply wexit)
 | apply wct rfl
 | apply wcf rfl
 | (with_reducible apply blkQ_x rfl)
 | (with_reducible apply zcmp); rfl; exact tk; rfl; rfl; rfl
 | (with_reducible apply zar); rfl; rfl; rfl; rfl; (first | omega | ((try simp only [List.length_append, List.length_cons, List.length_nil, List.length_map]); (try dsimp only); omega)); rfl; rfl
 | (with_reducible apply zix); rfl; exact tk; (iterate 7 rfl); (first | omega | ((try simp only [List.length_append, List.length_cons, List.length_nil, List.length_map]); (try dsimp only); omega)); rfl; rfl
 | (with_reducible apply zle); rfl; exact tk; rfl; rfl; rfl; rfl; (first | omega | ((try simp only [List.length_append, List.length_cons, List.length_nil, List.length_map]); (try dsimp only); omega)); rfl; rfl; rfl; rfl
 | refine zdq (id := 6) rfl (by kernel_rfl) [(.p, 0), (.p, 1), (.p, 2), (.p, 4), (.p, 5), (.p, 6), (.t, 3), (.t, 7), (.o, 8), (.p, 9)] [] (by kernel_rfl) rfl ?_
 | (with_reducible apply zcp); (iterate 10 rfl); exact laws_eqBal; rfl; rfl
 | fail)
    all_goals first
      | exact endY [0, 1] rfl rfl rfl rfl rfl rfl (ext_rd (by omega) (fun j h1 h2 => hall j h1 (by omega)))
      | exact endN [0, 1] rfl rfl rfl rfl rfl rfl (fun e => by subst e; simp_all)
      | exact ⟨i + 1, [0, 1], ⟨by omega, by omega, all_step hall (by rename_i h; obtain ⟨e0, e1, e2⟩ := h; generalize rd l i = x at *; generalize rd m i = y at *; cases x; cases y; simp_all)⟩, by dsimp only; omega, rfl, rfl, rfl, rfl, rfl, rfl, rfl, rfl⟩
set_option maxHeartbeats 4000000 in
theorem laws_szLotS {l : List Lot} {left : Int} (hl : 0 ≤ left ∧ left ≤ 1048576) : FC Tryz.prog 178 [.c (.row 0 0 l.length), I left] ([ro 251 l]) (I (szN left l.length)) ([ro 251 l]) := by
  refine fent tk 12 [.tmp 4] Tryz.func178 (by kernel_rfl) rfl rfl rfl rfl rfl rfl rfl ?_
  refine wlen l 0 rfl (fun hlen => ?_)
  repeat' (first
 | (with_reducible apply zds); exact tk; rfl; rfl; rfl; rfl; rfl
 | (with_reducible apply zd); rfl; exact tk; rfl
 | (with_reducible first | intro _ | apply wseq | apply zreg | apply thenQ_n | apply thenQ_r | apply thenQ_e | apply znil | apply wret | apply bodyQ_r | apply wblk | apply blkQ_n | apply blkQ_r | apply wskip | apply wexit)
 | apply wct rfl
 | apply wcf rfl
 | (with_reducible apply zcmp); rfl; exact tk; rfl; rfl; rfl
 | (with_reducible apply zar); rfl; rfl; rfl; rfl; (first | omega | ((try simp only [List.length_append, List.length_cons, List.length_nil, List.length_map]); (try dsimp only); omega)); rfl; rfl
 | fail)
  all_goals exact endI [0] rfl rfl rfl rfl rfl rfl (by unfold szN; split <;> omega)
set_option maxHeartbeats 4000000 in
theorem laws_eqLot {a0 a1 a2 a3 a4 b0 b1 b2 b3 b4 : Int} : FC Tryz.prog 273 [.agg [.sc (.int .i64 a0), .sc (.int .i64 a1), .sc (.int .i64 a2), .sc (.int .i64 a3), .sc (.int .i64 a4)], .agg [.sc (.int .i64 b0), .sc (.int .i64 b1), .sc (.int .i64 b2), .sc (.int .i64 b3), .sc (.int .i64 b4)]] ([]) (B (dB (a0 = b0 ∧ a1 = b1 ∧ a2 = b2 ∧ a3 = b3 ∧ a4 = b4))) ([]) := by
  refine fent tk 30 [.tmp 4] Tryz.func273 (by kernel_rfl) rfl rfl rfl rfl rfl rfl rfl ?_
  repeat' (first
 | (with_reducible apply zds); exact tk; rfl; rfl; rfl; rfl; rfl
 | (with_reducible apply zd); rfl; exact tk; rfl
 | (with_reducible first | intro _ | apply wseq | apply zreg | apply thenQ_n | apply thenQ_r | apply thenQ_e | apply znil | apply wret | apply bodyQ_r | apply wblk | apply blkQ_n | apply blkQ_r | apply wskip | apply wexit)
 | apply wct rfl
 | apply wcf rfl
 | (with_reducible apply zne); rfl; exact tk; rfl; rfl; rfl; rfl
 | fail)
  all_goals first | exact endY [] rfl rfl rfl rfl rfl rfl (by simp_all) | exact endN [] rfl rfl rfl rfl rfl rfl (by simp_all)
set_option maxHeartbeats 4000000 in
theorem laws_eqLotS {l m : List Lot} : FC Tryz.prog 188 [.c (.row 0 0 l.length), .c (.row 1 0 m.length)] ([ro 137 l, ro 137 m]) (B (dB (l = m))) ([ro 137 l, ro 137 m]) := by
  refine fent tk 27 [.tmp 4] Tryz.func188 (by kernel_rfl) rfl rfl rfl rfl rfl rfl rfl ?_
  refine wlen l 0 rfl (fun hl => ?_)
  repeat' (first
 | (with_reducible apply zds); exact tk; rfl; rfl; rfl; rfl; rfl
 | (with_reducible apply zd); rfl; exact tk; rfl
 | (with_reducible first | intro _ | apply wseq | apply zreg | apply thenQ_n | apply thenQ_r | apply thenQ_e | apply znil | apply wret | apply bodyQ_r | apply wblk | apply blkQ_n | apply blkQ_r | apply wskip | apply wexit)
 | apply wct rfl
 | apply wcf rfl
 | (with_reducible apply zne); rfl; exact tk; rfl; rfl; rfl; rfl
 | fail)
  · rename_i hne
    exact endN [0, 1] rfl rfl rfl rfl rfl rfl (fun e => hne (by rw [e]))
  · rename_i hlen
    refine wloop (X := Int) (fun i => 0 ≤ i ∧ i ≤ l.length ∧ ∀ j : Int, 0 ≤ j → j < i → rd l j = rd m j) (fun i => ⟨27, 2, [(0, .c (.row 0 0 l.length)), (1, .c (.row 1 0 m.length)), (5, I i)], [ro 137 l, ro 137 m]⟩) (fun i => (l.length - i).toNat) 0 [0, 1] ⟨by omega, by omega, fun j h0 h1 => by omega⟩ ⟨rfl, rfl, rfl, rfl, rfl, rfl, rfl, rfl⟩ (fun i hi => ?_)
    obtain ⟨h0, hi, hall⟩ := hi
    repeat' (first
 | (with_reducible apply zds); exact tk; rfl; rfl; rfl; rfl; rfl
 | (with_reducible apply zd); rfl; exact tk; rfl
 | (with_reducible first | intro _ | apply wseq | apply zreg | apply thenQ_n | apply thenQ_r | apply thenQ_e | apply znil | apply wret | apply bodyQ_r | apply wblk | apply blkQ_n | apply blkQ_r | apply wskip | apply wexit)
 | apply wct rfl
 | apply wcf rfl
 | (with_reducible apply blkQ_x rfl)
 | (with_reducible apply zcmp); rfl; exact tk; rfl; rfl; rfl
 | (with_reducible apply zar); rfl; rfl; rfl; rfl; (first | omega | ((try simp only [List.length_append, List.length_cons, List.length_nil, List.length_map]); (try dsimp only); omega)); rfl; rfl
 | (with_reducible apply zix); rfl; exact tk; (iterate 7 rfl); (first | omega | ((try simp only [List.length_append, List.length_cons, List.length_nil, List.length_map]); (try dsimp only); omega)); rfl; rfl
 | (with_reducible apply zle); rfl; exact tk; rfl; rfl; rfl; rfl; (first | omega | ((try simp only [List.length_append, List.length_cons, List.length_nil, List.length_map]); (try dsimp only); omega)); rfl; rfl; rfl; rfl
 | refine zdq (id := 6) rfl (by kernel_rfl) [(.p, 0), (.p, 1), (.p, 2), (.p, 4), (.p, 5), (.p, 6), (.t, 3), (.t, 7), (.o, 8), (.p, 9)] [] (by kernel_rfl) rfl ?_
 | (with_reducible apply zcp); (iterate 10 rfl); exact laws_eqLot; rfl; rfl
 | fail)
    all_goals first
      | exact endY [0, 1] rfl rfl rfl rfl rfl rfl (ext_rd (by omega) (fun j h1 h2 => hall j h1 (by omega)))
      | exact endN [0, 1] rfl rfl rfl rfl rfl rfl (fun e => by subst e; simp_all)
      | exact ⟨i + 1, [0, 1], ⟨by omega, by omega, all_step hall (by rename_i h; obtain ⟨e0, e1, e2, e3, e4⟩ := h; generalize rd l i = x at *; generalize rd m i = y at *; cases x; cases y; simp_all)⟩, by dsimp only; omega, rfl, rfl, rfl, rfl, rfl, rfl, rfl, rfl⟩
set_option maxHeartbeats 4000000 in
theorem laws_szTradeS {l : List Trade} {left : Int} (hl : 0 ≤ left ∧ left ≤ 1048576) : FC Tryz.prog 179 [.c (.row 0 0 l.length), I left] ([ro 253 l]) (I (szN left l.length)) ([ro 253 l]) := by
  refine fent tk 12 [.tmp 4] Tryz.func179 (by kernel_rfl) rfl rfl rfl rfl rfl rfl rfl ?_
  refine wlen l 0 rfl (fun hlen => ?_)
  repeat' (first
 | (with_reducible apply zds); exact tk; rfl; rfl; rfl; rfl; rfl
 | (with_reducible apply zd); rfl; exact tk; rfl
 | (with_reducible first | intro _ | apply wseq | apply zreg | apply thenQ_n | apply thenQ_r | apply thenQ_e | apply znil | apply wret | apply bodyQ_r | apply wblk | apply blkQ_n | apply blkQ_r | apply wskip | apply wexit)
 | apply wct rfl
 | apply wcf rfl
 | (with_reducible apply zcmp); rfl; exact tk; rfl; rfl; rfl
 | (with_reducible apply zar); rfl; rfl; rfl; rfl; (first | omega | ((try simp only [List.length_append, List.length_cons, List.length_nil, List.length_map]); (try dsimp only); omega)); rfl; rfl
 | fail)
  all_goals exact endI [0] rfl rfl rfl rfl rfl rfl (by unfold szN; split <;> omega)
set_option maxHeartbeats 4000000 in
theorem laws_eqTrade {a0 a1 a2 a3 a4 a5 a6 a7 b0 b1 b2 b3 b4 b5 b6 b7 : Int} : FC Tryz.prog 274 [.agg [.sc (.int .i64 a0), .sc (.int .i64 a1), .sc (.int .i64 a2), .sc (.int .i64 a3), .sc (.int .i64 a4), .sc (.int .i64 a5), .sc (.int .i64 a6), .sc (.int .i64 a7)], .agg [.sc (.int .i64 b0), .sc (.int .i64 b1), .sc (.int .i64 b2), .sc (.int .i64 b3), .sc (.int .i64 b4), .sc (.int .i64 b5), .sc (.int .i64 b6), .sc (.int .i64 b7)]] ([]) (B (dB (a0 = b0 ∧ a1 = b1 ∧ a2 = b2 ∧ a3 = b3 ∧ a4 = b4 ∧ a5 = b5 ∧ a6 = b6 ∧ a7 = b7))) ([]) := by
  refine fent tk 45 [.tmp 4] Tryz.func274 (by kernel_rfl) rfl rfl rfl rfl rfl rfl rfl ?_
  repeat' (first
 | (with_reducible apply zds); exact tk; rfl; rfl; rfl; rfl; rfl
 | (with_reducible apply zd); rfl; exact tk; rfl
 | (with_reducible first | intro _ | apply wseq | apply zreg | apply thenQ_n | apply thenQ_r | apply thenQ_e | apply znil | apply wret | apply bodyQ_r | apply wblk | apply blkQ_n | apply blkQ_r | apply wskip | apply wexit)
 | apply wct rfl
 | apply wcf rfl
 | (with_reducible apply zne); rfl; exact tk; rfl; rfl; rfl; rfl
 | fail)
  all_goals first | exact endY [] rfl rfl rfl rfl rfl rfl (by simp_all) | exact endN [] rfl rfl rfl rfl rfl rfl (by simp_all)
set_option maxHeartbeats 4000000 in
theorem laws_eqTradeS {l m : List Trade} : FC Tryz.prog 189 [.c (.row 0 0 l.length), .c (.row 1 0 m.length)] ([ro 103 l, ro 103 m]) (B (dB (l = m))) ([ro 103 l, ro 103 m]) := by
  refine fent tk 27 [.tmp 4] Tryz.func189 (by kernel_rfl) rfl rfl rfl rfl rfl rfl rfl ?_
  refine wlen l 0 rfl (fun hl => ?_)
  repeat' (first
 | (with_reducible apply zds); exact tk; rfl; rfl; rfl; rfl; rfl
 | (with_reducible apply zd); rfl; exact tk; rfl
 | (with_reducible first | intro _ | apply wseq | apply zreg | apply thenQ_n | apply thenQ_r | apply thenQ_e | apply znil | apply wret | apply bodyQ_r | apply wblk | apply blkQ_n | apply blkQ_r | apply wskip | apply wexit)
 | apply wct rfl
 | apply wcf rfl
 | (with_reducible apply zne); rfl; exact tk; rfl; rfl; rfl; rfl
 | fail)
  · rename_i hne
    exact endN [0, 1] rfl rfl rfl rfl rfl rfl (fun e => hne (by rw [e]))
  · rename_i hlen
    refine wloop (X := Int) (fun i => 0 ≤ i ∧ i ≤ l.length ∧ ∀ j : Int, 0 ≤ j → j < i → rd l j = rd m j) (fun i => ⟨27, 2, [(0, .c (.row 0 0 l.length)), (1, .c (.row 1 0 m.length)), (5, I i)], [ro 103 l, ro 103 m]⟩) (fun i => (l.length - i).toNat) 0 [0, 1] ⟨by omega, by omega, fun j h0 h1 => by omega⟩ ⟨rfl, rfl, rfl, rfl, rfl, rfl, rfl, rfl⟩ (fun i hi => ?_)
    obtain ⟨h0, hi, hall⟩ := hi
    repeat' (first
 | (with_reducible apply zds); exact tk; rfl; rfl; rfl; rfl; rfl
 | (with_reducible apply zd); rfl; exact tk; rfl
 | (with_reducible first | intro _ | apply wseq | apply zreg | apply thenQ_n | apply thenQ_r | apply thenQ_e | apply znil | apply wret | apply bodyQ_r | apply wblk | apply blkQ_n | apply blkQ_r | apply wskip | apply wexit)
 | apply wct rfl
 | apply wcf rfl
 | (with_reducible apply blkQ_x rfl)
 | (with_reducible apply zcmp); rfl; exact tk; rfl; rfl; rfl
 | (with_reducible apply zar); rfl; rfl; rfl; rfl; (first | omega | ((try simp only [List.length_append, List.length_cons, List.length_nil, List.length_map]); (try dsimp only); omega)); rfl; rfl
 | (with_reducible apply zix); rfl; exact tk; (iterate 7 rfl); (first | omega | ((try simp only [List.length_append, List.length_cons, List.length_nil, List.length_map]); (try dsimp only); omega)); rfl; rfl
 | (with_reducible apply zle); rfl; exact tk; rfl; rfl; rfl; rfl; (first | omega | ((try simp only [List.length_append, List.length_cons, List.length_nil, List.length_map]); (try dsimp only); omega)); rfl; rfl; rfl; rfl
 | refine zdq (id := 6) rfl (by kernel_rfl) [(.p, 0), (.p, 1), (.p, 2), (.p, 4), (.p, 5), (.p, 6), (.t, 3), (.t, 7), (.o, 8), (.p, 9)] [] (by kernel_rfl) rfl ?_
 | (with_reducible apply zcp); (iterate 10 rfl); exact laws_eqTrade; rfl; rfl
 | fail)
    all_goals first
      | exact endY [0, 1] rfl rfl rfl rfl rfl rfl (ext_rd (by omega) (fun j h1 h2 => hall j h1 (by omega)))
      | exact endN [0, 1] rfl rfl rfl rfl rfl rfl (fun e => by subst e; simp_all)
      | exact ⟨i + 1, [0, 1], ⟨by omega, by omega, all_step hall (by rename_i h; obtain ⟨e0, e1, e2, e3, e4, e5, e6, e7⟩ := h; generalize rd l i = x at *; generalize rd m i = y at *; cases x; cases y; simp_all)⟩, by dsimp only; omega, rfl, rfl, rfl, rfl, rfl, rfl, rfl, rfl⟩
def mkAccount (n : Nat) (k : Int) : List Account := (List.range n).map (fun (j : Nat) => ⟨k + 2 * j, k + 2 * j + 1⟩)
theorem mkAccount_len (n : Nat) (k : Int) : (mkAccount n k).length = n := by simp [mkAccount]
theorem rd_mkAccount {n : Nat} {k j : Int} (h : 0 ≤ j ∧ j < n) : rd (mkAccount n k) j = ⟨k + 2 * j, k + 2 * j + 1⟩ := by
  obtain ⟨i, rfl⟩ := Int.eq_ofNat_of_zero_le h.1
  have h1 : i < n := by omega
  simp [rd, mkAccount, List.getD_eq_getElem?_getD, h1]
set_option maxHeartbeats 4000000 in
theorem laws_markAccountS {l : List Account} {k : Int} (hk : 0 ≤ k ∧ k ≤ 1099511627776) (hl : l.length ≤ 4294967296) : FC Tryz.prog 190 [.c (.row 0 0 l.length), I k] ([ow 42 l]) (I (k + 2 * l.length)) ([ow 42 (mkAccount l.length k)]) := by
  refine fent tk 27 [.tmp 4] Tryz.func190 (by kernel_rfl) rfl rfl rfl rfl rfl rfl rfl ?_
  repeat' (first
 | (with_reducible apply zd); rfl; exact tk; rfl
 | (with_reducible first | intro _ | apply wseq | apply zreg | apply thenQ_n | apply thenQ_r | apply thenQ_e | apply znil | apply wret | apply bodyQ_r | apply wblk | apply blkQ_n | apply blkQ_r | apply wskip | apply wexit)
 | fail)
  refine wloop (X := Int × Int × List Account) (fun p => 0 ≤ p.1 ∧ p.1 ≤ l.length ∧ p.2.1 = k + 2 * p.1 ∧ p.2.2.length = l.length ∧ ∀ j : Int, 0 ≤ j → j < p.1 → rd p.2.2 j = ⟨k + 2 * j, k + 2 * j + 1⟩) (fun p => ⟨27, 1, [(0, .c (.row 0 0 l.length)), (1, I p.2.1), (5, I p.1)], [ow 42 p.2.2]⟩) (fun p => (l.length - p.1).toNat) (0, k, l) [0] ⟨by dsimp only; omega, by dsimp only; omega, by dsimp only; omega, rfl, fun j h0 h1 => by dsimp only at h1; omega⟩ ⟨rfl, rfl, rfl, rfl, rfl, rfl, rfl, rfl⟩ (fun p hp => ?_)
  obtain ⟨i, kk, xs⟩ := p
  obtain ⟨h0, hi, hkk, hlen, hall⟩ := hp
  dsimp only at h0 hi hkk hlen hall ⊢
  repeat' (first
 | (with_reducible apply zds); exact tk; rfl; rfl; rfl; rfl; rfl
 | (with_reducible apply zd); rfl; exact tk; rfl
 | (with_reducible apply zse); rfl; exact tk; (iterate 6 rfl); (simp only [upd_len]; omega); rfl; rfl; (first | (rw [rd_same (by omega)]; dsimp only [Enc.enc]; rfl) | rfl); (first | (rw [upd_upd]; rfl) | rfl); rfl
 | (with_reducible first | intro _ | apply wseq | apply zreg | apply thenQ_n | apply thenQ_r | apply thenQ_e | apply znil | apply wret | apply bodyQ_r | apply wblk | apply blkQ_n | apply blkQ_r | apply wskip | apply wexit)
 | apply wct rfl
 | apply wcf rfl
 | (with_reducible apply blkQ_x rfl)
 | (with_reducible apply zcmp); rfl; exact tk; rfl; rfl; rfl
 | (with_reducible apply zar); rfl; rfl; rfl; rfl; (first | omega | ((try simp only [List.length_append, List.length_cons, List.length_nil, List.length_map]); (try dsimp only); omega)); rfl; rfl
 | (with_reducible apply zix); rfl; exact tk; (iterate 7 rfl); (first | omega | ((try simp only [List.length_append, List.length_cons, List.length_nil, List.length_map]); (try dsimp only); omega)); rfl; rfl
 | (with_reducible apply zse); rfl; exact tk; (iterate 6 rfl); (first | omega | ((try simp only [List.length_append, List.length_cons, List.length_nil, List.length_map]); (try dsimp only); omega)); rfl; rfl; rfl; rfl; rfl
 | fail)
  all_goals first
    | (obtain rfl : xs = mkAccount l.length k := ext_rd (by rw [hlen, mkAccount_len]) (fun j h1 h2 => by rw [hall j h1 (by omega), rd_mkAccount (by omega)])
       exact endI [0] rfl rfl rfl rfl rfl rfl (by omega))
    | exact ⟨(i + 1, _, _), [0], ⟨by dsimp only; omega, by dsimp only; omega, by dsimp only; omega, by simp [upd_len, hlen], fun j h1 h2 => by
        dsimp only at h2 ⊢
        rw [rd_set (by omega) h1]
        split
        · rename_i e
          subst e
          first | rfl | (congr 1 <;> omega)
        · exact hall j h1 (by omega)⟩, by dsimp only; omega, rfl, rfl, rfl, rfl, rfl, rfl, rfl, rfl⟩
def mkInstr (n : Nat) (k : Int) : List Instr := (List.range n).map (fun (j : Nat) => ⟨k + 2 * j, k + 2 * j + 1⟩)
theorem mkInstr_len (n : Nat) (k : Int) : (mkInstr n k).length = n := by simp [mkInstr]
theorem rd_mkInstr {n : Nat} {k j : Int} (h : 0 ≤ j ∧ j < n) : rd (mkInstr n k) j = ⟨k + 2 * j, k + 2 * j + 1⟩ := by
  obtain ⟨i, rfl⟩ := Int.eq_ofNat_of_zero_le h.1
  have h1 : i < n := by omega
  simp [rd, mkInstr, List.getD_eq_getElem?_getD, h1]
set_option maxHeartbeats 4000000 in
theorem laws_markInstrS {l : List Instr} {k : Int} (hk : 0 ≤ k ∧ k ≤ 1099511627776) (hl : l.length ≤ 4294967296) : FC Tryz.prog 191 [.c (.row 0 0 l.length), I k] ([ow 74 l]) (I (k + 2 * l.length)) ([ow 74 (mkInstr l.length k)]) := by
  refine fent tk 27 [.tmp 4] Tryz.func191 (by kernel_rfl) rfl rfl rfl rfl rfl rfl rfl ?_
  repeat' (first
 | (with_reducible apply zd); rfl; exact tk; rfl
 | (with_reducible first | intro _ | apply wseq | apply zreg | apply thenQ_n | apply thenQ_r | apply thenQ_e | apply znil | apply wret | apply bodyQ_r | apply wblk | apply blkQ_n | apply blkQ_r | apply wskip | apply wexit)
 | fail)
  refine wloop (X := Int × Int × List Instr) (fun p => 0 ≤ p.1 ∧ p.1 ≤ l.length ∧ p.2.1 = k + 2 * p.1 ∧ p.2.2.length = l.length ∧ ∀ j : Int, 0 ≤ j → j < p.1 → rd p.2.2 j = ⟨k + 2 * j, k + 2 * j + 1⟩) (fun p => ⟨27, 1, [(0, .c (.row 0 0 l.length)), (1, I p.2.1), (5, I p.1)], [ow 74 p.2.2]⟩) (fun p => (l.length - p.1).toNat) (0, k, l) [0] ⟨by dsimp only; omega, by dsimp only; omega, by dsimp only; omega, rfl, fun j h0 h1 => by dsimp only at h1; omega⟩ ⟨rfl, rfl, rfl, rfl, rfl, rfl, rfl, rfl⟩ (fun p hp => ?_)
  obtain ⟨i, kk, xs⟩ := p
  obtain ⟨h0, hi, hkk, hlen, hall⟩ := hp
  dsimp only at h0 hi hkk hlen hall ⊢
  repeat' (first
 | (with_reducible apply zds); exact tk; rfl; rfl; rfl; rfl; rfl
 | (with_reducible apply zd); rfl; exact tk; rfl
 | (with_reducible apply zse); rfl; exact tk; (iterate 6 rfl); (simp only [upd_len]; omega); rfl; rfl; (first | (rw [rd_same (by omega)]; dsimp only [Enc.enc]; rfl) | rfl); (first | (rw [upd_upd]; rfl) | rfl); rfl
 | (with_reducible first | intro _ | apply wseq | apply zreg | apply thenQ_n | apply thenQ_r | apply thenQ_e | apply znil | apply wret | apply bodyQ_r | apply wblk | apply blkQ_n | apply blkQ_r | apply wskip | apply wexit)
 | apply wct rfl
 | apply wcf rfl
 | (with_reducible apply blkQ_x rfl)
 | (with_reducible apply zcmp); rfl; exact tk; rfl; rfl; rfl
 | (with_reducible apply zar); rfl; rfl; rfl; rfl; (first | omega | ((try simp only [List.length_append, List.length_cons, List.length_nil, List.length_map]); (try dsimp only); omega)); rfl; rfl
 | (with_reducible apply zix); rfl; exact tk; (iterate 7 rfl); (first | omega | ((try simp only [List.length_append, List.length_cons, List.length_nil, List.length_map]); (try dsimp only); omega)); rfl; rfl
 | (with_reducible apply zse); rfl; exact tk; (iterate 6 rfl); (first | omega | ((try simp only [List.length_append, List.length_cons, List.length_nil, List.length_map]); (try dsimp only); omega)); rfl; rfl; rfl; rfl; rfl
 | fail)
  all_goals first
    | (obtain rfl : xs = mkInstr l.length k := ext_rd (by rw [hlen, mkInstr_len]) (fun j h1 h2 => by rw [hall j h1 (by omega), rd_mkInstr (by omega)])
       exact endI [0] rfl rfl rfl rfl rfl rfl (by omega))
    | exact ⟨(i + 1, _, _), [0], ⟨by dsimp only; omega, by dsimp only; omega, by dsimp only; omega, by simp [upd_len, hlen], fun j h1 h2 => by
        dsimp only at h2 ⊢
        rw [rd_set (by omega) h1]
        split
        · rename_i e
          subst e
          first | rfl | (congr 1 <;> omega)
        · exact hall j h1 (by omega)⟩, by dsimp only; omega, rfl, rfl, rfl, rfl, rfl, rfl, rfl, rfl⟩
def mkBal (n : Nat) (k : Int) : List Bal := (List.range n).map (fun (j : Nat) => ⟨k + 3 * j, k + 3 * j + 1, k + 3 * j + 2⟩)
theorem mkBal_len (n : Nat) (k : Int) : (mkBal n k).length = n := by simp [mkBal]
theorem rd_mkBal {n : Nat} {k j : Int} (h : 0 ≤ j ∧ j < n) : rd (mkBal n k) j = ⟨k + 3 * j, k + 3 * j + 1, k + 3 * j + 2⟩ := by
  obtain ⟨i, rfl⟩ := Int.eq_ofNat_of_zero_le h.1
  have h1 : i < n := by omega
  simp [rd, mkBal, List.getD_eq_getElem?_getD, h1]
set_option maxHeartbeats 4000000 in
theorem laws_markBalS {l : List Bal} {k : Int} (hk : 0 ≤ k ∧ k ≤ 1099511627776) (hl : l.length ≤ 4294967296) : FC Tryz.prog 192 [.c (.row 0 0 l.length), I k] ([ow 135 l]) (I (k + 3 * l.length)) ([ow 135 (mkBal l.length k)]) := by
  refine fent tk 34 [.tmp 4] Tryz.func192 (by kernel_rfl) rfl rfl rfl rfl rfl rfl rfl ?_
  repeat' (first
 | (with_reducible apply zd); rfl; exact tk; rfl
 | (with_reducible first | intro _ | apply wseq | apply zreg | apply thenQ_n | apply thenQ_r | apply thenQ_e | apply znil | apply wret | apply bodyQ_r | apply wblk | apply blkQ_n | apply blkQ_r | apply wskip | apply wexit)
 | fail)
  refine wloop (X := Int × Int × List Bal) (fun p => 0 ≤ p.1 ∧ p.1 ≤ l.length ∧ p.2.1 = k + 3 * p.1 ∧ p.2.2.length = l.length ∧ ∀ j : Int, 0 ≤ j → j < p.1 → rd p.2.2 j = ⟨k + 3 * j, k + 3 * j + 1, k + 3 * j + 2⟩) (fun p => ⟨34, 1, [(0, .c (.row 0 0 l.length)), (1, I p.2.1), (5, I p.1)], [ow 135 p.2.2]⟩) (fun p => (l.length - p.1).toNat) (0, k, l) [0] ⟨by dsimp only; omega, by dsimp only; omega, by dsimp only; omega, rfl, fun j h0 h1 => by dsimp only at h1; omega⟩ ⟨rfl, rfl, rfl, rfl, rfl, rfl, rfl, rfl⟩ (fun p hp => ?_)
  obtain ⟨i, kk, xs⟩ := p
  obtain ⟨h0, hi, hkk, hlen, hall⟩ := hp
  dsimp only at h0 hi hkk hlen hall ⊢
  repeat' (first
 | (with_reducible apply zds); exact tk; rfl; rfl; rfl; rfl; rfl
 | (with_reducible apply zd); rfl; exact tk; rfl
 | (with_reducible apply zse); rfl; exact tk; (iterate 6 rfl); (simp only [upd_len]; omega); rfl; rfl; (first | (rw [rd_same (by omega)]; dsimp only [Enc.enc]; rfl) | rfl); (first | (rw [upd_upd]; rfl) | rfl); rfl
 | (with_reducible first | intro _ | apply wseq | apply zreg | apply thenQ_n | apply thenQ_r | apply thenQ_e | apply znil | apply wret | apply bodyQ_r | apply wblk | apply blkQ_n | apply blkQ_r | apply wskip | apply wexit)
 | apply wct rfl
 | apply wcf rfl
 | (with_reducible apply blkQ_x rfl)
 | (with_reducible apply zcmp); rfl; exact tk; rfl; rfl; rfl
 | (with_reducible apply zar); rfl; rfl; rfl; rfl; (first | omega | ((try simp only [List.length_append, List.length_cons, List.length_nil, List.length_map]); (try dsimp only); omega)); rfl; rfl
 | (with_reducible apply zix); rfl; exact tk; (iterate 7 rfl); (first | omega | ((try simp only [List.length_append, List.length_cons, List.length_nil, List.length_map]); (try dsimp only); omega)); rfl; rfl
 | (with_reducible apply zse); rfl; exact tk; (iterate 6 rfl); (first | omega | ((try simp only [List.length_append, List.length_cons, List.length_nil, List.length_map]); (try dsimp only); omega)); rfl; rfl; rfl; rfl; rfl
 | fail)
  all_goals first
    | (obtain rfl : xs = mkBal l.length k := ext_rd (by rw [hlen, mkBal_len]) (fun j h1 h2 => by rw [hall j h1 (by omega), rd_mkBal (by omega)])
       exact endI [0] rfl rfl rfl rfl rfl rfl (by omega))
    | exact ⟨(i + 1, _, _), [0], ⟨by dsimp only; omega, by dsimp only; omega, by dsimp only; omega, by simp [upd_len, hlen], fun j h1 h2 => by
        dsimp only at h2 ⊢
        rw [rd_set (by omega) h1]
        split
        · rename_i e
          subst e
          first | rfl | (congr 1 <;> omega)
        · exact hall j h1 (by omega)⟩, by dsimp only; omega, rfl, rfl, rfl, rfl, rfl, rfl, rfl, rfl⟩
def mkLot (n : Nat) (k : Int) : List Lot := (List.range n).map (fun (j : Nat) => ⟨k + 5 * j, k + 5 * j + 1, k + 5 * j + 2, k + 5 * j + 3, k + 5 * j + 4⟩)
theorem mkLot_len (n : Nat) (k : Int) : (mkLot n k).length = n := by simp [mkLot]
theorem rd_mkLot {n : Nat} {k j : Int} (h : 0 ≤ j ∧ j < n) : rd (mkLot n k) j = ⟨k + 5 * j, k + 5 * j + 1, k + 5 * j + 2, k + 5 * j + 3, k + 5 * j + 4⟩ := by
  obtain ⟨i, rfl⟩ := Int.eq_ofNat_of_zero_le h.1
  have h1 : i < n := by omega
  simp [rd, mkLot, List.getD_eq_getElem?_getD, h1]
set_option maxHeartbeats 4000000 in
theorem laws_markLotS {l : List Lot} {k : Int} (hk : 0 ≤ k ∧ k ≤ 1099511627776) (hl : l.length ≤ 4294967296) : FC Tryz.prog 193 [.c (.row 0 0 l.length), I k] ([ow 137 l]) (I (k + 5 * l.length)) ([ow 137 (mkLot l.length k)]) := by
  refine fent tk 48 [.tmp 4] Tryz.func193 (by kernel_rfl) rfl rfl rfl rfl rfl rfl rfl ?_
  repeat' (first
 | (with_reducible apply zd); rfl; exact tk; rfl
 | (with_reducible first | intro _ | apply wseq | apply zreg | apply thenQ_n | apply thenQ_r | apply thenQ_e | apply znil | apply wret | apply bodyQ_r | apply wblk | apply blkQ_n | apply blkQ_r | apply wskip | apply wexit)
 | fail)
  refine wloop (X := Int × Int × List Lot) (fun p => 0 ≤ p.1 ∧ p.1 ≤ l.length ∧ p.2.1 = k + 5 * p.1 ∧ p.2.2.length = l.length ∧ ∀ j : Int, 0 ≤ j → j < p.1 → rd p.2.2 j = ⟨k + 5 * j, k + 5 * j + 1, k + 5 * j + 2, k + 5 * j + 3, k + 5 * j + 4⟩) (fun p => ⟨48, 1, [(0, .c (.row 0 0 l.length)), (1, I p.2.1), (5, I p.1)], [ow 137 p.2.2]⟩) (fun p => (l.length - p.1).toNat) (0, k, l) [0] ⟨by dsimp only; omega, by dsimp only; omega, by dsimp only; omega, rfl, fun j h0 h1 => by dsimp only at h1; omega⟩ ⟨rfl, rfl, rfl, rfl, rfl, rfl, rfl, rfl⟩ (fun p hp => ?_)
  obtain ⟨i, kk, xs⟩ := p
  obtain ⟨h0, hi, hkk, hlen, hall⟩ := hp
  dsimp only at h0 hi hkk hlen hall ⊢
  repeat' (first
 | (with_reducible apply zds); exact tk; rfl; rfl; rfl; rfl; rfl
 | (with_reducible apply zd); rfl; exact tk; rfl
 | (with_reducible apply zse); rfl; exact tk; (iterate 6 rfl); (simp only [upd_len]; omega); rfl; rfl; (first | (rw [rd_same (by omega)]; dsimp only [Enc.enc]; rfl) | rfl); (first | (rw [upd_upd]; rfl) | rfl); rfl
 | (with_reducible first | intro _ | apply wseq | apply zreg | apply thenQ_n | apply thenQ_r | apply thenQ_e | apply znil | apply wret | apply bodyQ_r | apply wblk | apply blkQ_n | apply blkQ_r | apply wskip | apply wexit)
 | apply wct rfl
 | apply wcf rfl
 | (with_reducible apply blkQ_x rfl)
 | (with_reducible apply zcmp); rfl; exact tk; rfl; rfl; rfl
 | (with_reducible apply zar); rfl; rfl; rfl; rfl; (first | omega | ((try simp only [List.length_append, List.length_cons, List.length_nil, List.length_map]); (try dsimp only); omega)); rfl; rfl
 | (with_reducible apply zix); rfl; exact tk; (iterate 7 rfl); (first | omega | ((try simp only [List.length_append, List.length_cons, List.length_nil, List.length_map]); (try dsimp only); omega)); rfl; rfl
 | (with_reducible apply zse); rfl; exact tk; (iterate 6 rfl); (first | omega | ((try simp only [List.length_append, List.length_cons, List.length_nil, List.length_map]); (try dsimp only); omega)); rfl; rfl; rfl; rfl; rfl
 | fail)
  all_goals first
    | (obtain rfl : xs = mkLot l.length k := ext_rd (by rw [hlen, mkLot_len]) (fun j h1 h2 => by rw [hall j h1 (by omega), rd_mkLot (by omega)])
       exact endI [0] rfl rfl rfl rfl rfl rfl (by omega))
    | exact ⟨(i + 1, _, _), [0], ⟨by dsimp only; omega, by dsimp only; omega, by dsimp only; omega, by simp [upd_len, hlen], fun j h1 h2 => by
        dsimp only at h2 ⊢
        rw [rd_set (by omega) h1]
        split
        · rename_i e
          subst e
          first | rfl | (congr 1 <;> omega)
        · exact hall j h1 (by omega)⟩, by dsimp only; omega, rfl, rfl, rfl, rfl, rfl, rfl, rfl, rfl⟩
def mkTrade (n : Nat) (k : Int) : List Trade := (List.range n).map (fun (j : Nat) => ⟨k + 8 * j, k + 8 * j + 1, k + 8 * j + 2, k + 8 * j + 3, k + 8 * j + 4, k + 8 * j + 5, k + 8 * j + 6, k + 8 * j + 7⟩)
theorem mkTrade_len (n : Nat) (k : Int) : (mkTrade n k).length = n := by simp [mkTrade]
theorem rd_mkTrade {n : Nat} {k j : Int} (h : 0 ≤ j ∧ j < n) : rd (mkTrade n k) j = ⟨k + 8 * j, k + 8 * j + 1, k + 8 * j + 2, k + 8 * j + 3, k + 8 * j + 4, k + 8 * j + 5, k + 8 * j + 6, k + 8 * j + 7⟩ := by
  obtain ⟨i, rfl⟩ := Int.eq_ofNat_of_zero_le h.1
  have h1 : i < n := by omega
  simp [rd, mkTrade, List.getD_eq_getElem?_getD, h1]
set_option maxHeartbeats 4000000 in
theorem laws_markTradeS {l : List Trade} {k : Int} (hk : 0 ≤ k ∧ k ≤ 1099511627776) (hl : l.length ≤ 4294967296) : FC Tryz.prog 194 [.c (.row 0 0 l.length), I k] ([ow 103 l]) (I (k + 8 * l.length)) ([ow 103 (mkTrade l.length k)]) := by
  refine fent tk 69 [.tmp 4] Tryz.func194 (by kernel_rfl) rfl rfl rfl rfl rfl rfl rfl ?_
  repeat' (first
 | (with_reducible apply zd); rfl; exact tk; rfl
 | (with_reducible first | intro _ | apply wseq | apply zreg | apply thenQ_n | apply thenQ_r | apply thenQ_e | apply znil | apply wret | apply bodyQ_r | apply wblk | apply blkQ_n | apply blkQ_r | apply wskip | apply wexit)
 | fail)
  refine wloop (X := Int × Int × List Trade) (fun p => 0 ≤ p.1 ∧ p.1 ≤ l.length ∧ p.2.1 = k + 8 * p.1 ∧ p.2.2.length = l.length ∧ ∀ j : Int, 0 ≤ j → j < p.1 → rd p.2.2 j = ⟨k + 8 * j, k + 8 * j + 1, k + 8 * j + 2, k + 8 * j + 3, k + 8 * j + 4, k + 8 * j + 5, k + 8 * j + 6, k + 8 * j + 7⟩) (fun p => ⟨69, 1, [(0, .c (.row 0 0 l.length)), (1, I p.2.1), (5, I p.1)], [ow 103 p.2.2]⟩) (fun p => (l.length - p.1).toNat) (0, k, l) [0] ⟨by dsimp only; omega, by dsimp only; omega, by dsimp only; omega, rfl, fun j h0 h1 => by dsimp only at h1; omega⟩ ⟨rfl, rfl, rfl, rfl, rfl, rfl, rfl, rfl⟩ (fun p hp => ?_)
  obtain ⟨i, kk, xs⟩ := p
  obtain ⟨h0, hi, hkk, hlen, hall⟩ := hp
  dsimp only at h0 hi hkk hlen hall ⊢
  repeat' (first
 | (with_reducible apply zds); exact tk; rfl; rfl; rfl; rfl; rfl
 | (with_reducible apply zd); rfl; exact tk; rfl
 | (with_reducible apply zse); rfl; exact tk; (iterate 6 rfl); (simp only [upd_len]; omega); rfl; rfl; (first | (rw [rd_same (by omega)]; dsimp only [Enc.enc]; rfl) | rfl); (first | (rw [upd_upd]; rfl) | rfl); rfl
 | (with_reducible first | intro _ | apply wseq | apply zreg | apply thenQ_n | apply thenQ_r | apply thenQ_e | apply znil | apply wret | apply bodyQ_r | apply wblk | apply blkQ_n | apply blkQ_r | apply wskip | apply wexit)
 | apply wct rfl
 | apply wcf rfl
 | (with_reducible apply blkQ_x rfl)
 | (with_reducible apply zcmp); rfl; exact tk; rfl; rfl; rfl
 | (with_reducible apply zar); rfl; rfl; rfl; rfl; (first | omega | ((try simp only [List.length_append, List.length_cons, List.length_nil, List.length_map]); (try dsimp only); omega)); rfl; rfl
 | (with_reducible apply zix); rfl; exact tk; (iterate 7 rfl); (first | omega | ((try simp only [List.length_append, List.length_cons, List.length_nil, List.length_map]); (try dsimp only); omega)); rfl; rfl
 | (with_reducible apply zse); rfl; exact tk; (iterate 6 rfl); (first | omega | ((try simp only [List.length_append, List.length_cons, List.length_nil, List.length_map]); (try dsimp only); omega)); rfl; rfl; rfl; rfl; rfl
 | fail)
  all_goals first
    | (obtain rfl : xs = mkTrade l.length k := ext_rd (by rw [hlen, mkTrade_len]) (fun j h1 h2 => by rw [hall j h1 (by omega), rd_mkTrade (by omega)])
       exact endI [0] rfl rfl rfl rfl rfl rfl (by omega))
    | exact ⟨(i + 1, _, _), [0], ⟨by dsimp only; omega, by dsimp only; omega, by dsimp only; omega, by simp [upd_len, hlen], fun j h1 h2 => by
        dsimp only at h2 ⊢
        rw [rd_set (by omega) h1]
        split
        · rename_i e
          subst e
          first | rfl | (congr 1 <;> omega)
        · exact hall j h1 (by omega)⟩, by dsimp only; omega, rfl, rfl, rfl, rfl, rfl, rfl, rfl, rfl⟩
set_option maxHeartbeats 4000000 in
theorem laws_heldAccountS {l : List Account} {k : Int} {n : Nat} (hk : 0 ≤ k ∧ k ≤ 1099511627776) (hl : l.length ≤ 4294967296) (hn : n = l.length) : FC Tryz.prog 195 [.c (.row 0 0 n), I k] ([ro 42 l]) (I (pick (l = mkAccount n k) (k + 2 * n) (-1))) ([ro 42 l]) := by
  refine fent tk 31 [.tmp 4] Tryz.func195 (by kernel_rfl) rfl rfl rfl rfl rfl rfl rfl ?_
  subst hn
  repeat' (first
 | (with_reducible apply zd); rfl; exact tk; rfl
 | (with_reducible first | intro _ | apply wseq | apply zreg | apply thenQ_n | apply thenQ_r | apply thenQ_e | apply znil | apply wret | apply bodyQ_r | apply wblk | apply blkQ_n | apply blkQ_r | apply wskip | apply wexit)
 | fail)
  refine wloop (X := Int × Int) (fun p => 0 ≤ p.1 ∧ p.1 ≤ l.length ∧ p.2 = k + 2 * p.1 ∧ ∀ j : Int, 0 ≤ j → j < p.1 → rd l j = ⟨k + 2 * j, k + 2 * j + 1⟩) (fun p => ⟨31, 1, [(0, .c (.row 0 0 l.length)), (1, I p.2), (5, I p.1)], [ro 42 l]⟩) (fun p => (l.length - p.1).toNat) (0, k) [0] ⟨by dsimp only; omega, by dsimp only; omega, by dsimp only; omega, fun j h0 h1 => by dsimp only at h1; omega⟩ ⟨rfl, rfl, rfl, rfl, rfl, rfl, rfl, rfl⟩ (fun p hp => ?_)
  obtain ⟨i, kk⟩ := p
  obtain ⟨h0, hi, hkk, hall⟩ := hp
  dsimp only at h0 hi hkk hall ⊢
  repeat' (first
 | (with_reducible apply zds); exact tk; rfl; rfl; rfl; rfl; rfl
 | (with_reducible apply zd); rfl; exact tk; rfl
 | (with_reducible first | intro _ | apply wseq | apply zreg | apply thenQ_n | apply thenQ_r | apply thenQ_e | apply znil | apply wret | apply bodyQ_r | apply wblk | apply blkQ_n | apply blkQ_r | apply wskip | apply wexit)
 | apply wct rfl
 | apply wcf rfl
 | (with_reducible apply blkQ_x rfl)
 | (with_reducible apply zcmp); rfl; exact tk; rfl; rfl; rfl
 | (with_reducible apply zne); rfl; exact tk; rfl; rfl; rfl; rfl
 | (with_reducible apply zar); rfl; rfl; rfl; rfl; (first | omega | ((try simp only [List.length_append, List.length_cons, List.length_nil, List.length_map]); (try dsimp only); omega)); rfl; rfl
 | (with_reducible apply zix); rfl; exact tk; (iterate 7 rfl); (first | omega | ((try simp only [List.length_append, List.length_cons, List.length_nil, List.length_map]); (try dsimp only); omega)); rfl; rfl
 | (with_reducible apply zle); rfl; exact tk; rfl; rfl; rfl; rfl; (first | omega | ((try simp only [List.length_append, List.length_cons, List.length_nil, List.length_map]); (try dsimp only); omega)); rfl; rfl; rfl; rfl
 | fail)
  all_goals first
    | exact endI [0] rfl rfl rfl rfl rfl rfl (by
        rw [pick_t (ext_rd (by rw [mkAccount_len]) (fun j h1 h2 => by rw [hall j h1 (by omega), rd_mkAccount (by omega)]))]
        omega)
    | exact endI [0] rfl rfl rfl rfl rfl rfl (pick_f (fun e => by
        have he : rd l i = rd (mkAccount l.length k) i := by rw [← e]
        rw [rd_mkAccount (by omega)] at he
        have e0 := congrArg Account.No he
        have e1 := congrArg Account.Kind he
        dsimp only at *
        omega))
    | exact ⟨(i + 1, _), [0], ⟨by dsimp only; omega, by dsimp only; omega, by dsimp only; omega, all_step hall (by
        generalize rd l i = x at *
        cases x
        dsimp only at *
        congr 1 <;> omega)⟩, by dsimp only; omega, rfl, rfl, rfl, rfl, rfl, rfl, rfl, rfl⟩
set_option maxHeartbeats 4000000 in
theorem laws_heldInstrS {l : List Instr} {k : Int} {n : Nat} (hk : 0 ≤ k ∧ k ≤ 1099511627776) (hl : l.length ≤ 4294967296) (hn : n = l.length) : FC Tryz.prog 196 [.c (.row 0 0 n), I k] ([ro 74 l]) (I (pick (l = mkInstr n k) (k + 2 * n) (-1))) ([ro 74 l]) := by
  refine fent tk 31 [.tmp 4] Tryz.func196 (by kernel_rfl) rfl rfl rfl rfl rfl rfl rfl ?_
  subst hn
  repeat' (first
 | (with_reducible apply zd); rfl; exact tk; rfl
 | (with_reducible first | intro _ | apply wseq | apply zreg | apply thenQ_n | apply thenQ_r | apply thenQ_e | apply znil | apply wret | apply bodyQ_r | apply wblk | apply blkQ_n | apply blkQ_r | apply wskip | apply wexit)
 | fail)
  refine wloop (X := Int × Int) (fun p => 0 ≤ p.1 ∧ p.1 ≤ l.length ∧ p.2 = k + 2 * p.1 ∧ ∀ j : Int, 0 ≤ j → j < p.1 → rd l j = ⟨k + 2 * j, k + 2 * j + 1⟩) (fun p => ⟨31, 1, [(0, .c (.row 0 0 l.length)), (1, I p.2), (5, I p.1)], [ro 74 l]⟩) (fun p => (l.length - p.1).toNat) (0, k) [0] ⟨by dsimp only; omega, by dsimp only; omega, by dsimp only; omega, fun j h0 h1 => by dsimp only at h1; omega⟩ ⟨rfl, rfl, rfl, rfl, rfl, rfl, rfl, rfl⟩ (fun p hp => ?_)
  obtain ⟨i, kk⟩ := p
  obtain ⟨h0, hi, hkk, hall⟩ := hp
  dsimp only at h0 hi hkk hall ⊢
  repeat' (first
 | (with_reducible apply zds); exact tk; rfl; rfl; rfl; rfl; rfl
 | (with_reducible apply zd); rfl; exact tk; rfl
 | (with_reducible first | intro _ | apply wseq | apply zreg | apply thenQ_n | apply thenQ_r | apply thenQ_e | apply znil | apply wret | apply bodyQ_r | apply wblk | apply blkQ_n | apply blkQ_r | apply wskip | apply wexit)
 | apply wct rfl
 | apply wcf rfl
 | (with_reducible apply blkQ_x rfl)
 | (with_reducible apply zcmp); rfl; exact tk; rfl; rfl; rfl
 | (with_reducible apply zne); rfl; exact tk; rfl; rfl; rfl; rfl
 | (with_reducible apply zar); rfl; rfl; rfl; rfl; (first | omega | ((try simp only [List.length_append, List.length_cons, List.length_nil, List.length_map]); (try dsimp only); omega)); rfl; rfl
 | (with_reducible apply zix); rfl; exact tk; (iterate 7 rfl); (first | omega | ((try simp only [List.length_append, List.length_cons, List.length_nil, List.length_map]); (try dsimp only); omega)); rfl; rfl
 | (with_reducible apply zle); rfl; exact tk; rfl; rfl; rfl; rfl; (first | omega | ((try simp only [List.length_append, List.length_cons, List.length_nil, List.length_map]); (try dsimp only); omega)); rfl; rfl; rfl; rfl
 | fail)
  all_goals first
    | exact endI [0] rfl rfl rfl rfl rfl rfl (by
        rw [pick_t (ext_rd (by rw [mkInstr_len]) (fun j h1 h2 => by rw [hall j h1 (by omega), rd_mkInstr (by omega)]))]
        omega)
    | exact endI [0] rfl rfl rfl rfl rfl rfl (pick_f (fun e => by
        have he : rd l i = rd (mkInstr l.length k) i := by rw [← e]
        rw [rd_mkInstr (by omega)] at he
        have e0 := congrArg Instr.No he
        have e1 := congrArg Instr.Kind he
        dsimp only at *
        omega))
    | exact ⟨(i + 1, _), [0], ⟨by dsimp only; omega, by dsimp only; omega, by dsimp only; omega, all_step hall (by
        generalize rd l i = x at *
        cases x
        dsimp only at *
        congr 1 <;> omega)⟩, by dsimp only; omega, rfl, rfl, rfl, rfl, rfl, rfl, rfl, rfl⟩
set_option maxHeartbeats 4000000 in
theorem laws_heldBalS {l : List Bal} {k : Int} {n : Nat} (hk : 0 ≤ k ∧ k ≤ 1099511627776) (hl : l.length ≤ 4294967296) (hn : n = l.length) : FC Tryz.prog 197 [.c (.row 0 0 n), I k] ([ro 135 l]) (I (pick (l = mkBal n k) (k + 3 * n) (-1))) ([ro 135 l]) := by
  refine fent tk 40 [.tmp 4] Tryz.func197 (by kernel_rfl) rfl rfl rfl rfl rfl rfl rfl ?_
  subst hn
  repeat' (first
 | (with_reducible apply zd); rfl; exact tk; rfl
 | (with_reducible first | intro _ | apply wseq | apply zreg | apply thenQ_n | apply thenQ_r | apply thenQ_e | apply znil | apply wret | apply bodyQ_r | apply wblk | apply blkQ_n | apply blkQ_r | apply wskip | apply wexit)
 | fail)
  refine wloop (X := Int × Int) (fun p => 0 ≤ p.1 ∧ p.1 ≤ l.length ∧ p.2 = k + 3 * p.1 ∧ ∀ j : Int, 0 ≤ j → j < p.1 → rd l j = ⟨k + 3 * j, k + 3 * j + 1, k + 3 * j + 2⟩) (fun p => ⟨40, 1, [(0, .c (.row 0 0 l.length)), (1, I p.2), (5, I p.1)], [ro 135 l]⟩) (fun p => (l.length - p.1).toNat) (0, k) [0] ⟨by dsimp only; omega, by dsimp only; omega, by dsimp only; omega, fun j h0 h1 => by dsimp only at h1; omega⟩ ⟨rfl, rfl, rfl, rfl, rfl, rfl, rfl, rfl⟩ (fun p hp => ?_)
  obtain ⟨i, kk⟩ := p
  obtain ⟨h0, hi, hkk, hall⟩ := hp
  dsimp only at h0 hi hkk hall ⊢
  repeat' (first
 | (with_reducible apply zds); exact tk; rfl; rfl; rfl; rfl; rfl
 | (with_reducible apply zd); rfl; exact tk; rfl
 | (with_reducible first | intro _ | apply wseq | apply zreg | apply thenQ_n | apply thenQ_r | apply thenQ_e | apply znil | apply wret | apply bodyQ_r | apply wblk | apply blkQ_n | apply blkQ_r | apply wskip | apply wexit)
 | apply wct rfl
 | apply wcf rfl
 | (with_reducible apply blkQ_x rfl)
 | (with_reducible apply zcmp); rfl; exact tk; rfl; rfl; rfl
 | (with_reducible apply zne); rfl; exact tk; rfl; rfl; rfl; rfl
 | (with_reducible apply zar); rfl; rfl; rfl; rfl; (first | omega | ((try simp only [List.length_append, List.length_cons, List.length_nil, List.length_map]); (try dsimp only); omega)); rfl; rfl
 | (with_reducible apply zix); rfl; exact tk; (iterate 7 rfl); (first | omega | ((try simp only [List.length_append, List.length_cons, List.length_nil, List.length_map]); (try dsimp only); omega)); rfl; rfl
 | (with_reducible apply zle); rfl; exact tk; rfl; rfl; rfl; rfl; (first | omega | ((try simp only [List.length_append, List.length_cons, List.length_nil, List.length_map]); (try dsimp only); omega)); rfl; rfl; rfl; rfl
 | fail)
  all_goals first
    | exact endI [0] rfl rfl rfl rfl rfl rfl (by
        rw [pick_t (ext_rd (by rw [mkBal_len]) (fun j h1 h2 => by rw [hall j h1 (by omega), rd_mkBal (by omega)]))]
        omega)
    | exact endI [0] rfl rfl rfl rfl rfl rfl (pick_f (fun e => by
        have he : rd l i = rd (mkBal l.length k) i := by rw [← e]
        rw [rd_mkBal (by omega)] at he
        have e0 := congrArg Bal.Account he
        have e1 := congrArg Bal.Instr he
        have e2 := congrArg Bal.Amount he
        dsimp only at *
        omega))
    | exact ⟨(i + 1, _), [0], ⟨by dsimp only; omega, by dsimp only; omega, by dsimp only; omega, all_step hall (by
        generalize rd l i = x at *
        cases x
        dsimp only at *
        congr 1 <;> omega)⟩, by dsimp only; omega, rfl, rfl, rfl, rfl, rfl, rfl, rfl, rfl⟩
set_option maxHeartbeats 4000000 in
theorem laws_heldLotS {l : List Lot} {k : Int} {n : Nat} (hk : 0 ≤ k ∧ k ≤ 1099511627776) (hl : l.length ≤ 4294967296) (hn : n = l.length) : FC Tryz.prog 198 [.c (.row 0 0 n), I k] ([ro 137 l]) (I (pick (l = mkLot n k) (k + 5 * n) (-1))) ([ro 137 l]) := by
  refine fent tk 58 [.tmp 4] Tryz.func198 (by kernel_rfl) rfl rfl rfl rfl rfl rfl rfl ?_
  subst hn
  repeat' (first
 | (with_reducible apply zd); rfl; exact tk; rfl
 | (with_reducible first | intro _ | apply wseq | apply zreg | apply thenQ_n | apply thenQ_r | apply thenQ_e | apply znil | apply wret | apply bodyQ_r | apply wblk | apply blkQ_n | apply blkQ_r | apply wskip | apply wexit)
 | fail)
  refine wloop (X := Int × Int) (fun p => 0 ≤ p.1 ∧ p.1 ≤ l.length ∧ p.2 = k + 5 * p.1 ∧ ∀ j : Int, 0 ≤ j → j < p.1 → rd l j = ⟨k + 5 * j, k + 5 * j + 1, k + 5 * j + 2, k + 5 * j + 3, k + 5 * j + 4⟩) (fun p => ⟨58, 1, [(0, .c (.row 0 0 l.length)), (1, I p.2), (5, I p.1)], [ro 137 l]⟩) (fun p => (l.length - p.1).toNat) (0, k) [0] ⟨by dsimp only; omega, by dsimp only; omega, by dsimp only; omega, fun j h0 h1 => by dsimp only at h1; omega⟩ ⟨rfl, rfl, rfl, rfl, rfl, rfl, rfl, rfl⟩ (fun p hp => ?_)
  obtain ⟨i, kk⟩ := p
  obtain ⟨h0, hi, hkk, hall⟩ := hp
  dsimp only at h0 hi hkk hall ⊢
  repeat' (first
 | (with_reducible apply zds); exact tk; rfl; rfl; rfl; rfl; rfl
 | (with_reducible apply zd); rfl; exact tk; rfl
 | (with_reducible first | intro _ | apply wseq | apply zreg | apply thenQ_n | apply thenQ_r | apply thenQ_e | apply znil | apply wret | apply bodyQ_r | apply wblk | apply blkQ_n | apply blkQ_r | apply wskip | apply wexit)
 | apply wct rfl
 | apply wcf rfl
 | (with_reducible apply blkQ_x rfl)
 | (with_reducible apply zcmp); rfl; exact tk; rfl; rfl; rfl
 | (with_reducible apply zne); rfl; exact tk; rfl; rfl; rfl; rfl
 | (with_reducible apply zar); rfl; rfl; rfl; rfl; (first | omega | ((try simp only [List.length_append, List.length_cons, List.length_nil, List.length_map]); (try dsimp only); omega)); rfl; rfl
 | (with_reducible apply zix); rfl; exact tk; (iterate 7 rfl); (first | omega | ((try simp only [List.length_append, List.length_cons, List.length_nil, List.length_map]); (try dsimp only); omega)); rfl; rfl
 | (with_reducible apply zle); rfl; exact tk; rfl; rfl; rfl; rfl; (first | omega | ((try simp only [List.length_append, List.length_cons, List.length_nil, List.length_map]); (try dsimp only); omega)); rfl; rfl; rfl; rfl
 | fail)
  all_goals first
    | exact endI [0] rfl rfl rfl rfl rfl rfl (by
        rw [pick_t (ext_rd (by rw [mkLot_len]) (fun j h1 h2 => by rw [hall j h1 (by omega), rd_mkLot (by omega)]))]
        omega)
    | exact endI [0] rfl rfl rfl rfl rfl rfl (pick_f (fun e => by
        have he : rd l i = rd (mkLot l.length k) i := by rw [← e]
        rw [rd_mkLot (by omega)] at he
        have e0 := congrArg Lot.Account he
        have e1 := congrArg Lot.Instr he
        have e2 := congrArg Lot.No he
        have e3 := congrArg Lot.Qty he
        have e4 := congrArg Lot.Cost he
        dsimp only at *
        omega))
    | exact ⟨(i + 1, _), [0], ⟨by dsimp only; omega, by dsimp only; omega, by dsimp only; omega, all_step hall (by
        generalize rd l i = x at *
        cases x
        dsimp only at *
        congr 1 <;> omega)⟩, by dsimp only; omega, rfl, rfl, rfl, rfl, rfl, rfl, rfl, rfl⟩
set_option maxHeartbeats 4000000 in
theorem laws_heldTradeS {l : List Trade} {k : Int} {n : Nat} (hk : 0 ≤ k ∧ k ≤ 1099511627776) (hl : l.length ≤ 4294967296) (hn : n = l.length) : FC Tryz.prog 199 [.c (.row 0 0 n), I k] ([ro 103 l]) (I (pick (l = mkTrade n k) (k + 8 * n) (-1))) ([ro 103 l]) := by
  refine fent tk 85 [.tmp 4] Tryz.func199 (by kernel_rfl) rfl rfl rfl rfl rfl rfl rfl ?_
  subst hn
  repeat' (first
 | (with_reducible apply zd); rfl; exact tk; rfl
 | (with_reducible first | intro _ | apply wseq | apply zreg | apply thenQ_n | apply thenQ_r | apply thenQ_e | apply znil | apply wret | apply bodyQ_r | apply wblk | apply blkQ_n | apply blkQ_r | apply wskip | apply wexit)
 | fail)
  refine wloop (X := Int × Int) (fun p => 0 ≤ p.1 ∧ p.1 ≤ l.length ∧ p.2 = k + 8 * p.1 ∧ ∀ j : Int, 0 ≤ j → j < p.1 → rd l j = ⟨k + 8 * j, k + 8 * j + 1, k + 8 * j + 2, k + 8 * j + 3, k + 8 * j + 4, k + 8 * j + 5, k + 8 * j + 6, k + 8 * j + 7⟩) (fun p => ⟨85, 1, [(0, .c (.row 0 0 l.length)), (1, I p.2), (5, I p.1)], [ro 103 l]⟩) (fun p => (l.length - p.1).toNat) (0, k) [0] ⟨by dsimp only; omega, by dsimp only; omega, by dsimp only; omega, fun j h0 h1 => by dsimp only at h1; omega⟩ ⟨rfl, rfl, rfl, rfl, rfl, rfl, rfl, rfl⟩ (fun p hp => ?_)
  obtain ⟨i, kk⟩ := p
  obtain ⟨h0, hi, hkk, hall⟩ := hp
  dsimp only at h0 hi hkk hall ⊢
  repeat' (first
 | (with_reducible apply zds); exact tk; rfl; rfl; rfl; rfl; rfl
 | (with_reducible apply zd); rfl; exact tk; rfl
 | (with_reducible first | intro _ | apply wseq | apply zreg | apply thenQ_n | apply thenQ_r | apply thenQ_e | apply znil | apply wret | apply bodyQ_r | apply wblk | apply blkQ_n | apply blkQ_r | apply wskip | apply wexit)
 | apply wct rfl
 | apply wcf rfl
 | (with_reducible apply blkQ_x rfl)
 | (with_reducible apply zcmp); rfl; exact tk; rfl; rfl; rfl
 | (with_reducible apply zne); rfl; exact tk; rfl; rfl; rfl; rfl
 | (with_reducible apply zar); rfl; rfl; rfl; rfl; (first | omega | ((try simp only [List.length_append, List.length_cons, List.length_nil, List.length_map]); (try dsimp only); omega)); rfl; rfl
 | (with_reducible apply zix); rfl; exact tk; (iterate 7 rfl); (first | omega | ((try simp only [List.length_append, List.length_cons, List.length_nil, List.length_map]); (try dsimp only); omega)); rfl; rfl
 | (with_reducible apply zle); rfl; exact tk; rfl; rfl; rfl; rfl; (first | omega | ((try simp only [List.length_append, List.length_cons, List.length_nil, List.length_map]); (try dsimp only); omega)); rfl; rfl; rfl; rfl
 | fail)
  all_goals first
    | exact endI [0] rfl rfl rfl rfl rfl rfl (by
        rw [pick_t (ext_rd (by rw [mkTrade_len]) (fun j h1 h2 => by rw [hall j h1 (by omega), rd_mkTrade (by omega)]))]
        omega)
    | exact endI [0] rfl rfl rfl rfl rfl rfl (pick_f (fun e => by
        have he : rd l i = rd (mkTrade l.length k) i := by rw [← e]
        rw [rd_mkTrade (by omega)] at he
        have e0 := congrArg Trade.No he
        have e1 := congrArg Trade.Buyer he
        have e2 := congrArg Trade.Seller he
        have e3 := congrArg Trade.Paper he
        have e4 := congrArg Trade.Qty he
        have e5 := congrArg Trade.Cash he
        have e6 := congrArg Trade.Price he
        have e7 := congrArg Trade.State he
        dsimp only at *
        omega))
    | exact ⟨(i + 1, _), [0], ⟨by dsimp only; omega, by dsimp only; omega, by dsimp only; omega, all_step hall (by
        generalize rd l i = x at *
        cases x
        dsimp only at *
        congr 1 <;> omega)⟩, by dsimp only; omega, rfl, rfl, rfl, rfl, rfl, rfl, rfl, rfl⟩
end Go.Proofs.YtgehbhkfehmdkaaGreat.Sh
