/- Trades of the specification. No condition. -/
import Derived.Test.YtnlajjoheegbiaaGreatShTr
namespace Go.Proofs.YtnlajjoheegbiaaGreat.Sh
open Go.RowKit
set_option linter.unusedVariables false
set_option linter.unusedSimpArgs false
theorem trArgs_of {no bu se pa qt ca pr : Int} (h1 : isNo no) (h2 : isNo bu) (h3 : isNo se) (h4 : isNo pa) (h5 : inP qt 1 1000000000000000) (h6 : isNo ca) (h7 : inP pr 0 1000000000000000) : trArgs no bu se pa qt ca pr := ⟨fun x hx => by simp only [List.mem_cons, List.not_mem_nil, or_false] at hx; rcases hx with rfl | rfl | rfl | rfl | rfl <;> assumption, h5, h7⟩
theorem trArgs_to {no bu se pa qt ca pr : Int} (h : trArgs no bu se pa qt ca pr) : isNo no ∧ isNo bu ∧ isNo se ∧ isNo pa ∧ inP qt 1 1000000000000000 ∧ isNo ca ∧ inP pr 0 1000000000000000 := ⟨h.1 _ (by simp), h.1 _ (by simp), h.1 _ (by simp), h.1 _ (by simp), h.2.1, h.1 _ (by simp), h.2.2⟩
theorem pf_ins {l : List Trade} {i k : Int} {x : Trade} (h : 0 ≤ k ∧ k < i) (hi : i < l.length) : ins (pf l i) k x ++ [rd l i] = ins (pf l (i + 1)) k x := by
  rw [pf_succ ⟨by omega, hi⟩]
  have h1 : k.toNat ≤ (pf l i).length := by have := pf_len (l := l) (i := i) ⟨by omega, by omega⟩; omega
  unfold ins
  rw [List.take_append_of_le_length h1, List.drop_append_of_le_length h1]
  simp
theorem pf_ins0 {l : List Trade} {i : Int} {x : Trade} (h : 0 ≤ i ∧ i < l.length) : pf l i ++ [x] ++ [rd l i] = ins (pf l (i + 1)) i x := by
  rw [pf_succ h]
  have h1 : (pf l i).length = i.toNat := by have := pf_len (l := l) (i := i) ⟨by omega, by omega⟩; omega
  unfold ins
  rw [← h1, List.take_left, List.drop_left]
  simp
theorem pf_ins1 {l : List Trade} {i : Int} {x : Trade} (h : 0 ≤ i ∧ ¬ i < l.length) : pf l i ++ [x] = ins l l.length x := by
  rw [pf_all h.2, ins_end rfl]
set_option maxHeartbeats 4000000 in
theorem spec_BookTrade {ba : List Account} {bi : List Instr} {bb : List Bal} {bl : List Lot} {bt : List Trade} {bn : Int} {no bu se pa qt ca pr : Int} : FC Tryz.prog 29 [bkV 0 ⟨ba, bi, bb, bl, bt, bn⟩, I no, I bu, I se, I pa, I qt, I ca, I pr] (bkR ⟨ba, bi, bb, bl, bt, bn⟩) (.tup [bkE 5 (bookTrade ⟨ba, bi, bb, bl, bt, bn⟩ no bu se pa qt ca pr).1, I (bookTrade ⟨ba, bi, bb, bl, bt, bn⟩ no bu se pa qt ca pr).2]) (bkR ⟨ba, bi, bb, bl, bt, bn⟩ ++ bkW (bookTrade ⟨ba, bi, bb, bl, bt, bn⟩ no bu se pa qt ca pr).1) := by
  refine fent tk 182 [.cell 16 _, .tmp 17] Tryz.func29 (by kernel_rfl) rfl rfl rfl rfl rfl rfl rfl ?_
  by_cases hok : BooksOk ⟨ba, bi, bb, bl, bt, bn⟩
  rotate_left
  ·
    repeat' (first
      | (intro h9; exfalso; first | contradiction | omega)
      | (with_reducible apply znilC (d := 65) 0 94 2); rfl; rfl; rfl; rfl; rfl
      | (with_reducible apply znilC (d := 65) 1 95 2); rfl; rfl; rfl; rfl; rfl
      | (with_reducible apply znilC (d := 65) 2 97 3); rfl; rfl; rfl; rfl; rfl
      | (with_reducible apply znilC (d := 65) 3 99 5); rfl; rfl; rfl; rfl; rfl
      | (with_reducible apply znilC (d := 65) 4 101 8); rfl; rfl; rfl; rfl; rfl
      | (with_reducible apply zd); rfl; exact tk; rfl
      | (with_reducible first | intro _ | apply wseq | apply zreg | apply thenQ_n | apply thenQ_r | apply thenQ_e | apply znil | apply wret | apply bodyQ_r | apply wblk | apply blkQ_n | apply blkQ_r | apply wskip | apply wexit)
      | apply wct rfl
      | apply wcf rfl
      | (with_reducible apply blkQ_x rfl)
      | (with_reducible apply blkQ_y rfl)
      | (with_reducible apply zcmp); rfl; exact tk; rfl; rfl; rfl
      | (with_reducible apply zeq); rfl; exact tk; rfl; rfl; rfl; rfl
      | (with_reducible apply zne); rfl; exact tk; rfl; rfl; rfl; rfl
      | (with_reducible apply zar); rfl; rfl; rfl; rfl; (first | omega | ((try simp only [List.length_append, List.length_cons, List.length_nil, List.length_map]); (try dsimp only); omega)); rfl; rfl
      | (with_reducible apply zix); rfl; exact tk; rfl; rfl; rfl; rfl; rfl; rfl; rfl; (first | omega | ((try simp only [List.length_append, List.length_cons, List.length_nil, List.length_map]); (try dsimp only); omega)); rfl; rfl
      | (with_reducible apply zle); rfl; exact tk; rfl; rfl; rfl; rfl; (first | omega | ((try simp only [List.length_append, List.length_cons, List.length_nil, List.length_map]); (try dsimp only); omega)); rfl; rfl; rfl; rfl
      | (with_reducible apply zse); rfl; exact tk; rfl; rfl; rfl; rfl; rfl; rfl; (first | omega | ((try simp only [List.length_append, List.length_cons, List.length_nil, List.length_map]); (try dsimp only); omega)); rfl; rfl; rfl; rfl; rfl
      | (with_reducible apply zlit (α := Trade) (e := 101)); rfl; exact tk; rfl; rfl; rfl; rfl; rfl; rfl; rfl; rfl; rfl; rfl; rfl; rfl; rfl
      | (with_reducible apply zap); rfl; exact tk; rfl; rfl; rfl; rfl; rfl; rfl; rfl; rfl; rfl; rfl; (first | omega | ((try simp only [List.length_append, List.length_cons, List.length_nil, List.length_map]); (try dsimp only); omega)); rfl; rfl; rfl; rfl; rfl
      | refine zdq (id := 4) rfl (by kernel_rfl) [(.p, 0), (.p, 2), (.p, 4), (.p, 6), (.t, 1), (.t, 5), (.o, 3), (.o, 7), (.p, 8), (.p, 9)] [] (by kernel_rfl) rfl ?_
      | refine zdq (id := 5) rfl (by kernel_rfl) [(.p, 0), (.p, 2), (.p, 4), (.p, 6), (.t, 1), (.t, 5), (.o, 3), (.o, 7), (.p, 8), (.p, 9)] [] (by kernel_rfl) rfl ?_
      | (with_reducible apply zcp); rfl; rfl; rfl; rfl; rfl; rfl; rfl; rfl; rfl; rfl; (first | exact spec_BooksOk | exact spec_l3No | exact spec_l1Some); rfl; rfl
      | (with_reducible apply zcf); rfl; rfl; rfl; rfl; rfl; rfl; rfl; rfl; rfl; rfl; exact spec_l6Copy (by first | assumption | exact BooksOk.midB (by assumption)); rfl; rfl; rfl; rfl; rfl
      | (with_reducible apply zcq); rfl; rfl; rfl; rfl; rfl; rfl; rfl; rfl; rfl; rfl; (first | exact spec_AccountKind | exact spec_InstrKind); rfl; rfl
      | (with_reducible apply zc); rfl; rfl; rfl; rfl; rfl; rfl; rfl; rfl; rfl; rfl; (first | exact spec_AccountKind_ok (by assumption) | exact spec_InstrKind_ok (by assumption)); exact fun _ => rfl; rfl; rfl; rfl
      | (with_reducible apply zcs); rfl; rfl; rfl; rfl; rfl; rfl; rfl; rfl; rfl; rfl; exact spec_l7Find; exact fun _ => rfl; exact fun _ => rfl; rfl; rfl; rfl; rfl
      | fail)
    all_goals first
      | (rw [bt_bad (b := ⟨ba, bi, bb, bl, bt, bn⟩) (fun h => hok h.1)]
         exact endV [0, 1, 2, 3, 4, 7, 8, 9, 10, 11] rfl rfl rfl rfl rfl rfl)
  by_cases hta : trArgs no bu se pa qt ca pr
  rotate_left
  ·
    repeat' (first
      | (intro h9; exfalso; first | contradiction | omega)
      | (intro h9; exact absurd (trArgs_of (by assumption) (by assumption) (by assumption) (by assumption) (by assumption) (by assumption) h9) hta)
      | (with_reducible apply znilC (d := 65) 0 94 2); rfl; rfl; rfl; rfl; rfl
      | (with_reducible apply znilC (d := 65) 1 95 2); rfl; rfl; rfl; rfl; rfl
      | (with_reducible apply znilC (d := 65) 2 97 3); rfl; rfl; rfl; rfl; rfl
      | (with_reducible apply znilC (d := 65) 3 99 5); rfl; rfl; rfl; rfl; rfl
      | (with_reducible apply znilC (d := 65) 4 101 8); rfl; rfl; rfl; rfl; rfl
      | (with_reducible apply zd); rfl; exact tk; rfl
      | (with_reducible first | intro _ | apply wseq | apply zreg | apply thenQ_n | apply thenQ_r | apply thenQ_e | apply znil | apply wret | apply bodyQ_r | apply wblk | apply blkQ_n | apply blkQ_r | apply wskip | apply wexit)
      | apply wct rfl
      | apply wcf rfl
      | (with_reducible apply blkQ_x rfl)
      | (with_reducible apply blkQ_y rfl)
      | (with_reducible apply zcmp); rfl; exact tk; rfl; rfl; rfl
      | (with_reducible apply zeq); rfl; exact tk; rfl; rfl; rfl; rfl
      | (with_reducible apply zne); rfl; exact tk; rfl; rfl; rfl; rfl
      | (with_reducible apply zar); rfl; rfl; rfl; rfl; (first | omega | ((try simp only [List.length_append, List.length_cons, List.length_nil, List.length_map]); (try dsimp only); omega)); rfl; rfl
      | (with_reducible apply zix); rfl; exact tk; rfl; rfl; rfl; rfl; rfl; rfl; rfl; (first | omega | ((try simp only [List.length_append, List.length_cons, List.length_nil, List.length_map]); (try dsimp only); omega)); rfl; rfl
      | (with_reducible apply zle); rfl; exact tk; rfl; rfl; rfl; rfl; (first | omega | ((try simp only [List.length_append, List.length_cons, List.length_nil, List.length_map]); (try dsimp only); omega)); rfl; rfl; rfl; rfl
      | (with_reducible apply zse); rfl; exact tk; rfl; rfl; rfl; rfl; rfl; rfl; (first | omega | ((try simp only [List.length_append, List.length_cons, List.length_nil, List.length_map]); (try dsimp only); omega)); rfl; rfl; rfl; rfl; rfl
      | (with_reducible apply zlit (α := Trade) (e := 101)); rfl; exact tk; rfl; rfl; rfl; rfl; rfl; rfl; rfl; rfl; rfl; rfl; rfl; rfl; rfl
      | (with_reducible apply zap); rfl; exact tk; rfl; rfl; rfl; rfl; rfl; rfl; rfl; rfl; rfl; rfl; (first | omega | ((try simp only [List.length_append, List.length_cons, List.length_nil, List.length_map]); (try dsimp only); omega)); rfl; rfl; rfl; rfl; rfl
      | refine zdq (id := 4) rfl (by kernel_rfl) [(.p, 0), (.p, 2), (.p, 4), (.p, 6), (.t, 1), (.t, 5), (.o, 3), (.o, 7), (.p, 8), (.p, 9)] [] (by kernel_rfl) rfl ?_
      | refine zdq (id := 5) rfl (by kernel_rfl) [(.p, 0), (.p, 2), (.p, 4), (.p, 6), (.t, 1), (.t, 5), (.o, 3), (.o, 7), (.p, 8), (.p, 9)] [] (by kernel_rfl) rfl ?_
      | (with_reducible apply zcp); rfl; rfl; rfl; rfl; rfl; rfl; rfl; rfl; rfl; rfl; (first | exact spec_BooksOk | exact spec_l3No | exact spec_l1Some); rfl; rfl
      | (with_reducible apply zcf); rfl; rfl; rfl; rfl; rfl; rfl; rfl; rfl; rfl; rfl; exact spec_l6Copy (by first | assumption | exact BooksOk.midB (by assumption)); rfl; rfl; rfl; rfl; rfl
      | (with_reducible apply zcq); rfl; rfl; rfl; rfl; rfl; rfl; rfl; rfl; rfl; rfl; (first | exact spec_AccountKind | exact spec_InstrKind); rfl; rfl
      | (with_reducible apply zc); rfl; rfl; rfl; rfl; rfl; rfl; rfl; rfl; rfl; rfl; (first | exact spec_AccountKind_ok (by assumption) | exact spec_InstrKind_ok (by assumption)); exact fun _ => rfl; rfl; rfl; rfl
      | (with_reducible apply zcs); rfl; rfl; rfl; rfl; rfl; rfl; rfl; rfl; rfl; rfl; exact spec_l7Find; exact fun _ => rfl; exact fun _ => rfl; rfl; rfl; rfl; rfl
      | fail)
    all_goals first
      | (rw [bt_bad (b := ⟨ba, bi, bb, bl, bt, bn⟩) (fun h => hta h.2)]
         exact endV [0, 1, 2, 3, 4, 7, 8, 9, 10, 11] rfl rfl rfl rfl rfl rfl)
  have hA := hok.acc
  have hI := hok.ins
  have hl := hok.trades.2
  dsimp only at hA hI hl
  obtain ⟨k1, k2, k3, k4, k5, k6, k7⟩ := trArgs_to hta
  have hnn := fIx_nn bt (fun t => t.No = no)
  have hbb : BooksOk ⟨ba, bi, bb, bl, bt, bn⟩ ∧ trArgs no bu se pa qt ca pr := ⟨hok, hta⟩
  repeat' (first
    | (intro h9; exfalso; first | contradiction | omega)
    | (with_reducible apply zds); exact tk; rfl; rfl; rfl; rfl; rfl
    | (with_reducible apply zd); rfl; exact tk; rfl
    | (with_reducible first | intro _ | apply wseq | apply zreg | apply thenQ_n | apply thenQ_r | apply thenQ_e | apply znil | apply wret | apply bodyQ_r | apply wblk | apply blkQ_n | apply blkQ_r | apply wskip | apply wexit)
    | apply wct rfl
    | apply wcf rfl
    | (with_reducible apply blkQ_x rfl)
    | (with_reducible apply blkQ_y rfl)
    | (with_reducible apply zcmp); rfl; exact tk; rfl; rfl; rfl
    | (with_reducible apply zeq); rfl; exact tk; rfl; rfl; rfl; rfl
    | (with_reducible apply zne); rfl; exact tk; rfl; rfl; rfl; rfl
    | (with_reducible apply zar); rfl; rfl; rfl; rfl; (first | omega | ((try simp only [List.length_append, List.length_cons, List.length_nil, List.length_map]); (try dsimp only); omega)); rfl; rfl
    | (with_reducible apply zix); rfl; exact tk; rfl; rfl; rfl; rfl; rfl; rfl; rfl; (first | omega | ((try simp only [List.length_append, List.length_cons, List.length_nil, List.length_map]); (try dsimp only); omega)); rfl; rfl
    | (with_reducible apply zle); rfl; exact tk; rfl; rfl; rfl; rfl; (first | omega | ((try simp only [List.length_append, List.length_cons, List.length_nil, List.length_map]); (try dsimp only); omega)); rfl; rfl; rfl; rfl
    | (with_reducible apply zse); rfl; exact tk; rfl; rfl; rfl; rfl; rfl; rfl; (first | omega | ((try simp only [List.length_append, List.length_cons, List.length_nil, List.length_map]); (try dsimp only); omega)); rfl; rfl; rfl; rfl; rfl
    | (with_reducible apply zlit (α := Trade) (e := 101)); rfl; exact tk; rfl; rfl; rfl; rfl; rfl; rfl; rfl; rfl; rfl; rfl; rfl; rfl; rfl
    | (with_reducible apply zap); rfl; exact tk; rfl; rfl; rfl; rfl; rfl; rfl; rfl; rfl; rfl; rfl; (first | omega | ((try simp only [List.length_append, List.length_cons, List.length_nil, List.length_map]); (try dsimp only); omega)); rfl; rfl; rfl; rfl; rfl
    | refine zdq (id := 4) rfl (by kernel_rfl) [(.p, 0), (.p, 2), (.p, 4), (.p, 6), (.t, 1), (.t, 5), (.o, 3), (.o, 7), (.p, 8), (.p, 9)] [] (by kernel_rfl) rfl ?_
    | refine zdq (id := 5) rfl (by kernel_rfl) [(.p, 0), (.p, 2), (.p, 4), (.p, 6), (.t, 1), (.t, 5), (.o, 3), (.o, 7), (.p, 8), (.p, 9)] [] (by kernel_rfl) rfl ?_
    | (with_reducible apply zcp); rfl; rfl; rfl; rfl; rfl; rfl; rfl; rfl; rfl; rfl; (first | exact spec_BooksOk | exact spec_l3No | exact spec_l1Some); rfl; rfl
    | (with_reducible apply zcf); rfl; rfl; rfl; rfl; rfl; rfl; rfl; rfl; rfl; rfl; exact spec_l6Copy (by first | assumption | exact BooksOk.midB (by assumption)); rfl; rfl; rfl; rfl; rfl
    | (with_reducible apply zcq); rfl; rfl; rfl; rfl; rfl; rfl; rfl; rfl; rfl; rfl; (first | exact spec_AccountKind | exact spec_InstrKind); rfl; rfl
    | (with_reducible apply zc); rfl; rfl; rfl; rfl; rfl; rfl; rfl; rfl; rfl; rfl; (first | exact spec_AccountKind_ok (by assumption) | exact spec_InstrKind_ok (by assumption)); exact fun _ => rfl; rfl; rfl; rfl
    | (with_reducible apply zcs); rfl; rfl; rfl; rfl; rfl; rfl; rfl; rfl; rfl; rfl; exact spec_l7Find; exact fun _ => rfl; exact fun _ => rfl; rfl; rfl; rfl; rfl
    | fail)
  all_goals first
    | (have hk : ∃ t ∈ bt, t.No = no := by assumption
       rw [bt_2 (b := ⟨ba, bi, bb, bl, bt, bn⟩) hbb hk]
       exact endV [0, 1, 2, 3, 4, 7, 8, 9, 10, 11] rfl rfl rfl rfl rfl rfl)
    | (rw [bt_3 (b := ⟨ba, bi, bb, bl, bt, bn⟩) hbb (by assumption) (by dsimp only; omega)]
       exact endV [0, 1, 2, 3, 4, 7, 8, 9, 10, 11] rfl rfl rfl rfl rfl rfl)
    | (rw [bt_4 (b := ⟨ba, bi, bb, bl, bt, bn⟩) hbb (by assumption) (by dsimp only; omega) (by dsimp only; omega)]
       exact endV [0, 1, 2, 3, 4, 7, 8, 9, 10, 11] rfl rfl rfl rfl rfl rfl)
    | (rw [bt_7 (b := ⟨ba, bi, bb, bl, bt, bn⟩) hbb (by assumption) (by dsimp only; omega) (by dsimp only; omega)]
       exact endV [0, 1, 2, 3, 4, 7, 8, 9, 10, 11] rfl rfl rfl rfl rfl rfl)
    | skip
  all_goals
    have hne : ∀ j : Int, 0 ≤ j → j < bt.length → (rd bt j).No ≠ no := fun j h0 h1 e => (by assumption : ¬ ∃ t, t ∈ bt ∧ t.No = no) ⟨_, rd_mem ⟨h0, h1⟩, e⟩
    have hK := trIx_nn bt no
    have hKa := trIx_at (l := bt) (no := no)
    refine wlp (X := Int × Bool × List Trade) [1, 8, 16, 18, 23] [0, 1, 2, 3, 4, 5, 6, 7, 8, 9, 10, 11, 12, 13, 14] (fun x => [(26, I x.1), (25, B x.2.1), (24, .c (.row 14 0 x.2.2.length))]) (fun x => [(14, ow 101 x.2.2)]) (fun x => (0 ≤ x.1 ∧ x.1 ≤ bt.length) ∧ (x.2.1 = false → x.1 ≤ trIx bt no ∧ x.2.2 = pf bt x.1) ∧ (x.2.1 = true → trIx bt no < x.1 ∧ x.2.2 = ins (pf bt x.1) (trIx bt no) ⟨no, bu, se, pa, qt, ca, pr, 1⟩)) (fun x => (bt.length - x.1).toNat) (0, false, []) ⟨⟨by dsimp only; omega, by dsimp only; omega⟩, fun _ => ⟨hK.1, rfl⟩, fun h => by cases h⟩ rfl rfl (fun _ => rfl) (fun _ => rfl) ⟨rfl, rfl, rfl, rfl, rfl, rfl, rfl, rfl⟩ (fun x hx => ?_)
    obtain ⟨i, put, xs⟩ := x
    obtain ⟨h0, hf, ht⟩ := hx
    dsimp only at h0 hf ht ⊢
    have hb := fun h => trIx_bef (l := bt) (no := no) h0.1 h
    have hnei := hne i h0.1
    have hpl := pf_len h0
    cases put
    · obtain ⟨h1, h2⟩ := hf rfl
      have hxl : xs.length ≤ 30 := by rw [h2]; omega
      clear hf ht
      repeat' (first
        | (intro h9; exfalso; first | contradiction | omega)
        | (with_reducible apply zds); exact tk; rfl; rfl; rfl; rfl; rfl
        | (with_reducible apply zd); rfl; exact tk; rfl
        | (with_reducible first | intro _ | apply wseq | apply zreg | apply thenQ_n | apply thenQ_r | apply thenQ_e | apply znil | apply wret | apply bodyQ_r | apply wblk | apply blkQ_n | apply blkQ_r | apply wskip | apply wexit)
        | apply wct rfl
        | apply wcf rfl
        | (with_reducible apply blkQ_x rfl)
        | (with_reducible apply blkQ_y rfl)
        | (with_reducible apply zcmp); rfl; exact tk; rfl; rfl; rfl
        | (with_reducible apply zeq); rfl; exact tk; rfl; rfl; rfl; rfl
        | (with_reducible apply zne); rfl; exact tk; rfl; rfl; rfl; rfl
        | (with_reducible apply zar); rfl; rfl; rfl; rfl; (first | omega | ((try simp only [List.length_append, List.length_cons, List.length_nil, List.length_map]); (try dsimp only); omega)); rfl; rfl
        | (with_reducible apply zix); rfl; exact tk; rfl; rfl; rfl; rfl; rfl; rfl; rfl; (first | omega | ((try simp only [List.length_append, List.length_cons, List.length_nil, List.length_map]); (try dsimp only); omega)); rfl; rfl
        | (with_reducible apply zle); rfl; exact tk; rfl; rfl; rfl; rfl; (first | omega | ((try simp only [List.length_append, List.length_cons, List.length_nil, List.length_map]); (try dsimp only); omega)); rfl; rfl; rfl; rfl
        | (with_reducible apply zse); rfl; exact tk; rfl; rfl; rfl; rfl; rfl; rfl; (first | omega | ((try simp only [List.length_append, List.length_cons, List.length_nil, List.length_map]); (try dsimp only); omega)); rfl; rfl; rfl; rfl; rfl
        | (with_reducible apply zlit (α := Trade) (e := 101)); rfl; exact tk; rfl; rfl; rfl; rfl; rfl; rfl; rfl; rfl; rfl; rfl; rfl; rfl; rfl
        | (with_reducible apply zap); rfl; exact tk; rfl; rfl; rfl; rfl; rfl; rfl; rfl; rfl; rfl; rfl; (first | omega | ((try simp only [List.length_append, List.length_cons, List.length_nil, List.length_map]); (try dsimp only); omega)); rfl; rfl; rfl; rfl; rfl
        | refine zdq (id := 4) rfl (by kernel_rfl) [(.p, 0), (.p, 2), (.p, 4), (.p, 6), (.t, 1), (.t, 5), (.o, 3), (.o, 7), (.p, 8), (.p, 9)] [] (by kernel_rfl) rfl ?_
        | refine zdq (id := 5) rfl (by kernel_rfl) [(.p, 0), (.p, 2), (.p, 4), (.p, 6), (.t, 1), (.t, 5), (.o, 3), (.o, 7), (.p, 8), (.p, 9)] [] (by kernel_rfl) rfl ?_
        | (with_reducible apply zcp); rfl; rfl; rfl; rfl; rfl; rfl; rfl; rfl; rfl; rfl; (first | exact spec_BooksOk | exact spec_l3No | exact spec_l1Some); rfl; rfl
        | (with_reducible apply zcf); rfl; rfl; rfl; rfl; rfl; rfl; rfl; rfl; rfl; rfl; exact spec_l6Copy (by first | assumption | exact BooksOk.midB (by assumption)); rfl; rfl; rfl; rfl; rfl
        | (with_reducible apply zcq); rfl; rfl; rfl; rfl; rfl; rfl; rfl; rfl; rfl; rfl; (first | exact spec_AccountKind | exact spec_InstrKind); rfl; rfl
        | (with_reducible apply zc); rfl; rfl; rfl; rfl; rfl; rfl; rfl; rfl; rfl; rfl; (first | exact spec_AccountKind_ok (by assumption) | exact spec_InstrKind_ok (by assumption)); exact fun _ => rfl; rfl; rfl; rfl
        | (with_reducible apply zcs); rfl; rfl; rfl; rfl; rfl; rfl; rfl; rfl; rfl; rfl; exact spec_l7Find; exact fun _ => rfl; exact fun _ => rfl; rfl; rfl; rfl; rfl
        | fail)
      all_goals first
        | (rename_i hi hgt
           have e : trIx bt no = i := by omega
           exact endR (i + 1, true, xs ++ [⟨no, bu, se, pa, qt, ca, pr, 1⟩] ++ [rd bt i]) [0, 1, 2, 3, 4, 5, 6, 7, 8, 9, 10, 11, 12, 13, 18] ⟨rfl, rfl, rfl, rfl, rfl, rfl, rfl, rfl⟩ ⟨⟨by dsimp only; omega, by dsimp only; omega⟩, fun h => (by cases h), fun _ => ⟨by dsimp only; omega, by dsimp only; rw [h2, pf_ins0 ⟨h0.1, hi⟩, e]⟩⟩ (by first | omega | (dsimp only; omega)))
        | (rename_i hi hgt
           have e : i ≠ trIx bt no := fun e => by
             have q1 := hKa (by omega)
             rw [← e] at q1
             have q2 := hnei hi
             omega
           exact endR (i + 1, false, xs ++ [rd bt i]) [0, 1, 2, 3, 4, 5, 6, 7, 8, 9, 10, 11, 12, 13, 16] ⟨rfl, rfl, rfl, rfl, rfl, rfl, rfl, rfl⟩ ⟨⟨by dsimp only; omega, by dsimp only; omega⟩, fun _ => ⟨by dsimp only; omega, by dsimp only; rw [h2, pf_succ ⟨h0.1, hi⟩]⟩, fun h => (by cases h)⟩ (by first | omega | (dsimp only; omega)))
        | (rename_i hi
           rw [bt_0 (b := ⟨ba, bi, bb, bl, bt, bn⟩) (r := xs ++ [⟨no, bu, se, pa, qt, ca, pr, 1⟩]) hbb (by assumption) (by dsimp only; omega) (by dsimp only; omega) (by rw [h2, pf_ins1 ⟨h0.1, hi⟩, ← show trIx bt no = bt.length from by omega]; rfl)]
           exact endV [0, 1, 2, 3, 4, 7, 8, 9, 10, 16] rfl rfl rfl rfl rfl rfl)
    · obtain ⟨h1, h2⟩ := ht rfl
      have hxl : xs.length ≤ 31 := by rw [h2, ins_len ⟨by omega, by omega⟩]; omega
      clear hf ht
      repeat' (first
        | (intro h9; exfalso; first | contradiction | omega)
        | (with_reducible apply zds); exact tk; rfl; rfl; rfl; rfl; rfl
        | (with_reducible apply zd); rfl; exact tk; rfl
        | (with_reducible first | intro _ | apply wseq | apply zreg | apply thenQ_n | apply thenQ_r | apply thenQ_e | apply znil | apply wret | apply bodyQ_r | apply wblk | apply blkQ_n | apply blkQ_r | apply wskip | apply wexit)
        | apply wct rfl
        | apply wcf rfl
        | (with_reducible apply blkQ_x rfl)
        | (with_reducible apply blkQ_y rfl)
        | (with_reducible apply zcmp); rfl; exact tk; rfl; rfl; rfl
        | (with_reducible apply zeq); rfl; exact tk; rfl; rfl; rfl; rfl
        | (with_reducible apply zne); rfl; exact tk; rfl; rfl; rfl; rfl
        | (with_reducible apply zar); rfl; rfl; rfl; rfl; (first | omega | ((try simp only [List.length_append, List.length_cons, List.length_nil, List.length_map]); (try dsimp only); omega)); rfl; rfl
        | (with_reducible apply zix); rfl; exact tk; rfl; rfl; rfl; rfl; rfl; rfl; rfl; (first | omega | ((try simp only [List.length_append, List.length_cons, List.length_nil, List.length_map]); (try dsimp only); omega)); rfl; rfl
        | (with_reducible apply zle); rfl; exact tk; rfl; rfl; rfl; rfl; (first | omega | ((try simp only [List.length_append, List.length_cons, List.length_nil, List.length_map]); (try dsimp only); omega)); rfl; rfl; rfl; rfl
        | (with_reducible apply zse); rfl; exact tk; rfl; rfl; rfl; rfl; rfl; rfl; (first | omega | ((try simp only [List.length_append, List.length_cons, List.length_nil, List.length_map]); (try dsimp only); omega)); rfl; rfl; rfl; rfl; rfl
        | (with_reducible apply zlit (α := Trade) (e := 101)); rfl; exact tk; rfl; rfl; rfl; rfl; rfl; rfl; rfl; rfl; rfl; rfl; rfl; rfl; rfl
        | (with_reducible apply zap); rfl; exact tk; rfl; rfl; rfl; rfl; rfl; rfl; rfl; rfl; rfl; rfl; (first | omega | ((try simp only [List.length_append, List.length_cons, List.length_nil, List.length_map]); (try dsimp only); omega)); rfl; rfl; rfl; rfl; rfl
        | refine zdq (id := 4) rfl (by kernel_rfl) [(.p, 0), (.p, 2), (.p, 4), (.p, 6), (.t, 1), (.t, 5), (.o, 3), (.o, 7), (.p, 8), (.p, 9)] [] (by kernel_rfl) rfl ?_
        | refine zdq (id := 5) rfl (by kernel_rfl) [(.p, 0), (.p, 2), (.p, 4), (.p, 6), (.t, 1), (.t, 5), (.o, 3), (.o, 7), (.p, 8), (.p, 9)] [] (by kernel_rfl) rfl ?_
        | (with_reducible apply zcp); rfl; rfl; rfl; rfl; rfl; rfl; rfl; rfl; rfl; rfl; (first | exact spec_BooksOk | exact spec_l3No | exact spec_l1Some); rfl; rfl
        | (with_reducible apply zcf); rfl; rfl; rfl; rfl; rfl; rfl; rfl; rfl; rfl; rfl; exact spec_l6Copy (by first | assumption | exact BooksOk.midB (by assumption)); rfl; rfl; rfl; rfl; rfl
        | (with_reducible apply zcq); rfl; rfl; rfl; rfl; rfl; rfl; rfl; rfl; rfl; rfl; (first | exact spec_AccountKind | exact spec_InstrKind); rfl; rfl
        | (with_reducible apply zc); rfl; rfl; rfl; rfl; rfl; rfl; rfl; rfl; rfl; rfl; (first | exact spec_AccountKind_ok (by assumption) | exact spec_InstrKind_ok (by assumption)); exact fun _ => rfl; rfl; rfl; rfl
        | (with_reducible apply zcs); rfl; rfl; rfl; rfl; rfl; rfl; rfl; rfl; rfl; rfl; exact spec_l7Find; exact fun _ => rfl; exact fun _ => rfl; rfl; rfl; rfl; rfl
        | fail)
      all_goals first
        | (rename_i hi
           exact endR (i + 1, true, xs ++ [rd bt i]) [0, 1, 2, 3, 4, 5, 6, 7, 8, 9, 10, 11, 12, 13, 16] ⟨rfl, rfl, rfl, rfl, rfl, rfl, rfl, rfl⟩ ⟨⟨by dsimp only; omega, by dsimp only; omega⟩, fun h => (by cases h), fun _ => ⟨by dsimp only; omega, by dsimp only; rw [h2, pf_ins ⟨hK.1, h1⟩ hi]⟩⟩ (by first | omega | (dsimp only; omega)))
        | (rename_i hi
           rw [bt_0 (b := ⟨ba, bi, bb, bl, bt, bn⟩) (r := xs) hbb (by assumption) (by dsimp only; omega) (by dsimp only; omega) (by rw [h2, pf_all hi]; rfl)]
           exact endV [0, 1, 2, 3, 4, 7, 8, 9, 10, 14] rfl rfl rfl rfl rfl rfl)
end Go.Proofs.YtnlajjoheegbiaaGreat.Sh
