/- The trades of a stretch are settled net: both sides. No condition. -/
import Derived.Test.YtnlajjoheegbiaaGreatKNeShTs
import Derived.Test.YtnlajjoheegbiaaGreatKNeShNn
namespace Go.Proofs.YtnlajjoheegbiaaGreat.Sh
open Go.RowKit
set_option linter.unusedVariables false
set_option linter.unusedSimpArgs false
noncomputable def stN (way : Int) (s : Books × Int × Int) (no : Int) : Books × Int × Int :=
  sel (s.2.2 = 0) (sel ((bookSettle s.1 no way).2.2 = 0) ((bookSettle s.1 no way).1, s.2.1 + (bookSettle s.1 no way).2.1, 0) (s.1, s.2.1, (bookSettle s.1 no way).2.2)) s
noncomputable def nsF (b : Books) (way : Int) (L : List Int) : Books × Int × Int := L.foldl (stN way) (b, 0, 0)
theorem nsF_succ {b : Books} {way : Int} {L : List Int} {i : Int} (h : 0 ≤ i ∧ i < L.length) : nsF b way (pf L (i + 1)) = stN way (nsF b way (pf L i)) (rd L i) := by
  unfold nsF
  rw [pf_succ h, List.foldl_append]
  rfl
theorem stN_y {way g : Int} {o : Books} {no : Int} (h : (bookSettle o no way).2.2 = 0) : stN way (o, g, 0) no = ((bookSettle o no way).1, g + (bookSettle o no way).2.1, 0) := by
  rw [stN, sel_t (show (o, g, (0 : Int)).2.2 = 0 from rfl), sel_t h]
theorem stN_n {way g : Int} {o : Books} {no : Int} (h : ¬ (bookSettle o no way).2.2 = 0) : stN way (o, g, 0) no = (o, g, (bookSettle o no way).2.2) := by
  rw [stN, sel_t (show (o, g, (0 : Int)).2.2 = 0 from rfl), sel_f h]
theorem foldl_stN_bad {way : Int} : ∀ (L : List Int) {s : Books × Int × Int}, ¬ s.2.2 = 0 → L.foldl (stN way) s = s
  | [], _, _ => rfl
  | x :: L, s, h => by rw [List.foldl_cons, show stN way s x = s from by rw [stN, sel_f h], foldl_stN_bad L h]
theorem nsF_bad {b : Books} {way : Int} {L : List Int} {i g : Int} {o : Books} (h : 0 ≤ i ∧ i < L.length) (e : nsF b way (pf L i) = (o, g, 0)) (hn : ¬ (bookSettle o (rd L i) way).2.2 = 0) : (nsF b way L).2.2 = (bookSettle o (rd L i) way).2.2 := by
  have h2 := nsF_succ (b := b) (way := way) h
  rw [e, stN_n hn] at h2
  have h3 : nsF b way L = nsF b way (pf L (i + 1)) := by
    have h4 : L = pf L (i + 1) ++ L.drop (i + 1).toNat := by unfold pf; rw [List.take_append_drop]
    have h5 : nsF b way L = (L.drop (i + 1).toNat).foldl (stN way) (nsF b way (pf L (i + 1))) := by
      unfold nsF
      rw [← List.foldl_append, ← h4]
    rw [h5]
    exact foldl_stN_bad _ (by rw [h2]; exact hn)
  rw [h3, h2]
theorem settle_bd (b : Books) (no way : Int) : -1000000000000000 ≤ (bookSettle b no way).2.1 ∧ (bookSettle b no way).2.1 ≤ 1000000000000000 := by
  have hz : -1000000000000000 ≤ (0 : Int) ∧ (0 : Int) ≤ 1000000000000000 := by omega
  by_cases c0 : BooksOk b ∧ isNo no ∧ inP way 1 3
  rotate_left
  · rw [bookSettle_0 c0]; exact hz
  have c0' : ¬ ¬ (BooksOk b ∧ isNo no ∧ inP way 1 3) := fun k => k c0
  by_cases c1 : tOpen b.Trades no
  rotate_left
  · rw [bookSettle_1 c0' c1]; exact hz
  have c1' : ¬ ¬ tOpen b.Trades no := fun k => k c1
  obtain ⟨hta1, hta2⟩ := tAt_bnd c1.1
  obtain ⟨q1, q2, q3, q4, q5, q6, hq, hp, q7⟩ := c0.1.trades.1 _ hta1 hta2
  have htc := take_bd c0.1 (a := (rd b.Trades (tAt b.Trades no)).Seller) (c := (rd b.Trades (tAt b.Trades no)).Paper) (q := (rd b.Trades (tAt b.Trades no)).Qty) (w := way)
  unfold inP at hp
  by_cases c2 : (poR b (tLegs (rd b.Trades (tAt b.Trades no)))).2 = 0
  rotate_left
  · rw [bookSettle_2 c0' c1' c2]; exact hz
  by_cases c3 : tN b.Lots (rd b.Trades (tAt b.Trades no)).Seller (rd b.Trades (tAt b.Trades no)).Paper (rd b.Trades (tAt b.Trades no)).Qty way = 0
  rotate_left
  · rw [bookSettle_3 c0' c1' (fun k => k c2) c3]; exact hz
  by_cases c4 : opOk (tL b.Lots (rd b.Trades (tAt b.Trades no)).Seller (rd b.Trades (tAt b.Trades no)).Paper (rd b.Trades (tAt b.Trades no)).Qty way) b.Lot (rd b.Trades (tAt b.Trades no)).Buyer (rd b.Trades (tAt b.Trades no)).Paper (rd b.Trades (tAt b.Trades no)).Qty (rd b.Trades (tAt b.Trades no)).Price
  rotate_left
  · rw [bookSettle_4 c0' c1' (fun k => k c2) (fun k => k c3) c4]; exact hz
  rw [bookSettle_5 c0' c1' (fun k => k c2) (fun k => k c3) (fun k => k c4)]
  dsimp only
  omega
theorem tOs_len {l : List Trade} {fr to : Int} : (tOs l fr to).length ≤ l.length := by
  rw [tOs, List.length_map]
  exact flt_le (fun t : Trade => t.State = 1 ∧ inP t.No fr to) l
noncomputable def bookNet (b : Books) (fr to way : Int) : Books × List Leg × Int × Int :=
  sel (¬ (BooksOk b ∧ isNo fr ∧ isNo to ∧ inP way 1 3)) (⟨[], [], [], [], [], 0⟩, [], 0, 1)
  (sel (¬ 0 < ((tOs b.Trades fr to).length : Int)) (b, [], 0, 3)
  (sel (¬ (nsF b way (tOs b.Trades fr to)).2.2 = 0) (b, [], 0, (nsF b way (tOs b.Trades fr to)).2.2)
  (sel (¬ (NetOk b (tOs b.Trades fr to) ∧ amountOk (nsF b way (tOs b.Trades fr to)).2.1)) (b, [], 0, 8)
  ((nsF b way (tOs b.Trades fr to)).1, netR b (tOs b.Trades fr to), (nsF b way (tOs b.Trades fr to)).2.1, 0))))
theorem bookNet_0 {b : Books} {fr to way : Int}  (c0 : ¬ (BooksOk b ∧ isNo fr ∧ isNo to ∧ inP way 1 3)) : bookNet b fr to way = (⟨[], [], [], [], [], 0⟩, [], 0, 1) := by
  rw [bookNet, sel_t c0]
theorem bookNet_1 {b : Books} {fr to way : Int} (c0 : ¬ (¬ (BooksOk b ∧ isNo fr ∧ isNo to ∧ inP way 1 3))) (c1 : ¬ 0 < ((tOs b.Trades fr to).length : Int)) : bookNet b fr to way = (b, [], 0, 3) := by
  rw [bookNet, sel_f c0, sel_t c1]
theorem bookNet_2 {b : Books} {fr to way : Int} (c0 : ¬ (¬ (BooksOk b ∧ isNo fr ∧ isNo to ∧ inP way 1 3))) (c1 : ¬ (¬ 0 < ((tOs b.Trades fr to).length : Int))) (c2 : ¬ (nsF b way (tOs b.Trades fr to)).2.2 = 0) : bookNet b fr to way = (b, [], 0, (nsF b way (tOs b.Trades fr to)).2.2) := by
  rw [bookNet, sel_f c0, sel_f c1, sel_t c2]
theorem bookNet_3 {b : Books} {fr to way : Int} (c0 : ¬ (¬ (BooksOk b ∧ isNo fr ∧ isNo to ∧ inP way 1 3))) (c1 : ¬ (¬ 0 < ((tOs b.Trades fr to).length : Int))) (c2 : ¬ (¬ (nsF b way (tOs b.Trades fr to)).2.2 = 0)) (c3 : ¬ (NetOk b (tOs b.Trades fr to) ∧ amountOk (nsF b way (tOs b.Trades fr to)).2.1)) : bookNet b fr to way = (b, [], 0, 8) := by
  rw [bookNet, sel_f c0, sel_f c1, sel_f c2, sel_t c3]
theorem bookNet_4 {b : Books} {fr to way : Int} (c0 : ¬ (¬ (BooksOk b ∧ isNo fr ∧ isNo to ∧ inP way 1 3))) (c1 : ¬ (¬ 0 < ((tOs b.Trades fr to).length : Int))) (c2 : ¬ (¬ (nsF b way (tOs b.Trades fr to)).2.2 = 0)) (c3 : ¬ (¬ (NetOk b (tOs b.Trades fr to) ∧ amountOk (nsF b way (tOs b.Trades fr to)).2.1))) : bookNet b fr to way = ((nsF b way (tOs b.Trades fr to)).1, netR b (tOs b.Trades fr to), (nsF b way (tOs b.Trades fr to)).2.1, 0) := by
  rw [bookNet, sel_f c0, sel_f c1, sel_f c2, sel_f c3]
set_option maxHeartbeats 4000000 in
theorem impl_BookNet {ba : List Account} {bi : List Instr} {bb : List Bal} {bl : List Lot} {bt : List Trade} {bn : Int} {fr to way : Int} : FC Tryz.prog 39 [bkV 0 ⟨ba, bi, bb, bl, bt, bn⟩, I fr, I to, I way] (bkR ⟨ba, bi, bb, bl, bt, bn⟩) (.tup [bkE 5 (bookNet ⟨ba, bi, bb, bl, bt, bn⟩ fr to way).1, .c (.row 10 0 (bookNet ⟨ba, bi, bb, bl, bt, bn⟩ fr to way).2.1.length), I (bookNet ⟨ba, bi, bb, bl, bt, bn⟩ fr to way).2.2.1, I (bookNet ⟨ba, bi, bb, bl, bt, bn⟩ fr to way).2.2.2]) (bkR ⟨ba, bi, bb, bl, bt, bn⟩ ++ bkW (bookNet ⟨ba, bi, bb, bl, bt, bn⟩ fr to way).1 ++ [ow 117 (bookNet ⟨ba, bi, bb, bl, bt, bn⟩ fr to way).2.1]) := by
  refine fent tk 91 [.cell 8 _, .tmp 9, .tmp 10, .tmp 11] Tryz.func39 (by kernel_rfl) rfl rfl rfl rfl rfl rfl rfl ?_
  by_cases hok : BooksOk ⟨ba, bi, bb, bl, bt, bn⟩
  rotate_left
  ·
    rw [bookNet_0 (b := ⟨ba, bi, bb, bl, bt, bn⟩) (fun h => hok h.1)]
    repeat' (first
 | (intro h9; exfalso; first | contradiction | omega)
 | (with_reducible apply znilC (d := 37) 0 94 2); rfl; rfl; rfl; rfl; rfl
 | (with_reducible apply znilC (d := 37) 1 95 2); rfl; rfl; rfl; rfl; rfl
 | (with_reducible apply znilC (d := 37) 2 97 3); rfl; rfl; rfl; rfl; rfl
 | (with_reducible apply znilC (d := 37) 3 99 5); rfl; rfl; rfl; rfl; rfl
 | (with_reducible apply znilC (d := 37) 4 101 8); rfl; rfl; rfl; rfl; rfl
 | (with_reducible apply znila (d := 9) 117 3); rfl; rfl; rfl
 | (with_reducible apply zd); rfl; exact tk; rfl
 | (with_reducible first | intro _ | apply wseq | apply zreg | apply thenQ_n | apply thenQ_r | apply thenQ_e | apply znil | apply wret | apply bodyQ_r | apply wblk | apply blkQ_n | apply blkQ_r | apply wskip | apply wexit)
 | apply wct rfl
 | (with_reducible apply zcp); (iterate 10 rfl); (first | exact impl_BooksOk | exact impl_nosOk | exact impl_in | exact impl_AmountOk); rfl; rfl
 | fail)
    all_goals first | (first | exact endV [0, 1, 2, 3, 4, 8, 9, 10, 11, 12, 13] rfl rfl rfl rfl rfl rfl | exact endV [0, 1, 2, 3, 4, 9, 10, 11, 12, 13, 14] rfl rfl rfl rfl rfl rfl) | trace_state
  by_cases hta : isNo fr ∧ isNo to ∧ inP way 1 3
  rotate_left
  ·
    rw [bookNet_0 (b := ⟨ba, bi, bb, bl, bt, bn⟩) (fun h => hta h.2)]
    repeat' (first
 | (intro h9; exfalso; first | contradiction | omega)
 | (intro h9; refine absurd ⟨?_, ?_, ?_⟩ hta; exact (show ∀ x ∈ [fr, to], isNo x by assumption) _ (.head _); exact (show ∀ x ∈ [fr, to], isNo x by assumption) _ (.tail _ (.head _)); assumption)
 | (with_reducible apply znilC (d := 37) 0 94 2); rfl; rfl; rfl; rfl; rfl
 | (with_reducible apply znilC (d := 37) 1 95 2); rfl; rfl; rfl; rfl; rfl
 | (with_reducible apply znilC (d := 37) 2 97 3); rfl; rfl; rfl; rfl; rfl
 | (with_reducible apply znilC (d := 37) 3 99 5); rfl; rfl; rfl; rfl; rfl
 | (with_reducible apply znilC (d := 37) 4 101 8); rfl; rfl; rfl; rfl; rfl
 | (with_reducible apply znila (d := 9) 117 3); rfl; rfl; rfl
 | (with_reducible apply zd); rfl; exact tk; rfl
 | (with_reducible first | intro _ | apply wseq | apply zreg | apply thenQ_n | apply thenQ_r | apply thenQ_e | apply znil | apply wret | apply bodyQ_r | apply wblk | apply blkQ_n | apply blkQ_r | apply wskip | apply wexit)
 | apply wct rfl
 | (with_reducible apply zlit (α := Int) (e := 3)); rfl; exact tk; (iterate 13 rfl)
 | (with_reducible apply zcp); (iterate 10 rfl); (first | exact impl_BooksOk | exact impl_nosOk | exact impl_in | exact impl_AmountOk); rfl; rfl
 | fail)
    all_goals first | (first | exact endV [0, 1, 2, 3, 4, 8, 9, 10, 11, 12, 13] rfl rfl rfl rfl rfl rfl | exact endV [0, 1, 2, 3, 4, 9, 10, 11, 12, 13, 14] rfl rfl rfl rfl rfl rfl) | trace_state
  have hto := hok.trades
  have htl := hto.2
  obtain ⟨k1, k2, k3⟩ := id hta
  have hno : ∀ x ∈ [fr, to], isNo x := fun x hx => by simp only [List.mem_cons, List.not_mem_nil, or_false] at hx; rcases hx with rfl | rfl <;> assumption
  dsimp only at hto htl
  have c0 : ¬ ¬ (BooksOk ⟨ba, bi, bb, bl, bt, bn⟩ ∧ isNo fr ∧ isNo to ∧ inP way 1 3) := fun k => k ⟨hok, hta⟩
  have hol := tOs_len (l := bt) (fr := fr) (to := to)
  by_cases hop : 0 < ((tOs bt fr to).length : Int)
  rotate_left
  ·
    rw [bookNet_1 (b := ⟨ba, bi, bb, bl, bt, bn⟩) c0 hop]
    repeat' (first
 | (intro h9; exfalso; first | contradiction | omega)
 | (with_reducible apply zds); exact tk; rfl; rfl; rfl; rfl; rfl
 | (with_reducible apply zd); rfl; exact tk; rfl
 | (with_reducible apply znila (d := 9) 117 3); rfl; rfl; rfl
 | (with_reducible first | intro _ | apply wseq | apply zreg | apply thenQ_n | apply thenQ_r | apply thenQ_e | apply znil | apply wret | apply bodyQ_r | apply wblk | apply blkQ_n | apply blkQ_r | apply wskip | apply wexit)
 | apply wct rfl
 | apply wcf rfl
 | (with_reducible apply zcmp); rfl; exact tk; rfl; rfl; rfl
 | (with_reducible apply zlit (α := Int) (e := 3)); rfl; exact tk; (iterate 13 rfl)
 | (with_reducible apply zcp); (iterate 10 rfl); (first | exact impl_BooksOk | exact impl_nosOk | exact impl_in | exact impl_AmountOk); rfl; rfl
 | (with_reducible apply zcf); (iterate 10 rfl); (first | exact impl_TradesOpen (by assumption) | exact impl_cloneBooks (by first | assumption | exact BooksOk.midB (by assumption)) | exact impl_BookSettle_r (by assumption) | exact impl_BookSettle); rfl; rfl; rfl; rfl; rfl
 | fail)
    all_goals first | (first | exact endV [0, 1, 2, 3, 4, 10, 11, 12, 13, 14, 15] rfl rfl rfl rfl rfl rfl | exact endV [0, 1, 2, 3, 4, 9, 10, 11, 12, 13, 14] rfl rfl rfl rfl rfl rfl) | trace_state
  have c1 : ¬ ¬ 0 < ((tOs (⟨ba, bi, bb, bl, bt, bn⟩ : Books).Trades fr to).length : Int) := fun k => k hop
  repeat' (first
 | (intro h9; exfalso; first | contradiction | omega)
 | (with_reducible apply zds); exact tk; rfl; rfl; rfl; rfl; rfl
 | (with_reducible apply zd); rfl; exact tk; rfl
 | (with_reducible first | intro _ | apply wseq | apply zreg | apply thenQ_n | apply thenQ_r | apply thenQ_e | apply znil | apply wret | apply bodyQ_r | apply wblk | apply blkQ_n | apply blkQ_r | apply wskip | apply wexit)
 | apply wcf rfl
 | (with_reducible apply zcmp); rfl; exact tk; rfl; rfl; rfl
 | (with_reducible apply zlit (α := Int) (e := 3)); rfl; exact tk; (iterate 13 rfl)
 | (with_reducible apply zcp); (iterate 10 rfl); (first | exact impl_BooksOk | exact impl_nosOk | exact impl_in | exact impl_AmountOk); rfl; rfl
 | (with_reducible apply zcf); (iterate 10 rfl); (first | exact impl_TradesOpen (by assumption) | exact impl_cloneBooks (by first | assumption | exact BooksOk.midB (by assumption)) | exact impl_BookSettle_r (by assumption) | exact impl_BookSettle); rfl; rfl; rfl; rfl; rfl
 | fail)
  refine wlp (X := Int × Books × Int) [3, 4, 8, 12, 13, 49, 50] [0, 1, 2, 3, 4, 5, 6, 7, 8, 9, 10, 11, 12, 13, 14] (fun x => [(51, I x.1), (14, I x.2.2)]) (fun x => [(9, ow 94 x.2.1.Accounts), (10, ow 95 x.2.1.Instrs), (11, ow 97 x.2.1.Bals), (12, ow 99 x.2.1.Lots), (13, ow 101 x.2.1.Trades), (14, some ⟨true, 39, 6, .mx [.row 9 0 x.2.1.Accounts.length, .row 10 0 x.2.1.Instrs.length, .row 11 0 x.2.1.Bals.length, .row 12 0 x.2.1.Lots.length, .row 13 0 x.2.1.Trades.length, .sc (.int .i64 x.2.1.Lot)]⟩)]) (fun x => (0 ≤ x.1 ∧ x.1 ≤ (tOs bt fr to).length) ∧ nsF ⟨ba, bi, bb, bl, bt, bn⟩ way (pf (tOs bt fr to) x.1) = (x.2.1, x.2.2, 0) ∧ -(1000000000000000 * x.1) ≤ x.2.2 ∧ x.2.2 ≤ 1000000000000000 * x.1) (fun x => ((tOs bt fr to).length - x.1).toNat) (0, ⟨ba, bi, bb, bl, bt, bn⟩, 0) ⟨⟨by dsimp only; omega, by dsimp only; omega⟩, rfl, by dsimp only; omega, by dsimp only; omega⟩ rfl rfl (fun _ => rfl) (fun _ => rfl) ⟨rfl, rfl, rfl, rfl, rfl, rfl, rfl, rfl⟩ (fun x hx => ?_)
  obtain ⟨i, ⟨oa, oi, ob, ol, ot, on⟩, g⟩ := x
  obtain ⟨h0, hF, hg1, hg2⟩ := hx
  dsimp only at h0 hF hg1 hg2 ⊢
  have hsb := settle_bd (⟨oa, oi, ob, ol, ot, on⟩ : Books) (rd (tOs bt fr to) i) way
  by_cases hil : i < (tOs bt fr to).length
  rotate_left
  · rw [pf_all hil] at hF
    have c2 : ¬ ¬ (nsF (⟨ba, bi, bb, bl, bt, bn⟩ : Books) way (tOs (⟨ba, bi, bb, bl, bt, bn⟩ : Books).Trades fr to)).2.2 = 0 := fun k => k (by show (nsF ⟨ba, bi, bb, bl, bt, bn⟩ way (tOs bt fr to)).2.2 = 0; rw [hF])
    by_cases hnk : NetOk ⟨ba, bi, bb, bl, bt, bn⟩ (tOs bt fr to) ∧ amountOk g
    · have c3 : ¬ ¬ (NetOk (⟨ba, bi, bb, bl, bt, bn⟩ : Books) (tOs (⟨ba, bi, bb, bl, bt, bn⟩ : Books).Trades fr to) ∧ amountOk (nsF (⟨ba, bi, bb, bl, bt, bn⟩ : Books) way (tOs (⟨ba, bi, bb, bl, bt, bn⟩ : Books).Trades fr to)).2.1) := fun k => k (by show NetOk ⟨ba, bi, bb, bl, bt, bn⟩ (tOs bt fr to) ∧ amountOk (nsF ⟨ba, bi, bb, bl, bt, bn⟩ way (tOs bt fr to)).2.1; rw [hF]; exact hnk)
      obtain ⟨hn1, hn2⟩ := id hnk
      repeat' (first
 | (intro h9; exfalso; first | contradiction | omega)
 | (with_reducible apply zds); exact tk; rfl; rfl; rfl; rfl; rfl
 | (with_reducible first | intro _ | apply wseq | apply zreg | apply thenQ_n | apply thenQ_r | apply thenQ_e | apply znil | apply wret | apply bodyQ_r | apply wblk | apply blkQ_n | apply blkQ_r | apply wskip | apply wexit)
 | apply wcf rfl
 | (with_reducible apply blkQ_x rfl)
 | (with_reducible apply zcmp); rfl; exact tk; rfl; rfl; rfl
 | (with_reducible apply zcp); (iterate 10 rfl); (first | exact impl_BooksOk | exact impl_nosOk | exact impl_in | exact impl_AmountOk); rfl; rfl
 | (with_reducible apply zcsf); (iterate 10 rfl); exact impl_NetLegs; (iterate 8 rfl)
 | fail)
      all_goals
        rw [bookNet_4 (b := ⟨ba, bi, bb, bl, bt, bn⟩) c0 c1 c2 c3]
        dsimp only
        rw [hF]
        first | (first | exact endV [0, 1, 2, 3, 4, 9, 10, 11, 12, 13, 15] rfl rfl rfl rfl rfl rfl) | trace_state
    · have c3 : ¬ (NetOk (⟨ba, bi, bb, bl, bt, bn⟩ : Books) (tOs (⟨ba, bi, bb, bl, bt, bn⟩ : Books).Trades fr to) ∧ amountOk (nsF (⟨ba, bi, bb, bl, bt, bn⟩ : Books) way (tOs (⟨ba, bi, bb, bl, bt, bn⟩ : Books).Trades fr to)).2.1) := fun k => hnk (by
        have k' : NetOk ⟨ba, bi, bb, bl, bt, bn⟩ (tOs bt fr to) ∧ amountOk (nsF ⟨ba, bi, bb, bl, bt, bn⟩ way (tOs bt fr to)).2.1 := k
        rw [hF] at k'
        exact k')
      repeat' (first
 | (intro h9; exfalso; first | contradiction | omega)
 | (intro h9; exact absurd ⟨by assumption, by assumption⟩ hnk)
 | (with_reducible apply znila (d := 9) 117 3); rfl; rfl; rfl
 | (with_reducible apply zd); rfl; exact tk; rfl
 | (with_reducible first | intro _ | apply wseq | apply zreg | apply thenQ_n | apply thenQ_r | apply thenQ_e | apply znil | apply wret | apply bodyQ_r | apply wblk | apply blkQ_n | apply blkQ_r | apply wskip | apply wexit)
 | apply wct rfl
 | apply wcf rfl
 | (with_reducible apply blkQ_x rfl)
 | (with_reducible apply zcmp); rfl; exact tk; rfl; rfl; rfl
 | (with_reducible apply zcp); (iterate 10 rfl); (first | exact impl_BooksOk | exact impl_nosOk | exact impl_in | exact impl_AmountOk); rfl; rfl
 | (with_reducible apply zcf); (iterate 10 rfl); (first | exact impl_TradesOpen (by assumption) | exact impl_cloneBooks (by first | assumption | exact BooksOk.midB (by assumption)) | exact impl_BookSettle_r (by assumption) | exact impl_BookSettle); rfl; rfl; rfl; rfl; rfl
 | (with_reducible apply zcsf); (iterate 10 rfl); exact impl_NetLegs; (iterate 8 rfl)
 | fail)
      all_goals
        rw [bookNet_3 (b := ⟨ba, bi, bb, bl, bt, bn⟩) c0 c1 c2 c3]
        first | (first | exact endV [0, 1, 2, 3, 4, 16, 17, 18, 19, 20, 21] rfl rfl rfl rfl rfl rfl) | trace_state
  by_cases hz : (bookSettle (⟨oa, oi, ob, ol, ot, on⟩ : Books) (rd (tOs bt fr to) i) way).2.2 = 0
  rotate_left
  · have hbad := nsF_bad (b := ⟨ba, bi, bb, bl, bt, bn⟩) (way := way) ⟨h0.1, hil⟩ hF hz
    have c2 : ¬ (nsF (⟨ba, bi, bb, bl, bt, bn⟩ : Books) way (tOs (⟨ba, bi, bb, bl, bt, bn⟩ : Books).Trades fr to)).2.2 = 0 := fun k => hz (by rw [← hbad]; exact k)
    repeat' (first
 | (intro h9; exfalso; first | contradiction | omega)
 | (with_reducible apply zds); exact tk; rfl; rfl; rfl; rfl; rfl
 | (with_reducible apply zd); rfl; exact tk; rfl
 | (with_reducible apply znila (d := 9) 117 3); rfl; rfl; rfl
 | (with_reducible first | intro _ | apply wseq | apply zreg | apply thenQ_n | apply thenQ_r | apply thenQ_e | apply znil | apply wret | apply bodyQ_r | apply wblk | apply blkQ_n | apply blkQ_r | apply wskip | apply wexit)
 | apply wct rfl
 | (with_reducible apply zcmp); rfl; exact tk; rfl; rfl; rfl
 | (with_reducible apply zne); rfl; exact tk; rfl; rfl; rfl; rfl
 | (with_reducible apply zix); rfl; exact tk; (iterate 7 rfl); (first | omega | ((try simp only [List.length_append, List.length_cons, List.length_nil, List.length_map]); (try dsimp only); omega)); rfl; rfl
 | (with_reducible apply zle); rfl; exact tk; rfl; rfl; rfl; rfl; (first | omega | ((try simp only [List.length_append, List.length_cons, List.length_nil, List.length_map]); (try dsimp only); omega)); rfl; rfl; rfl; rfl
 | (with_reducible apply zcf); (iterate 10 rfl); (first | exact impl_TradesOpen (by assumption) | exact impl_cloneBooks (by first | assumption | exact BooksOk.midB (by assumption)) | exact impl_BookSettle_r (by assumption) | exact impl_BookSettle); rfl; rfl; rfl; rfl; rfl
 | fail)
    all_goals
      rw [bookNet_2 (b := ⟨ba, bi, bb, bl, bt, bn⟩) c0 c1 c2]
      dsimp only
      rw [hbad]
      first | (first | exact endV [0, 1, 2, 3, 4, 21, 22, 23, 24, 25, 26] rfl rfl rfl rfl rfl rfl) | trace_state
  have hs := nsF_succ (b := ⟨ba, bi, bb, bl, bt, bn⟩) (way := way) ⟨h0.1, hil⟩
  rw [hF, stN_y hz] at hs
  have hy : (0 ≤ i + 1 ∧ i + 1 ≤ (tOs bt fr to).length) ∧ nsF ⟨ba, bi, bb, bl, bt, bn⟩ way (pf (tOs bt fr to) (i + 1)) = ((bookSettle (⟨oa, oi, ob, ol, ot, on⟩ : Books) (rd (tOs bt fr to) i) way).1, g + (bookSettle (⟨oa, oi, ob, ol, ot, on⟩ : Books) (rd (tOs bt fr to) i) way).2.1, 0) ∧ -(1000000000000000 * (i + 1)) ≤ g + (bookSettle (⟨oa, oi, ob, ol, ot, on⟩ : Books) (rd (tOs bt fr to) i) way).2.1 ∧ g + (bookSettle (⟨oa, oi, ob, ol, ot, on⟩ : Books) (rd (tOs bt fr to) i) way).2.1 ≤ 1000000000000000 * (i + 1) := ⟨by omega, hs, by omega, by omega⟩
  repeat' (first
 | (intro h9; exfalso; first | contradiction | omega)
 | (with_reducible apply zds); exact tk; rfl; rfl; rfl; rfl; rfl
 | (with_reducible apply zd); rfl; exact tk; rfl
 | (with_reducible first | intro _ | apply wseq | apply zreg | apply thenQ_n | apply thenQ_r | apply thenQ_e | apply znil | apply wret | apply bodyQ_r | apply wblk | apply blkQ_n | apply blkQ_r | apply wskip | apply wexit)
 | apply wct rfl
 | apply wcf rfl
 | (with_reducible apply zcmp); rfl; exact tk; rfl; rfl; rfl
 | (with_reducible apply zne); rfl; exact tk; rfl; rfl; rfl; rfl
 | (with_reducible apply zar); rfl; rfl; rfl; rfl; (first | omega | ((try simp only [List.length_append, List.length_cons, List.length_nil, List.length_map]); (try dsimp only); omega)); rfl; rfl
 | (with_reducible apply zix); rfl; exact tk; (iterate 7 rfl); (first | omega | ((try simp only [List.length_append, List.length_cons, List.length_nil, List.length_map]); (try dsimp only); omega)); rfl; rfl
 | (with_reducible apply zle); rfl; exact tk; rfl; rfl; rfl; rfl; (first | omega | ((try simp only [List.length_append, List.length_cons, List.length_nil, List.length_map]); (try dsimp only); omega)); rfl; rfl; rfl; rfl
 | (with_reducible apply zcf); (iterate 10 rfl); (first | exact impl_TradesOpen (by assumption) | exact impl_cloneBooks (by first | assumption | exact BooksOk.midB (by assumption)) | exact impl_BookSettle_r (by assumption) | exact impl_BookSettle); rfl; rfl; rfl; rfl; rfl
 | fail)
  all_goals first | (first | exact endR (i + 1, (bookSettle (⟨oa, oi, ob, ol, ot, on⟩ : Books) (rd (tOs bt fr to) i) way).1, g + (bookSettle (⟨oa, oi, ob, ol, ot, on⟩ : Books) (rd (tOs bt fr to) i) way).2.1) [0, 1, 2, 3, 4, 5, 6, 7, 8, 15, 16, 17, 18, 19, 14] ⟨rfl, rfl, rfl, rfl, rfl, rfl, rfl, rfl⟩ hy (by first | omega | (dsimp only; omega))) | trace_state
set_option maxHeartbeats 4000000 in
theorem spec_BookNet {ba : List Account} {bi : List Instr} {bb : List Bal} {bl : List Lot} {bt : List Trade} {bn : Int} {fr to way : Int} : FC Tryz.prog 38 [bkV 0 ⟨ba, bi, bb, bl, bt, bn⟩, I fr, I to, I way] (bkR ⟨ba, bi, bb, bl, bt, bn⟩) (.tup [bkE 5 (bookNet ⟨ba, bi, bb, bl, bt, bn⟩ fr to way).1, .c (.row 10 0 (bookNet ⟨ba, bi, bb, bl, bt, bn⟩ fr to way).2.1.length), I (bookNet ⟨ba, bi, bb, bl, bt, bn⟩ fr to way).2.2.1, I (bookNet ⟨ba, bi, bb, bl, bt, bn⟩ fr to way).2.2.2]) (bkR ⟨ba, bi, bb, bl, bt, bn⟩ ++ bkW (bookNet ⟨ba, bi, bb, bl, bt, bn⟩ fr to way).1 ++ [ow 117 (bookNet ⟨ba, bi, bb, bl, bt, bn⟩ fr to way).2.1]) := by
  refine fent tk 101 [.cell 8 _, .tmp 9, .tmp 10, .tmp 11] Tryz.func38 (by kernel_rfl) rfl rfl rfl rfl rfl rfl rfl ?_
  by_cases hok : BooksOk ⟨ba, bi, bb, bl, bt, bn⟩
  rotate_left
  ·
    rw [bookNet_0 (b := ⟨ba, bi, bb, bl, bt, bn⟩) (fun h => hok h.1)]
    repeat' (first
 | (intro h9; exfalso; first | contradiction | omega)
 | (with_reducible apply znilC (d := 41) 0 94 2); rfl; rfl; rfl; rfl; rfl
 | (with_reducible apply znilC (d := 41) 1 95 2); rfl; rfl; rfl; rfl; rfl
 | (with_reducible apply znilC (d := 41) 2 97 3); rfl; rfl; rfl; rfl; rfl
 | (with_reducible apply znilC (d := 41) 3 99 5); rfl; rfl; rfl; rfl; rfl
 | (with_reducible apply znilC (d := 41) 4 101 8); rfl; rfl; rfl; rfl; rfl
 | (with_reducible apply znila (d := 9) 117 3); rfl; rfl; rfl
 | (with_reducible apply zd); rfl; exact tk; rfl
 | (with_reducible first | intro _ | apply wseq | apply zreg | apply thenQ_n | apply thenQ_r | apply thenQ_e | apply znil | apply wret | apply bodyQ_r | apply wblk | apply blkQ_n | apply blkQ_r | apply wskip | apply wexit)
 | apply wct rfl
 | (with_reducible apply zlit (α := Leg) (e := 117)); rfl; exact tk; (iterate 13 rfl)
 | (with_reducible apply zcp); (iterate 10 rfl); (first | exact spec_BooksOk | exact spec_l3No | exact spec_l1In | exact spec_AmountOk); rfl; rfl
 | fail)
    all_goals first | (first | exact endV [0, 1, 2, 3, 4, 9, 10, 11, 12, 13, 8] rfl rfl rfl rfl rfl rfl | exact endV [0, 1, 2, 3, 4, 8, 9, 10, 11, 12, 7] rfl rfl rfl rfl rfl rfl) | trace_state
  by_cases hta : isNo fr ∧ isNo to ∧ inP way 1 3
  rotate_left
  ·
    rw [bookNet_0 (b := ⟨ba, bi, bb, bl, bt, bn⟩) (fun h => hta h.2)]
    repeat' (first
 | (intro h9; exfalso; first | contradiction | omega)
 | (intro h9; exact absurd ⟨by assumption, by assumption, by assumption⟩ hta)
 | (with_reducible apply znilC (d := 41) 0 94 2); rfl; rfl; rfl; rfl; rfl
 | (with_reducible apply znilC (d := 41) 1 95 2); rfl; rfl; rfl; rfl; rfl
 | (with_reducible apply znilC (d := 41) 2 97 3); rfl; rfl; rfl; rfl; rfl
 | (with_reducible apply znilC (d := 41) 3 99 5); rfl; rfl; rfl; rfl; rfl
 | (with_reducible apply znilC (d := 41) 4 101 8); rfl; rfl; rfl; rfl; rfl
 | (with_reducible apply znila (d := 9) 117 3); rfl; rfl; rfl
 | (with_reducible apply zd); rfl; exact tk; rfl
 | (with_reducible first | intro _ | apply wseq | apply zreg | apply thenQ_n | apply thenQ_r | apply thenQ_e | apply znil | apply wret | apply bodyQ_r | apply wblk | apply blkQ_n | apply blkQ_r | apply wskip | apply wexit)
 | apply wct rfl
 | (with_reducible apply zlit (α := Leg) (e := 117)); rfl; exact tk; (iterate 13 rfl)
 | (with_reducible apply zcp); (iterate 10 rfl); (first | exact spec_BooksOk | exact spec_l3No | exact spec_l1In | exact spec_AmountOk); rfl; rfl
 | fail)
    all_goals first | (first | exact endV [0, 1, 2, 3, 4, 9, 10, 11, 12, 13, 8] rfl rfl rfl rfl rfl rfl | exact endV [0, 1, 2, 3, 4, 8, 9, 10, 11, 12, 7] rfl rfl rfl rfl rfl rfl) | trace_state
  have hto := hok.trades
  have htl := hto.2
  obtain ⟨k1, k2, k3⟩ := id hta
  have hno : ∀ x ∈ [fr, to], isNo x := fun x hx => by simp only [List.mem_cons, List.not_mem_nil, or_false] at hx; rcases hx with rfl | rfl <;> assumption
  dsimp only at hto htl
  have c0 : ¬ ¬ (BooksOk ⟨ba, bi, bb, bl, bt, bn⟩ ∧ isNo fr ∧ isNo to ∧ inP way 1 3) := fun k => k ⟨hok, hta⟩
  have hol := tOs_len (l := bt) (fr := fr) (to := to)
  by_cases hop : 0 < ((tOs bt fr to).length : Int)
  rotate_left
  ·
    rw [bookNet_1 (b := ⟨ba, bi, bb, bl, bt, bn⟩) c0 hop]
    repeat' (first
 | (intro h9; exfalso; first | contradiction | omega)
 | (with_reducible apply zds); exact tk; rfl; rfl; rfl; rfl; rfl
 | (with_reducible apply zd); rfl; exact tk; rfl
 | (with_reducible apply znila (d := 9) 117 3); rfl; rfl; rfl
 | (with_reducible first | intro _ | apply wseq | apply zreg | apply thenQ_n | apply thenQ_r | apply thenQ_e | apply znil | apply wret | apply bodyQ_r | apply wblk | apply blkQ_n | apply blkQ_r | apply wskip | apply wexit)
 | apply wct rfl
 | apply wcf rfl
 | (with_reducible apply zcmp); rfl; exact tk; rfl; rfl; rfl
 | (with_reducible apply zlit (α := Leg) (e := 117)); rfl; exact tk; (iterate 13 rfl)
 | (with_reducible apply zcp); (iterate 10 rfl); (first | exact spec_BooksOk | exact spec_l3No | exact spec_l1In | exact spec_AmountOk); rfl; rfl
 | (with_reducible apply zcf); (iterate 10 rfl); (first | exact spec_TradesOpen (by assumption) | exact spec_l6Copy (by first | assumption | exact BooksOk.midB (by assumption)) | exact spec_BookSettle_r (by assumption) | exact spec_BookSettle); rfl; rfl; rfl; rfl; rfl
 | fail)
    all_goals first | (first | exact endV [0, 1, 2, 3, 4, 10, 11, 12, 13, 14, 8] rfl rfl rfl rfl rfl rfl | exact endV [0, 1, 2, 3, 4, 9, 10, 11, 12, 13, 7] rfl rfl rfl rfl rfl rfl) | trace_state
  have c1 : ¬ ¬ 0 < ((tOs (⟨ba, bi, bb, bl, bt, bn⟩ : Books).Trades fr to).length : Int) := fun k => k hop
  repeat' (first
 | (intro h9; exfalso; first | contradiction | omega)
 | (with_reducible apply zds); exact tk; rfl; rfl; rfl; rfl; rfl
 | (with_reducible apply zd); rfl; exact tk; rfl
 | (with_reducible first | intro _ | apply wseq | apply zreg | apply thenQ_n | apply thenQ_r | apply thenQ_e | apply znil | apply wret | apply bodyQ_r | apply wblk | apply blkQ_n | apply blkQ_r | apply wskip | apply wexit)
 | apply wcf rfl
 | (with_reducible apply zcmp); rfl; exact tk; rfl; rfl; rfl
 | (with_reducible apply zlit (α := Leg) (e := 117)); rfl; exact tk; (iterate 13 rfl)
 | (with_reducible apply zcp); (iterate 10 rfl); (first | exact spec_BooksOk | exact spec_l3No | exact spec_l1In | exact spec_AmountOk); rfl; rfl
 | (with_reducible apply zcf); (iterate 10 rfl); (first | exact spec_TradesOpen (by assumption) | exact spec_l6Copy (by first | assumption | exact BooksOk.midB (by assumption)) | exact spec_BookSettle_r (by assumption) | exact spec_BookSettle); rfl; rfl; rfl; rfl; rfl
 | fail)
  refine wlp (X := Int × Books × Int) [3, 4, 8, 12, 13, 14] [0, 1, 2, 3, 4, 5, 6, 7, 8, 9, 10, 11, 12, 13, 14] (fun x => [(16, I x.1), (15, I x.2.2)]) (fun x => [(9, ow 94 x.2.1.Accounts), (10, ow 95 x.2.1.Instrs), (11, ow 97 x.2.1.Bals), (12, ow 99 x.2.1.Lots), (13, ow 101 x.2.1.Trades), (14, some ⟨true, 39, 6, .mx [.row 9 0 x.2.1.Accounts.length, .row 10 0 x.2.1.Instrs.length, .row 11 0 x.2.1.Bals.length, .row 12 0 x.2.1.Lots.length, .row 13 0 x.2.1.Trades.length, .sc (.int .i64 x.2.1.Lot)]⟩)]) (fun x => (0 ≤ x.1 ∧ x.1 ≤ (tOs bt fr to).length) ∧ nsF ⟨ba, bi, bb, bl, bt, bn⟩ way (pf (tOs bt fr to) x.1) = (x.2.1, x.2.2, 0) ∧ -(1000000000000000 * x.1) ≤ x.2.2 ∧ x.2.2 ≤ 1000000000000000 * x.1) (fun x => ((tOs bt fr to).length - x.1).toNat) (0, ⟨ba, bi, bb, bl, bt, bn⟩, 0) ⟨⟨by dsimp only; omega, by dsimp only; omega⟩, rfl, by dsimp only; omega, by dsimp only; omega⟩ rfl rfl (fun _ => rfl) (fun _ => rfl) ⟨rfl, rfl, rfl, rfl, rfl, rfl, rfl, rfl⟩ (fun x hx => ?_)
  obtain ⟨i, ⟨oa, oi, ob, ol, ot, on⟩, g⟩ := x
  obtain ⟨h0, hF, hg1, hg2⟩ := hx
  dsimp only at h0 hF hg1 hg2 ⊢
  have hsb := settle_bd (⟨oa, oi, ob, ol, ot, on⟩ : Books) (rd (tOs bt fr to) i) way
  by_cases hil : i < (tOs bt fr to).length
  rotate_left
  · rw [pf_all hil] at hF
    have c2 : ¬ ¬ (nsF (⟨ba, bi, bb, bl, bt, bn⟩ : Books) way (tOs (⟨ba, bi, bb, bl, bt, bn⟩ : Books).Trades fr to)).2.2 = 0 := fun k => k (by show (nsF ⟨ba, bi, bb, bl, bt, bn⟩ way (tOs bt fr to)).2.2 = 0; rw [hF])
    by_cases hnk : NetOk ⟨ba, bi, bb, bl, bt, bn⟩ (tOs bt fr to) ∧ amountOk g
    · have c3 : ¬ ¬ (NetOk (⟨ba, bi, bb, bl, bt, bn⟩ : Books) (tOs (⟨ba, bi, bb, bl, bt, bn⟩ : Books).Trades fr to) ∧ amountOk (nsF (⟨ba, bi, bb, bl, bt, bn⟩ : Books) way (tOs (⟨ba, bi, bb, bl, bt, bn⟩ : Books).Trades fr to)).2.1) := fun k => k (by show NetOk ⟨ba, bi, bb, bl, bt, bn⟩ (tOs bt fr to) ∧ amountOk (nsF ⟨ba, bi, bb, bl, bt, bn⟩ way (tOs bt fr to)).2.1; rw [hF]; exact hnk)
      obtain ⟨hn1, hn2⟩ := id hnk
      repeat' (first
 | (intro h9; exfalso; first | contradiction | omega)
 | (with_reducible apply zds); exact tk; rfl; rfl; rfl; rfl; rfl
 | (with_reducible first | intro _ | apply wseq | apply zreg | apply thenQ_n | apply thenQ_r | apply thenQ_e | apply znil | apply wret | apply bodyQ_r | apply wblk | apply blkQ_n | apply blkQ_r | apply wskip | apply wexit)
 | apply wcf rfl
 | (with_reducible apply blkQ_x rfl)
 | (with_reducible apply zcmp); rfl; exact tk; rfl; rfl; rfl
 | (with_reducible apply zcp); (iterate 10 rfl); (first | exact spec_BooksOk | exact spec_l3No | exact spec_l1In | exact spec_AmountOk); rfl; rfl
 | (with_reducible apply zcsf); (iterate 10 rfl); exact spec_NetLegs; (iterate 8 rfl)
 | fail)
      all_goals
        rw [bookNet_4 (b := ⟨ba, bi, bb, bl, bt, bn⟩) c0 c1 c2 c3]
        dsimp only
        rw [hF]
        first | (first | exact endV [0, 1, 2, 3, 4, 9, 10, 11, 12, 13, 15] rfl rfl rfl rfl rfl rfl) | trace_state
    · have c3 : ¬ (NetOk (⟨ba, bi, bb, bl, bt, bn⟩ : Books) (tOs (⟨ba, bi, bb, bl, bt, bn⟩ : Books).Trades fr to) ∧ amountOk (nsF (⟨ba, bi, bb, bl, bt, bn⟩ : Books) way (tOs (⟨ba, bi, bb, bl, bt, bn⟩ : Books).Trades fr to)).2.1) := fun k => hnk (by
        have k' : NetOk ⟨ba, bi, bb, bl, bt, bn⟩ (tOs bt fr to) ∧ amountOk (nsF ⟨ba, bi, bb, bl, bt, bn⟩ way (tOs bt fr to)).2.1 := k
        rw [hF] at k'
        exact k')
      repeat' (first
 | (intro h9; exfalso; first | contradiction | omega)
 | (intro h9; exact absurd ⟨by assumption, by assumption⟩ hnk)
 | (with_reducible apply zd); rfl; exact tk; rfl
 | (with_reducible first | intro _ | apply wseq | apply zreg | apply thenQ_n | apply thenQ_r | apply thenQ_e | apply znil | apply wret | apply bodyQ_r | apply wblk | apply blkQ_n | apply blkQ_r | apply wskip | apply wexit)
 | apply wct rfl
 | apply wcf rfl
 | (with_reducible apply blkQ_x rfl)
 | (with_reducible apply zcmp); rfl; exact tk; rfl; rfl; rfl
 | (with_reducible apply zcp); (iterate 10 rfl); (first | exact spec_BooksOk | exact spec_l3No | exact spec_l1In | exact spec_AmountOk); rfl; rfl
 | (with_reducible apply zcf); (iterate 10 rfl); (first | exact spec_TradesOpen (by assumption) | exact spec_l6Copy (by first | assumption | exact BooksOk.midB (by assumption)) | exact spec_BookSettle_r (by assumption) | exact spec_BookSettle); rfl; rfl; rfl; rfl; rfl
 | (with_reducible apply zcsf); (iterate 10 rfl); exact spec_NetLegs; (iterate 8 rfl)
 | fail)
      all_goals
        rw [bookNet_3 (b := ⟨ba, bi, bb, bl, bt, bn⟩) c0 c1 c2 c3]
        first | (first | exact endV [0, 1, 2, 3, 4, 16, 17, 18, 19, 20, 7] rfl rfl rfl rfl rfl rfl) | trace_state
  by_cases hz : (bookSettle (⟨oa, oi, ob, ol, ot, on⟩ : Books) (rd (tOs bt fr to) i) way).2.2 = 0
  rotate_left
  · have hbad := nsF_bad (b := ⟨ba, bi, bb, bl, bt, bn⟩) (way := way) ⟨h0.1, hil⟩ hF hz
    have c2 : ¬ (nsF (⟨ba, bi, bb, bl, bt, bn⟩ : Books) way (tOs (⟨ba, bi, bb, bl, bt, bn⟩ : Books).Trades fr to)).2.2 = 0 := fun k => hz (by rw [← hbad]; exact k)
    repeat' (first
 | (intro h9; exfalso; first | contradiction | omega)
 | (with_reducible apply zds); exact tk; rfl; rfl; rfl; rfl; rfl
 | (with_reducible apply zd); rfl; exact tk; rfl
 | (with_reducible first | intro _ | apply wseq | apply zreg | apply thenQ_n | apply thenQ_r | apply thenQ_e | apply znil | apply wret | apply bodyQ_r | apply wblk | apply blkQ_n | apply blkQ_r | apply wskip | apply wexit)
 | apply wct rfl
 | (with_reducible apply zcmp); rfl; exact tk; rfl; rfl; rfl
 | (with_reducible apply zne); rfl; exact tk; rfl; rfl; rfl; rfl
 | (with_reducible apply zix); rfl; exact tk; (iterate 7 rfl); (first | omega | ((try simp only [List.length_append, List.length_cons, List.length_nil, List.length_map]); (try dsimp only); omega)); rfl; rfl
 | (with_reducible apply zle); rfl; exact tk; rfl; rfl; rfl; rfl; (first | omega | ((try simp only [List.length_append, List.length_cons, List.length_nil, List.length_map]); (try dsimp only); omega)); rfl; rfl; rfl; rfl
 | refine zdq2 (id := 11) rfl (by kernel_rfl) [(.p, 1), (.p, 2), (.p, 3), (.p, 5), (.t, 0), (.t, 4)] 6 11 [(.p, 7), (.p, 8), (.p, 9), (.p, 10), (.o, 11), (.l, 12), (.p, 13), (.p, 14)] [(.o, 6), (.p, 7), (.p, 8), (.p, 9), (.p, 10), (.l, 12), (.p, 13), (.p, 14)] [12] (by kernel_rfl) rfl rfl rfl ?_
 | (with_reducible apply bothQ_n)
 | (with_reducible apply zcf); (iterate 10 rfl); (first | exact spec_TradesOpen (by assumption) | exact spec_l6Copy (by first | assumption | exact BooksOk.midB (by assumption)) | exact spec_BookSettle_r (by assumption) | exact spec_BookSettle); rfl; rfl; rfl; rfl; rfl
 | fail)
    all_goals
      rw [bookNet_2 (b := ⟨ba, bi, bb, bl, bt, bn⟩) c0 c1 c2]
      dsimp only
      rw [hbad]
      first | (first | exact endV [0, 1, 2, 3, 4, 21, 22, 23, 24, 25, 7] rfl rfl rfl rfl rfl rfl) | trace_state
  have hs := nsF_succ (b := ⟨ba, bi, bb, bl, bt, bn⟩) (way := way) ⟨h0.1, hil⟩
  rw [hF, stN_y hz] at hs
  have hy : (0 ≤ i + 1 ∧ i + 1 ≤ (tOs bt fr to).length) ∧ nsF ⟨ba, bi, bb, bl, bt, bn⟩ way (pf (tOs bt fr to) (i + 1)) = ((bookSettle (⟨oa, oi, ob, ol, ot, on⟩ : Books) (rd (tOs bt fr to) i) way).1, g + (bookSettle (⟨oa, oi, ob, ol, ot, on⟩ : Books) (rd (tOs bt fr to) i) way).2.1, 0) ∧ -(1000000000000000 * (i + 1)) ≤ g + (bookSettle (⟨oa, oi, ob, ol, ot, on⟩ : Books) (rd (tOs bt fr to) i) way).2.1 ∧ g + (bookSettle (⟨oa, oi, ob, ol, ot, on⟩ : Books) (rd (tOs bt fr to) i) way).2.1 ≤ 1000000000000000 * (i + 1) := ⟨by omega, hs, by omega, by omega⟩
  repeat' (first
 | (intro h9; exfalso; first | contradiction | omega)
 | (with_reducible apply zds); exact tk; rfl; rfl; rfl; rfl; rfl
 | (with_reducible apply zd); rfl; exact tk; rfl
 | (with_reducible first | intro _ | apply wseq | apply zreg | apply thenQ_n | apply thenQ_r | apply thenQ_e | apply znil | apply wret | apply bodyQ_r | apply wblk | apply blkQ_n | apply blkQ_r | apply wskip | apply wexit)
 | apply wct rfl
 | apply wcf rfl
 | (with_reducible apply zcmp); rfl; exact tk; rfl; rfl; rfl
 | (with_reducible apply zne); rfl; exact tk; rfl; rfl; rfl; rfl
 | (with_reducible apply zar); rfl; rfl; rfl; rfl; (first | omega | ((try simp only [List.length_append, List.length_cons, List.length_nil, List.length_map]); (try dsimp only); omega)); rfl; rfl
 | (with_reducible apply zix); rfl; exact tk; (iterate 7 rfl); (first | omega | ((try simp only [List.length_append, List.length_cons, List.length_nil, List.length_map]); (try dsimp only); omega)); rfl; rfl
 | (with_reducible apply zle); rfl; exact tk; rfl; rfl; rfl; rfl; (first | omega | ((try simp only [List.length_append, List.length_cons, List.length_nil, List.length_map]); (try dsimp only); omega)); rfl; rfl; rfl; rfl
 | refine zdq2 (id := 11) rfl (by kernel_rfl) [(.p, 1), (.p, 2), (.p, 3), (.p, 5), (.t, 0), (.t, 4)] 6 11 [(.p, 7), (.p, 8), (.p, 9), (.p, 10), (.o, 11), (.l, 12), (.p, 13), (.p, 14)] [(.o, 6), (.p, 7), (.p, 8), (.p, 9), (.p, 10), (.l, 12), (.p, 13), (.p, 14)] [12] (by kernel_rfl) rfl rfl rfl ?_
 | (with_reducible apply bothQ_n)
 | (with_reducible apply zcf); (iterate 10 rfl); (first | exact spec_TradesOpen (by assumption) | exact spec_l6Copy (by first | assumption | exact BooksOk.midB (by assumption)) | exact spec_BookSettle_r (by assumption) | exact spec_BookSettle); rfl; rfl; rfl; rfl; rfl
 | fail)
  all_goals first | (first | exact endR (i + 1, (bookSettle (⟨oa, oi, ob, ol, ot, on⟩ : Books) (rd (tOs bt fr to) i) way).1, g + (bookSettle (⟨oa, oi, ob, ol, ot, on⟩ : Books) (rd (tOs bt fr to) i) way).2.1) [0, 1, 2, 3, 4, 5, 6, 7, 8, 15, 16, 17, 18, 19, 14] ⟨rfl, rfl, rfl, rfl, rfl, rfl, rfl, rfl⟩ hy (by first | omega | (dsimp only; omega)) | exact endR (i + 1, (bookSettle (⟨oa, oi, ob, ol, ot, on⟩ : Books) (rd (tOs bt fr to) i) way).1, g + (bookSettle (⟨oa, oi, ob, ol, ot, on⟩ : Books) (rd (tOs bt fr to) i) way).2.1) [0, 1, 2, 3, 4, 5, 6, 7, 8, 16, 17, 18, 19, 20, 14] ⟨rfl, rfl, rfl, rfl, rfl, rfl, rfl, rfl⟩ hy (by first | omega | (dsimp only; omega))) | trace_state
end Go.Proofs.YtnlajjoheegbiaaGreat.Sh
