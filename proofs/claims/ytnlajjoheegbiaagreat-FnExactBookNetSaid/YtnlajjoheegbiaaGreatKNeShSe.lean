/- Trades are settled: both sides. No condition. -/
import Derived.Test.YtnlajjoheegbiaaGreatKNeShBk
import Derived.Test.YtnlajjoheegbiaaGreatKNeShNt
import Derived.Test.YtnlajjoheegbiaaGreatKNeShDt
namespace Go.Proofs.YtnlajjoheegbiaaGreat.Sh
open Go.RowKit
set_option linter.unusedVariables false
set_option linter.unusedSimpArgs false
def stT (t : Trade) (s : Int) : Trade := ⟨t.No, t.Buyer, t.Seller, t.Paper, t.Qty, t.Cash, t.Price, s⟩
noncomputable def bookSettle (b : Books) (no way : Int) : Books × Int × Int :=
  sel (¬ (BooksOk b ∧ isNo no ∧ inP way 1 3)) (⟨[], [], [], [], [], 0⟩, 0, 1)
  (sel (¬ tOpen b.Trades no) (b, 0, oC b.Trades no)
  (sel (¬ (poR b (tLegs (rd b.Trades (tAt b.Trades no)))).2 = 0) (b, 0, pCode (poR b (tLegs (rd b.Trades (tAt b.Trades no)))).2)
  (sel (¬ tN b.Lots (rd b.Trades (tAt b.Trades no)).Seller (rd b.Trades (tAt b.Trades no)).Paper (rd b.Trades (tAt b.Trades no)).Qty way = 0) (b, 0, 5)
  (sel (¬ opOk (tL b.Lots (rd b.Trades (tAt b.Trades no)).Seller (rd b.Trades (tAt b.Trades no)).Paper (rd b.Trades (tAt b.Trades no)).Qty way) b.Lot (rd b.Trades (tAt b.Trades no)).Buyer (rd b.Trades (tAt b.Trades no)).Paper (rd b.Trades (tAt b.Trades no)).Qty (rd b.Trades (tAt b.Trades no)).Price) (b, 0, 7)
  (⟨b.Accounts, b.Instrs, (poR b (tLegs (rd b.Trades (tAt b.Trades no)))).1, opL (tL b.Lots (rd b.Trades (tAt b.Trades no)).Seller (rd b.Trades (tAt b.Trades no)).Paper (rd b.Trades (tAt b.Trades no)).Qty way) b.Lot (rd b.Trades (tAt b.Trades no)).Buyer (rd b.Trades (tAt b.Trades no)).Paper (rd b.Trades (tAt b.Trades no)).Qty (rd b.Trades (tAt b.Trades no)).Price, upd b.Trades (tAt b.Trades no) (stT (rd b.Trades (tAt b.Trades no)) 2), b.Lot + 1⟩, (rd b.Trades (tAt b.Trades no)).Price - tC b.Lots (rd b.Trades (tAt b.Trades no)).Seller (rd b.Trades (tAt b.Trades no)).Paper (rd b.Trades (tAt b.Trades no)).Qty way, 0)))))
theorem bookSettle_0 {b : Books} {no way : Int}  (c0 : ¬ (BooksOk b ∧ isNo no ∧ inP way 1 3)) : bookSettle b no way = (⟨[], [], [], [], [], 0⟩, 0, 1) := by
  rw [bookSettle, sel_t c0]
theorem bookSettle_1 {b : Books} {no way : Int} (c0 : ¬ (¬ (BooksOk b ∧ isNo no ∧ inP way 1 3))) (c1 : ¬ tOpen b.Trades no) : bookSettle b no way = (b, 0, oC b.Trades no) := by
  rw [bookSettle, sel_f c0, sel_t c1]
theorem bookSettle_2 {b : Books} {no way : Int} (c0 : ¬ (¬ (BooksOk b ∧ isNo no ∧ inP way 1 3))) (c1 : ¬ (¬ tOpen b.Trades no)) (c2 : ¬ (poR b (tLegs (rd b.Trades (tAt b.Trades no)))).2 = 0) : bookSettle b no way = (b, 0, pCode (poR b (tLegs (rd b.Trades (tAt b.Trades no)))).2) := by
  rw [bookSettle, sel_f c0, sel_f c1, sel_t c2]
theorem bookSettle_3 {b : Books} {no way : Int} (c0 : ¬ (¬ (BooksOk b ∧ isNo no ∧ inP way 1 3))) (c1 : ¬ (¬ tOpen b.Trades no)) (c2 : ¬ (¬ (poR b (tLegs (rd b.Trades (tAt b.Trades no)))).2 = 0)) (c3 : ¬ tN b.Lots (rd b.Trades (tAt b.Trades no)).Seller (rd b.Trades (tAt b.Trades no)).Paper (rd b.Trades (tAt b.Trades no)).Qty way = 0) : bookSettle b no way = (b, 0, 5) := by
  rw [bookSettle, sel_f c0, sel_f c1, sel_f c2, sel_t c3]
theorem bookSettle_4 {b : Books} {no way : Int} (c0 : ¬ (¬ (BooksOk b ∧ isNo no ∧ inP way 1 3))) (c1 : ¬ (¬ tOpen b.Trades no)) (c2 : ¬ (¬ (poR b (tLegs (rd b.Trades (tAt b.Trades no)))).2 = 0)) (c3 : ¬ (¬ tN b.Lots (rd b.Trades (tAt b.Trades no)).Seller (rd b.Trades (tAt b.Trades no)).Paper (rd b.Trades (tAt b.Trades no)).Qty way = 0)) (c4 : ¬ opOk (tL b.Lots (rd b.Trades (tAt b.Trades no)).Seller (rd b.Trades (tAt b.Trades no)).Paper (rd b.Trades (tAt b.Trades no)).Qty way) b.Lot (rd b.Trades (tAt b.Trades no)).Buyer (rd b.Trades (tAt b.Trades no)).Paper (rd b.Trades (tAt b.Trades no)).Qty (rd b.Trades (tAt b.Trades no)).Price) : bookSettle b no way = (b, 0, 7) := by
  rw [bookSettle, sel_f c0, sel_f c1, sel_f c2, sel_f c3, sel_t c4]
theorem bookSettle_5 {b : Books} {no way : Int} (c0 : ¬ (¬ (BooksOk b ∧ isNo no ∧ inP way 1 3))) (c1 : ¬ (¬ tOpen b.Trades no)) (c2 : ¬ (¬ (poR b (tLegs (rd b.Trades (tAt b.Trades no)))).2 = 0)) (c3 : ¬ (¬ tN b.Lots (rd b.Trades (tAt b.Trades no)).Seller (rd b.Trades (tAt b.Trades no)).Paper (rd b.Trades (tAt b.Trades no)).Qty way = 0)) (c4 : ¬ (¬ opOk (tL b.Lots (rd b.Trades (tAt b.Trades no)).Seller (rd b.Trades (tAt b.Trades no)).Paper (rd b.Trades (tAt b.Trades no)).Qty way) b.Lot (rd b.Trades (tAt b.Trades no)).Buyer (rd b.Trades (tAt b.Trades no)).Paper (rd b.Trades (tAt b.Trades no)).Qty (rd b.Trades (tAt b.Trades no)).Price)) : bookSettle b no way = (⟨b.Accounts, b.Instrs, (poR b (tLegs (rd b.Trades (tAt b.Trades no)))).1, opL (tL b.Lots (rd b.Trades (tAt b.Trades no)).Seller (rd b.Trades (tAt b.Trades no)).Paper (rd b.Trades (tAt b.Trades no)).Qty way) b.Lot (rd b.Trades (tAt b.Trades no)).Buyer (rd b.Trades (tAt b.Trades no)).Paper (rd b.Trades (tAt b.Trades no)).Qty (rd b.Trades (tAt b.Trades no)).Price, upd b.Trades (tAt b.Trades no) (stT (rd b.Trades (tAt b.Trades no)) 2), b.Lot + 1⟩, (rd b.Trades (tAt b.Trades no)).Price - tC b.Lots (rd b.Trades (tAt b.Trades no)).Seller (rd b.Trades (tAt b.Trades no)).Paper (rd b.Trades (tAt b.Trades no)).Qty way, 0) := by
  rw [bookSettle, sel_f c0, sel_f c1, sel_f c2, sel_f c3, sel_f c4]
theorem tLegs_ok {t : Trade} (h1 : isNo t.Buyer) (h2 : isNo t.Seller) (h3 : isNo t.Paper) (h4 : isNo t.Cash) (h5 : 0 ≤ t.Qty ∧ t.Qty ≤ 1000000000000000) (h6 : 0 ≤ t.Price ∧ t.Price ≤ 1000000000000000) : LegsOk (tLegs t) := by
  refine ⟨⟨by show 4 ≤ 160; omega, fun x hx => ?_⟩, fun x hx => ?_⟩
  · simp only [tLegs, List.mem_cons, List.not_mem_nil, or_false] at hx
    rcases hx with rfl | rfl | rfl | rfl <;> (refine ⟨by assumption, by assumption, ?_⟩; show -1000000000000000 ≤ _ ∧ _ ≤ 1000000000000000; dsimp only; omega)
  · have e : ∀ c : Int, legsSum (tLegs t) c = (if t.Cash = c then -t.Price else 0) + ((if t.Cash = c then t.Price else 0) + ((if t.Paper = c then -t.Qty else 0) + ((if t.Paper = c then t.Qty else 0) + 0))) := fun c => by
      simp only [legsSum, sumF, tLegs, List.map_cons, List.map_nil, List.sum_cons, List.sum_nil, legB]
    rw [e]
    split <;> split <;> omega
theorem take_bd {b : Books} (hb : BooksOk b) {a c q w : Int} : 0 ≤ tC b.Lots a c q w ∧ tC b.Lots a c q w ≤ 1000000000000000 := by
  show 0 ≤ (lotTake b.Lots a c q w).2.1 ∧ (lotTake b.Lots a c q w).2.1 ≤ 1000000000000000
  by_cases h : LotsOk b.Lots ∧ inP q 1 1000000000000000 ∧ inP w 1 3
  · by_cases h2 : sQ (lotsOf b.Lots a c) < q
    · rw [lt_2 h h2]; show (0 : Int) ≤ 0 ∧ (0 : Int) ≤ 1000000000000000; omega
    · rw [lt_0 h h2]
      have hq := h.2.1
      unfold inP at hq
      have ho := h.1.own a c
      have := tkC_bd (way := w) (h.1.LG.flt (fun x => x.Account = a ∧ x.Instr = c)) (q := q) ⟨by omega, by show q ≤ sQ (lotsOf b.Lots a c); omega⟩ (by show 1 ≤ sQ (lotsOf b.Lots a c); omega)
      exact ⟨this.1, Int.le_trans this.2 ho.2.2⟩
  · rw [lt_1 h]; show (0 : Int) ≤ 0 ∧ (0 : Int) ≤ 1000000000000000; omega
theorem bkE_upd {n : Nat} {a : List Account} {i : List Instr} {b : List Bal} {l : List Lot} {t : List Trade} {k y : Int} {x : Trade} : bkE n ⟨a, i, b, l, upd t k x, y⟩ = .agg [.row n 0 a.length, .row (n + 1) 0 i.length, .row (n + 2) 0 b.length, .row (n + 3) 0 l.length, .row (n + 4) 0 t.length, .sc (.int .i64 y)] := by
  unfold bkE
  rw [upd_len]
set_option maxHeartbeats 4000000 in
theorem impl_BookSettle {ba : List Account} {bi : List Instr} {bb : List Bal} {bl : List Lot} {bt : List Trade} {bn : Int} {no way : Int} : FC Tryz.prog 37 [bkV 0 ⟨ba, bi, bb, bl, bt, bn⟩, I no, I way] (bkR ⟨ba, bi, bb, bl, bt, bn⟩) (.tup [bkE 5 (bookSettle ⟨ba, bi, bb, bl, bt, bn⟩ no way).1, I (bookSettle ⟨ba, bi, bb, bl, bt, bn⟩ no way).2.1, I (bookSettle ⟨ba, bi, bb, bl, bt, bn⟩ no way).2.2]) (bkR ⟨ba, bi, bb, bl, bt, bn⟩ ++ bkW (bookSettle ⟨ba, bi, bb, bl, bt, bn⟩ no way).1) := by
  refine fent tk 88 [.cell 6 _, .tmp 7, .tmp 8] Tryz.func37 (by kernel_rfl) rfl rfl rfl rfl rfl rfl rfl ?_
  by_cases hok : BooksOk ⟨ba, bi, bb, bl, bt, bn⟩
  rotate_left
  ·
    rw [bookSettle_0 (b := ⟨ba, bi, bb, bl, bt, bn⟩) (fun h => hok h.1)]
    repeat' (first
 | (intro h9; exfalso; first | contradiction | omega)
 | (with_reducible apply znilC (d := 27) 0 94 2); rfl; rfl; rfl; rfl; rfl
 | (with_reducible apply znilC (d := 27) 1 95 2); rfl; rfl; rfl; rfl; rfl
 | (with_reducible apply znilC (d := 27) 2 97 3); rfl; rfl; rfl; rfl; rfl
 | (with_reducible apply znilC (d := 27) 3 99 5); rfl; rfl; rfl; rfl; rfl
 | (with_reducible apply znilC (d := 27) 4 101 8); rfl; rfl; rfl; rfl; rfl
 | (with_reducible apply zd); rfl; exact tk; rfl
 | (with_reducible first | intro _ | apply wseq | apply zreg | apply thenQ_n | apply thenQ_r | apply thenQ_e | apply znil | apply wret | apply bodyQ_r | apply wblk | apply blkQ_n | apply blkQ_r | apply wskip | apply wexit)
 | apply wct rfl
 | (with_reducible apply zcp); (iterate 10 rfl); (first | exact impl_BooksOk | exact impl_isNo | exact impl_in); rfl; rfl
 | fail)
    all_goals first | exact endV [0, 1, 2, 3, 4, 7, 8, 9, 10, 11] rfl rfl rfl rfl rfl rfl | trace_state
  by_cases hta : isNo no ∧ inP way 1 3
  rotate_left
  ·
    rw [bookSettle_0 (b := ⟨ba, bi, bb, bl, bt, bn⟩) (fun h => hta h.2)]
    repeat' (first
 | (intro h9; exfalso; first | contradiction | omega)
 | (intro h9; exact absurd ⟨by assumption, by assumption⟩ hta)
 | (with_reducible apply znilC (d := 27) 0 94 2); rfl; rfl; rfl; rfl; rfl
 | (with_reducible apply znilC (d := 27) 1 95 2); rfl; rfl; rfl; rfl; rfl
 | (with_reducible apply znilC (d := 27) 2 97 3); rfl; rfl; rfl; rfl; rfl
 | (with_reducible apply znilC (d := 27) 3 99 5); rfl; rfl; rfl; rfl; rfl
 | (with_reducible apply znilC (d := 27) 4 101 8); rfl; rfl; rfl; rfl; rfl
 | (with_reducible apply zd); rfl; exact tk; rfl
 | (with_reducible first | intro _ | apply wseq | apply zreg | apply thenQ_n | apply thenQ_r | apply thenQ_e | apply znil | apply wret | apply bodyQ_r | apply wblk | apply blkQ_n | apply blkQ_r | apply wskip | apply wexit)
 | apply wct rfl
 | (with_reducible apply zcp); (iterate 10 rfl); (first | exact impl_BooksOk | exact impl_isNo | exact impl_in); rfl; rfl
 | fail)
    all_goals first | exact endV [0, 1, 2, 3, 4, 7, 8, 9, 10, 11] rfl rfl rfl rfl rfl rfl | trace_state
  have hA := hok.acc
  have hal := hA.2
  have hto := hok.trades
  have htl := hto.2
  have hbn := hok.lot
  obtain ⟨k1, k2⟩ := id hta
  dsimp only at hA hal hto htl hbn
  unfold inP at hbn
  have c0 : ¬ ¬ (BooksOk ⟨ba, bi, bb, bl, bt, bn⟩ ∧ isNo no ∧ inP way 1 3) := fun k => k ⟨hok, hta⟩
  by_cases hop : tOpen bt no
  rotate_left
  ·
    have hoc := oC_ne bt no
    rw [bookSettle_1 (b := ⟨ba, bi, bb, bl, bt, bn⟩) c0 hop]
    repeat' (first
 | (intro h9; exfalso; first | contradiction | omega)
 | (with_reducible apply zds); exact tk; rfl; rfl; rfl; rfl; rfl
 | (with_reducible apply zd); rfl; exact tk; rfl
 | (with_reducible first | intro _ | apply wseq | apply zreg | apply thenQ_n | apply thenQ_r | apply thenQ_e | apply znil | apply wret | apply bodyQ_r | apply wblk | apply blkQ_n | apply blkQ_r | apply wskip | apply wexit)
 | apply wct rfl
 | apply wcf rfl
 | (with_reducible apply zne); rfl; exact tk; rfl; rfl; rfl; rfl
 | (with_reducible apply zcp); (iterate 10 rfl); (first | exact impl_BooksOk | exact impl_isNo | exact impl_in); rfl; rfl
 | (with_reducible apply zcs); (iterate 10 rfl); exact impl_openTrade; exact fun _ => rfl; exact fun _ => rfl; rfl; rfl; rfl; rfl
 | (with_reducible apply zcf); (iterate 10 rfl); (first | exact impl_cloneBooks (by first | assumption | exact BooksOk.midB (by assumption)) | exact impl_tradeLegs (by omega) (by omega)); rfl; rfl; rfl; rfl; rfl
 | fail)
    all_goals first | exact endV [0, 1, 2, 3, 4, 7, 8, 9, 10, 11] rfl rfl rfl rfl rfl rfl | trace_state
  have c1 : ¬ ¬ tOpen (⟨ba, bi, bb, bl, bt, bn⟩ : Books).Trades no := fun k => k hop
  obtain ⟨hta1, hta2⟩ := tAt_bnd hop.1
  obtain ⟨q1, q2, q3, q4, q5, q6, hq, hp, q7⟩ := hto.1 _ hta1 hta2
  have hlg := tLegs_ok (t := (rd bt (tAt bt no))) q2 q3 q4 q5 (by unfold inP at hq; omega) hp
  have hpc := poR_code hok hlg
  unfold inP at hq hp
  have hpn := pC_ne (pN ba bb (tLegs ⟨(rd bt (tAt bt no)).No, (rd bt (tAt bt no)).Buyer, (rd bt (tAt bt no)).Seller, (rd bt (tAt bt no)).Paper, (rd bt (tAt bt no)).Qty, (rd bt (tAt bt no)).Cash, (rd bt (tAt bt no)).Price, (rd bt (tAt bt no)).State⟩))
  have hsn := sC_ne (pN ba bb (tLegs ⟨(rd bt (tAt bt no)).No, (rd bt (tAt bt no)).Buyer, (rd bt (tAt bt no)).Seller, (rd bt (tAt bt no)).Paper, (rd bt (tAt bt no)).Qty, (rd bt (tAt bt no)).Cash, (rd bt (tAt bt no)).Price, (rd bt (tAt bt no)).State⟩))
  have hT4 : (tLegs ⟨(rd bt (tAt bt no)).No, (rd bt (tAt bt no)).Buyer, (rd bt (tAt bt no)).Seller, (rd bt (tAt bt no)).Paper, (rd bt (tAt bt no)).Qty, (rd bt (tAt bt no)).Cash, (rd bt (tAt bt no)).Price, (rd bt (tAt bt no)).State⟩).length = 4 := rfl
  have htc := take_bd hok (a := (rd bt (tAt bt no)).Seller) (c := (rd bt (tAt bt no)).Paper) (q := (rd bt (tAt bt no)).Qty) (w := way)
  dsimp only at htc
  repeat' (first
 | (intro h9; exfalso; first | contradiction | omega)
 | (with_reducible apply zds); exact tk; rfl; rfl; rfl; rfl; rfl
 | (with_reducible apply zd); rfl; exact tk; rfl
 | (with_reducible first | intro _ | apply wseq | apply zreg | apply thenQ_n | apply thenQ_r | apply thenQ_e | apply znil | apply wret | apply bodyQ_r | apply wblk | apply blkQ_n | apply blkQ_r | apply wskip | apply wexit)
 | apply wct rfl
 | apply wcf rfl
 | (with_reducible apply zeq); rfl; exact tk; rfl; rfl; rfl; rfl
 | (with_reducible apply zne); rfl; exact tk; rfl; rfl; rfl; rfl
 | (with_reducible apply zar); rfl; rfl; rfl; rfl; (first | omega | ((try simp only [List.length_append, List.length_cons, List.length_nil, List.length_map]); (try dsimp only); omega)); rfl; rfl
 | (with_reducible apply zix); rfl; exact tk; (iterate 7 rfl); (first | omega | ((try simp only [List.length_append, List.length_cons, List.length_nil, List.length_map]); (try dsimp only); omega)); rfl; rfl
 | (with_reducible apply zle); rfl; exact tk; rfl; rfl; rfl; rfl; (first | omega | ((try simp only [List.length_append, List.length_cons, List.length_nil, List.length_map]); (try dsimp only); omega)); rfl; rfl; rfl; rfl
 | (with_reducible apply zse); rfl; exact tk; (iterate 6 rfl); (first | omega | ((try simp only [List.length_append, List.length_cons, List.length_nil, List.length_map]); (try dsimp only); omega)); rfl; rfl; rfl; rfl; rfl
 | refine zdqT (id := 17) rfl (by kernel_rfl) (.one .p 1 (.one .p 3 (.one .t 0 (.two .o 2 (.one .p 4 (.one .l 5 (.one .p 6 (.one .p 7 .nil)))) .l 5 (.one .o 2 (.one .p 4 (.one .p 6 (.one .p 7 .nil)))))))) [5] (by kernel_rfl) ?_
 | ((with_reducible apply zt1); rfl)
 | ((with_reducible apply zt2); rfl; rfl)
 | (with_reducible apply zt0)
 | (with_reducible apply nQ_n)
 | (with_reducible apply zcp); (iterate 10 rfl); (first | exact impl_BooksOk | exact impl_isNo | exact impl_in); rfl; rfl
 | (with_reducible apply zcs); (iterate 10 rfl); exact impl_openTrade; exact fun _ => rfl; exact fun _ => rfl; rfl; rfl; rfl; rfl
 | (with_reducible apply zcf); (iterate 10 rfl); (first | exact impl_cloneBooks (by first | assumption | exact BooksOk.midB (by assumption)) | exact impl_tradeLegs (by omega) (by omega)); rfl; rfl; rfl; rfl; rfl
 | (with_reducible apply zcwp  [true,true,true,true,true,true,true]); (iterate 10 rfl); exact impl_Books_post (by omega); (iterate 6 rfl)
 | (with_reducible apply zcwp  [true,true,true,true,true,true]); (iterate 10 rfl); (first | exact impl_Books_take | exact impl_Books_open (by omega)); (iterate 6 rfl)
 | fail)
  all_goals first
    | (have c2 : ¬ pN ba bb (tLegs ⟨(rd bt (tAt bt no)).No, (rd bt (tAt bt no)).Buyer, (rd bt (tAt bt no)).Seller, (rd bt (tAt bt no)).Paper, (rd bt (tAt bt no)).Qty, (rd bt (tAt bt no)).Cash, (rd bt (tAt bt no)).Price, (rd bt (tAt bt no)).State⟩) = 0 := by assumption
       rw [bookSettle_2 (b := ⟨ba, bi, bb, bl, bt, bn⟩) c0 c1 c2]
       exact endV [0, 1, 2, 3, 4, 15, 16, 17, 18, 19] rfl rfl rfl rfl rfl rfl)
    | (have c2 : pN ba bb (tLegs ⟨(rd bt (tAt bt no)).No, (rd bt (tAt bt no)).Buyer, (rd bt (tAt bt no)).Seller, (rd bt (tAt bt no)).Paper, (rd bt (tAt bt no)).Qty, (rd bt (tAt bt no)).Cash, (rd bt (tAt bt no)).Price, (rd bt (tAt bt no)).State⟩) = 0 := by assumption
       have c3 : ¬ tN bl (rd bt (tAt bt no)).Seller (rd bt (tAt bt no)).Paper (rd bt (tAt bt no)).Qty way = 0 := by assumption
       rw [bookSettle_3 (b := ⟨ba, bi, bb, bl, bt, bn⟩) c0 c1 (fun k => k c2) c3]
       exact endV [0, 1, 2, 3, 4, 16, 17, 18, 19, 20] rfl rfl rfl rfl rfl rfl)
    | (have c2 : pN ba bb (tLegs ⟨(rd bt (tAt bt no)).No, (rd bt (tAt bt no)).Buyer, (rd bt (tAt bt no)).Seller, (rd bt (tAt bt no)).Paper, (rd bt (tAt bt no)).Qty, (rd bt (tAt bt no)).Cash, (rd bt (tAt bt no)).Price, (rd bt (tAt bt no)).State⟩) = 0 := by assumption
       have c3 : tN bl (rd bt (tAt bt no)).Seller (rd bt (tAt bt no)).Paper (rd bt (tAt bt no)).Qty way = 0 := by assumption
       have c4 : ¬ opOk (tL bl (rd bt (tAt bt no)).Seller (rd bt (tAt bt no)).Paper (rd bt (tAt bt no)).Qty way) bn (rd bt (tAt bt no)).Buyer (rd bt (tAt bt no)).Paper (rd bt (tAt bt no)).Qty (rd bt (tAt bt no)).Price := by assumption
       rw [bookSettle_4 (b := ⟨ba, bi, bb, bl, bt, bn⟩) c0 c1 (fun k => k c2) (fun k => k c3) c4]
       exact endV [0, 1, 2, 3, 4, 17, 18, 19, 20, 21] rfl rfl rfl rfl rfl rfl)
    | (have c2 : pN ba bb (tLegs ⟨(rd bt (tAt bt no)).No, (rd bt (tAt bt no)).Buyer, (rd bt (tAt bt no)).Seller, (rd bt (tAt bt no)).Paper, (rd bt (tAt bt no)).Qty, (rd bt (tAt bt no)).Cash, (rd bt (tAt bt no)).Price, (rd bt (tAt bt no)).State⟩) = 0 := by assumption
       have c3 : tN bl (rd bt (tAt bt no)).Seller (rd bt (tAt bt no)).Paper (rd bt (tAt bt no)).Qty way = 0 := by assumption
       have c4 : opOk (tL bl (rd bt (tAt bt no)).Seller (rd bt (tAt bt no)).Paper (rd bt (tAt bt no)).Qty way) bn (rd bt (tAt bt no)).Buyer (rd bt (tAt bt no)).Paper (rd bt (tAt bt no)).Qty (rd bt (tAt bt no)).Price := by assumption
       rw [bookSettle_5 (b := ⟨ba, bi, bb, bl, bt, bn⟩) c0 c1 (fun k => k c2) (fun k => k c3) (fun k => k c4)]
       dsimp only
       rw [bkE_upd]
       exact endV [0, 1, 2, 3, 4, 7, 8, 15, 17, 11] rfl rfl rfl rfl rfl rfl)
    | trace_state
set_option maxHeartbeats 4000000 in
theorem spec_BookSettle {ba : List Account} {bi : List Instr} {bb : List Bal} {bl : List Lot} {bt : List Trade} {bn : Int} {no way : Int} : FC Tryz.prog 36 [bkV 0 ⟨ba, bi, bb, bl, bt, bn⟩, I no, I way] (bkR ⟨ba, bi, bb, bl, bt, bn⟩) (.tup [bkE 5 (bookSettle ⟨ba, bi, bb, bl, bt, bn⟩ no way).1, I (bookSettle ⟨ba, bi, bb, bl, bt, bn⟩ no way).2.1, I (bookSettle ⟨ba, bi, bb, bl, bt, bn⟩ no way).2.2]) (bkR ⟨ba, bi, bb, bl, bt, bn⟩ ++ bkW (bookSettle ⟨ba, bi, bb, bl, bt, bn⟩ no way).1) := by
  refine fent tk 86 [.cell 6 _, .tmp 7, .tmp 8] Tryz.func36 (by kernel_rfl) rfl rfl rfl rfl rfl rfl rfl ?_
  by_cases hok : BooksOk ⟨ba, bi, bb, bl, bt, bn⟩
  rotate_left
  ·
    rw [bookSettle_0 (b := ⟨ba, bi, bb, bl, bt, bn⟩) (fun h => hok h.1)]
    repeat' (first
 | (intro h9; exfalso; first | contradiction | omega)
 | (with_reducible apply znilC (d := 27) 0 94 2); rfl; rfl; rfl; rfl; rfl
 | (with_reducible apply znilC (d := 27) 1 95 2); rfl; rfl; rfl; rfl; rfl
 | (with_reducible apply znilC (d := 27) 2 97 3); rfl; rfl; rfl; rfl; rfl
 | (with_reducible apply znilC (d := 27) 3 99 5); rfl; rfl; rfl; rfl; rfl
 | (with_reducible apply znilC (d := 27) 4 101 8); rfl; rfl; rfl; rfl; rfl
 | (with_reducible apply zd); rfl; exact tk; rfl
 | (with_reducible first | intro _ | apply wseq | apply zreg | apply thenQ_n | apply thenQ_r | apply thenQ_e | apply znil | apply wret | apply bodyQ_r | apply wblk | apply blkQ_n | apply blkQ_r | apply wskip | apply wexit)
 | apply wct rfl
 | (with_reducible apply zcp); (iterate 10 rfl); (first | exact spec_BooksOk | exact spec_l3No | exact spec_l1In); rfl; rfl
 | fail)
    all_goals first | exact endV [0, 1, 2, 3, 4, 7, 8, 9, 10, 11] rfl rfl rfl rfl rfl rfl | trace_state
  by_cases hta : isNo no ∧ inP way 1 3
  rotate_left
  ·
    rw [bookSettle_0 (b := ⟨ba, bi, bb, bl, bt, bn⟩) (fun h => hta h.2)]
    repeat' (first
 | (intro h9; exfalso; first | contradiction | omega)
 | (intro h9; exact absurd ⟨by assumption, by assumption⟩ hta)
 | (with_reducible apply znilC (d := 27) 0 94 2); rfl; rfl; rfl; rfl; rfl
 | (with_reducible apply znilC (d := 27) 1 95 2); rfl; rfl; rfl; rfl; rfl
 | (with_reducible apply znilC (d := 27) 2 97 3); rfl; rfl; rfl; rfl; rfl
 | (with_reducible apply znilC (d := 27) 3 99 5); rfl; rfl; rfl; rfl; rfl
 | (with_reducible apply znilC (d := 27) 4 101 8); rfl; rfl; rfl; rfl; rfl
 | (with_reducible apply zd); rfl; exact tk; rfl
 | (with_reducible first | intro _ | apply wseq | apply zreg | apply thenQ_n | apply thenQ_r | apply thenQ_e | apply znil | apply wret | apply bodyQ_r | apply wblk | apply blkQ_n | apply blkQ_r | apply wskip | apply wexit)
 | apply wct rfl
 | (with_reducible apply zcp); (iterate 10 rfl); (first | exact spec_BooksOk | exact spec_l3No | exact spec_l1In); rfl; rfl
 | fail)
    all_goals first | exact endV [0, 1, 2, 3, 4, 7, 8, 9, 10, 11] rfl rfl rfl rfl rfl rfl | trace_state
  have hA := hok.acc
  have hal := hA.2
  have hto := hok.trades
  have htl := hto.2
  have hbn := hok.lot
  obtain ⟨k1, k2⟩ := id hta
  dsimp only at hA hal hto htl hbn
  unfold inP at hbn
  have c0 : ¬ ¬ (BooksOk ⟨ba, bi, bb, bl, bt, bn⟩ ∧ isNo no ∧ inP way 1 3) := fun k => k ⟨hok, hta⟩
  by_cases hop : tOpen bt no
  rotate_left
  ·
    have hoc := oC_ne bt no
    rw [bookSettle_1 (b := ⟨ba, bi, bb, bl, bt, bn⟩) c0 hop]
    repeat' (first
 | (intro h9; exfalso; first | contradiction | omega)
 | (with_reducible apply zds); exact tk; rfl; rfl; rfl; rfl; rfl
 | (with_reducible apply zd); rfl; exact tk; rfl
 | (with_reducible first | intro _ | apply wseq | apply zreg | apply thenQ_n | apply thenQ_r | apply thenQ_e | apply znil | apply wret | apply bodyQ_r | apply wblk | apply blkQ_n | apply blkQ_r | apply wskip | apply wexit)
 | apply wct rfl
 | apply wcf rfl
 | (with_reducible apply zne); rfl; exact tk; rfl; rfl; rfl; rfl
 | (with_reducible apply zcp); (iterate 10 rfl); (first | exact spec_BooksOk | exact spec_l3No | exact spec_l1In); rfl; rfl
 | (with_reducible apply zcs); (iterate 10 rfl); exact spec_l7Open; exact fun _ => rfl; exact fun _ => rfl; rfl; rfl; rfl; rfl
 | (with_reducible apply zcf); (iterate 10 rfl); (first | exact spec_l6Copy (by first | assumption | exact BooksOk.midB (by assumption)) | exact spec_l7Legs (by omega) (by omega)); rfl; rfl; rfl; rfl; rfl
 | fail)
    all_goals first | exact endV [0, 1, 2, 3, 4, 7, 8, 9, 10, 11] rfl rfl rfl rfl rfl rfl | trace_state
  have c1 : ¬ ¬ tOpen (⟨ba, bi, bb, bl, bt, bn⟩ : Books).Trades no := fun k => k hop
  obtain ⟨hta1, hta2⟩ := tAt_bnd hop.1
  obtain ⟨q1, q2, q3, q4, q5, q6, hq, hp, q7⟩ := hto.1 _ hta1 hta2
  have hlg := tLegs_ok (t := (rd bt (tAt bt no))) q2 q3 q4 q5 (by unfold inP at hq; omega) hp
  have hpc := poR_code hok hlg
  unfold inP at hq hp
  have hpn := pC_ne (pN ba bb (tLegs ⟨(rd bt (tAt bt no)).No, (rd bt (tAt bt no)).Buyer, (rd bt (tAt bt no)).Seller, (rd bt (tAt bt no)).Paper, (rd bt (tAt bt no)).Qty, (rd bt (tAt bt no)).Cash, (rd bt (tAt bt no)).Price, (rd bt (tAt bt no)).State⟩))
  have hsn := sC_ne (pN ba bb (tLegs ⟨(rd bt (tAt bt no)).No, (rd bt (tAt bt no)).Buyer, (rd bt (tAt bt no)).Seller, (rd bt (tAt bt no)).Paper, (rd bt (tAt bt no)).Qty, (rd bt (tAt bt no)).Cash, (rd bt (tAt bt no)).Price, (rd bt (tAt bt no)).State⟩))
  have hT4 : (tLegs ⟨(rd bt (tAt bt no)).No, (rd bt (tAt bt no)).Buyer, (rd bt (tAt bt no)).Seller, (rd bt (tAt bt no)).Paper, (rd bt (tAt bt no)).Qty, (rd bt (tAt bt no)).Cash, (rd bt (tAt bt no)).Price, (rd bt (tAt bt no)).State⟩).length = 4 := rfl
  have htc := take_bd hok (a := (rd bt (tAt bt no)).Seller) (c := (rd bt (tAt bt no)).Paper) (q := (rd bt (tAt bt no)).Qty) (w := way)
  dsimp only at htc
  have hpp : pick ((rd bt (tAt bt no)).Price < 0) (tC bl (rd bt (tAt bt no)).Seller (rd bt (tAt bt no)).Paper (rd bt (tAt bt no)).Qty way) (rd bt (tAt bt no)).Price = (rd bt (tAt bt no)).Price := pick_f (by omega)
  by_cases c3 : tN bl (rd bt (tAt bt no)).Seller (rd bt (tAt bt no)).Paper (rd bt (tAt bt no)).Qty way = 0
  rotate_left
  ·
    repeat' (first
 | (intro h9; exfalso; first | contradiction | omega)
 | (with_reducible apply zds); exact tk; rfl; rfl; rfl; rfl; rfl
 | (with_reducible apply zd); rfl; exact tk; rfl
 | (with_reducible first | intro _ | apply wseq | apply zreg | apply thenQ_n | apply thenQ_r | apply thenQ_e | apply znil | apply wret | apply bodyQ_r | apply wblk | apply blkQ_n | apply blkQ_r | apply wskip | apply wexit)
 | apply wct rfl
 | apply wcf rfl
 | (with_reducible apply zeq); rfl; exact tk; rfl; rfl; rfl; rfl
 | (with_reducible apply zne); rfl; exact tk; rfl; rfl; rfl; rfl
 | (with_reducible apply zix); rfl; exact tk; (iterate 7 rfl); (first | omega | ((try simp only [List.length_append, List.length_cons, List.length_nil, List.length_map]); (try dsimp only); omega)); rfl; rfl
 | (with_reducible apply zle); rfl; exact tk; rfl; rfl; rfl; rfl; (first | omega | ((try simp only [List.length_append, List.length_cons, List.length_nil, List.length_map]); (try dsimp only); omega)); rfl; rfl; rfl; rfl
 | refine zdqT (id := 8) rfl (by kernel_rfl) (.one .t 0 (.one .t 2 (.two .o 1 (.two .o 3 (.two .l 4 (.one .p 5 (.one .p 6 (.one .p 7 (.one .o 8 (.one .l 9 (.one .p 10 .nil)))))) .o 8 (.one .l 4 (.one .p 5 (.one .p 6 (.one .p 7 (.one .l 9 (.one .p 10 .nil))))))) .o 8 (.one .o 3 (.one .l 4 (.one .p 5 (.one .p 6 (.one .p 7 (.one .l 9 (.one .p 10 .nil)))))))) .o 8 (.one .o 1 (.one .o 3 (.one .l 4 (.one .p 5 (.one .p 6 (.one .p 7 (.one .l 9 (.one .p 10 .nil))))))))))) [4, 9] (by kernel_rfl) ?_
 | ((with_reducible apply zt1); rfl)
 | ((with_reducible apply zt2); rfl; rfl)
 | (with_reducible apply zt0)
 | (with_reducible apply nQ_n)
 | (with_reducible apply zcp); (iterate 10 rfl); (first | exact spec_BooksOk | exact spec_l3No | exact spec_l1In); rfl; rfl
 | (with_reducible apply zcs); (iterate 10 rfl); exact spec_l7Open; exact fun _ => rfl; exact fun _ => rfl; rfl; rfl; rfl; rfl
 | (with_reducible apply zcf); (iterate 10 rfl); (first | exact spec_l6Copy (by first | assumption | exact BooksOk.midB (by assumption)) | exact spec_l7Legs (by omega) (by omega)); rfl; rfl; rfl; rfl; rfl
 | (with_reducible apply zcwp  [true,true,true,true,true,false]); (iterate 10 rfl); exact spec_l6Post (by omega); (iterate 6 rfl)
 | (with_reducible apply zcw  [true,true,true,true,true]); (iterate 10 rfl); (first | exact spec_l6Carry_s (by omega) (by assumption) | exact spec_l6Carry_f (by omega) (by assumption) (by assumption) | exact spec_l6Carry_d (by omega) (by assumption) (by assumption)); rfl; rfl; rfl; rfl
 | fail)
    all_goals first
      | (have c2 : ¬ pN ba bb (tLegs ⟨(rd bt (tAt bt no)).No, (rd bt (tAt bt no)).Buyer, (rd bt (tAt bt no)).Seller, (rd bt (tAt bt no)).Paper, (rd bt (tAt bt no)).Qty, (rd bt (tAt bt no)).Cash, (rd bt (tAt bt no)).Price, (rd bt (tAt bt no)).State⟩) = 0 := by assumption
         rw [bookSettle_2 (b := ⟨ba, bi, bb, bl, bt, bn⟩) c0 c1 c2, ← sC_pC hpc]
         exact endV [0, 1, 2, 3, 4, 15, 16, 17, 18, 19] rfl rfl rfl rfl rfl rfl)
      | (have c2 : pN ba bb (tLegs ⟨(rd bt (tAt bt no)).No, (rd bt (tAt bt no)).Buyer, (rd bt (tAt bt no)).Seller, (rd bt (tAt bt no)).Paper, (rd bt (tAt bt no)).Qty, (rd bt (tAt bt no)).Cash, (rd bt (tAt bt no)).Price, (rd bt (tAt bt no)).State⟩) = 0 := by assumption
         rw [bookSettle_3 (b := ⟨ba, bi, bb, bl, bt, bn⟩) c0 c1 (fun k => k c2) c3]
         exact endV [0, 1, 2, 3, 4, 16, 17, 18, 19, 20] rfl rfl rfl rfl rfl rfl)
      | trace_state
  by_cases c4 : opOk (tL bl (rd bt (tAt bt no)).Seller (rd bt (tAt bt no)).Paper (rd bt (tAt bt no)).Qty way) bn (rd bt (tAt bt no)).Buyer (rd bt (tAt bt no)).Paper (rd bt (tAt bt no)).Qty (pick ((rd bt (tAt bt no)).Price < 0) (tC bl (rd bt (tAt bt no)).Seller (rd bt (tAt bt no)).Paper (rd bt (tAt bt no)).Qty way) (rd bt (tAt bt no)).Price)
  rotate_left
  ·
    repeat' (first
 | (intro h9; exfalso; first | contradiction | omega)
 | (with_reducible apply zds); exact tk; rfl; rfl; rfl; rfl; rfl
 | (with_reducible apply zd); rfl; exact tk; rfl
 | (with_reducible first | intro _ | apply wseq | apply zreg | apply thenQ_n | apply thenQ_r | apply thenQ_e | apply znil | apply wret | apply bodyQ_r | apply wblk | apply blkQ_n | apply blkQ_r | apply wskip | apply wexit)
 | apply wct rfl
 | apply wcf rfl
 | (with_reducible apply zeq); rfl; exact tk; rfl; rfl; rfl; rfl
 | (with_reducible apply zne); rfl; exact tk; rfl; rfl; rfl; rfl
 | (with_reducible apply zix); rfl; exact tk; (iterate 7 rfl); (first | omega | ((try simp only [List.length_append, List.length_cons, List.length_nil, List.length_map]); (try dsimp only); omega)); rfl; rfl
 | (with_reducible apply zle); rfl; exact tk; rfl; rfl; rfl; rfl; (first | omega | ((try simp only [List.length_append, List.length_cons, List.length_nil, List.length_map]); (try dsimp only); omega)); rfl; rfl; rfl; rfl
 | refine zdqT (id := 8) rfl (by kernel_rfl) (.one .t 0 (.one .t 2 (.two .o 1 (.two .o 3 (.two .l 4 (.one .p 5 (.one .p 6 (.one .p 7 (.one .o 8 (.one .l 9 (.one .p 10 .nil)))))) .o 8 (.one .l 4 (.one .p 5 (.one .p 6 (.one .p 7 (.one .l 9 (.one .p 10 .nil))))))) .o 8 (.one .o 3 (.one .l 4 (.one .p 5 (.one .p 6 (.one .p 7 (.one .l 9 (.one .p 10 .nil)))))))) .o 8 (.one .o 1 (.one .o 3 (.one .l 4 (.one .p 5 (.one .p 6 (.one .p 7 (.one .l 9 (.one .p 10 .nil))))))))))) [4, 9] (by kernel_rfl) ?_
 | ((with_reducible apply zt1); rfl)
 | ((with_reducible apply zt2); rfl; rfl)
 | (with_reducible apply zt0)
 | (with_reducible apply nQ_n)
 | (with_reducible apply zcp); (iterate 10 rfl); (first | exact spec_BooksOk | exact spec_l3No | exact spec_l1In); rfl; rfl
 | (with_reducible apply zcs); (iterate 10 rfl); exact spec_l7Open; exact fun _ => rfl; exact fun _ => rfl; rfl; rfl; rfl; rfl
 | (with_reducible apply zcf); (iterate 10 rfl); (first | exact spec_l6Copy (by first | assumption | exact BooksOk.midB (by assumption)) | exact spec_l7Legs (by omega) (by omega)); rfl; rfl; rfl; rfl; rfl
 | (with_reducible apply zcwp  [true,true,true,true,true,false]); (iterate 10 rfl); exact spec_l6Post (by omega); (iterate 6 rfl)
 | (with_reducible apply zcw  [true,true,true,true,true]); (iterate 10 rfl); (first | exact spec_l6Carry_s (by omega) (by assumption) | exact spec_l6Carry_f (by omega) (by assumption) (by assumption) | exact spec_l6Carry_d (by omega) (by assumption) (by assumption)); rfl; rfl; rfl; rfl
 | fail)
    all_goals first
      | (have c2 : ¬ pN ba bb (tLegs ⟨(rd bt (tAt bt no)).No, (rd bt (tAt bt no)).Buyer, (rd bt (tAt bt no)).Seller, (rd bt (tAt bt no)).Paper, (rd bt (tAt bt no)).Qty, (rd bt (tAt bt no)).Cash, (rd bt (tAt bt no)).Price, (rd bt (tAt bt no)).State⟩) = 0 := by assumption
         rw [bookSettle_2 (b := ⟨ba, bi, bb, bl, bt, bn⟩) c0 c1 c2, ← sC_pC hpc]
         exact endV [0, 1, 2, 3, 4, 15, 16, 17, 18, 19] rfl rfl rfl rfl rfl rfl)
      | (have c2 : pN ba bb (tLegs ⟨(rd bt (tAt bt no)).No, (rd bt (tAt bt no)).Buyer, (rd bt (tAt bt no)).Seller, (rd bt (tAt bt no)).Paper, (rd bt (tAt bt no)).Qty, (rd bt (tAt bt no)).Cash, (rd bt (tAt bt no)).Price, (rd bt (tAt bt no)).State⟩) = 0 := by assumption
         rw [hpp] at c4
         rw [bookSettle_4 (b := ⟨ba, bi, bb, bl, bt, bn⟩) c0 c1 (fun k => k c2) (fun k => k c3) c4]
         exact endV [0, 1, 2, 3, 4, 17, 18, 19, 20, 21] rfl rfl rfl rfl rfl rfl)
      | trace_state
  repeat' (first
 | (intro h9; exfalso; first | contradiction | omega)
 | (with_reducible apply zds); exact tk; rfl; rfl; rfl; rfl; rfl
 | (with_reducible apply zd); rfl; exact tk; rfl
 | (with_reducible first | intro _ | apply wseq | apply zreg | apply thenQ_n | apply thenQ_r | apply thenQ_e | apply znil | apply wret | apply bodyQ_r | apply wblk | apply blkQ_n | apply blkQ_r | apply wskip | apply wexit)
 | apply wct rfl
 | apply wcf rfl
 | (with_reducible apply zeq); rfl; exact tk; rfl; rfl; rfl; rfl
 | (with_reducible apply zne); rfl; exact tk; rfl; rfl; rfl; rfl
 | (with_reducible apply zar); rfl; rfl; rfl; rfl; (first | omega | ((try simp only [List.length_append, List.length_cons, List.length_nil, List.length_map]); (try dsimp only); omega)); rfl; rfl
 | (with_reducible apply zix); rfl; exact tk; (iterate 7 rfl); (first | omega | ((try simp only [List.length_append, List.length_cons, List.length_nil, List.length_map]); (try dsimp only); omega)); rfl; rfl
 | (with_reducible apply zle); rfl; exact tk; rfl; rfl; rfl; rfl; (first | omega | ((try simp only [List.length_append, List.length_cons, List.length_nil, List.length_map]); (try dsimp only); omega)); rfl; rfl; rfl; rfl
 | (with_reducible apply zse); rfl; exact tk; (iterate 6 rfl); (first | omega | ((try simp only [List.length_append, List.length_cons, List.length_nil, List.length_map]); (try dsimp only); omega)); rfl; rfl; rfl; rfl; rfl
 | refine zdqT (id := 8) rfl (by kernel_rfl) (.one .t 0 (.one .t 2 (.two .o 1 (.two .o 3 (.two .l 4 (.one .p 5 (.one .p 6 (.one .p 7 (.one .o 8 (.one .l 9 (.one .p 10 .nil)))))) .o 8 (.one .l 4 (.one .p 5 (.one .p 6 (.one .p 7 (.one .l 9 (.one .p 10 .nil))))))) .o 8 (.one .o 3 (.one .l 4 (.one .p 5 (.one .p 6 (.one .p 7 (.one .l 9 (.one .p 10 .nil)))))))) .o 8 (.one .o 1 (.one .o 3 (.one .l 4 (.one .p 5 (.one .p 6 (.one .p 7 (.one .l 9 (.one .p 10 .nil))))))))))) [4, 9] (by kernel_rfl) ?_
 | refine zdqT (id := 14) rfl (by kernel_rfl) (.one .p 1 (.one .p 3 (.one .t 0 (.two .o 2 (.one .p 4 (.one .l 5 (.one .p 6 (.one .p 7 .nil)))) .l 5 (.one .o 2 (.one .p 4 (.one .p 6 (.one .p 7 .nil)))))))) [5] (by kernel_rfl) ?_
 | ((with_reducible apply zt1); rfl)
 | ((with_reducible apply zt2); rfl; rfl)
 | (with_reducible apply zt0)
 | (with_reducible apply nQ_n)
 | (with_reducible apply zcp); (iterate 10 rfl); (first | exact spec_BooksOk | exact spec_l3No | exact spec_l1In); rfl; rfl
 | (with_reducible apply zcs); (iterate 10 rfl); exact spec_l7Open; exact fun _ => rfl; exact fun _ => rfl; rfl; rfl; rfl; rfl
 | (with_reducible apply zcf); (iterate 10 rfl); (first | exact spec_l6Copy (by first | assumption | exact BooksOk.midB (by assumption)) | exact spec_l7Legs (by omega) (by omega)); rfl; rfl; rfl; rfl; rfl
 | (with_reducible apply zcwp  [true,true,true,true,true,false]); (iterate 10 rfl); exact spec_l6Post (by omega); (iterate 6 rfl)
 | (with_reducible apply zcw  [true,true,true,true,true]); (iterate 10 rfl); (first | exact spec_l6Carry_s (by omega) (by assumption) | exact spec_l6Carry_f (by omega) (by assumption) (by assumption) | exact spec_l6Carry_d (by omega) (by assumption) (by assumption)); rfl; rfl; rfl; rfl
 | fail)
  all_goals first
    | (have c2 : ¬ pN ba bb (tLegs ⟨(rd bt (tAt bt no)).No, (rd bt (tAt bt no)).Buyer, (rd bt (tAt bt no)).Seller, (rd bt (tAt bt no)).Paper, (rd bt (tAt bt no)).Qty, (rd bt (tAt bt no)).Cash, (rd bt (tAt bt no)).Price, (rd bt (tAt bt no)).State⟩) = 0 := by assumption
       rw [bookSettle_2 (b := ⟨ba, bi, bb, bl, bt, bn⟩) c0 c1 c2, ← sC_pC hpc]
       exact endV [0, 1, 2, 3, 4, 15, 16, 17, 18, 19] rfl rfl rfl rfl rfl rfl)
    | (have c2 : pN ba bb (tLegs ⟨(rd bt (tAt bt no)).No, (rd bt (tAt bt no)).Buyer, (rd bt (tAt bt no)).Seller, (rd bt (tAt bt no)).Paper, (rd bt (tAt bt no)).Qty, (rd bt (tAt bt no)).Cash, (rd bt (tAt bt no)).Price, (rd bt (tAt bt no)).State⟩) = 0 := by assumption
       have c5 := c4
       rw [hpp] at c5 ⊢
       rw [bookSettle_5 (b := ⟨ba, bi, bb, bl, bt, bn⟩) c0 c1 (fun k => k c2) (fun k => k c3) (fun k => k c5)]
       dsimp only
       rw [bkE_upd]
       first
         | exact endV [0, 1, 2, 3, 4, 8, 9, 14, 16, 12] rfl rfl rfl rfl rfl rfl
         | exact endV [0, 1, 2, 3, 4, 8, 9, 15, 16, 12] rfl rfl rfl rfl rfl rfl
         | exact endV [0, 1, 2, 3, 4, 9, 10, 15, 16, 13] rfl rfl rfl rfl rfl rfl)
    | trace_state
end Go.Proofs.YtnlajjoheegbiaaGreat.Sh
