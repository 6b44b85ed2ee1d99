/- Legs are posted in books: both sides. No condition. -/
import Derived.Test.YtgehbhkfehmdkaaGreatKSpShBq
import Derived.Test.YtgehbhkfehmdkaaGreatKSpShTr
namespace Go.Proofs.YtgehbhkfehmdkaaGreat.Sh
open Go.RowKit
set_option linter.unusedVariables false
set_option linter.unusedSimpArgs false
noncomputable def poR (b : Books) (g : List Leg) : List Bal × Int := balsPost b.Bals g (shA b.Accounts)
theorem poR_code {b : Books} {g : List Leg} (hb : BooksOk b) (hg : LegsOk g) : (poR b g).2 = 0 ∨ (poR b g).2 = 3 ∨ (poR b g).2 = 4 ∨ (poR b g).2 = 5 := by
  have h : BalsOk b.Bals ∧ legsForm g ∧ (shA b.Accounts).length ≤ 20 := ⟨hb.bals, hg.1, by have := shA_len b.Accounts; have := hb.acc.2; omega⟩
  unfold poR
  by_cases h3 : postFit b.Bals g
  · by_cases h4 : postLow (pO b.Bals g) g (shA b.Accounts)
    · rw [bp_3 h hg h3 h4]; simp
    · by_cases h5 : 160 < (pO b.Bals g).length
      · rw [bp_5 h hg h3 h4 h5]; simp
      · rw [bp_0 h hg h3 h4 h5]; simp
  · rw [bp_4 h hg h3]; simp
def bkX (n : Nat) : Books → Option AO
  | ⟨a, i, b, l, t, x⟩ => some ⟨true, 30, 6, .mx [.row n 0 a.length, .row (n + 1) 0 i.length, .row (n + 2) 0 b.length, .row (n + 3) 0 l.length, .row (n + 4) 0 t.length, .sc (.int .i64 x)]⟩
section
variable {P : Program} {T : TB} {ops : Array Oper} {Q : Exit → St → Prop} {h1 : AH} {k : Sk} {ks ks' : List Sk} {l : List Oper} {N0 k0 d0 : Nat} {e0 : List (Nat × AV)} {h0 : AH} {ty : TypeId} {pos : String} {af : Array Edge} {g : Option (Nat × Bool)}
theorem zcwp {fo : Operand} {ars : Array Operand} {ts : Array TypeId} {f : FuncId} {caps : List (Nat × Nat × Nat)} {vals args : List AV} {hs hs2 hs3 hv h2' h3' : AH} {p : Prop} {X Y X' Y' : AV} {m : List Nat} (fl : List Bool) (hs0 : stK ks = (Sk.l, ks')) (hf : ev e0 fo = some (.c (.fn f caps))) (hev : evs e0 ars.toList = some vals) (hm : fL (pass h0 (vals ++ caps.map capV)) = some m) (hca : canA m (vals ++ caps.map capV) = some args) (hch : canH fl m h0 = some hs) (hvw : fH (vwH m hs h0) = some hv)
    (hargs : args.map (AV.ren (mf m h0.length)) = vals ++ caps.map capV) (hp : renH (mf m h0.length) hs = mask hs (pickH m hv)) (hb : callB hs m h0.length = true) (hc : FC P f args hs (sel p X Y) (sel p hs2 hs3))
    (hX' : fV (X.ren (mf m h0.length)) = some X') (hh : fH (mergeH (mf m h0.length) m hs hs2 hv) = some h2') (hY' : fV (Y.ren (mf m h0.length)) = some Y') (hh3 : fH (mergeH (mf m h0.length) m hs hs3 hv) = some h3') (hg : gd ops ⟨some d0, .call { callee := .value fo, args := ars, argTypes := ts }, ty, pos, af, g⟩ e0 = some true) (hd : Nat.blt d0 N0 = true)
    (ht : p → ZZ P ops Q h1 ks' l ⟨N0, k0, (d0, X') :: e0, h2'⟩) (hf' : ¬ p → ZZ P ops Q h1 ks' l ⟨N0, k0, (d0, Y') :: e0, h3'⟩) : ZZ P ops Q h1 ks (⟨some d0, .call { callee := .value fo, args := ars, argTypes := ts }, ty, pos, af, g⟩ :: l) ⟨N0, k0, e0, h0⟩ := by
  by_cases hp0 : p
  · rw [sel_t hp0, sel_t hp0] at hc
    exact zcw fl hs0 hf hev hm hca hch hvw hargs hp hb hc hX' hh hg hd (ht hp0)
  · rw [sel_f hp0, sel_f hp0] at hc
    exact zcw fl hs0 hf hev hm hca hch hvw hargs hp hb hc hY' hh3 hg hd (hf' hp0)
end
theorem pC_ne (n : Int) : n = 0 ∨ pCode n ≠ 0 := by
  by_cases h : n = 0
  · exact .inl h
  · right
    unfold pCode
    rw [pick_f h]
    by_cases h3 : n = 3
    · rw [pick_t h3]; decide
    · rw [pick_f h3]
      by_cases h4 : n = 4
      · rw [pick_t h4]; decide
      · rw [pick_f h4]
        by_cases h5 : n = 5
        · rw [pick_t h5]; decide
        · rw [pick_f h5]; decide
noncomputable def sCode (n : Int) : Int := pick (n = 0) 0 (pick (n = 3) 5 (pick (n = 4) 8 7))
theorem sC_ne (n : Int) : n = 0 ∨ sCode n ≠ 0 := by
  by_cases h : n = 0
  · exact .inl h
  · right
    unfold sCode
    rw [pick_f h]
    by_cases h3 : n = 3
    · rw [pick_t h3]; decide
    · rw [pick_f h3]
      by_cases h4 : n = 4
      · rw [pick_t h4]; decide
      · rw [pick_f h4]; decide
theorem sC_pC {n : Int} (h : n = 0 ∨ n = 3 ∨ n = 4 ∨ n = 5) : sCode n = pCode n := by
  rcases h with rfl | rfl | rfl | rfl
  · rw [sCode, pick_t rfl, pCode, pick_t rfl]
  · rw [sCode, pick_f (by decide), pick_t rfl, pCode, pick_f (by decide), pick_t rfl]
  · rw [sCode, pick_f (by decide), pick_f (by decide), pick_t rfl, pCode, pick_f (by decide), pick_f (by decide), pick_t rfl]
  · rw [sCode, pick_f (by decide), pick_f (by decide), pick_f (by decide), pCode, pick_f (by decide), pick_f (by decide), pick_f (by decide), pick_t rfl]
noncomputable abbrev pN (ba : List Account) (bb : List Bal) (g : List Leg) : Int := (balsPost bb g (shA ba)).2
noncomputable abbrev pL (ba : List Account) (bb : List Bal) (g : List Leg) : List Bal := (balsPost bb g (shA ba)).1
set_option maxHeartbeats 4000000 in
theorem impl_Books_post {ba : List Account} {bi : List Instr} {bb : List Bal} {bl : List Lot} {bt : List Trade} {bn : Int} {g : List Leg} (hl : ba.length ≤ 1000000) : FC Tryz.prog 111 [.c (.ptr 0 0 0), .c (.row 1 0 g.length)] ([bkX 2 ⟨ba, bi, bb, bl, bt, bn⟩, ow 46 g] ++ bkO ⟨ba, bi, bb, bl, bt, bn⟩) (sel (pN ba bb g = 0) (I 0) (I (pCode (pN ba bb g)))) (sel (pN ba bb g = 0) ([some ⟨true, 30, 6, .mx [.row 2 0 ba.length, .row 3 0 bi.length, .row 7 0 (pL ba bb g).length, .row 5 0 bl.length, .row 6 0 bt.length, .sc (.int .i64 bn)]⟩, ow 46 g] ++ bkO ⟨ba, bi, bb, bl, bt, bn⟩ ++ [ow 135 (pL ba bb g)]) ([bkX 2 ⟨ba, bi, bb, bl, bt, bn⟩, ow 46 g] ++ bkO ⟨ba, bi, bb, bl, bt, bn⟩)) := by
  refine fent tk 47 [.tmp 4] Tryz.func111 (by kernel_rfl) rfl rfl rfl rfl rfl rfl rfl ?_
  repeat' (first
 | (with_reducible apply zds); exact tk; rfl; rfl; rfl; rfl; rfl
 | (with_reducible apply zd); rfl; exact tk; rfl
 | (with_reducible first | intro _ | apply wseq | apply zreg | apply thenQ_n | apply thenQ_r | apply thenQ_e | apply znil | apply wret | apply bodyQ_r | apply wblk | apply blkQ_n | apply blkQ_r | apply wskip | apply wexit)
 | (with_reducible apply zlit (α := Int) (e := 3)); rfl; exact tk; (iterate 13 rfl)
 | fail)
  refine wlp (X := Int × List Int) [0, 1, 14, 15] [0, 1, 2, 3, 4, 5, 6, 7] (fun x => [(16, I x.1), (5, .c (.row 7 0 x.2.length))]) (fun x => [(7, ow 3 x.2)]) (fun x => (0 ≤ x.1 ∧ x.1 ≤ ba.length) ∧ x.2 = shA (pf ba x.1)) (fun x => (ba.length - x.1).toNat) (0, []) ⟨⟨by dsimp only; omega, by dsimp only; omega⟩, rfl⟩ rfl rfl (fun _ => rfl) (fun _ => rfl) ⟨rfl, rfl, rfl, rfl, rfl, rfl, rfl, rfl⟩ (fun x hx => ?_)
  obtain ⟨i, u⟩ := x
  obtain ⟨h0, hu⟩ := hx
  dsimp only at h0 hu ⊢
  have hul : u.length ≤ 1000000 := by rw [hu]; have := shA_len (pf ba i); have := pf_len h0; omega
  by_cases hi : i < ba.length
  ·
    repeat' (first
 | (intro h9; exfalso; first | contradiction | omega)
 | (with_reducible apply zds); exact tk; rfl; rfl; rfl; rfl; rfl
 | (with_reducible apply zd); rfl; exact tk; rfl
 | (with_reducible first | intro _ | apply wseq | apply zreg | apply thenQ_n | apply thenQ_r | apply thenQ_e | apply znil | apply wret | apply bodyQ_r | apply wblk | apply blkQ_n | apply blkQ_r | apply wskip | apply wexit)
 | apply wct rfl
 | apply wcf rfl
 | (with_reducible apply zcmp); rfl; exact tk; rfl; rfl; rfl
 | (with_reducible apply zne); rfl; exact tk; rfl; rfl; rfl; rfl
 | (with_reducible apply zar); rfl; rfl; rfl; rfl; (first | omega | ((try simp only [List.length_append, List.length_cons, List.length_nil, List.length_map]); (try dsimp only); omega)); rfl; rfl
 | (with_reducible apply zix); rfl; exact tk; (iterate 7 rfl); (first | omega | ((try simp only [List.length_append, List.length_cons, List.length_nil, List.length_map]); (try dsimp only); omega)); rfl; rfl
 | (with_reducible apply zle); rfl; exact tk; rfl; rfl; rfl; rfl; (first | omega | ((try simp only [List.length_append, List.length_cons, List.length_nil, List.length_map]); (try dsimp only); omega)); rfl; rfl; rfl; rfl
 | (with_reducible apply zlit (α := Int) (e := 3)); rfl; exact tk; (iterate 13 rfl)
 | (with_reducible apply zap); rfl; exact tk; (iterate 10 rfl); (first | omega | ((try simp only [List.length_append, List.length_cons, List.length_nil, List.length_map]); (try dsimp only); omega)); rfl; rfl; rfl; rfl; rfl
 | fail)
    all_goals first
      | exact endR (i + 1, u ++ [(rd ba i).No]) [0, 1, 2, 3, 4, 5, 6, 10] ⟨rfl, rfl, rfl, rfl, rfl, rfl, rfl, rfl⟩ ⟨⟨by dsimp only; omega, by dsimp only; omega⟩, by dsimp only; rw [shA_y ⟨h0.1, by assumption⟩ (by assumption), hu]⟩ (by first | omega | (dsimp only; omega))
      | exact endR (i + 1, u) [0, 1, 2, 3, 4, 5, 6, 7] ⟨rfl, rfl, rfl, rfl, rfl, rfl, rfl, rfl⟩ ⟨⟨by dsimp only; omega, by dsimp only; omega⟩, by dsimp only; rw [shA_n ⟨h0.1, by assumption⟩ (by assumption), hu]⟩ (by first | omega | (dsimp only; omega))
  · have hu2 : u = shA ba := by rw [hu, pf_all hi]
    subst hu2
    repeat' (first
 | (intro h9; exfalso; first | contradiction | omega)
 | (with_reducible apply zds); exact tk; rfl; rfl; rfl; rfl; rfl
 | (with_reducible apply zd); rfl; exact tk; rfl
 | (with_reducible first | intro _ | apply wseq | apply zreg | apply thenQ_n | apply thenQ_r | apply thenQ_e | apply znil | apply wret | apply bodyQ_r | apply wblk | apply blkQ_n | apply blkQ_r | apply wskip | apply wexit)
 | apply wct rfl
 | apply wcf rfl
 | (with_reducible apply blkQ_x rfl)
 | (with_reducible apply zcmp); rfl; exact tk; rfl; rfl; rfl
 | (with_reducible apply zcf); (iterate 10 rfl); exact impl_BalsPost; rfl; rfl; rfl; rfl; rfl
 | (with_reducible apply zc); (iterate 10 rfl); exact impl_postCode; exact fun _ => rfl; rfl; rfl; rfl
 | fail)
    · rename_i hp
      refine endG (X' := I (pCode (pN ba bb g))) (hs' := [some ⟨true, 30, 6, .mx [.row 2 0 ba.length, .row 3 0 bi.length, .row 7 0 (pL ba bb g).length, .row 5 0 bl.length, .row 6 0 bt.length, .sc (.int .i64 bn)]⟩, ow 46 g] ++ bkO ⟨ba, bi, bb, bl, bt, bn⟩ ++ [ow 135 (pL ba bb g)]) [0, 1, 2, 3, 4, 5, 6, 8] rfl rfl rfl rfl rfl rfl ?_ ?_
      · rw [sel_t hp, pCode, pick_t hp]
      · rw [sel_t hp]
    · rename_i hp
      exact endF hp [0, 1, 2, 3, 4, 5, 6] rfl rfl rfl rfl rfl rfl
set_option maxHeartbeats 4000000 in
theorem spec_l6Post {ba : List Account} {bi : List Instr} {bb : List Bal} {bl : List Lot} {bt : List Trade} {bn : Int} {g : List Leg} (hl : ba.length ≤ 1000000) : FC Tryz.prog 136 [bkV 0 ⟨ba, bi, bb, bl, bt, bn⟩, .c (.row 5 0 g.length)] (bkO ⟨ba, bi, bb, bl, bt, bn⟩ ++ [ro 46 g]) (sel (pN ba bb g = 0) (.tup [.agg [.row 0 0 ba.length, .row 1 0 bi.length, .row 6 0 (pL ba bb g).length, .row 3 0 bl.length, .row 4 0 bt.length, .sc (.int .i64 bn)], I 0]) (.tup [bkV 0 ⟨ba, bi, bb, bl, bt, bn⟩, I (sCode (pN ba bb g))])) (sel (pN ba bb g = 0) (bkO ⟨ba, bi, bb, bl, bt, bn⟩ ++ [ro 46 g, ow 135 (pL ba bb g)]) (bkO ⟨ba, bi, bb, bl, bt, bn⟩ ++ [ro 46 g])) := by
  refine fent tk 30 [.cell 4 _, .tmp 5] Tryz.func136 (by kernel_rfl) rfl rfl rfl rfl rfl rfl rfl ?_
  repeat' (first
 | (with_reducible apply zds); exact tk; rfl; rfl; rfl; rfl; rfl
 | (with_reducible apply zd); rfl; exact tk; rfl
 | (with_reducible first | intro _ | apply wseq | apply zreg | apply thenQ_n | apply thenQ_r | apply thenQ_e | apply znil | apply wret | apply bodyQ_r | apply wblk | apply blkQ_n | apply blkQ_r | apply wskip | apply wexit)
 | apply wct rfl
 | apply wcf rfl
 | (with_reducible apply zeq); rfl; exact tk; rfl; rfl; rfl; rfl
 | refine zdq (id := 1) rfl (by kernel_rfl) [(.p, 0), (.p, 2), (.t, 1), (.t, 3), (.o, 4), (.o, 5), (.p, 6), (.p, 7), (.p, 8), (.p, 9), (.p, 10)] [] (by kernel_rfl) rfl ?_
 | (with_reducible apply zcf); (iterate 10 rfl); (first | exact spec_l6Short (by omega) | exact spec_BalsPost); rfl; rfl; rfl; rfl; rfl
 | fail)
  all_goals first
    | exact endT (by assumption) [0, 1, 2, 3, 4, 5, 9] rfl rfl rfl rfl rfl rfl
    | (have hp : ¬ pN ba bb g = 0 := by assumption
       first
       | (rw [show sCode (pN ba bb g) = 5 from by rw [sCode, pick_f hp, pick_t (by assumption)]]
          exact endF hp [0, 1, 2, 3, 4, 5] rfl rfl rfl rfl rfl rfl)
       | (rw [show sCode (pN ba bb g) = 8 from by rw [sCode, pick_f hp, pick_f (by assumption), pick_t (by assumption)]]
          exact endF hp [0, 1, 2, 3, 4, 5] rfl rfl rfl rfl rfl rfl)
       | (rw [show sCode (pN ba bb g) = 7 from by rw [sCode, pick_f hp, pick_f (by assumption), pick_f (by assumption)]]
          exact endF hp [0, 1, 2, 3, 4, 5] rfl rfl rfl rfl rfl rfl))
end Go.Proofs.YtgehbhkfehmdkaaGreat.Sh
namespace Go.Proofs.YtgehbhkfehmdkaaGreat.Sh
open Go.RowKit
set_option linter.unusedVariables false
set_option linter.unusedSimpArgs false
noncomputable def nIx (L : List Leg) (a c : Int) : Int := fIx L (fun y => ¬ bef y.Account y.Instr a c)
def nHas (L : List Leg) (a c : Int) : Prop := nIx L a c < L.length ∧ (rd L (nIx L a c)).Account = a ∧ (rd L (nIx L a c)).Instr = c
noncomputable def nt (L : List Leg) (x : Leg) : List Leg := sel (nHas L x.Account x.Instr) (upd L (nIx L x.Account x.Instr) ⟨(rd L (nIx L x.Account x.Instr)).Account, (rd L (nIx L x.Account x.Instr)).Instr, (rd L (nIx L x.Account x.Instr)).Amount + x.Amount⟩) (ins L (nIx L x.Account x.Instr) x)
end Go.Proofs.YtgehbhkfehmdkaaGreat.Sh
namespace Go.Proofs.YtgehbhkfehmdkaaGreat.Sh
open Go.RowKit
set_option linter.unusedVariables false
set_option linter.unusedSimpArgs false
set_option maxHeartbeats 4000000 in
theorem impl_NetLegs_1 {a c n : Int} : FC Tryz.prog 123 [.agg [.sc (.int .i64 a), .sc (.int .i64 c), .sc (.int .i64 n)]] ([]) (B (dB (¬ amountOk n))) ([]) := by
  refine fent tk 7 [.tmp 2] Tryz.func123 (by kernel_rfl) rfl rfl rfl rfl rfl rfl rfl ?_
  repeat' (first
 | (with_reducible apply zds); exact tk; rfl; rfl; rfl; rfl; rfl
 | (with_reducible first | intro _ | apply wseq | apply zreg | apply thenQ_n | apply thenQ_r | apply thenQ_e | apply znil | apply wret | apply bodyQ_r | apply wblk | apply blkQ_n | apply blkQ_r | apply wskip | apply wexit)
 | (with_reducible apply zcp); (iterate 10 rfl); exact impl_AmountOk; rfl; rfl
 | fail)
  all_goals first | exact endY [] rfl rfl rfl rfl rfl rfl (by assumption) | exact endN [] rfl rfl rfl rfl rfl rfl (fun k => k (by assumption))
set_option maxHeartbeats 4000000 in
theorem impl_NetLegs_2 {a c n : Int} : FC Tryz.prog 125 [.agg [.sc (.int .i64 a), .sc (.int .i64 c), .sc (.int .i64 n)]] ([]) (B (dB (n = 0))) ([]) := by
  refine fent tk 6 [.tmp 2] Tryz.func125 (by kernel_rfl) rfl rfl rfl rfl rfl rfl rfl ?_
  repeat' (first
 | (with_reducible apply zds); exact tk; rfl; rfl; rfl; rfl; rfl
 | (with_reducible apply zd); rfl; exact tk; rfl
 | (with_reducible first | intro _ | apply wseq | apply zreg | apply thenQ_n | apply thenQ_r | apply thenQ_e | apply znil | apply wret | apply bodyQ_r | apply wblk | apply blkQ_n | apply blkQ_r | apply wskip | apply wexit)
 | (with_reducible apply zeq); rfl; exact tk; rfl; rfl; rfl; rfl
 | fail)
  all_goals first | exact endY [] rfl rfl rfl rfl rfl rfl (by assumption) | exact endN [] rfl rfl rfl rfl rfl rfl (by assumption)
set_option maxHeartbeats 4000000 in
theorem slices_IndexFunc_Leg_na {l : List Leg} : FC Tryz.prog 234 [.c (.row 0 0 l.length), .c (.fn 123 [])] ([ro 46 l]) (sel (∃ x ∈ l, ¬ amountOk x.Amount) (I (fIx l (fun x => ¬ amountOk x.Amount))) (I (-1))) (sel (∃ x ∈ l, ¬ amountOk x.Amount) [ro 46 l] [ro 46 l]) := by
  refine fent tk 19 [.tmp 4] Tryz.func234 (by kernel_rfl) rfl rfl rfl rfl rfl rfl rfl ?_
  refine wlen l 0 rfl (fun hl => ?_)
  repeat' (first
 | (with_reducible apply zds); exact tk; rfl; rfl; rfl; rfl; rfl
 | (with_reducible apply zd); rfl; exact tk; rfl
 | (with_reducible first | intro _ | apply wseq | apply zreg | apply thenQ_n | apply thenQ_r | apply thenQ_e | apply znil | apply wret | apply bodyQ_r | apply wblk | apply blkQ_n | apply blkQ_r | apply wskip | apply wexit)
 | fail)
  refine wlp (X := Int) [0, 1, 7] [0] (fun i => [(8, I i)]) (fun _ => []) (fun i => 0 ≤ i ∧ i ≤ l.length ∧ ∀ j : Int, 0 ≤ j → j < i → ¬ (fun x => ¬ amountOk x.Amount) (rd l j)) (fun i => (l.length - i).toNat) 0 ⟨by omega, by omega, fun j h0 h1 => by omega⟩ rfl rfl (fun _ => rfl) (fun _ => rfl) ⟨rfl, rfl, rfl, rfl, rfl, rfl, rfl, rfl⟩ (fun i hi => ?_)
  obtain ⟨h0, hi, hall⟩ := hi
  skip
  repeat' (first
 | (with_reducible apply zds); exact tk; rfl; rfl; rfl; rfl; rfl
 | (with_reducible apply zd); rfl; exact tk; rfl
 | (with_reducible apply zcp); (iterate 10 rfl); exact impl_NetLegs_1; rfl; rfl
 | (with_reducible first | intro _ | apply wseq | apply zreg | apply thenQ_n | apply thenQ_r | apply thenQ_e | apply znil | apply wret | apply bodyQ_r | apply wblk | apply blkQ_n | apply blkQ_r | apply wskip | apply wexit)
 | apply wct rfl
 | apply wcf rfl
 | (with_reducible apply blkQ_x rfl)
 | (with_reducible apply zcmp); rfl; exact tk; rfl; rfl; rfl
 | (with_reducible apply zar); rfl; rfl; rfl; rfl; (first | omega | ((try simp only [List.length_append, List.length_cons, List.length_nil, List.length_map]); (try dsimp only); omega)); rfl; rfl
 | (with_reducible apply zix); rfl; exact tk; (iterate 7 rfl); (first | omega | ((try simp only [List.length_append, List.length_cons, List.length_nil, List.length_map]); (try dsimp only); omega)); rfl; rfl
 | (with_reducible apply zle); rfl; exact tk; rfl; rfl; rfl; rfl; (first | omega | ((try simp only [List.length_append, List.length_cons, List.length_nil, List.length_map]); (try dsimp only); omega)); rfl; rfl; rfl; rfl
 | fail)
  all_goals first
    | (refine endG (X' := I i) (hs' := [ro 46 l]) [0] rfl rfl rfl rfl rfl rfl ?_ ?_
       · rw [sel_t ⟨rd l i, rd_mem ⟨by omega, by omega⟩, by assumption⟩, fIx_eq ⟨by omega, by omega⟩ hall (by assumption)]
       · rw [sel_t ⟨rd l i, rd_mem ⟨by omega, by omega⟩, by assumption⟩])
    | exact endF (no_rd (by assumption) hall) [0] rfl rfl rfl rfl rfl rfl
    | exact endR (i + 1) [0] ⟨rfl, rfl, rfl, rfl, rfl, rfl, rfl, rfl⟩ ⟨by omega, by omega, all_step hall (by assumption)⟩ (by first | omega | (dsimp only; omega))
set_option maxHeartbeats 4000000 in
theorem slices_ContainsFunc_Leg_na {l : List Leg} : FC Tryz.prog 122 [.c (.row 0 0 l.length), .c (.fn 123 [])] ([ro 46 l]) (B (dB (∃ x ∈ l, ¬ amountOk x.Amount))) ([ro 46 l]) := by
  refine fent tk 9 [.tmp 4] Tryz.func122 (by kernel_rfl) rfl rfl rfl rfl rfl rfl rfl ?_
  have hn := fIx_nn l (fun x => ¬ amountOk x.Amount)
  repeat' (first
 | (with_reducible apply zds); exact tk; rfl; rfl; rfl; rfl; rfl
 | (with_reducible apply zd); rfl; exact tk; rfl
 | (with_reducible first | intro _ | apply wseq | apply zreg | apply thenQ_n | apply thenQ_r | apply thenQ_e | apply znil | apply wret | apply bodyQ_r | apply wblk | apply blkQ_n | apply blkQ_r | apply wskip | apply wexit)
 | (with_reducible apply zcmp); rfl; exact tk; rfl; rfl; rfl
 | (with_reducible apply zcs); (iterate 10 rfl); (first | exact slices_IndexFunc_Leg_nz | exact slices_IndexFunc_Leg_lf | exact slices_IndexFunc_Leg_na); exact fun _ => rfl; exact fun _ => rfl; rfl; rfl; rfl; rfl
 | fail)
  all_goals first
    | exact endY [0] rfl rfl rfl rfl rfl rfl (by assumption)
    | exact endN [0] rfl rfl rfl rfl rfl rfl (by assumption)
    | (exfalso; omega)
set_option maxHeartbeats 4000000 in
theorem slices_IndexFunc_Leg_nz {l : List Leg} : FC Tryz.prog 234 [.c (.row 0 0 l.length), .c (.fn 125 [])] ([ro 46 l]) (sel (∃ x ∈ l, x.Amount = 0) (I (fIx l (fun x => x.Amount = 0))) (I (-1))) (sel (∃ x ∈ l, x.Amount = 0) [ro 46 l] [ro 46 l]) := by
  refine fent tk 19 [.tmp 4] Tryz.func234 (by kernel_rfl) rfl rfl rfl rfl rfl rfl rfl ?_
  refine wlen l 0 rfl (fun hl => ?_)
  repeat' (first
 | (with_reducible apply zds); exact tk; rfl; rfl; rfl; rfl; rfl
 | (with_reducible apply zd); rfl; exact tk; rfl
 | (with_reducible first | intro _ | apply wseq | apply zreg | apply thenQ_n | apply thenQ_r | apply thenQ_e | apply znil | apply wret | apply bodyQ_r | apply wblk | apply blkQ_n | apply blkQ_r | apply wskip | apply wexit)
 | fail)
  refine wlp (X := Int) [0, 1, 7] [0] (fun i => [(8, I i)]) (fun _ => []) (fun i => 0 ≤ i ∧ i ≤ l.length ∧ ∀ j : Int, 0 ≤ j → j < i → ¬ (fun x => x.Amount = 0) (rd l j)) (fun i => (l.length - i).toNat) 0 ⟨by omega, by omega, fun j h0 h1 => by omega⟩ rfl rfl (fun _ => rfl) (fun _ => rfl) ⟨rfl, rfl, rfl, rfl, rfl, rfl, rfl, rfl⟩ (fun i hi => ?_)
  obtain ⟨h0, hi, hall⟩ := hi
  skip
  repeat' (first
 | (with_reducible apply zds); exact tk; rfl; rfl; rfl; rfl; rfl
 | (with_reducible apply zd); rfl; exact tk; rfl
 | (with_reducible apply zcp); (iterate 10 rfl); exact impl_NetLegs_2; rfl; rfl
 | (with_reducible first | intro _ | apply wseq | apply zreg | apply thenQ_n | apply thenQ_r | apply thenQ_e | apply znil | apply wret | apply bodyQ_r | apply wblk | apply blkQ_n | apply blkQ_r | apply wskip | apply wexit)
 | apply wct rfl
 | apply wcf rfl
 | (with_reducible apply blkQ_x rfl)
 | (with_reducible apply zcmp); rfl; exact tk; rfl; rfl; rfl
 | (with_reducible apply zar); rfl; rfl; rfl; rfl; (first | omega | ((try simp only [List.length_append, List.length_cons, List.length_nil, List.length_map]); (try dsimp only); omega)); rfl; rfl
 | (with_reducible apply zix); rfl; exact tk; (iterate 7 rfl); (first | omega | ((try simp only [List.length_append, List.length_cons, List.length_nil, List.length_map]); (try dsimp only); omega)); rfl; rfl
 | (with_reducible apply zle); rfl; exact tk; rfl; rfl; rfl; rfl; (first | omega | ((try simp only [List.length_append, List.length_cons, List.length_nil, List.length_map]); (try dsimp only); omega)); rfl; rfl; rfl; rfl
 | fail)
  all_goals first
    | (refine endG (X' := I i) (hs' := [ro 46 l]) [0] rfl rfl rfl rfl rfl rfl ?_ ?_
       · rw [sel_t ⟨rd l i, rd_mem ⟨by omega, by omega⟩, by assumption⟩, fIx_eq ⟨by omega, by omega⟩ hall (by assumption)]
       · rw [sel_t ⟨rd l i, rd_mem ⟨by omega, by omega⟩, by assumption⟩])
    | exact endF (no_rd (by assumption) hall) [0] rfl rfl rfl rfl rfl rfl
    | exact endR (i + 1) [0] ⟨rfl, rfl, rfl, rfl, rfl, rfl, rfl, rfl⟩ ⟨by omega, by omega, all_step hall (by assumption)⟩ (by first | omega | (dsimp only; omega))
end Go.Proofs.YtgehbhkfehmdkaaGreat.Sh
