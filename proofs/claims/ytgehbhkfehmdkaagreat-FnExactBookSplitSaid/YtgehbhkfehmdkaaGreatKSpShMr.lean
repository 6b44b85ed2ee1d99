/- How long the rows are of what the functions over books answer. No condition. -/
import Derived.Test.YtgehbhkfehmdkaaGreatKSpShTr
import Derived.Test.YtgehbhkfehmdkaaGreatKSpShLt
import Derived.Test.YtgehbhkfehmdkaaGreatKSpShN
import Derived.Test.YtgehbhkfehmdkaaGreatKSpShTk
import Derived.Test.YtgehbhkfehmdkaaGreatKSpShPq
import Derived.Test.YtgehbhkfehmdkaaGreatKSpShMw
import Derived.Test.YtgehbhkfehmdkaaGreatKSpShPv
import Derived.Test.YtgehbhkfehmdkaaGreatKSpShSq
import Derived.Test.YtgehbhkfehmdkaaGreatKSpShMi
import Derived.Test.YtgehbhkfehmdkaaGreatKSpShY
import Derived.Test.YtgehbhkfehmdkaaGreatKSpShU
namespace Go.Proofs.YtgehbhkfehmdkaaGreat.Sh
open Go.RowKit
set_option linter.unusedVariables false
set_option linter.unusedSimpArgs false
theorem BooksOk.midR {b : Books} (h : BooksOk b) : MidR b := ⟨by have := h.acc.2; omega, by have := h.ins.2; omega, by have := h.bals.2; omega, by have := h.lots.1.2; omega, by have := h.trades.2; omega⟩
theorem mr_post {b : Books} (m : MidR b) {g : List Leg} (h : ¬ ¬ (poR b g).2 = 0) : (poR b g).1.length ≤ 4294967296 := Nat.le_trans (post_len (Classical.not_not.1 h)) (by decide)
theorem mr_bl {b : Books} (m : MidR b) {r : List Bal} {l : List Lot} {n : Int} (h : r.length ≤ 4294967296) (h2 : l.length ≤ 4294967296) : MidR ⟨b.Accounts, b.Instrs, r, l, b.Trades, n⟩ := ⟨m.a1, m.a2, h, h2, m.a5⟩
theorem scF_len {own : List Lot} {sh : List Int} : (scF own sh).length ≤ own.length := by
  have h := scL_len (own := own) (sh := sh) (i := own.length) (by omega)
  unfold scF
  exact sel_ind (P := fun R : List Lot => R.length ≤ own.length) (fun _ => by rw [upd_len]; omega) fun _ => by omega
theorem lotScale_len {l : List Lot} {a c q : Int} : (lotScale l a c q).1.length ≤ l.length + 40 := by
  unfold lotScale
  refine sel_ind (P := fun R : List Lot × Int => R.1.length ≤ l.length + 40) (fun _ => Nat.zero_le _) fun _ => sel_ind (P := fun R : List Lot × Int => R.1.length ≤ l.length + 40) (fun _ => Nat.le_add_right _ _) fun _ => sel_ind (P := fun R : List Lot × Int => R.1.length ≤ l.length + 40) (fun _ => Nat.le_add_right _ _) fun _ => sel_ind (P := fun R : List Lot × Int => R.1.length ≤ l.length + 40) (fun _ => Nat.le_add_right _ _) fun h => ?_
  have h1 := scF_len (own := lotsOf l a c) (sh := shs q ((lotsOf l a c).map Lot.Qty))
  have h2 := flt_le (fun x : Lot => ¬ (x.Account = a ∧ x.Instr = c)) l
  show (mrg (lotsNot l a c) (scF (lotsOf l a c) (shs q ((lotsOf l a c).map Lot.Qty)))).length ≤ _
  rw [mrg_len]
  unfold lotsNot
  omega
theorem scN_len {l : List Lot} {pa : Int} {who is : List Int} : ∀ k : Nat, (scN l pa who is k).1.length ≤ l.length + 40 * k
  | 0 => Nat.le_refl _
  | k + 1 => by
    have ih := scN_len (l := l) (pa := pa) (who := who) (is := is) k
    have h1 := lotScale_len (l := (scN l pa who is k).1) (a := rd who k) (c := pa) (q := rd is k)
    unfold scN
    exact sel_ind (P := fun R : List Lot × Int => R.1.length ≤ l.length + 40 * (k + 1)) (fun _ => sel_ind (P := fun R : List Lot × Int => R.1.length ≤ l.length + 40 * (k + 1)) (fun _ => by dsimp only; omega) fun _ => by dsimp only; omega) fun _ => by omega
theorem mr_scN {b : Books} {pa : Int} (c0 : BooksOk b) {is : List Int} : (scN b.Lots pa (who b.Accounts b.Bals pa) is ((who b.Accounts b.Bals pa).length : Int).toNat).1.length ≤ 4294967296 := by
  have h1 := who_len b.Accounts b.Bals pa
  have h2 := c0.acc.2
  have h3 := c0.lots.1.2
  have h4 := scN_len (l := b.Lots) (pa := pa) (who := who b.Accounts b.Bals pa) (is := is) ((who b.Accounts b.Bals pa).length : Int).toNat
  omega
theorem bookSplit_mr {b : Books} {pa n d iss : Int} : MidR (bookSplit b pa n d iss).1 := by
  unfold bookSplit
  refine sel_ind (P := fun R : Books × Int × Int => MidR R.1) (fun _ => mid0) fun c0 => ?_
  have m := (Classical.not_not.1 c0).1.midR
  exact sel_ind (P := fun R : Books × Int × Int => MidR R.1) (fun _ => m) fun c1 => sel_ind (P := fun R : Books × Int × Int => MidR R.1) (fun _ => m) fun c2 => sel_ind (P := fun R : Books × Int × Int => MidR R.1) (fun _ => m) fun c3 => sel_ind (P := fun R : Books × Int × Int => MidR R.1) (fun _ => m) fun c4 => sel_ind (P := fun R : Books × Int × Int => MidR R.1) (fun _ => m) fun c5 => sel_ind (P := fun R : Books × Int × Int => MidR R.1) (fun _ => m) fun c6 => sel_ind (P := fun R : Books × Int × Int => MidR R.1) (fun _ => m) fun c7 => mr_bl m (mr_post m c6) (mr_scN (Classical.not_not.1 c0).1)
end Go.Proofs.YtgehbhkfehmdkaaGreat.Sh
namespace Go.Proofs.YtgehbhkfehmdkaaGreat.Sh
open Go.RowKit
set_option linter.unusedVariables false
set_option linter.unusedSimpArgs false
theorem fc_r2 {P : Program} {f : FuncId} {args : List AV} {hs hs0 : AH} {R : Books × Int × Int} {ra : List Account} {ri : List Instr} {rb : List Bal} {rl : List Lot} {rt : List Trade} {rn c0 c1 : Int} (h : FC P f args hs (.tup [bkE 5 R.1, I R.2.1, I R.2.2]) (hs0 ++ bkW R.1)) (e : R = (⟨ra, ri, rb, rl, rt, rn⟩, c0, c1)) : FC P f args hs (.tup [bkV 5 ⟨ra, ri, rb, rl, rt, rn⟩, I c0, I c1]) (hs0 ++ bkO ⟨ra, ri, rb, rl, rt, rn⟩) := by
  subst e
  exact h
theorem impl_BookSplit_r {ba : List Account} {bi : List Instr} {bb : List Bal} {bl : List Lot} {bt : List Trade} {bn : Int} {pa n d iss : Int} {ra : List Account} {ri : List Instr} {rb : List Bal} {rl : List Lot} {rt : List Trade} {rn c0 c1 : Int} (e : bookSplit ⟨ba, bi, bb, bl, bt, bn⟩ pa n d iss = (⟨ra, ri, rb, rl, rt, rn⟩, c0, c1)) : FC Tryz.prog 30 [bkV 0 ⟨ba, bi, bb, bl, bt, bn⟩, I pa, I n, I d, I iss] (bkR ⟨ba, bi, bb, bl, bt, bn⟩) (.tup [bkV 5 ⟨ra, ri, rb, rl, rt, rn⟩, I c0, I c1]) (bkR ⟨ba, bi, bb, bl, bt, bn⟩ ++ bkO ⟨ra, ri, rb, rl, rt, rn⟩) := fc_r2 impl_BookSplit e
theorem spec_BookSplit_r {ba : List Account} {bi : List Instr} {bb : List Bal} {bl : List Lot} {bt : List Trade} {bn : Int} {pa n d iss : Int} {ra : List Account} {ri : List Instr} {rb : List Bal} {rl : List Lot} {rt : List Trade} {rn c0 c1 : Int} (e : bookSplit ⟨ba, bi, bb, bl, bt, bn⟩ pa n d iss = (⟨ra, ri, rb, rl, rt, rn⟩, c0, c1)) : FC Tryz.prog 31 [bkV 0 ⟨ba, bi, bb, bl, bt, bn⟩, I pa, I n, I d, I iss] (bkR ⟨ba, bi, bb, bl, bt, bn⟩) (.tup [bkV 5 ⟨ra, ri, rb, rl, rt, rn⟩, I c0, I c1]) (bkR ⟨ba, bi, bb, bl, bt, bn⟩ ++ bkO ⟨ra, ri, rb, rl, rt, rn⟩) := fc_r2 spec_BookSplit e
theorem bookSplit_mid {b : Books} {pa n d iss : Int} (s : Small b) : MidR (bookSplit b pa n d iss).1 := by
  unfold bookSplit
  exact bookSplit_mr
set_option maxHeartbeats 4000000 in
theorem laws_FnExactBookSplit {ba : List Account} {bi : List Instr} {bb : List Bal} {bl : List Lot} {bt : List Trade} {bn : Int} {pa n d iss : Int} : FC Tryz.prog 10 [bkV 0 ⟨ba, bi, bb, bl, bt, bn⟩, I pa, I n, I d, I iss] (bkL ⟨ba, bi, bb, bl, bt, bn⟩) (B true) (bkL ⟨ba, bi, bb, bl, bt, bn⟩) := by
  refine fent tk 137 [.tmp 10] Tryz.func10 (by kernel_rfl) rfl rfl rfl rfl rfl rfl rfl ?_
  repeat' (first
 | (with_reducible apply zds); exact tk; rfl; rfl; rfl; rfl; rfl
 | (with_reducible apply zd); rfl; exact tk; rfl
 | (with_reducible first | intro _ | apply wseq | apply zreg | apply thenQ_n | apply thenQ_r | apply thenQ_e | apply znil | apply wret | apply bodyQ_r | apply wblk | apply blkQ_n | apply blkQ_r | apply wskip | apply wexit)
 | apply wct rfl
 | apply wcf rfl
 | (with_reducible apply zcmp); rfl; exact tk; rfl; rfl; rfl
 | (with_reducible apply zc); (iterate 10 rfl); exact laws_szBooks (by first | omega | exact szBr (by omega) (by assumption)); exact fun _ => rfl; rfl; rfl; rfl
 | fail)
  all_goals first | exact endV [0, 1, 2, 3, 4] rfl rfl rfl rfl rfl rfl | (exfalso; contradiction) | skip
  rename_i n1
  have s1 := szBs (by omega) n1
  have s2 := s1.mid
  obtain ⟨⟨ra, ri, rb, rl, rt, rn⟩, c0, c1, hr⟩ : ∃ r c0 c1, bookSplit ⟨ba, bi, bb, bl, bt, bn⟩ pa n d iss = (r, c0, c1) := ⟨_, _, _, rfl⟩
  have s3 := bookSplit_mid (pa := pa) (n := n) (d := d) (iss := iss) s1
  rw [hr] at s3
  have hmk := mkN_nn (k := 1) (na := ba.length) (ni := bi.length) (nb := bb.length) (nl := bl.length) (nt := bt.length) (by decide)
  have hmk2 := mkN_nn (k := 1) (na := ra.length) (ni := ri.length) (nb := rb.length) (nl := rl.length) (nt := rt.length) (by decide)
  unfold MidR at s3
  dsimp only at s2 s3
  repeat' (first
 | (intro h9; exfalso; first | contradiction | omega)
 | (with_reducible apply zds); exact tk; rfl; rfl; rfl; rfl; rfl
 | (with_reducible apply zd); rfl; exact tk; rfl
 | (with_reducible first | intro _ | apply wseq | apply zreg | apply thenQ_n | apply thenQ_r | apply thenQ_e | apply znil | apply wret | apply bodyQ_r | apply wblk | apply blkQ_n | apply blkQ_r | apply wskip | apply wexit)
 | apply wcf rfl
 | (with_reducible apply zcmp); rfl; exact tk; rfl; rfl; rfl
 | (with_reducible apply zne); rfl; exact tk; rfl; rfl; rfl; rfl
 | refine zdq (id := 10) rfl (by kernel_rfl) [(.t, 0), (.t, 1), (.o, 2), (.o, 3), (.p, 4)] [] (by kernel_rfl) rfl ?_
 | (with_reducible apply zcf); (iterate 10 rfl); (first | exact laws_toBooks (by assumption) | exact spec_BookSplit_r (by assumption) | exact spec_BookSplit | exact impl_BookSplit_r (by assumption) | exact impl_BookSplit); rfl; rfl; rfl; rfl; rfl
 | (with_reducible apply zcp); (iterate 10 rfl); exact laws_eqBooks; rfl; rfl
 | (with_reducible apply zcw  [true,true,true,true,true]); (iterate 10 rfl); exact laws_markBooks (by omega) (by assumption); rfl; rfl; rfl; rfl
 | (with_reducible apply zcq); (iterate 10 rfl); exact laws_heldBooks (by omega) (by assumption) (by first | assumption | exact Lens.mk'); rfl; rfl
 | fail)
  all_goals first | exact endV [0, 1, 2, 3, 4] rfl rfl rfl rfl rfl rfl | (exfalso; first | contradiction | omega) | skip
end Go.Proofs.YtgehbhkfehmdkaaGreat.Sh
