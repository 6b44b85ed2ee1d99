/- Open trades, their legs. No condition. -/
import Derived.Test.YtnlajjoheegbiaaGreatKNeShTr
import Derived.Test.YtnlajjoheegbiaaGreatKNeShBq
namespace Go.Proofs.YtnlajjoheegbiaaGreat.Sh
open Go.RowKit
set_option linter.unusedVariables false
set_option linter.unusedSimpArgs false
noncomputable def tAt (l : List Trade) (no : Int) : Int := fIx l (fun t => t.No = no)
def tHas (l : List Trade) (no : Int) : Prop := ∃ t ∈ l, t.No = no
def tOpen (l : List Trade) (no : Int) : Prop := tHas l no ∧ (rd l (tAt l no)).State = 1
noncomputable def oC (l : List Trade) (no : Int) : Int := pick (tHas l no) 6 3
theorem oC_ne (l : List Trade) (no : Int) : oC l no = 6 ∨ oC l no = 3 := by
  unfold oC
  by_cases h : tHas l no
  · rw [pick_t h]; exact .inl rfl
  · rw [pick_f h]; exact .inr rfl
theorem tAt_bnd {l : List Trade} {no : Int} (h : tHas l no) : 0 ≤ tAt l no ∧ tAt l no < l.length := ⟨(fIx_nn _ _).1, fIx_lt h⟩
def pLegs (a e c n : Int) : List Leg := [⟨a, c, -n⟩, ⟨e, c, n⟩]
theorem pLegs_len (a e c n : Int) : (pLegs a e c n).length = 2 := rfl
def tLegs (t : Trade) : List Leg := [⟨t.Buyer, t.Cash, -t.Price⟩, ⟨t.Seller, t.Cash, t.Price⟩, ⟨t.Seller, t.Paper, -t.Qty⟩, ⟨t.Buyer, t.Paper, t.Qty⟩]
set_option maxHeartbeats 4000000 in
theorem impl_openTrade {ba : List Account} {bi : List Instr} {bb : List Bal} {bl : List Lot} {bt : List Trade} {bn : Int} {no : Int} : FC Tryz.prog 82 [bkV 0 ⟨ba, bi, bb, bl, bt, bn⟩, I no] (bkR ⟨ba, bi, bb, bl, bt, bn⟩) (sel (tOpen bt no) (.tup [I (tAt bt no), I 0]) (.tup [I 0, I (oC bt no)])) (sel (tOpen bt no) (bkR ⟨ba, bi, bb, bl, bt, bn⟩) (bkR ⟨ba, bi, bb, bl, bt, bn⟩)) := by
  refine fent tk 22 [.tmp 4, .tmp 5] Tryz.func82 (by kernel_rfl) rfl rfl rfl rfl rfl rfl rfl ?_
  refine wlen bt 4 rfl (fun hl => ?_)
  have hb := fIx_nn bt (fun t => t.No = no)
  have hb2 := fun h : tHas bt no => fIx_lt (l := bt) (q := fun t => t.No = no) h
  by_cases hh : tHas bt no
  · have hb3 := hb2 hh
    have ho : oC bt no = 6 := pick_t hh
    unfold tHas at hh
    repeat' (first
 | (intro h9; exfalso; first | contradiction | omega)
 | (with_reducible apply zds); exact tk; rfl; rfl; rfl; rfl; rfl
 | (with_reducible apply zd); rfl; exact tk; rfl
 | (with_reducible first | intro _ | apply wseq | apply zreg | apply thenQ_n | apply thenQ_r | apply thenQ_e | apply znil | apply wret | apply bodyQ_r | apply wblk | apply blkQ_n | apply blkQ_r | apply wskip | apply wexit)
 | apply wct rfl
 | apply wcf rfl
 | (with_reducible apply zcmp); rfl; exact tk; rfl; rfl; rfl
 | (with_reducible apply zne); rfl; exact tk; rfl; rfl; rfl; rfl
 | (with_reducible apply zix); rfl; exact tk; (iterate 7 rfl); (first | omega | ((try simp only [List.length_append, List.length_cons, List.length_nil, List.length_map]); (try dsimp only); omega)); rfl; rfl
 | (with_reducible apply zle); rfl; exact tk; rfl; rfl; rfl; rfl; (first | omega | ((try simp only [List.length_append, List.length_cons, List.length_nil, List.length_map]); (try dsimp only); omega)); rfl; rfl; rfl; rfl
 | (with_reducible apply zcs); (iterate 10 rfl); exact impl_tradeAt; exact fun _ => rfl; exact fun _ => rfl; rfl; rfl; rfl; rfl
 | fail)
    all_goals first
      | (refine endT ⟨hh, by assumption⟩ [0, 1, 2, 3, 4] rfl rfl rfl rfl rfl rfl)
      | (rw [ho]
         first | exact endF (fun k => absurd k.2 (by assumption)) [0, 1, 2, 3, 4] rfl rfl rfl rfl rfl rfl
               | (rw [pick_t hh]; exact endF (fun k => absurd k.2 (by assumption)) [0, 1, 2, 3, 4] rfl rfl rfl rfl rfl rfl)
               | (rw [show pick (tHas bt no) (tAt bt no) (-1) = tAt bt no from pick_t hh]; exact endF (fun k => absurd k.2 (by assumption)) [0, 1, 2, 3, 4] rfl rfl rfl rfl rfl rfl))
  · have ho : oC bt no = 3 := pick_f hh
    have hh' := hh
    unfold tHas at hh'
    repeat' (first
 | (intro h9; exfalso; first | contradiction | omega)
 | (with_reducible apply zds); exact tk; rfl; rfl; rfl; rfl; rfl
 | (with_reducible apply zd); rfl; exact tk; rfl
 | (with_reducible first | intro _ | apply wseq | apply zreg | apply thenQ_n | apply thenQ_r | apply thenQ_e | apply znil | apply wret | apply bodyQ_r | apply wblk | apply blkQ_n | apply blkQ_r | apply wskip | apply wexit)
 | apply wct rfl
 | (with_reducible apply zcmp); rfl; exact tk; rfl; rfl; rfl
 | (with_reducible apply zcs); (iterate 10 rfl); exact impl_tradeAt; exact fun _ => rfl; exact fun _ => rfl; rfl; rfl; rfl; rfl
 | fail)
    all_goals first
      | (rw [ho]
         first | exact endF (fun k => hh k.1) [0, 1, 2, 3, 4] rfl rfl rfl rfl rfl rfl
               | (rw [show pick (tHas bt no) (tAt bt no) (-1) = -1 from pick_f hh]; exact endF (fun k => hh k.1) [0, 1, 2, 3, 4] rfl rfl rfl rfl rfl rfl))
set_option maxHeartbeats 4000000 in
theorem spec_l7Open {ba : List Account} {bi : List Instr} {bb : List Bal} {bl : List Lot} {bt : List Trade} {bn : Int} {no : Int} : FC Tryz.prog 76 [bkV 0 ⟨ba, bi, bb, bl, bt, bn⟩, I no] (bkR ⟨ba, bi, bb, bl, bt, bn⟩) (sel (tOpen bt no) (.tup [I (tAt bt no), I 0]) (.tup [I (pick (tHas bt no) (tAt bt no) (-1)), I (oC bt no)])) (sel (tOpen bt no) (bkR ⟨ba, bi, bb, bl, bt, bn⟩) (bkR ⟨ba, bi, bb, bl, bt, bn⟩)) := by
  refine fent tk 24 [.tmp 4, .tmp 5] Tryz.func76 (by kernel_rfl) rfl rfl rfl rfl rfl rfl rfl ?_
  refine wlen bt 4 rfl (fun hl => ?_)
  have hb := fIx_nn bt (fun t => t.No = no)
  have hb2 := fun h : tHas bt no => fIx_lt (l := bt) (q := fun t => t.No = no) h
  by_cases hh : tHas bt no
  · have hb3 := hb2 hh
    have ho : oC bt no = 6 := pick_t hh
    unfold tHas at hh
    repeat' (first
 | (intro h9; exfalso; first | contradiction | omega)
 | (with_reducible apply zds); exact tk; rfl; rfl; rfl; rfl; rfl
 | (with_reducible apply zd); rfl; exact tk; rfl
 | (with_reducible first | intro _ | apply wseq | apply zreg | apply thenQ_n | apply thenQ_r | apply thenQ_e | apply znil | apply wret | apply bodyQ_r | apply wblk | apply blkQ_n | apply blkQ_r | apply wskip | apply wexit)
 | apply wct rfl
 | apply wcf rfl
 | (with_reducible apply zcmp); rfl; exact tk; rfl; rfl; rfl
 | (with_reducible apply zne); rfl; exact tk; rfl; rfl; rfl; rfl
 | (with_reducible apply zix); rfl; exact tk; (iterate 7 rfl); (first | omega | ((try simp only [List.length_append, List.length_cons, List.length_nil, List.length_map]); (try dsimp only); omega)); rfl; rfl
 | (with_reducible apply zle); rfl; exact tk; rfl; rfl; rfl; rfl; (first | omega | ((try simp only [List.length_append, List.length_cons, List.length_nil, List.length_map]); (try dsimp only); omega)); rfl; rfl; rfl; rfl
 | (with_reducible apply zcs); (iterate 10 rfl); exact spec_l7Find; exact fun _ => rfl; exact fun _ => rfl; rfl; rfl; rfl; rfl
 | fail)
    all_goals first
      | (refine endT ⟨hh, by assumption⟩ [0, 1, 2, 3, 4] rfl rfl rfl rfl rfl rfl)
      | (rw [ho]
         first | exact endF (fun k => absurd k.2 (by assumption)) [0, 1, 2, 3, 4] rfl rfl rfl rfl rfl rfl
               | (rw [pick_t hh]; exact endF (fun k => absurd k.2 (by assumption)) [0, 1, 2, 3, 4] rfl rfl rfl rfl rfl rfl)
               | (rw [show pick (tHas bt no) (tAt bt no) (-1) = tAt bt no from pick_t hh]; exact endF (fun k => absurd k.2 (by assumption)) [0, 1, 2, 3, 4] rfl rfl rfl rfl rfl rfl))
  · have ho : oC bt no = 3 := pick_f hh
    have hh' := hh
    unfold tHas at hh'
    repeat' (first
 | (intro h9; exfalso; first | contradiction | omega)
 | (with_reducible apply zds); exact tk; rfl; rfl; rfl; rfl; rfl
 | (with_reducible apply zd); rfl; exact tk; rfl
 | (with_reducible first | intro _ | apply wseq | apply zreg | apply thenQ_n | apply thenQ_r | apply thenQ_e | apply znil | apply wret | apply bodyQ_r | apply wblk | apply blkQ_n | apply blkQ_r | apply wskip | apply wexit)
 | apply wct rfl
 | (with_reducible apply zcmp); rfl; exact tk; rfl; rfl; rfl
 | (with_reducible apply zcs); (iterate 10 rfl); exact spec_l7Find; exact fun _ => rfl; exact fun _ => rfl; rfl; rfl; rfl; rfl
 | fail)
    all_goals first
      | (rw [ho]
         first | exact endF (fun k => hh k.1) [0, 1, 2, 3, 4] rfl rfl rfl rfl rfl rfl
               | (rw [show pick (tHas bt no) (tAt bt no) (-1) = -1 from pick_f hh]; exact endF (fun k => hh k.1) [0, 1, 2, 3, 4] rfl rfl rfl rfl rfl rfl))
set_option maxHeartbeats 4000000 in
theorem impl_tradeLegs {no bu se pa qt ca pr st : Int} (hq : -1000000000000000 ≤ qt ∧ qt ≤ 1000000000000000) (hp : -1000000000000000 ≤ pr ∧ pr ≤ 1000000000000000) : FC Tryz.prog 84 [.agg [.sc (.int .i64 no), .sc (.int .i64 bu), .sc (.int .i64 se), .sc (.int .i64 pa), .sc (.int .i64 qt), .sc (.int .i64 ca), .sc (.int .i64 pr), .sc (.int .i64 st)]] ([]) (.c (.row 0 0 (tLegs ⟨no, bu, se, pa, qt, ca, pr, st⟩).length)) ([ow 117 (tLegs ⟨no, bu, se, pa, qt, ca, pr, st⟩)]) := by
  refine fent tk 34 [.tmp 2] Tryz.func84 (by kernel_rfl) rfl rfl rfl rfl rfl rfl rfl ?_
  repeat' (first
 | (with_reducible apply zds); exact tk; rfl; rfl; rfl; rfl; rfl
 | (with_reducible apply zd); rfl; exact tk; rfl
 | (with_reducible first | intro _ | apply wseq | apply zreg | apply thenQ_n | apply thenQ_r | apply thenQ_e | apply znil | apply wret | apply bodyQ_r | apply wblk | apply blkQ_n | apply blkQ_r | apply wskip | apply wexit)
 | (with_reducible apply zneg); rfl; rfl; omega; rfl; rfl
 | (with_reducible apply zlit (α := Leg) (e := 117)); rfl; exact tk; (iterate 13 rfl)
 | fail)
  all_goals exact endV [1] rfl rfl rfl rfl rfl rfl
set_option maxHeartbeats 4000000 in
theorem spec_l6Pair {a e c n : Int} (hp : -1000000000000000 ≤ n ∧ n ≤ 1000000000000000) : FC Tryz.prog 113 [I a, I e, I c, I n] ([]) (.c (.row 0 0 (pLegs a e c n).length)) ([ow 117 (pLegs a e c n)]) := by
  refine fent tk 19 [.tmp 8] Tryz.func113 (by kernel_rfl) rfl rfl rfl rfl rfl rfl rfl ?_
  repeat' (first
 | (with_reducible apply zds); exact tk; rfl; rfl; rfl; rfl; rfl
 | (with_reducible apply zd); rfl; exact tk; rfl
 | (with_reducible first | intro _ | apply wseq | apply zreg | apply thenQ_n | apply thenQ_r | apply thenQ_e | apply znil | apply wret | apply bodyQ_r | apply wblk | apply blkQ_n | apply blkQ_r | apply wskip | apply wexit)
 | (with_reducible apply zneg); rfl; rfl; omega; rfl; rfl
 | (with_reducible apply zlit (α := Leg) (e := 117)); rfl; exact tk; (iterate 13 rfl)
 | fail)
  all_goals exact endV [0] rfl rfl rfl rfl rfl rfl
set_option maxHeartbeats 4000000 in
theorem spec_l7Legs {no bu se pa qt ca pr st : Int} (hq : -1000000000000000 ≤ qt ∧ qt ≤ 1000000000000000) (hp : -1000000000000000 ≤ pr ∧ pr ≤ 1000000000000000) : FC Tryz.prog 78 [.agg [.sc (.int .i64 no), .sc (.int .i64 bu), .sc (.int .i64 se), .sc (.int .i64 pa), .sc (.int .i64 qt), .sc (.int .i64 ca), .sc (.int .i64 pr), .sc (.int .i64 st)]] ([]) (.c (.row 0 0 (tLegs ⟨no, bu, se, pa, qt, ca, pr, st⟩).length)) ([ow 117 (tLegs ⟨no, bu, se, pa, qt, ca, pr, st⟩)]) := by
  refine fent tk 22 [.tmp 2] Tryz.func78 (by kernel_rfl) rfl rfl rfl rfl rfl rfl rfl ?_
  have h1 := pLegs_len bu se ca pr
  have h2 := pLegs_len se bu pa qt
  repeat' (first
 | (with_reducible apply zds); exact tk; rfl; rfl; rfl; rfl; rfl
 | (with_reducible apply zd); rfl; exact tk; rfl
 | (with_reducible first | intro _ | apply wseq | apply zreg | apply thenQ_n | apply thenQ_r | apply thenQ_e | apply znil | apply wret | apply bodyQ_r | apply wblk | apply blkQ_n | apply blkQ_r | apply wskip | apply wexit)
 | (with_reducible apply zap); rfl; exact tk; (iterate 10 rfl); (first | omega | ((try simp only [List.length_append, List.length_cons, List.length_nil, List.length_map]); (try dsimp only); omega)); rfl; rfl; rfl; rfl; rfl
 | refine zdq (id := 1) rfl (by kernel_rfl) [(.p, 0), (.p, 2), (.p, 4), (.p, 6), (.p, 9), (.p, 11), (.p, 13), (.p, 15), (.t, 1), (.t, 3), (.t, 5), (.t, 7), (.t, 10), (.t, 12), (.t, 14), (.t, 16), (.o, 8), (.o, 17), (.l, 18), (.p, 19)] [18] (by kernel_rfl) rfl ?_
 | (with_reducible apply zcf); (iterate 10 rfl); exact spec_l6Pair (by omega); rfl; rfl; rfl; rfl; rfl
 | fail)
  all_goals exact endV [3] rfl rfl rfl rfl rfl rfl
noncomputable def nIx (L : List Leg) (a c : Int) : Int := fIx L (fun y => ¬ bef y.Account y.Instr a c)
def nHas (L : List Leg) (a c : Int) : Prop := nIx L a c < L.length ∧ (rd L (nIx L a c)).Account = a ∧ (rd L (nIx L a c)).Instr = c
noncomputable def nt (L : List Leg) (x : Leg) : List Leg := sel (nHas L x.Account x.Instr) (upd L (nIx L x.Account x.Instr) ⟨(rd L (nIx L x.Account x.Instr)).Account, (rd L (nIx L x.Account x.Instr)).Instr, (rd L (nIx L x.Account x.Instr)).Amount + x.Amount⟩) (ins L (nIx L x.Account x.Instr) x)
theorem nIx_nn (L : List Leg) (a c : Int) : 0 ≤ nIx L a c ∧ nIx L a c ≤ L.length := fIx_nn _ _
theorem nIx_bef {L : List Leg} {a c j : Int} (h0 : 0 ≤ j) (h : j < nIx L a c) : bef (rd L j).Account (rd L j).Instr a c := Classical.not_not.1 (fIx_bef h0 h)
theorem nIx_at {L : List Leg} {a c : Int} (h : nIx L a c < L.length) : ¬ bef (rd L (nIx L a c)).Account (rd L (nIx L a c)).Instr a c := by
  by_cases hx : ∃ t ∈ L, ¬ bef t.Account t.Instr a c
  · exact fIx_at hx
  · exfalso
    have h1 := fIx_no (l := L) (q := fun t => ¬ bef t.Account t.Instr a c) (fun x hm k => hx ⟨x, hm, k⟩)
    unfold nIx at h
    omega
theorem nt_upd {L : List Leg} {a c n i : Int} (e : i = nIx L a c) (h : i < L.length) (h1 : (rd L i).Account = a) (h2 : (rd L i).Instr = c) : nt L ⟨a, c, n⟩ = upd L i ⟨(rd L i).Account, (rd L i).Instr, (rd L i).Amount + n⟩ := by
  subst e
  exact sel_t ⟨h, h1, h2⟩
theorem nt_ins {L : List Leg} {a c n i : Int} (e : i = nIx L a c) (h : ¬ (i < L.length ∧ (rd L i).Account = a ∧ (rd L i).Instr = c)) : nt L ⟨a, c, n⟩ = ins L i ⟨a, c, n⟩ := by
  subst e
  exact sel_f h
set_option maxHeartbeats 4000000 in
theorem impl_netted {L : List Leg} {a c n : Int} (hl : L.length ≤ 4000000) (hb : ∀ y ∈ L, -4000000000000000000 ≤ y.Amount ∧ y.Amount ≤ 4000000000000000000) (hn : -4000000000000000000 ≤ n ∧ n ≤ 4000000000000000000) : FC Tryz.prog 85 [.c (.row 0 0 L.length), .agg [.sc (.int .i64 a), .sc (.int .i64 c), .sc (.int .i64 n)]] ([ow 117 L]) (.c (.row 1 0 (nt L ⟨a, c, n⟩).length)) ([none, ow 117 (nt L ⟨a, c, n⟩)]) := by
  refine fent tk 70 [.tmp 4] Tryz.func85 (by kernel_rfl) rfl rfl rfl rfl rfl rfl rfl ?_
  have hK := nIx_nn L a c
  have hKa := nIx_at (L := L) (a := a) (c := c)
  repeat' (first
 | (with_reducible apply zds); exact tk; rfl; rfl; rfl; rfl; rfl
 | (with_reducible apply zd); rfl; exact tk; rfl
 | (with_reducible first | intro _ | apply wseq | apply zreg | apply thenQ_n | apply thenQ_r | apply thenQ_e | apply znil | apply wret | apply bodyQ_r | apply wblk | apply blkQ_n | apply blkQ_r | apply wskip | apply wexit)
 | fail)
  refine wlp (X := Int) [0, 3] [0, 1] (fun i => [(5, I i)]) (fun _ => []) (fun i => 0 ≤ i ∧ i ≤ nIx L a c) (fun i => (L.length - i).toNat) 0 ⟨by omega, by omega⟩ rfl rfl (fun _ => rfl) (fun _ => rfl) ⟨rfl, rfl, rfl, rfl, rfl, rfl, rfl, rfl⟩ (fun i hi => ?_)
  obtain ⟨h0, hi⟩ := hi
  have hbi := fun h => nIx_bef (L := L) (a := a) (c := c) h0 h
  have hm := fun h => hb _ (rd_mem (l := L) (i := i) ⟨h0, h⟩)
  repeat' (first
 | (intro h9; exfalso; first | contradiction | omega)
 | (with_reducible apply zds); exact tk; rfl; rfl; rfl; rfl; rfl
 | (with_reducible apply zd); rfl; exact tk; rfl
 | (with_reducible apply zar); rfl; rfl; rfl; rfl; (have h1 := hm (by assumption); omega); rfl; rfl
 | (with_reducible first | intro _ | apply wseq | apply zreg | apply thenQ_n | apply thenQ_r | apply thenQ_e | apply znil | apply wret | apply bodyQ_r | apply wblk | apply blkQ_n | apply blkQ_r | apply wskip | apply wexit)
 | apply wct rfl
 | apply wcf rfl
 | (with_reducible apply blkQ_x rfl)
 | (with_reducible apply zcmp); rfl; exact tk; rfl; rfl; rfl
 | (with_reducible apply zix); rfl; exact tk; (iterate 7 rfl); (first | omega | ((try simp only [List.length_append, List.length_cons, List.length_nil, List.length_map]); (try dsimp only); omega)); rfl; rfl
 | (with_reducible apply zle); rfl; exact tk; rfl; rfl; rfl; rfl; (first | omega | ((try simp only [List.length_append, List.length_cons, List.length_nil, List.length_map]); (try dsimp only); omega)); rfl; rfl; rfl; rfl
 | (with_reducible apply zse); rfl; exact tk; (iterate 6 rfl); (first | omega | ((try simp only [List.length_append, List.length_cons, List.length_nil, List.length_map]); (try dsimp only); omega)); rfl; rfl; rfl; rfl; rfl
 | (with_reducible apply zlit (α := Leg) (e := 117)); rfl; exact tk; (iterate 13 rfl)
 | refine zdq (id := 2) rfl (by kernel_rfl) [(.p, 0), (.p, 1), (.p, 2), (.p, 3), (.p, 4), (.p, 5), (.p, 6), (.p, 7), (.p, 8), (.p, 10), (.p, 11), (.p, 12), (.p, 13), (.p, 15), (.p, 17), (.t, 9), (.t, 14), (.t, 16), (.t, 18), (.o, 19), (.p, 20), (.p, 21)] [] (by kernel_rfl) rfl ?_
 | refine zdq (id := 4) rfl (by kernel_rfl) [(.p, 0), (.p, 1), (.p, 2), (.p, 3), (.p, 4), (.p, 5), (.p, 6), (.p, 7), (.p, 8), (.p, 10), (.t, 9), (.t, 11), (.p, 12), (.p, 13), (.p, 14), (.p, 15), (.p, 16), (.p, 17), (.p, 18), (.p, 20), (.t, 19), (.t, 21), (.p, 22), (.p, 23)] [] (by kernel_rfl) rfl ?_
 | refine zdq (id := 5) rfl (by kernel_rfl) [(.p, 0), (.p, 1), (.p, 2), (.p, 3), (.p, 5), (.t, 4), (.t, 6), (.p, 7), (.p, 8), (.p, 9), (.l, 10)] [10] (by kernel_rfl) rfl ?_
 | (with_reducible apply zc); (iterate 10 rfl); exact impl_byBoth; exact fun _ => rfl; rfl; rfl; rfl
 | (with_reducible apply zcw  [true,true]); (iterate 10 rfl); exact slices_Insert_Leg (by omega) (by omega); rfl; rfl; rfl; rfl
 | fail)
  all_goals first
    | (rename_i h1 h2
       have q : bef (rd L i).Account (rd L i).Instr a c := byBoth_lt.1 h2
       exact endR (i + 1) [0, 1] ⟨rfl, rfl, rfl, rfl, rfl, rfl, rfl, rfl⟩ ⟨by omega, by have e : i ≠ nIx L a c := fun e => (by have := hKa (by omega); rw [← e] at this; exact this q); omega⟩ (by first | omega | (dsimp only; omega)))
    | (have q : ¬ bef (rd L i).Account (rd L i).Instr a c := fun k => absurd (byBoth_lt.2 k) (by assumption)
       have e : i = nIx L a c := by
         by_cases hq : i < nIx L a c
         · exact absurd (hbi hq) q
         · omega
       first
       | (rw [nt_upd e (by assumption) (by assumption) (by assumption)]
          exact endG (X' := .c (.row 1 0 L.length)) (hs' := [none, ow 117 (upd L i ⟨(rd L i).Account, (rd L i).Instr, (rd L i).Amount + n⟩)]) [0, 0] rfl rfl rfl rfl rfl rfl (by rw [upd_len]) rfl)
       | (rw [nt_ins e (fun k => by first | exact absurd k.2.1 (by assumption) | exact absurd k.2.2 (by assumption))]
          exact endV [0, 3] rfl rfl rfl rfl rfl rfl))
    | (have e : i = nIx L a c := by omega
       rw [nt_ins e (fun k => absurd k.1 (by assumption))]
       exact endV [0, 3] rfl rfl rfl rfl rfl rfl)
end Go.Proofs.YtnlajjoheegbiaaGreat.Sh
