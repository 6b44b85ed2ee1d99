/- Lots that are right. No condition. -/
import Derived.Test.YtgehbhkfehmdkaaGreatKSpShX2
namespace Go.Proofs.YtgehbhkfehmdkaaGreat.Sh
open Go.RowKit
set_option linter.unusedVariables false
set_option linter.unusedSimpArgs false
def lotF (a c n q k : Int) : Prop := isNo a ∧ isNo c ∧ inP n 1 1000000000 ∧ inP q 1 1000000000000000 ∧ inP k 0 1000000000000000
def lbef (a c n a' c' n' : Int) : Prop := bef a c a' c' ∨ a = a' ∧ c = c' ∧ n < n'
noncomputable def lotCmp (a c n a' c' n' : Int) : Int := pick (lbef a c n a' c' n') (-1) (pick (a = a' ∧ c = c' ∧ n = n') 0 1)
theorem lotCmp_lt {a c n a' c' n' : Int} : lotCmp a c n a' c' n' < 0 ↔ lbef a c n a' c' n' := by
  unfold lotCmp
  by_cases h : lbef a c n a' c' n'
  · rw [pick_t h]; simp [h]
  · rw [pick_f h]
    by_cases h2 : a = a' ∧ c = c' ∧ n = n'
    · rw [pick_t h2]; simp [h]
    · rw [pick_f h2]; simp [h]
def vI (x : Int) : Option AO := some ⟨false, 3, 1, .mx [.sc (.int .i64 x)]⟩
noncomputable def lotsOf (l : List Lot) (a c : Int) : List Lot := flt (fun x => x.Account = a ∧ x.Instr = c) l
def sQ (l : List Lot) : Int := sumF Lot.Qty l
def sC (l : List Lot) : Int := sumF Lot.Cost l
structure LQ (l : List Lot) : Prop where
  q : ∀ x ∈ l, 0 ≤ x.Qty ∧ x.Qty ≤ 1000000000000000
  c : ∀ x ∈ l, 0 ≤ x.Cost ∧ x.Cost ≤ 1000000000000000
  len : l.length ≤ 1000
theorem LQ.flt {l : List Lot} (h : LQ l) (p : Lot → Prop) : LQ (flt p l) := ⟨fun x hx => h.q x (flt_mem.1 hx).1, fun x hx => h.c x (flt_mem.1 hx).1, Nat.le_trans (flt_le _ _) h.len⟩
theorem LQ.of {l : List Lot} (h : LQ l) {a c : Int} : LQ (lotsOf l a c) := h.flt _
set_option maxHeartbeats 4000000 in
theorem impl_isLot {a c n q k u v : Int} : FC Tryz.prog 309 [.agg [.sc (.int .i64 a), .sc (.int .i64 c), .sc (.int .i64 n), .sc (.int .i64 q), .sc (.int .i64 k)], I u, I v] ([]) (B (dB (a = u ∧ c = v))) ([]) := by
  refine fent tk 17 [.tmp 6] Tryz.func309 (by kernel_rfl) rfl rfl rfl rfl rfl rfl rfl ?_
  repeat' (first
 | (with_reducible apply zds); exact tk; rfl; rfl; rfl; rfl; rfl
 | (with_reducible first | intro _ | apply wseq | apply zreg | apply thenQ_n | apply thenQ_r | apply thenQ_e | apply znil | apply wret | apply bodyQ_r | apply wblk | apply blkQ_n | apply blkQ_r | apply wskip | apply wexit)
 | (with_reducible apply zeq); rfl; exact tk; rfl; rfl; rfl; rfl
 | fail)
  all_goals first | exact endY [] rfl rfl rfl rfl rfl rfl ⟨by assumption, by assumption⟩ | exact endN [] rfl rfl rfl rfl rfl rfl (fun e => by first | exact absurd e.1 (by assumption) | exact absurd e.2 (by assumption))
set_option maxHeartbeats 4000000 in
theorem impl_lotForm {a c n q k : Int} : FC Tryz.prog 250 [.agg [.sc (.int .i64 a), .sc (.int .i64 c), .sc (.int .i64 n), .sc (.int .i64 q), .sc (.int .i64 k)]] ([]) (B (dB (lotF a c n q k))) ([]) := by
  refine fent tk 26 [.tmp 2] Tryz.func250 (by kernel_rfl) rfl rfl rfl rfl rfl rfl rfl ?_
  repeat' (first
 | (with_reducible apply zds); exact tk; rfl; rfl; rfl; rfl; rfl
 | (with_reducible first | intro _ | apply wseq | apply zreg | apply thenQ_n | apply thenQ_r | apply thenQ_e | apply znil | apply wret | apply bodyQ_r | apply wblk | apply blkQ_n | apply blkQ_r | apply wskip | apply wexit)
 | (with_reducible apply zcp); (iterate 10 rfl); (first | exact impl_isNo | exact impl_in); rfl; rfl
 | fail)
  all_goals first | exact endY [] rfl rfl rfl rfl rfl rfl ⟨by assumption, by assumption, by assumption, by assumption, by assumption⟩ | exact endN [] rfl rfl rfl rfl rfl rfl (fun e => by obtain ⟨e1, e2, e3, e4, e5⟩ := e; contradiction)
set_option maxHeartbeats 4000000 in
theorem impl_lotBefore {a c n q k a' c' n' q' k' : Int} : FC Tryz.prog 251 [.agg [.sc (.int .i64 a), .sc (.int .i64 c), .sc (.int .i64 n), .sc (.int .i64 q), .sc (.int .i64 k)], .agg [.sc (.int .i64 a'), .sc (.int .i64 c'), .sc (.int .i64 n'), .sc (.int .i64 q'), .sc (.int .i64 k')]] ([]) (I (lotCmp a c n a' c' n')) ([]) := by
  refine fent tk 31 [.tmp 4] Tryz.func251 (by kernel_rfl) rfl rfl rfl rfl rfl rfl rfl ?_
  repeat' (first
 | (with_reducible apply zds); exact tk; rfl; rfl; rfl; rfl; rfl
 | (with_reducible apply zd); rfl; exact tk; rfl
 | (with_reducible first | intro _ | apply wseq | apply zreg | apply thenQ_n | apply thenQ_r | apply thenQ_e | apply znil | apply wret | apply bodyQ_r | apply wblk | apply blkQ_n | apply blkQ_r | apply wskip | apply wexit)
 | apply wct rfl
 | apply wcf rfl
 | (with_reducible apply zcmp); rfl; exact tk; rfl; rfl; rfl
 | (with_reducible apply zne); rfl; exact tk; rfl; rfl; rfl; rfl
 | (with_reducible apply zc); (iterate 10 rfl); exact impl_byBoth; exact fun _ => rfl; rfl; rfl; rfl
 | fail)
  all_goals exact endI [] rfl rfl rfl rfl rfl rfl (by
    have h1 := byBoth_lt (a := a) (b := c) (c := a') (d := c')
    have h2 := byBoth_eq (a := a) (b := c) (c := a') (d := c')
    unfold lotCmp byBoth at *
    by_cases hb : bef a c a' c'
    · rw [pick_t (p := lbef _ _ _ _ _ _) (.inl hb)]
      rw [pick_t hb] at *
      try first | rfl | omega
    · rw [pick_f hb] at *
      by_cases he : a = a' ∧ c = c'
      · rw [pick_t he] at *
        first
        | omega
        | (rw [pick_t (p := lbef _ _ _ _ _ _) (.inr ⟨he.1, he.2, by omega⟩)])
        | (rw [pick_f (p := lbef _ _ _ _ _ _) (by rintro (h | h) <;> first | exact hb h | omega)]; first | exact pick_t ⟨he.1, he.2, by omega⟩ | exact pick_f (by omega))
      · rw [pick_f he] at *
        first
        | omega
        | (rw [pick_f (p := lbef _ _ _ _ _ _) (by rintro (h | h) <;> first | exact hb h | exact he ⟨h.1, h.2.1⟩), pick_f (fun h => he ⟨h.1, h.2.1⟩)]))
set_option maxHeartbeats 4000000 in
theorem impl_lotsOf_1 {a c n q k u v : Int} : FC Tryz.prog 308 [.agg [.sc (.int .i64 a), .sc (.int .i64 c), .sc (.int .i64 n), .sc (.int .i64 q), .sc (.int .i64 k)], .c (.ptr 0 0 0), .c (.ptr 1 0 0)] ([vI u, vI v]) (B (dB (¬ (a = u ∧ c = v)))) ([vI u, vI v]) := by
  refine fent tk 10 [.tmp 4] Tryz.func308 (by kernel_rfl) rfl rfl rfl rfl rfl rfl rfl ?_
  repeat' (first
 | (with_reducible apply zds); exact tk; rfl; rfl; rfl; rfl; rfl
 | (with_reducible first | intro _ | apply wseq | apply zreg | apply thenQ_n | apply thenQ_r | apply thenQ_e | apply znil | apply wret | apply bodyQ_r | apply wblk | apply blkQ_n | apply blkQ_r | apply wskip | apply wexit)
 | (with_reducible apply zcp); (iterate 10 rfl); exact impl_isLot; rfl; rfl
 | fail)
  all_goals first | exact endY [0, 1] rfl rfl rfl rfl rfl rfl (by assumption) | exact endN [0, 1] rfl rfl rfl rfl rfl rfl (fun h => h (by assumption))
set_option maxHeartbeats 4000000 in
theorem slices_IndexFunc_Lot_of {l : List Lot} {u v : Int} : FC Tryz.prog 310 [.c (.row 0 0 l.length), .c (.fn 308 [(1, 0, 0), (2, 0, 0)])] ([ro 137 l, vI u, vI v]) (sel (∃ x ∈ l, ¬ (x.Account = u ∧ x.Instr = v)) (I (fIx l (fun x => ¬ (x.Account = u ∧ x.Instr = v)))) (I (-1))) (sel (∃ x ∈ l, ¬ (x.Account = u ∧ x.Instr = v)) [ro 137 l, vI u, vI v] [ro 137 l, vI u, vI v]) := by
  refine fent tk 19 [.tmp 4] Tryz.func310 (by kernel_rfl) rfl rfl rfl rfl rfl rfl rfl ?_
  refine wlen l 0 rfl (fun hl => ?_)
  repeat' (first
 | (with_reducible apply zds); exact tk; rfl; rfl; rfl; rfl; rfl
 | (with_reducible apply zd); rfl; exact tk; rfl
 | (with_reducible first | intro _ | apply wseq | apply zreg | apply thenQ_n | apply thenQ_r | apply thenQ_e | apply znil | apply wret | apply bodyQ_r | apply wblk | apply blkQ_n | apply blkQ_r | apply wskip | apply wexit)
 | fail)
  refine wlp (X := Int) [0, 1, 7] [0, 1, 2] (fun i => [(8, I i)]) (fun _ => []) (fun i => 0 ≤ i ∧ i ≤ l.length ∧ ∀ j : Int, 0 ≤ j → j < i → ¬ (fun x => ¬ (x.Account = u ∧ x.Instr = v)) (rd l j)) (fun i => (l.length - i).toNat) 0 ⟨by omega, by omega, fun j h0 h1 => by omega⟩ rfl rfl (fun _ => rfl) (fun _ => rfl) ⟨rfl, rfl, rfl, rfl, rfl, rfl, rfl, rfl⟩ (fun i hi => ?_)
  obtain ⟨h0, hi, hall⟩ := hi
  skip
  repeat' (first
 | (with_reducible apply zds); exact tk; rfl; rfl; rfl; rfl; rfl
 | (with_reducible apply zd); rfl; exact tk; rfl
 | (with_reducible apply zcp); (iterate 10 rfl); exact impl_lotsOf_1; rfl; rfl
 | (with_reducible first | intro _ | apply wseq | apply zreg | apply thenQ_n | apply thenQ_r | apply thenQ_e | apply znil | apply wret | apply bodyQ_r | apply wblk | apply blkQ_n | apply blkQ_r | apply wskip | apply wexit)
 | apply wct rfl
 | apply wcf rfl
 | (with_reducible apply blkQ_x rfl)
 | (with_reducible apply zcmp); rfl; exact tk; rfl; rfl; rfl
 | (with_reducible apply zar); rfl; rfl; rfl; rfl; (first | omega | ((try simp only [List.length_append, List.length_cons, List.length_nil, List.length_map]); (try dsimp only); omega)); rfl; rfl
 | (with_reducible apply zix); rfl; exact tk; (iterate 7 rfl); (first | omega | ((try simp only [List.length_append, List.length_cons, List.length_nil, List.length_map]); (try dsimp only); omega)); rfl; rfl
 | (with_reducible apply zle); rfl; exact tk; rfl; rfl; rfl; rfl; (first | omega | ((try simp only [List.length_append, List.length_cons, List.length_nil, List.length_map]); (try dsimp only); omega)); rfl; rfl; rfl; rfl
 | fail)
  all_goals first
    | (refine endG (X' := I i) (hs' := [ro 137 l, vI u, vI v]) [0, 1, 2] rfl rfl rfl rfl rfl rfl ?_ ?_
       · rw [sel_t ⟨rd l i, rd_mem ⟨by omega, by omega⟩, by assumption⟩, fIx_eq ⟨by omega, by omega⟩ hall (by assumption)]
       · rw [sel_t ⟨rd l i, rd_mem ⟨by omega, by omega⟩, by assumption⟩])
    | exact endF (no_rd (by assumption) hall) [0, 1, 2] rfl rfl rfl rfl rfl rfl
    | exact endR (i + 1) [0, 1, 2] ⟨rfl, rfl, rfl, rfl, rfl, rfl, rfl, rfl⟩ ⟨by omega, by omega, all_step hall (by assumption)⟩ (by first | omega | (dsimp only; omega))
set_option maxHeartbeats 4000000 in
theorem slices_DeleteFunc_Lot_of {l : List Lot} {u v : Int} (hl : l.length ≤ 1000000) : FC Tryz.prog 307 [.c (.row 0 0 l.length), .c (.fn 308 [(1, 0, 0), (2, 0, 0)])] ([ow 137 l, vI u, vI v]) (.c (.row 0 0 (flt (fun x => ¬ (¬ (x.Account = u ∧ x.Instr = v))) l).length)) ([ow 137 (flt (fun x => ¬ (¬ (x.Account = u ∧ x.Instr = v))) l), vI u, vI v]) := by
  refine fent tk 42 [.tmp 4] Tryz.func307 (by kernel_rfl) rfl rfl rfl rfl rfl rfl rfl ?_
  repeat' (first
 | (with_reducible apply zds); exact tk; rfl; rfl; rfl; rfl; rfl
 | (with_reducible apply zd); rfl; exact tk; rfl
 | (with_reducible first | intro _ | apply wseq | apply zreg | apply thenQ_n | apply thenQ_r | apply thenQ_e | apply znil | apply wret | apply bodyQ_r | apply wblk | apply blkQ_n | apply blkQ_r | apply wskip | apply wexit)
 | apply wct rfl
 | apply wcf rfl
 | (with_reducible apply zcmp); rfl; exact tk; rfl; rfl; rfl
 | (with_reducible apply zar); rfl; rfl; rfl; rfl; (first | omega | ((try simp only [List.length_append, List.length_cons, List.length_nil, List.length_map]); (try dsimp only); omega)); rfl; rfl
 | (with_reducible apply zcs); (iterate 10 rfl); (first | exact slices_IndexFunc_Lot_ok (by assumption) | exact slices_IndexFunc_Lot_wl | exact slices_IndexFunc_Lot_of); exact fun _ => rfl; exact fun _ => rfl; rfl; rfl; rfl; rfl
 | fail)
  · rename_i hex hm
    have := fIx_nn l (fun x => ¬ (x.Account = u ∧ x.Instr = v))
    exfalso; omega
  · rename_i hex hm
    have hn := fIx_lt hex
    have hn2 := fIx_nn l (fun x => ¬ (x.Account = u ∧ x.Instr = v))
    repeat' (first
 | (with_reducible apply zd); rfl; exact tk; rfl
 | (with_reducible first | intro _ | apply wseq | apply zreg | apply thenQ_n | apply thenQ_r | apply thenQ_e | apply znil | apply wret | apply bodyQ_r | apply wblk | apply blkQ_n | apply blkQ_r | apply wskip | apply wexit)
 | (with_reducible apply zar); rfl; rfl; rfl; rfl; (first | omega | ((try simp only [List.length_append, List.length_cons, List.length_nil, List.length_map]); (try dsimp only); omega)); rfl; rfl
 | fail)
    refine wlp (X := Int × Int × List Lot) [0, 1] [0, 1, 2] (fun x => [(5, I x.1), (6, I x.2.1)]) (fun x => [(0, ow 137 x.2.2)]) (fun x => DfI l (fun x => ¬ (x.Account = u ∧ x.Instr = v)) x.1 x.2.1 x.2.2) (fun x => (l.length - x.2.1).toNat) (fIx l (fun x => ¬ (x.Account = u ∧ x.Instr = v)), fIx l (fun x => ¬ (x.Account = u ∧ x.Instr = v)) + 1, l) (DfI.init hex) rfl rfl (fun _ => rfl) (fun _ => rfl) ⟨rfl, rfl, rfl, rfl, rfl, rfl, rfl, rfl⟩ (fun x hx => ?_)
    obtain ⟨i, j, xs⟩ := x
    dsimp only at hx ⊢
    obtain ⟨h0, h1, h2⟩ := hx.bnd
    have hlen := hx.len
    repeat' (first
 | (with_reducible apply zds); exact tk; rfl; rfl; rfl; rfl; rfl
 | (with_reducible apply zd); rfl; exact tk; rfl
 | (with_reducible apply zcp); (iterate 10 rfl); exact impl_lotsOf_1; rfl; rfl
 | (with_reducible first | intro _ | apply wseq | apply zreg | apply thenQ_n | apply thenQ_r | apply thenQ_e | apply znil | apply wret | apply bodyQ_r | apply wblk | apply blkQ_n | apply blkQ_r | apply wskip | apply wexit)
 | apply wct rfl
 | apply wcf rfl
 | (with_reducible apply blkQ_x rfl)
 | (with_reducible apply zcmp); rfl; exact tk; rfl; rfl; rfl
 | (with_reducible apply zar); rfl; rfl; rfl; rfl; (first | omega | ((try simp only [List.length_append, List.length_cons, List.length_nil, List.length_map]); (try dsimp only); omega)); rfl; rfl
 | (with_reducible apply zix); rfl; exact tk; (iterate 7 rfl); (first | omega | ((try simp only [List.length_append, List.length_cons, List.length_nil, List.length_map]); (try dsimp only); omega)); rfl; rfl
 | (with_reducible apply zle); rfl; exact tk; rfl; rfl; rfl; rfl; (first | omega | ((try simp only [List.length_append, List.length_cons, List.length_nil, List.length_map]); (try dsimp only); omega)); rfl; rfl; rfl; rfl
 | (with_reducible apply zse); rfl; exact tk; (iterate 6 rfl); (first | omega | ((try simp only [List.length_append, List.length_cons, List.length_nil, List.length_map]); (try dsimp only); omega)); rfl; rfl; rfl; rfl; rfl
 | (with_reducible apply zslr); rfl; exact tk; (iterate 8 rfl); omega; rfl; rfl
 | fail)
    · rename_i h3 h4
      exact endR (i, j + 1, xs) [0, 1, 2] ⟨rfl, rfl, rfl, rfl, rfl, rfl, rfl, rfl⟩ (hx.skip (by omega) h4) (by first | omega | (dsimp only; omega))
    · rename_i h3 h4
      exact endR (i + 1, j + 1, upd xs i (rd xs j)) [0, 1, 2] ⟨rfl, rfl, rfl, rfl, rfl, rfl, rfl, rfl⟩ (hx.keep (by omega) h4) (by first | omega | (dsimp only; omega))
    · refine zclr rfl tk rfl rfl rfl rfl rfl rfl rfl (by omega) rfl rfl ?_
      repeat' (first
 | (with_reducible apply zds); exact tk; rfl; rfl; rfl; rfl; rfl
 | (with_reducible apply zd); rfl; exact tk; rfl
 | (with_reducible first | intro _ | apply wseq | apply zreg | apply thenQ_n | apply thenQ_r | apply thenQ_e | apply znil | apply wret | apply bodyQ_r | apply wblk | apply blkQ_n | apply blkQ_r | apply wskip | apply wexit)
 | (with_reducible apply zslr); rfl; exact tk; (iterate 8 rfl); omega; rfl; rfl
 | fail)
      exact endG (X' := .c (.row 0 0 (i.toNat - Int.toNat 0))) (hs' := [ow 137 (xs.take i.toNat), vI u, vI v]) [0, 1, 2] rfl rfl rfl rfl rfl rfl (by rw [← hx.len2 (by assumption)]; rfl) (by rw [hx.fin (by assumption)])
  · rename_i hex hm
    exact endG (X' := .c (.row 0 0 l.length)) (hs' := [ow 137 l, vI u, vI v]) [0, 1, 2] rfl rfl rfl rfl rfl rfl (by rw [flt_all (fun x hx k => hex ⟨x, hx, k⟩)]) (by rw [flt_all (fun x hx k => hex ⟨x, hx, k⟩)])
  · exfalso; omega
theorem flt_nn {α : Type} {p : α → Prop} {l : List α} : flt (fun x => ¬ ¬ p x) l = flt p l := by
  simp only [Classical.not_not]
set_option maxHeartbeats 4000000 in
theorem impl_lotsOf {l : List Lot} {a c : Int} (hl : l.length ≤ 1000000) : FC Tryz.prog 249 [.c (.row 0 0 l.length), I a, I c] ([ro 137 l]) (.c (.row 1 0 (lotsOf l a c).length)) ([ro 137 l, ow 137 (lotsOf l a c)]) := by
  refine fent tk 11 [.tmp 6] Tryz.func249 (by kernel_rfl) rfl rfl rfl rfl rfl rfl rfl ?_
  repeat' (first
 | (with_reducible apply zds); exact tk; rfl; rfl; rfl; rfl; rfl
 | (with_reducible apply zd); rfl; exact tk; rfl
 | (with_reducible first | intro _ | apply wseq | apply zreg | apply thenQ_n | apply thenQ_r | apply thenQ_e | apply znil | apply wret | apply bodyQ_r | apply wblk | apply blkQ_n | apply blkQ_r | apply wskip | apply wexit)
 | (with_reducible apply zcf); (iterate 10 rfl); exact slices_Clone_Lot (by omega); rfl; rfl; rfl; rfl; rfl
 | (with_reducible apply zcw  [true]); (iterate 10 rfl); (first | exact slices_DeleteFunc_Lot_wl (by omega) | exact slices_DeleteFunc_Lot_of (by omega)); rfl; rfl; rfl; rfl
 | fail)
  all_goals exact endG (X' := .c (.row 1 0 (flt (fun x => ¬ ¬ (x.Account = a ∧ x.Instr = c)) l).length)) (hs' := [ro 137 l, ow 137 (flt (fun x => ¬ ¬ (x.Account = a ∧ x.Instr = c)) l)]) [0, 3] rfl rfl rfl rfl rfl rfl (by rw [flt_nn]; rfl) (by rw [flt_nn]; rfl)
theorem lot_bnd {l : List Lot} (h : LQ l) {i : Int} (hi : 0 ≤ i ∧ i ≤ l.length) : (0 ≤ sQ (pf l i) ∧ sQ (pf l i) ≤ 1000000000000000 * i) ∧ 0 ≤ sC (pf l i) ∧ sC (pf l i) ≤ 1000000000000000 * i := by
  have hm : ∀ x ∈ pf l i, x ∈ l := fun x hx => List.mem_of_mem_take hx
  have h1 := sumF_bnd (f := Lot.Qty) (l := l) (fun x hx => by have := h.q x hx; omega) hi
  have h2 := sumF_bnd (f := Lot.Cost) (l := l) (fun x hx => by have := h.c x hx; omega) hi
  have h3 := sumF_nn (f := Lot.Qty) (l := pf l i) (fun x hx => (h.q x (hm x hx)).1)
  have h4 := sumF_nn (f := Lot.Cost) (l := pf l i) (fun x hx => (h.c x (hm x hx)).1)
  unfold sQ sC
  omega
set_option maxHeartbeats 4000000 in
theorem impl_sumLots {l : List Lot} (hq : LQ l) : FC Tryz.prog 141 [.c (.row 0 0 l.length)] ([ro 137 l]) (.tup [I (sQ l), I (sC l)]) ([ro 137 l]) := by
  refine fent tk 25 [.tmp 2, .tmp 3] Tryz.func141 (by kernel_rfl) rfl rfl rfl rfl rfl rfl rfl ?_
  have hl := hq.len
  repeat' (first
 | (with_reducible apply zds); exact tk; rfl; rfl; rfl; rfl; rfl
 | (with_reducible first | intro _ | apply wseq | apply zreg | apply thenQ_n | apply thenQ_r | apply thenQ_e | apply znil | apply wret | apply bodyQ_r | apply wblk | apply blkQ_n | apply blkQ_r | apply wskip | apply wexit)
 | fail)
  refine wlp (X := Int × Int × Int) [8, 9] [0] (fun x => [(10, I x.1), (4, I x.2.1), (5, I x.2.2)]) (fun _ => []) (fun x => (0 ≤ x.1 ∧ x.1 ≤ l.length) ∧ x.2.1 = sQ (pf l x.1) ∧ x.2.2 = sC (pf l x.1)) (fun x => (l.length - x.1).toNat) (0, 0, 0) ⟨by dsimp only; omega, rfl, rfl⟩ rfl rfl (fun _ => rfl) (fun _ => rfl) ⟨rfl, rfl, rfl, rfl, rfl, rfl, rfl, rfl⟩ (fun x hx => ?_)
  obtain ⟨i, a, b⟩ := x
  obtain ⟨h0, ha, hb⟩ := hx
  dsimp only at h0 ha hb ⊢
  have hbd := lot_bnd hq h0
  rw [← ha, ← hb] at hbd
  have hm := fun (h : i < l.length) => hq.q _ (rd_mem ⟨h0.1, h⟩)
  have hm2 := fun (h : i < l.length) => hq.c _ (rd_mem ⟨h0.1, h⟩)
  repeat' (first
 | (with_reducible apply zds); exact tk; rfl; rfl; rfl; rfl; rfl
 | (with_reducible apply zd); rfl; exact tk; rfl
 | (with_reducible first | intro _ | apply wseq | apply zreg | apply thenQ_n | apply thenQ_r | apply thenQ_e | apply znil | apply wret | apply bodyQ_r | apply wblk | apply blkQ_n | apply blkQ_r | apply wskip | apply wexit)
 | apply wct rfl
 | apply wcf rfl
 | (with_reducible apply blkQ_x rfl)
 | (with_reducible apply zcmp); rfl; exact tk; rfl; rfl; rfl
 | (with_reducible apply zar); rfl; rfl; rfl; rfl; (first | omega | ((try simp only [List.length_append, List.length_cons, List.length_nil, List.length_map]); (try dsimp only); omega)); rfl; rfl
 | (with_reducible apply zix); rfl; exact tk; (iterate 7 rfl); (first | omega | ((try simp only [List.length_append, List.length_cons, List.length_nil, List.length_map]); (try dsimp only); omega)); rfl; rfl
 | (with_reducible apply zle); rfl; exact tk; rfl; rfl; rfl; rfl; (first | omega | ((try simp only [List.length_append, List.length_cons, List.length_nil, List.length_map]); (try dsimp only); omega)); rfl; rfl; rfl; rfl
 | fail)
  · rename_i h
    have h1 := hm h
    have h2 := hm2 h
    repeat' (first
 | fail)
    exact endR (i + 1, _, _) [0] ⟨rfl, rfl, rfl, rfl, rfl, rfl, rfl, rfl⟩ ⟨by dsimp only; omega, by dsimp only; rw [sQ, sumF_succ ⟨h0.1, h⟩, ha]; rfl, by dsimp only; rw [sC, sumF_succ ⟨h0.1, h⟩, hb]; rfl⟩ (by first | omega | (dsimp only; omega))
  · rename_i h
    rw [pf_all h] at ha hb
    exact endG (X' := .tup [I a, I b]) (hs' := [ro 137 l]) [0] rfl rfl rfl rfl rfl rfl (by rw [ha, hb]) rfl
set_option maxHeartbeats 4000000 in
theorem impl_LotsOk_1 {a c n q k : Int} {l : List Lot} (hq : LQ l) : FC Tryz.prog 253 [.agg [.sc (.int .i64 a), .sc (.int .i64 c), .sc (.int .i64 n), .sc (.int .i64 q), .sc (.int .i64 k)], .c (.ptr 0 0 0)] ([some ⟨false, 27, 1, .mx [.row 1 0 l.length]⟩, ro 137 l]) (B (dB (¬ (amountOk (sQ (lotsOf l a c)) ∧ amountOk (sC (lotsOf l a c)))))) ([some ⟨false, 27, 1, .mx [.row 1 0 l.length]⟩, ro 137 l]) := by
  refine fent tk 24 [.tmp 3] Tryz.func253 (by kernel_rfl) rfl rfl rfl rfl rfl rfl rfl ?_
  have hl := hq.len
  repeat' (first
 | (with_reducible apply zds); exact tk; rfl; rfl; rfl; rfl; rfl
 | (with_reducible apply zd); rfl; exact tk; rfl
 | (with_reducible first | intro _ | apply wseq | apply zreg | apply thenQ_n | apply thenQ_r | apply thenQ_e | apply znil | apply wret | apply bodyQ_r | apply wblk | apply blkQ_n | apply blkQ_r | apply wskip | apply wexit)
 | (with_reducible apply zcf); (iterate 10 rfl); exact impl_lotsOf (by first | omega | (have := LQ.len (by assumption); omega)); rfl; rfl; rfl; rfl; rfl
 | (with_reducible apply zc); (iterate 10 rfl); exact impl_sumLots (by first | assumption | exact LQ.of (by assumption)); exact fun _ => rfl; rfl; rfl; rfl
 | (with_reducible apply zcp); (iterate 10 rfl); exact impl_AmountOk; rfl; rfl
 | fail)
  all_goals first | exact endY [0, 1] rfl rfl rfl rfl rfl rfl (fun h => by first | exact absurd h.1 (by assumption) | exact absurd h.2 (by assumption)) | exact endN [0, 1] rfl rfl rfl rfl rfl rfl (fun h => h ⟨by assumption, by assumption⟩)
set_option maxHeartbeats 4000000 in
theorem slices_IndexFunc_Lot_ok {l : List Lot}  (hq : LQ l) : FC Tryz.prog 310 [.c (.row 0 0 l.length), .c (.fn 253 [(1, 0, 0)])] ([ro 137 l, some ⟨false, 27, 1, .mx [.row 0 0 l.length]⟩]) (sel (∃ x ∈ l, ¬ (amountOk (sQ (lotsOf l x.Account x.Instr)) ∧ amountOk (sC (lotsOf l x.Account x.Instr)))) (I (fIx l (fun x => ¬ (amountOk (sQ (lotsOf l x.Account x.Instr)) ∧ amountOk (sC (lotsOf l x.Account x.Instr)))))) (I (-1))) (sel (∃ x ∈ l, ¬ (amountOk (sQ (lotsOf l x.Account x.Instr)) ∧ amountOk (sC (lotsOf l x.Account x.Instr)))) [ro 137 l, some ⟨false, 27, 1, .mx [.row 0 0 l.length]⟩] [ro 137 l, some ⟨false, 27, 1, .mx [.row 0 0 l.length]⟩]) := by
  refine fent tk 19 [.tmp 4] Tryz.func310 (by kernel_rfl) rfl rfl rfl rfl rfl rfl rfl ?_
  refine wlen l 0 rfl (fun hl => ?_)
  repeat' (first
 | (with_reducible apply zds); exact tk; rfl; rfl; rfl; rfl; rfl
 | (with_reducible apply zd); rfl; exact tk; rfl
 | (with_reducible first | intro _ | apply wseq | apply zreg | apply thenQ_n | apply thenQ_r | apply thenQ_e | apply znil | apply wret | apply bodyQ_r | apply wblk | apply blkQ_n | apply blkQ_r | apply wskip | apply wexit)
 | fail)
  refine wlp (X := Int) [0, 1, 7] [0, 1] (fun i => [(8, I i)]) (fun _ => []) (fun i => 0 ≤ i ∧ i ≤ l.length ∧ ∀ j : Int, 0 ≤ j → j < i → ¬ (fun x => ¬ (amountOk (sQ (lotsOf l x.Account x.Instr)) ∧ amountOk (sC (lotsOf l x.Account x.Instr)))) (rd l j)) (fun i => (l.length - i).toNat) 0 ⟨by omega, by omega, fun j h0 h1 => by omega⟩ rfl rfl (fun _ => rfl) (fun _ => rfl) ⟨rfl, rfl, rfl, rfl, rfl, rfl, rfl, rfl⟩ (fun i hi => ?_)
  obtain ⟨h0, hi, hall⟩ := hi
  skip
  repeat' (first
 | (with_reducible apply zds); exact tk; rfl; rfl; rfl; rfl; rfl
 | (with_reducible apply zd); rfl; exact tk; rfl
 | (with_reducible apply zcp); (iterate 10 rfl); exact impl_LotsOk_1 (by assumption); rfl; rfl
 | (with_reducible first | intro _ | apply wseq | apply zreg | apply thenQ_n | apply thenQ_r | apply thenQ_e | apply znil | apply wret | apply bodyQ_r | apply wblk | apply blkQ_n | apply blkQ_r | apply wskip | apply wexit)
 | apply wct rfl
 | apply wcf rfl
 | (with_reducible apply blkQ_x rfl)
 | (with_reducible apply zcmp); rfl; exact tk; rfl; rfl; rfl
 | (with_reducible apply zar); rfl; rfl; rfl; rfl; (first | omega | ((try simp only [List.length_append, List.length_cons, List.length_nil, List.length_map]); (try dsimp only); omega)); rfl; rfl
 | (with_reducible apply zix); rfl; exact tk; (iterate 7 rfl); (first | omega | ((try simp only [List.length_append, List.length_cons, List.length_nil, List.length_map]); (try dsimp only); omega)); rfl; rfl
 | (with_reducible apply zle); rfl; exact tk; rfl; rfl; rfl; rfl; (first | omega | ((try simp only [List.length_append, List.length_cons, List.length_nil, List.length_map]); (try dsimp only); omega)); rfl; rfl; rfl; rfl
 | fail)
  all_goals first
    | (refine endG (X' := I i) (hs' := [ro 137 l, some ⟨false, 27, 1, .mx [.row 0 0 l.length]⟩]) [0, 1] rfl rfl rfl rfl rfl rfl ?_ ?_
       · rw [sel_t ⟨rd l i, rd_mem ⟨by omega, by omega⟩, by assumption⟩, fIx_eq ⟨by omega, by omega⟩ hall (by assumption)]
       · rw [sel_t ⟨rd l i, rd_mem ⟨by omega, by omega⟩, by assumption⟩])
    | exact endF (no_rd (by assumption) hall) [0, 1] rfl rfl rfl rfl rfl rfl
    | exact endR (i + 1) [0, 1] ⟨rfl, rfl, rfl, rfl, rfl, rfl, rfl, rfl⟩ ⟨by omega, by omega, all_step hall (by assumption)⟩ (by first | omega | (dsimp only; omega))
set_option maxHeartbeats 4000000 in
theorem slices_ContainsFunc_Lot_ok {l : List Lot}  (hq : LQ l) : FC Tryz.prog 252 [.c (.row 0 0 l.length), .c (.fn 253 [(1, 0, 0)])] ([ro 137 l, some ⟨false, 27, 1, .mx [.row 0 0 l.length]⟩]) (B (dB (∃ x ∈ l, ¬ (amountOk (sQ (lotsOf l x.Account x.Instr)) ∧ amountOk (sC (lotsOf l x.Account x.Instr)))))) ([ro 137 l, some ⟨false, 27, 1, .mx [.row 0 0 l.length]⟩]) := by
  refine fent tk 9 [.tmp 4] Tryz.func252 (by kernel_rfl) rfl rfl rfl rfl rfl rfl rfl ?_
  have hn := fIx_nn l (fun x => ¬ (amountOk (sQ (lotsOf l x.Account x.Instr)) ∧ amountOk (sC (lotsOf l x.Account x.Instr))))
  repeat' (first
 | (with_reducible apply zds); exact tk; rfl; rfl; rfl; rfl; rfl
 | (with_reducible apply zd); rfl; exact tk; rfl
 | (with_reducible first | intro _ | apply wseq | apply zreg | apply thenQ_n | apply thenQ_r | apply thenQ_e | apply znil | apply wret | apply bodyQ_r | apply wblk | apply blkQ_n | apply blkQ_r | apply wskip | apply wexit)
 | (with_reducible apply zcmp); rfl; exact tk; rfl; rfl; rfl
 | (with_reducible apply zcs); (iterate 10 rfl); (first | exact slices_IndexFunc_Lot_wl | exact slices_IndexFunc_Lot_of | exact slices_IndexFunc_Lot_ok (by assumption)); exact fun _ => rfl; exact fun _ => rfl; rfl; rfl; rfl; rfl
 | fail)
  all_goals first
    | exact endY [0, 1] rfl rfl rfl rfl rfl rfl (by assumption)
    | exact endN [0, 1] rfl rfl rfl rfl rfl rfl (by assumption)
    | (exfalso; omega)
def lotAt (l : List Lot) (i : Int) : Prop := lotF (rd l i).Account (rd l i).Instr (rd l i).No (rd l i).Qty (rd l i).Cost ∧ (0 < i → lbef (rd l (i - 1)).Account (rd l (i - 1)).Instr (rd l (i - 1)).No (rd l i).Account (rd l i).Instr (rd l i).No)
def LotsOk (l : List Lot) : Prop := ((∀ i : Int, 0 ≤ i → i < l.length → lotAt l i) ∧ l.length ≤ 120) ∧ ∀ x ∈ l, amountOk (sQ (lotsOf l x.Account x.Instr)) ∧ amountOk (sC (lotsOf l x.Account x.Instr))
theorem lotAt_q {l : List Lot} (h : ∀ i : Int, 0 ≤ i → i < l.length → lotAt l i) (hl : l.length ≤ 120) : LQ l :=
  ⟨fun x hx => by obtain ⟨i, hi, rfl⟩ := mem_rd hx; have := (h i hi.1 hi.2).1.2.2.2.1; unfold inP at this; omega, fun x hx => by obtain ⟨i, hi, rfl⟩ := mem_rd hx; have := (h i hi.1 hi.2).1.2.2.2.2; unfold inP at this; omega, by omega⟩
theorem LotsOk.q {l : List Lot} (h : LotsOk l) : LQ l := lotAt_q h.1.1 h.1.2
set_option maxHeartbeats 4000000 in
theorem impl_LotsOk {l : List Lot} : FC Tryz.prog 147 [.c (.row 0 0 l.length)] ([ro 137 l]) (B (dB (LotsOk l))) ([ro 137 l]) := by
  refine fent tk 37 [.tmp 2] Tryz.func147 (by kernel_rfl) rfl rfl rfl rfl rfl rfl rfl ?_
  refine wlen l 0 rfl (fun hl => ?_)
  repeat' (first
 | (with_reducible apply zds); exact tk; rfl; rfl; rfl; rfl; rfl
 | (with_reducible first | intro _ | apply wseq | apply zreg | apply thenQ_n | apply thenQ_r | apply thenQ_e | apply znil | apply wret | apply bodyQ_r | apply wblk | apply blkQ_n | apply blkQ_r | apply wskip | apply wexit)
 | fail)
  refine wlp (X := Int) [1, 5, 6] [0, 1] (fun i => [(7, I i)]) (fun _ => []) (fun i => 0 ≤ i ∧ i ≤ l.length ∧ ∀ j : Int, 0 ≤ j → j < i → lotAt l j) (fun i => (l.length - i).toNat) 0 ⟨by omega, by omega, fun j h0 h1 => by omega⟩ rfl rfl (fun _ => rfl) (fun _ => rfl) ⟨rfl, rfl, rfl, rfl, rfl, rfl, rfl, rfl⟩ (fun i hi => ?_)
  obtain ⟨h0, hi, hall⟩ := hi
  repeat' (first
 | (with_reducible apply zds); exact tk; rfl; rfl; rfl; rfl; rfl
 | (with_reducible apply zd); rfl; exact tk; rfl
 | (with_reducible first | intro _ | apply wseq | apply zreg | apply thenQ_n | apply thenQ_r | apply thenQ_e | apply znil | apply wret | apply bodyQ_r | apply wblk | apply blkQ_n | apply blkQ_r | apply wskip | apply wexit)
 | apply wct rfl
 | apply wcf rfl
 | (with_reducible apply blkQ_x rfl)
 | (with_reducible apply zcmp); rfl; exact tk; rfl; rfl; rfl
 | (with_reducible apply zar); rfl; rfl; rfl; rfl; (first | omega | ((try simp only [List.length_append, List.length_cons, List.length_nil, List.length_map]); (try dsimp only); omega)); rfl; rfl
 | (with_reducible apply zix); rfl; exact tk; (iterate 7 rfl); (first | omega | ((try simp only [List.length_append, List.length_cons, List.length_nil, List.length_map]); (try dsimp only); omega)); rfl; rfl
 | (with_reducible apply zle); rfl; exact tk; rfl; rfl; rfl; rfl; (first | omega | ((try simp only [List.length_append, List.length_cons, List.length_nil, List.length_map]); (try dsimp only); omega)); rfl; rfl; rfl; rfl
 | refine zdq (id := 4) rfl (by kernel_rfl) [(.t, 0), (.o, 1), (.p, 2), (.p, 3), (.p, 4), (.p, 5), (.p, 6), (.p, 8), (.p, 9), (.t, 7), (.p, 10), (.t, 11), (.t, 12), (.o, 13), (.p, 14), (.p, 15), (.p, 16)] [] (by kernel_rfl) rfl ?_
 | (with_reducible apply zcp); (iterate 10 rfl); (first | exact impl_lotForm | exact slices_ContainsFunc_Lot_ok (by assumption)); rfl; rfl
 | (with_reducible apply zc); (iterate 10 rfl); exact impl_lotBefore; exact fun _ => rfl; rfl; rfl; rfl
 | fail)
  all_goals first
    | exact endN [0] rfl rfl rfl rfl rfl rfl (fun h => absurd h.1.2 (by omega))
    | exact endN [0] rfl rfl rfl rfl rfl rfl (fun h => by
        obtain ⟨g0, g1⟩ := h.1.1 i (by omega) (by omega)
        first | contradiction | (have := lotCmp_lt.2 (g1 (by omega)); omega))
    | exact endR (i + 1) [0, 1] ⟨rfl, rfl, rfl, rfl, rfl, rfl, rfl, rfl⟩ ⟨by omega, by omega, all_step hall ⟨by assumption, fun _ => by first | omega | exact lotCmp_lt.1 (by omega)⟩⟩ (by first | omega | (dsimp only; omega))
    | skip
  rename_i h1 h2
  have hall' := fun (j : Int) (k0 : 0 ≤ j) (k1 : j < l.length) => hall j k0 (by omega)
  have hq := lotAt_q hall' (by omega)
  repeat' (first
 | (with_reducible apply zds); exact tk; rfl; rfl; rfl; rfl; rfl
 | (with_reducible first | intro _ | apply wseq | apply zreg | apply thenQ_n | apply thenQ_r | apply thenQ_e | apply znil | apply wret | apply bodyQ_r | apply wblk | apply blkQ_n | apply blkQ_r | apply wskip | apply wexit)
 | (with_reducible apply zcp); (iterate 10 rfl); (first | exact impl_lotForm | exact slices_ContainsFunc_Lot_ok (by assumption)); rfl; rfl
 | fail)
  all_goals first
    | (rename_i h3; exact endN [0] rfl rfl rfl rfl rfl rfl (fun h => by obtain ⟨x, hx, hn⟩ := h3; exact hn (h.2 x hx)))
    | (rename_i h3; exact endY [0] rfl rfl rfl rfl rfl rfl ⟨⟨hall', by omega⟩, fun x hx => Classical.byContradiction fun hn => h3 ⟨x, hx, hn⟩⟩)
end Go.Proofs.YtgehbhkfehmdkaaGreat.Sh
