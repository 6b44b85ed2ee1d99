/- What is taken of lots: the program's side. No condition. -/
import Derived.Test.YtgehbhkfehmdkaaGreatKSpShSr2
import Derived.Test.YtgehbhkfehmdkaaGreatKSpShMw
import Derived.Test.YtgehbhkfehmdkaaGreatKSpShLt
namespace Go.Proofs.YtgehbhkfehmdkaaGreat.Sh
open Go.RowKit
set_option linter.unusedVariables false
set_option linter.unusedSimpArgs false
set_option maxHeartbeats 4000000 in
theorem impl_withLots_1 {a c n q k u v : Int} : FC Tryz.prog 322 [.agg [.sc (.int .i64 a), .sc (.int .i64 c), .sc (.int .i64 n), .sc (.int .i64 q), .sc (.int .i64 k)], .c (.ptr 0 0 0), .c (.ptr 1 0 0)] ([vI u, vI v]) (B (dB (a = u ∧ c = v))) ([vI u, vI v]) := by
  refine fent tk 9 [.tmp 4] Tryz.func322 (by kernel_rfl) rfl rfl rfl rfl rfl rfl rfl ?_
  repeat' (first
 | (with_reducible apply zds); exact tk; rfl; rfl; rfl; rfl; rfl
 | (with_reducible apply zd); rfl; exact tk; rfl
 | (with_reducible first | intro _ | apply wseq | apply zreg | apply thenQ_n | apply thenQ_r | apply thenQ_e | apply znil | apply wret | apply bodyQ_r | apply wblk | apply blkQ_n | apply blkQ_r | apply wskip | apply wexit)
 | (with_reducible apply zcp); (iterate 10 rfl); exact impl_isLot; rfl; rfl
 | fail)
  all_goals first | exact endY [0, 1] rfl rfl rfl rfl rfl rfl (by assumption) | exact endN [0, 1] rfl rfl rfl rfl rfl rfl (by assumption)
set_option maxHeartbeats 4000000 in
theorem slices_IndexFunc_Lot_wl {l : List Lot} {u v : Int} : FC Tryz.prog 310 [.c (.row 0 0 l.length), .c (.fn 322 [(1, 0, 0), (2, 0, 0)])] ([ro 137 l, vI u, vI v]) (sel (∃ x ∈ l, x.Account = u ∧ x.Instr = v) (I (fIx l (fun x => x.Account = u ∧ x.Instr = v))) (I (-1))) (sel (∃ x ∈ l, x.Account = u ∧ x.Instr = v) [ro 137 l, vI u, vI v] [ro 137 l, vI u, vI v]) := by
  refine fent tk 19 [.tmp 4] Tryz.func310 (by kernel_rfl) rfl rfl rfl rfl rfl rfl rfl ?_
  refine wlen l 0 rfl (fun hl => ?_)
  repeat' (first
 | (with_reducible apply zds); exact tk; rfl; rfl; rfl; rfl; rfl
 | (with_reducible apply zd); rfl; exact tk; rfl
 | (with_reducible first | intro _ | apply wseq | apply zreg | apply thenQ_n | apply thenQ_r | apply thenQ_e | apply znil | apply wret | apply bodyQ_r | apply wblk | apply blkQ_n | apply blkQ_r | apply wskip | apply wexit)
 | fail)
  refine wlp (X := Int) [0, 1, 7] [0, 1, 2] (fun i => [(8, I i)]) (fun _ => []) (fun i => 0 ≤ i ∧ i ≤ l.length ∧ ∀ j : Int, 0 ≤ j → j < i → ¬ (fun x => x.Account = u ∧ x.Instr = v) (rd l j)) (fun i => (l.length - i).toNat) 0 ⟨by omega, by omega, fun j h0 h1 => by omega⟩ rfl rfl (fun _ => rfl) (fun _ => rfl) ⟨rfl, rfl, rfl, rfl, rfl, rfl, rfl, rfl⟩ (fun i hi => ?_)
  obtain ⟨h0, hi, hall⟩ := hi
  skip
  repeat' (first
 | (with_reducible apply zds); exact tk; rfl; rfl; rfl; rfl; rfl
 | (with_reducible apply zd); rfl; exact tk; rfl
 | (with_reducible apply zcp); (iterate 10 rfl); exact impl_withLots_1; rfl; rfl
 | (with_reducible first | intro _ | apply wseq | apply zreg | apply thenQ_n | apply thenQ_r | apply thenQ_e | apply znil | apply wret | apply bodyQ_r | apply wblk | apply blkQ_n | apply blkQ_r | apply wskip | apply wexit)
 | apply wct rfl
 | apply wcf rfl
 | (with_reducible apply blkQ_x rfl)
 | (with_reducible apply zcmp); rfl; exact tk; rfl; rfl; rfl
 | (with_reducible apply zar); rfl; rfl; rfl; rfl; (first | omega | ((try simp only [List.length_append, List.length_cons, List.length_nil, List.length_map]); (try dsimp only); omega)); rfl; rfl
 | (with_reducible apply zix); rfl; exact tk; (iterate 7 rfl); (first | omega | ((try simp only [List.length_append, List.length_cons, List.length_nil, List.length_map]); (try dsimp only); omega)); rfl; rfl
 | (with_reducible apply zle); rfl; exact tk; rfl; rfl; rfl; rfl; (first | omega | ((try simp only [List.length_append, List.length_cons, List.length_nil, List.length_map]); (try dsimp only); omega)); rfl; rfl; rfl; rfl
 | fail)
  all_goals first
    | (refine endG (X' := I i) (hs' := [ro 137 l, vI u, vI v]) [0, 1, 2] rfl rfl rfl rfl rfl rfl ?_ ?_
       · rw [sel_t ⟨rd l i, rd_mem ⟨by omega, by omega⟩, by assumption⟩, fIx_eq ⟨by omega, by omega⟩ hall (by assumption)]
       · rw [sel_t ⟨rd l i, rd_mem ⟨by omega, by omega⟩, by assumption⟩])
    | exact endF (no_rd (by assumption) hall) [0, 1, 2] rfl rfl rfl rfl rfl rfl
    | exact endR (i + 1) [0, 1, 2] ⟨rfl, rfl, rfl, rfl, rfl, rfl, rfl, rfl⟩ ⟨by omega, by omega, all_step hall (by assumption)⟩ (by first | omega | (dsimp only; omega))
set_option maxHeartbeats 4000000 in
theorem slices_DeleteFunc_Lot_wl {l : List Lot} {u v : Int} (hl : l.length ≤ 1000000) : FC Tryz.prog 307 [.c (.row 0 0 l.length), .c (.fn 322 [(1, 0, 0), (2, 0, 0)])] ([ow 137 l, vI u, vI v]) (.c (.row 0 0 (flt (fun x => ¬ (x.Account = u ∧ x.Instr = v)) l).length)) ([ow 137 (flt (fun x => ¬ (x.Account = u ∧ x.Instr = v)) l), vI u, vI v]) := by
  refine fent tk 42 [.tmp 4] Tryz.func307 (by kernel_rfl) rfl rfl rfl rfl rfl rfl rfl ?_
  repeat' (first
 | (with_reducible apply zds); exact tk; rfl; rfl; rfl; rfl; rfl
 | (with_reducible apply zd); rfl; exact tk; rfl
 | (with_reducible first | intro _ | apply wseq | apply zreg | apply thenQ_n | apply thenQ_r | apply thenQ_e | apply znil | apply wret | apply bodyQ_r | apply wblk | apply blkQ_n | apply blkQ_r | apply wskip | apply wexit)
 | apply wct rfl
 | apply wcf rfl
 | (with_reducible apply zcmp); rfl; exact tk; rfl; rfl; rfl
 | (with_reducible apply zar); rfl; rfl; rfl; rfl; (first | omega | ((try simp only [List.length_append, List.length_cons, List.length_nil, List.length_map]); (try dsimp only); omega)); rfl; rfl
 | (with_reducible apply zcs); (iterate 10 rfl); (first | exact slices_IndexFunc_Lot_of | exact slices_IndexFunc_Lot_ok (by assumption) | exact slices_IndexFunc_Lot_wl); exact fun _ => rfl; exact fun _ => rfl; rfl; rfl; rfl; rfl
 | fail)
  · rename_i hex hm
    have := fIx_nn l (fun x => x.Account = u ∧ x.Instr = v)
    exfalso; omega
  · rename_i hex hm
    have hn := fIx_lt hex
    have hn2 := fIx_nn l (fun x => x.Account = u ∧ x.Instr = v)
    repeat' (first
 | (with_reducible apply zd); rfl; exact tk; rfl
 | (with_reducible first | intro _ | apply wseq | apply zreg | apply thenQ_n | apply thenQ_r | apply thenQ_e | apply znil | apply wret | apply bodyQ_r | apply wblk | apply blkQ_n | apply blkQ_r | apply wskip | apply wexit)
 | (with_reducible apply zar); rfl; rfl; rfl; rfl; (first | omega | ((try simp only [List.length_append, List.length_cons, List.length_nil, List.length_map]); (try dsimp only); omega)); rfl; rfl
 | fail)
    refine wlp (X := Int × Int × List Lot) [0, 1] [0, 1, 2] (fun x => [(5, I x.1), (6, I x.2.1)]) (fun x => [(0, ow 137 x.2.2)]) (fun x => DfI l (fun x => x.Account = u ∧ x.Instr = v) x.1 x.2.1 x.2.2) (fun x => (l.length - x.2.1).toNat) (fIx l (fun x => x.Account = u ∧ x.Instr = v), fIx l (fun x => x.Account = u ∧ x.Instr = v) + 1, l) (DfI.init hex) rfl rfl (fun _ => rfl) (fun _ => rfl) ⟨rfl, rfl, rfl, rfl, rfl, rfl, rfl, rfl⟩ (fun x hx => ?_)
    obtain ⟨i, j, xs⟩ := x
    dsimp only at hx ⊢
    obtain ⟨h0, h1, h2⟩ := hx.bnd
    have hlen := hx.len
    repeat' (first
 | (with_reducible apply zds); exact tk; rfl; rfl; rfl; rfl; rfl
 | (with_reducible apply zd); rfl; exact tk; rfl
 | (with_reducible apply zcp); (iterate 10 rfl); exact impl_withLots_1; rfl; rfl
 | (with_reducible first | intro _ | apply wseq | apply zreg | apply thenQ_n | apply thenQ_r | apply thenQ_e | apply znil | apply wret | apply bodyQ_r | apply wblk | apply blkQ_n | apply blkQ_r | apply wskip | apply wexit)
 | apply wct rfl
 | apply wcf rfl
 | (with_reducible apply blkQ_x rfl)
 | (with_reducible apply zcmp); rfl; exact tk; rfl; rfl; rfl
 | (with_reducible apply zar); rfl; rfl; rfl; rfl; (first | omega | ((try simp only [List.length_append, List.length_cons, List.length_nil, List.length_map]); (try dsimp only); omega)); rfl; rfl
 | (with_reducible apply zix); rfl; exact tk; (iterate 7 rfl); (first | omega | ((try simp only [List.length_append, List.length_cons, List.length_nil, List.length_map]); (try dsimp only); omega)); rfl; rfl
 | (with_reducible apply zle); rfl; exact tk; rfl; rfl; rfl; rfl; (first | omega | ((try simp only [List.length_append, List.length_cons, List.length_nil, List.length_map]); (try dsimp only); omega)); rfl; rfl; rfl; rfl
 | (with_reducible apply zse); rfl; exact tk; (iterate 6 rfl); (first | omega | ((try simp only [List.length_append, List.length_cons, List.length_nil, List.length_map]); (try dsimp only); omega)); rfl; rfl; rfl; rfl; rfl
 | (with_reducible apply zslr); rfl; exact tk; (iterate 8 rfl); omega; rfl; rfl
 | fail)
    · rename_i h3 h4
      exact endR (i, j + 1, xs) [0, 1, 2] ⟨rfl, rfl, rfl, rfl, rfl, rfl, rfl, rfl⟩ (hx.skip (by omega) h4) (by first | omega | (dsimp only; omega))
    · rename_i h3 h4
      exact endR (i + 1, j + 1, upd xs i (rd xs j)) [0, 1, 2] ⟨rfl, rfl, rfl, rfl, rfl, rfl, rfl, rfl⟩ (hx.keep (by omega) h4) (by first | omega | (dsimp only; omega))
    · refine zclr rfl tk rfl rfl rfl rfl rfl rfl rfl (by omega) rfl rfl ?_
      repeat' (first
 | (with_reducible apply zds); exact tk; rfl; rfl; rfl; rfl; rfl
 | (with_reducible apply zd); rfl; exact tk; rfl
 | (with_reducible first | intro _ | apply wseq | apply zreg | apply thenQ_n | apply thenQ_r | apply thenQ_e | apply znil | apply wret | apply bodyQ_r | apply wblk | apply blkQ_n | apply blkQ_r | apply wskip | apply wexit)
 | (with_reducible apply zslr); rfl; exact tk; (iterate 8 rfl); omega; rfl; rfl
 | fail)
      exact endG (X' := .c (.row 0 0 (i.toNat - Int.toNat 0))) (hs' := [ow 137 (xs.take i.toNat), vI u, vI v]) [0, 1, 2] rfl rfl rfl rfl rfl rfl (by rw [← hx.len2 (by assumption)]; rfl) (by rw [hx.fin (by assumption)])
  · rename_i hex hm
    exact endG (X' := .c (.row 0 0 l.length)) (hs' := [ow 137 l, vI u, vI v]) [0, 1, 2] rfl rfl rfl rfl rfl rfl (by rw [flt_all (fun x hx k => hex ⟨x, hx, k⟩)]) (by rw [flt_all (fun x hx k => hex ⟨x, hx, k⟩)])
  · exfalso; omega
structure WL (l own : List Lot) (a c : Int) (own' : List Lot) : Prop where
  pw : l.Pairwise lb2
  pw2 : own'.Pairwise lb2
  perm : own.Perm own'
  of_ : ∀ x ∈ own', x.Account = a ∧ x.Instr = c
theorem WL.sort {l own own' : List Lot} {a c : Int} (h : WL l own a c own') : ∀ d : List Lot, d.Perm (lotsNot l a c ++ own) → d.Pairwise (fun x y => ¬ lb2 y x) → d = mrg (lotsNot l a c) own' := fun d h1 h2 => sort_mrg h1 h.perm h2 (lotsNot_pw h.pw) h.pw2 (apart_of h.of_)
set_option maxHeartbeats 4000000 in
theorem impl_withLots {l own own' : List Lot} {a c : Int} (hw : WL l own a c own') (hl : l.length ≤ 1000000) (hl2 : own.length ≤ 1000000) : FC Tryz.prog 293 [.c (.row 0 0 l.length), I a, I c, .c (.row 1 0 own.length)] ([ro 137 l, ro 137 own]) (.c (.row 2 0 (mrg (lotsNot l a c) own').length)) ([ro 137 l, ro 137 own, ow 137 (mrg (lotsNot l a c) own')]) := by
  refine fent tk 20 [.tmp 8] Tryz.func293 (by kernel_rfl) rfl rfl rfl rfl rfl rfl rfl ?_
  have hfl := flt_le (fun x : Lot => ¬ (x.Account = a ∧ x.Instr = c)) l
  have hso := hw.sort
  have hml : (mrg (lotsNot l a c) own').length = (lotsNot l a c ++ own).length := by rw [mrg_len, List.length_append, hw.perm.length_eq]
  repeat' (first
 | (with_reducible apply zds); exact tk; rfl; rfl; rfl; rfl; rfl
 | (with_reducible apply zd); rfl; exact tk; rfl
 | (with_reducible first | intro _ | apply wseq | apply zreg | apply thenQ_n | apply thenQ_r | apply thenQ_e | apply znil | apply wret | apply bodyQ_r | apply wblk | apply blkQ_n | apply blkQ_r | apply wskip | apply wexit)
 | (with_reducible apply zap); rfl; exact tk; (iterate 10 rfl); (first | omega | ((try simp only [List.length_append, List.length_cons, List.length_nil, List.length_map]); (try dsimp only); omega)); rfl; rfl; rfl; rfl; rfl
 | (with_reducible apply zcf); (iterate 10 rfl); exact slices_Clone_Lot (by omega); rfl; rfl; rfl; rfl; rfl
 | (with_reducible apply zcw  [true]); (iterate 10 rfl); (first | exact slices_DeleteFunc_Lot_of (by omega) | exact slices_DeleteFunc_Lot_wl (by omega) | exact slices_SortFunc_Lot (by first | omega | (simp only [List.length_append]; omega)) (by assumption)); rfl; rfl; rfl; rfl
 | fail)
  all_goals exact endG (X' := .c (.row 2 0 (lotsNot l a c ++ own).length)) (hs' := [ro 137 l, ro 137 own, ow 137 (mrg (lotsNot l a c) own')]) [0, 1, 5] rfl rfl rfl rfl rfl rfl (by rw [hml]) rfl
end Go.Proofs.YtgehbhkfehmdkaaGreat.Sh
namespace Go.Proofs.YtgehbhkfehmdkaaGreat.Sh
open Go.RowKit
set_option linter.unusedVariables false
set_option linter.unusedSimpArgs false
theorem mrg_a {a b : List Lot} {i k : Int} (hi : 0 ≤ i ∧ i < a.length) (hk : ¬ k < b.length ∨ (0 ≤ k ∧ lb2 (rd a i) (rd b k))) : mrg (a.drop i.toNat) (b.drop k.toNat) = rd a i :: mrg (a.drop (i + 1).toNat) (b.drop k.toNat) := by
  rw [drop_at hi]
  by_cases h : k < b.length
  · obtain ⟨h0, h1⟩ := hk.resolve_left (fun q => q h)
    rw [drop_at ⟨h0, h⟩, mrg_l h1]
  · rw [drop_end h, mrg_nil2, mrg_nil2]
theorem mrg_b {a b : List Lot} {i k : Int} (hk : 0 ≤ k ∧ k < b.length) (hi : ¬ i < a.length ∨ (0 ≤ i ∧ ¬ lb2 (rd a i) (rd b k))) : mrg (a.drop i.toNat) (b.drop k.toNat) = rd b k :: mrg (a.drop i.toNat) (b.drop (k + 1).toNat) := by
  rw [drop_at hk]
  by_cases h : i < a.length
  · obtain ⟨h0, h1⟩ := hi.resolve_left (fun q => q h)
    rw [drop_at ⟨h0, h⟩, mrg_r h1]
  · rw [drop_end h, mrg_nil, mrg_nil]
set_option maxHeartbeats 4000000 in
theorem spec_l5Merge {a b : List Lot} (ha : a.length ≤ 1000000) (hb : b.length ≤ 1000000) : FC Tryz.prog 248 [.c (.row 0 0 a.length), .c (.row 1 0 b.length)] ([ro 137 a, ro 137 b]) (.c (.row 2 0 (mrg a b).length)) ([ro 137 a, ro 137 b, ow 137 (mrg a b)]) := by
  refine fent tk 59 [.tmp 4] Tryz.func248 (by kernel_rfl) rfl rfl rfl rfl rfl rfl rfl ?_
  repeat' (first
 | (with_reducible apply zds); exact tk; rfl; rfl; rfl; rfl; rfl
 | (with_reducible apply zd); rfl; exact tk; rfl
 | (with_reducible first | intro _ | apply wseq | apply zreg | apply thenQ_n | apply thenQ_r | apply thenQ_e | apply znil | apply wret | apply bodyQ_r | apply wblk | apply blkQ_n | apply blkQ_r | apply wskip | apply wexit)
 | (with_reducible apply zlit (α := Lot) (e := 137)); rfl; exact tk; (iterate 13 rfl)
 | fail)
  refine wlp (X := Int × Int × List Lot) [0, 1] [0, 1, 2] (fun x => [(6, I x.1), (7, I x.2.1), (5, .c (.row 2 0 x.2.2.length))]) (fun x => [(2, ow 137 x.2.2)]) (fun x => (0 ≤ x.1 ∧ x.1 ≤ a.length) ∧ (0 ≤ x.2.1 ∧ x.2.1 ≤ b.length) ∧ x.2.2 ++ mrg (a.drop x.1.toNat) (b.drop x.2.1.toNat) = mrg a b ∧ (x.2.2.length : Int) = x.1 + x.2.1) (fun x => (a.length + b.length - x.1 - x.2.1).toNat) (0, 0, []) ⟨⟨by dsimp only; omega, by dsimp only; omega⟩, ⟨by dsimp only; omega, by dsimp only; omega⟩, rfl, rfl⟩ rfl rfl (fun _ => rfl) (fun _ => rfl) ⟨rfl, rfl, rfl, rfl, rfl, rfl, rfl, rfl⟩ (fun x hx => ?_)
  obtain ⟨i, k, out⟩ := x
  obtain ⟨h0, k0, ho, hl⟩ := hx
  dsimp only at h0 k0 ho hl ⊢
  have hA := fun h1 h2 => mrg_a (a := a) (b := b) (i := i) (k := k) ⟨h0.1, h1⟩ h2
  have hB := fun h1 h2 => mrg_b (a := a) (b := b) (i := i) (k := k) ⟨k0.1, h1⟩ h2
  repeat' (first
 | (intro h9; exfalso; first | contradiction | omega)
 | (with_reducible apply zds); exact tk; rfl; rfl; rfl; rfl; rfl
 | (with_reducible apply zd); rfl; exact tk; rfl
 | (with_reducible first | intro _ | apply wseq | apply zreg | apply thenQ_n | apply thenQ_r | apply thenQ_e | apply znil | apply wret | apply bodyQ_r | apply wblk | apply blkQ_n | apply blkQ_r | apply wskip | apply wexit)
 | apply wct rfl
 | apply wcf rfl
 | (with_reducible apply blkQ_x rfl)
 | (with_reducible apply zcmp); rfl; exact tk; rfl; rfl; rfl
 | (with_reducible apply zar); rfl; rfl; rfl; rfl; (first | omega | ((try simp only [List.length_append, List.length_cons, List.length_nil, List.length_map]); (try dsimp only); omega)); rfl; rfl
 | (with_reducible apply zix); rfl; exact tk; (iterate 7 rfl); (first | omega | ((try simp only [List.length_append, List.length_cons, List.length_nil, List.length_map]); (try dsimp only); omega)); rfl; rfl
 | (with_reducible apply zle); rfl; exact tk; rfl; rfl; rfl; rfl; (first | omega | ((try simp only [List.length_append, List.length_cons, List.length_nil, List.length_map]); (try dsimp only); omega)); rfl; rfl; rfl; rfl
 | (with_reducible apply zlit (α := Lot) (e := 137)); rfl; exact tk; (iterate 13 rfl)
 | (with_reducible apply zap); rfl; exact tk; (iterate 10 rfl); (first | omega | ((try simp only [List.length_append, List.length_cons, List.length_nil, List.length_map]); (try dsimp only); omega)); rfl; rfl; rfl; rfl; rfl
 | refine zdq (id := 4) rfl (by kernel_rfl) [(.p, 0), (.p, 1), (.p, 2), (.p, 3), (.p, 4), (.p, 5), (.p, 6), (.p, 7), (.p, 8), (.p, 9), (.p, 10), (.p, 11), (.p, 12), (.p, 14), (.p, 15), (.p, 16), (.t, 13), (.t, 17), (.o, 18), (.p, 19), (.p, 20)] [] (by kernel_rfl) rfl ?_
 | (with_reducible apply zcp); (iterate 10 rfl); exact spec_l5Before; rfl; rfl
 | fail)
  all_goals first
    | exact endR (i + 1, k, out ++ [rd a i]) [0, 1, 4] ⟨rfl, rfl, rfl, rfl, rfl, rfl, rfl, rfl⟩ ⟨⟨by dsimp only; omega, by dsimp only; omega⟩, ⟨by dsimp only; omega, by dsimp only; omega⟩, by dsimp only; rw [List.append_assoc, ← ho, hA (by omega) (by first | exact .inl (by omega) | exact .inr ⟨k0.1, by assumption⟩)]; rfl, by dsimp only; rw [List.length_append]; simp only [List.length_cons, List.length_nil]; omega⟩ (by first | omega | (dsimp only; omega))
    | exact endR (i, k + 1, out ++ [rd b k]) [0, 1, 4] ⟨rfl, rfl, rfl, rfl, rfl, rfl, rfl, rfl⟩ ⟨⟨by dsimp only; omega, by dsimp only; omega⟩, ⟨by dsimp only; omega, by dsimp only; omega⟩, by dsimp only; rw [List.append_assoc, ← ho, hB (by omega) (by first | exact .inl (by omega) | exact .inr ⟨h0.1, by assumption⟩)]; rfl, by dsimp only; rw [List.length_append]; simp only [List.length_cons, List.length_nil]; omega⟩ (by first | omega | (dsimp only; omega))
    | (rw [show mrg a b = out from by rw [← ho, drop_end (by omega), drop_end (by omega), mrg_nil, List.append_nil]]
       exact endV [0, 1, 2] rfl rfl rfl rfl rfl rfl)
    | trace_state
end Go.Proofs.YtgehbhkfehmdkaaGreat.Sh
namespace Go.Proofs.YtgehbhkfehmdkaaGreat.Sh
open Go.RowKit
set_option linter.unusedVariables false
set_option linter.unusedSimpArgs false
structure TkI (own : List Lot) (q0 q c : Int) (o : List Lot) : Prop where
  qb : 0 ≤ q ∧ q ≤ 1000000000000000
  cb : 0 ≤ c
  lg : LG o
  left : (tkq o q).1 = (tkq own q0).1
  cost : c + (tkq o q).2 = (tkq own q0).2
  en : q ≤ sQ o
  len : o.length ≤ 120
section
variable {own r : List Lot} {x : Lot} {q0 q c : Int}
theorem TkI.init (hg : LG own) (hq : 0 ≤ q0 ∧ q0 ≤ 1000000000000000) (he : q0 ≤ sQ own) (hl : own.length ≤ 120) : TkI own q0 q0 0 own := ⟨hq, Int.le_refl 0, hg, rfl, Int.zero_add _, he, hl⟩
theorem TkI.all (h : TkI own q0 q c (x :: r)) (h0 : 0 < q) (h1 : x.Qty ≤ q) : TkI own q0 (q - x.Qty) (c + x.Cost * x.Qty / x.Qty) r := by
  have hc := h.lg.cons
  have ht := tk_a (r := r) h0 h1
  have hl := h.left
  have hk := h.cost
  have he := h.en
  rw [ht] at hl hk
  rw [sQ_cons] at he
  rw [part_all hc.1.1.1]
  exact ⟨⟨by omega, by have := h.qb; omega⟩, by have := h.cb; omega, hc.2, hl, by dsimp only at hk; omega, by omega, by have := h.len; simp only [List.length_cons] at this; omega⟩
theorem TkI.part (h : TkI own q0 q c (x :: r)) (h0 : 0 < q) (h1 : ¬ x.Qty ≤ q) : TkI own q0 (q - q) (c + x.Cost * q / x.Qty) (reL x (x.Qty - q) (x.Cost - x.Cost * q / x.Qty) :: r) := by
  have hc := h.lg.cons
  have ht := tk_p (r := r) h0 h1
  have hl := h.left
  have hk := h.cost
  have hp := part_le (k := x.Cost) (q := q) (n := x.Qty) hc.1.2.1 (by omega) (by omega) hc.1.1.1
  rw [ht] at hl hk
  have hg : LG (reL x (x.Qty - q) (x.Cost - x.Cost * q / x.Qty) :: r) := fun y hy => by
    rcases List.mem_cons.1 hy with rfl | hy
    · dsimp only [reL]; omega
    · exact hc.2 y hy
  rw [Int.sub_self]
  exact ⟨by omega, by have := h.cb; omega, hg, by rw [tk_z (Int.le_refl 0)]; exact hl, by rw [tk_z (Int.le_refl 0)]; dsimp only at hk ⊢; omega, hg.sQ_nn, by have := h.len; simp only [List.length_cons] at *; omega⟩
theorem TkI.done (h : TkI own q0 q c r) (h0 : ¬ 0 < q) : (tkq own q0).1 = r ∧ (tkq own q0).2 = c := by
  have hl := h.left
  have hk := h.cost
  rw [tk_z (by omega)] at hl hk
  exact ⟨hl.symm, by dsimp only at hk; omega⟩
end
end Go.Proofs.YtgehbhkfehmdkaaGreat.Sh
