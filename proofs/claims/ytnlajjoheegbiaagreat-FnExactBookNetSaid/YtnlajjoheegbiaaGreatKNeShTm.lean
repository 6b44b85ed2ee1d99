/- What is taken of lots: LotTake of the specification. No condition. -/
import Derived.Test.YtnlajjoheegbiaaGreatKNeShTk
namespace Go.Proofs.YtnlajjoheegbiaaGreat.Sh
open Go.RowKit
set_option linter.unusedVariables false
set_option linter.unusedSimpArgs false
set_option maxHeartbeats 4000000 in
theorem spec_l1Min {a b : Int} : FC Tryz.prog 241 [I a, I b] ([]) (I (pick (a < b) a b)) ([]) := by
  refine fent tk 10 [.tmp 4] Tryz.func241 (by kernel_rfl) rfl rfl rfl rfl rfl rfl rfl ?_
  repeat' (first
 | (with_reducible apply zds); exact tk; rfl; rfl; rfl; rfl; rfl
 | (with_reducible apply zd); rfl; exact tk; rfl
 | (with_reducible first | intro _ | apply wseq | apply zreg | apply thenQ_n | apply thenQ_r | apply thenQ_e | apply znil | apply wret | apply bodyQ_r | apply wblk | apply blkQ_n | apply blkQ_r | apply wskip | apply wexit)
 | apply wct rfl
 | apply wcf rfl
 | (with_reducible apply zcmp); rfl; exact tk; rfl; rfl; rfl
 | fail)
  all_goals first | exact endI [] rfl rfl rfl rfl rfl rfl (pick_t (by assumption)) | exact endI [] rfl rfl rfl rfl rfl rfl (pick_f (by assumption))
theorem mrg_a {a b : List Lot} {i k : Int} (hi : 0 ≤ i ∧ i < a.length) (hk : ¬ k < b.length ∨ (0 ≤ k ∧ lb2 (rd a i) (rd b k))) : mrg (a.drop i.toNat) (b.drop k.toNat) = rd a i :: mrg (a.drop (i + 1).toNat) (b.drop k.toNat) := by
  rw [drop_at hi]
  by_cases h : k < b.length
  · obtain ⟨h0, h1⟩ := hk.resolve_left (fun q => q h)
    rw [drop_at ⟨h0, h⟩, mrg_l h1]
  · rw [drop_end h, mrg_nil2, mrg_nil2]
theorem mrg_b {a b : List Lot} {i k : Int} (hk : 0 ≤ k ∧ k < b.length) (hi : ¬ i < a.length ∨ (0 ≤ i ∧ ¬ lb2 (rd a i) (rd b k))) : mrg (a.drop i.toNat) (b.drop k.toNat) = rd b k :: mrg (a.drop i.toNat) (b.drop (k + 1).toNat) := by
  rw [drop_at hk]
  by_cases h : i < a.length
  · obtain ⟨h0, h1⟩ := hi.resolve_left (fun q => q h)
    rw [drop_at ⟨h0, h⟩, mrg_r h1]
  · rw [drop_end h, mrg_nil, mrg_nil]
set_option maxHeartbeats 4000000 in
theorem spec_l5Merge {a b : List Lot} (ha : a.length ≤ 1000000) (hb : b.length ≤ 1000000) : FC Tryz.prog 200 [.c (.row 0 0 a.length), .c (.row 1 0 b.length)] ([ro 99 a, ro 99 b]) (.c (.row 2 0 (mrg a b).length)) ([ro 99 a, ro 99 b, ow 99 (mrg a b)]) := by
  refine fent tk 59 [.tmp 4] Tryz.func200 (by kernel_rfl) rfl rfl rfl rfl rfl rfl rfl ?_
  repeat' (first
 | (with_reducible apply zds); exact tk; rfl; rfl; rfl; rfl; rfl
 | (with_reducible apply zd); rfl; exact tk; rfl
 | (with_reducible first | intro _ | apply wseq | apply zreg | apply thenQ_n | apply thenQ_r | apply thenQ_e | apply znil | apply wret | apply bodyQ_r | apply wblk | apply blkQ_n | apply blkQ_r | apply wskip | apply wexit)
 | (with_reducible apply zlit (α := Lot) (e := 99)); rfl; exact tk; (iterate 13 rfl)
 | fail)
  refine wlp (X := Int × Int × List Lot) [0, 1] [0, 1, 2] (fun x => [(6, I x.1), (7, I x.2.1), (5, .c (.row 2 0 x.2.2.length))]) (fun x => [(2, ow 99 x.2.2)]) (fun x => (0 ≤ x.1 ∧ x.1 ≤ a.length) ∧ (0 ≤ x.2.1 ∧ x.2.1 ≤ b.length) ∧ x.2.2 ++ mrg (a.drop x.1.toNat) (b.drop x.2.1.toNat) = mrg a b ∧ (x.2.2.length : Int) = x.1 + x.2.1) (fun x => (a.length + b.length - x.1 - x.2.1).toNat) (0, 0, []) ⟨⟨by dsimp only; omega, by dsimp only; omega⟩, ⟨by dsimp only; omega, by dsimp only; omega⟩, rfl, rfl⟩ rfl rfl (fun _ => rfl) (fun _ => rfl) ⟨rfl, rfl, rfl, rfl, rfl, rfl, rfl, rfl⟩ (fun x hx => ?_)
  obtain ⟨i, k, out⟩ := x
  obtain ⟨h0, k0, ho, hl⟩ := hx
  dsimp only at h0 k0 ho hl ⊢
  have hA := fun h1 h2 => mrg_a (a := a) (b := b) (i := i) (k := k) ⟨h0.1, h1⟩ h2
  have hB := fun h1 h2 => mrg_b (a := a) (b := b) (i := i) (k := k) ⟨k0.1, h1⟩ h2
  repeat' (first
 | (intro h9; exfalso; first | contradiction | omega)
 | (with_reducible apply zds); exact tk; rfl; rfl; rfl; rfl; rfl
 | (with_reducible apply zd); rfl; exact tk; rfl
 | (with_reducible first | intro _ | apply wseq | apply zreg | apply thenQ_n | apply thenQ_r | apply thenQ_e | apply znil | apply wret | apply bodyQ_r | apply wblk | apply blkQ_n | apply blkQ_r | apply wskip | apply wexit)
 | apply wct rfl
 | apply wcf rfl
 | (with_reducible apply blkQ_x rfl)
 | (with_reducible apply zcmp); rfl; exact tk; rfl; rfl; rfl
 | (with_reducible apply zar); rfl; rfl; rfl; rfl; (first | omega | ((try simp only [List.length_append, List.length_cons, List.length_nil, List.length_map]); (try dsimp only); omega)); rfl; rfl
 | (with_reducible apply zix); rfl; exact tk; (iterate 7 rfl); (first | omega | ((try simp only [List.length_append, List.length_cons, List.length_nil, List.length_map]); (try dsimp only); omega)); rfl; rfl
 | (with_reducible apply zle); rfl; exact tk; rfl; rfl; rfl; rfl; (first | omega | ((try simp only [List.length_append, List.length_cons, List.length_nil, List.length_map]); (try dsimp only); omega)); rfl; rfl; rfl; rfl
 | (with_reducible apply zlit (α := Lot) (e := 99)); rfl; exact tk; (iterate 13 rfl)
 | (with_reducible apply zap); rfl; exact tk; (iterate 10 rfl); (first | omega | ((try simp only [List.length_append, List.length_cons, List.length_nil, List.length_map]); (try dsimp only); omega)); rfl; rfl; rfl; rfl; rfl
 | refine zdq (id := 4) rfl (by kernel_rfl) [(.p, 0), (.p, 1), (.p, 2), (.p, 3), (.p, 4), (.p, 5), (.p, 6), (.p, 7), (.p, 8), (.p, 9), (.p, 10), (.p, 11), (.p, 12), (.p, 14), (.p, 15), (.p, 16), (.t, 13), (.t, 17), (.o, 18), (.p, 19), (.p, 20)] [] (by kernel_rfl) rfl ?_
 | (with_reducible apply zcp); (iterate 10 rfl); exact spec_l5Before; rfl; rfl
 | fail)
  all_goals first
    | exact endR (i + 1, k, out ++ [rd a i]) [0, 1, 4] ⟨rfl, rfl, rfl, rfl, rfl, rfl, rfl, rfl⟩ ⟨⟨by dsimp only; omega, by dsimp only; omega⟩, ⟨by dsimp only; omega, by dsimp only; omega⟩, by dsimp only; rw [List.append_assoc, ← ho, hA (by omega) (by first | exact .inl (by omega) | exact .inr ⟨k0.1, by assumption⟩)]; rfl, by dsimp only; rw [List.length_append]; simp only [List.length_cons, List.length_nil]; omega⟩ (by first | omega | (dsimp only; omega))
    | exact endR (i, k + 1, out ++ [rd b k]) [0, 1, 4] ⟨rfl, rfl, rfl, rfl, rfl, rfl, rfl, rfl⟩ ⟨⟨by dsimp only; omega, by dsimp only; omega⟩, ⟨by dsimp only; omega, by dsimp only; omega⟩, by dsimp only; rw [List.append_assoc, ← ho, hB (by omega) (by first | exact .inl (by omega) | exact .inr ⟨h0.1, by assumption⟩)]; rfl, by dsimp only; rw [List.length_append]; simp only [List.length_cons, List.length_nil]; omega⟩ (by first | omega | (dsimp only; omega))
    | (rw [show mrg a b = out from by rw [← ho, drop_end (by omega), drop_end (by omega), mrg_nil, List.append_nil]]
       exact endV [0, 1, 2] rfl rfl rfl rfl rfl rfl)
    | trace_state
set_option maxHeartbeats 4000000 in
theorem spec_l5Mean {own : List Lot} {q0 : Int} (hg : LG own) (hq : 1 ≤ q0 ∧ q0 ≤ sQ own) (hs : sC own ≤ 1000000000000000 ∧ sQ own ≤ 1000000000000000) (hlq : LQ own) (hl : 0 < (own.length : Int)) : FC Tryz.prog 240 [.c (.row 0 0 own.length), I q0] ([ro 99 own]) (.tup [.c (.row 1 0 (tkL own q0 3).length), I (tkC own q0 3)]) ([ro 99 own, ow 99 (tkL own q0 3)]) := by
  refine fent tk 43 [.tmp 4, .tmp 5] Tryz.func240 (by kernel_rfl) rfl rfl rfl rfl rfl rfl rfl ?_
  have hc0 := hg.sC_nn
  have hmd := md_part (c := sC own) (p := q0) (n := sQ own) ⟨hc0, hs.1⟩ ⟨by omega, hq.2⟩ ⟨by omega, hs.2⟩
  have hpl := part_le (k := sC own) (q := q0) (n := sQ own) hc0 (by omega) hq.2 (by omega)
  rw [show tkC own q0 3 = sC own * q0 / sQ own from pick_t rfl, show tkL own q0 3 = sel (sQ own = q0) [] [reL (rd own 0) (sQ own - q0) (sC own - sC own * q0 / sQ own)] from sel_t rfl]
  by_cases hq2 : sQ own = q0
  · rw [sel_t hq2]
    repeat' (first
 | (intro h9; exfalso; first | contradiction | omega)
 | (with_reducible apply zds); exact tk; rfl; rfl; rfl; rfl; rfl
 | (with_reducible apply zd); rfl; exact tk; rfl
 | (with_reducible first | intro _ | apply wseq | apply zreg | apply thenQ_n | apply thenQ_r | apply thenQ_e | apply znil | apply wret | apply bodyQ_r | apply wblk | apply blkQ_n | apply blkQ_r | apply wskip | apply wexit)
 | apply wct rfl
 | (with_reducible apply zeq); rfl; exact tk; rfl; rfl; rfl; rfl
 | (with_reducible apply zlit (α := Lot) (e := 99)); rfl; exact tk; (iterate 13 rfl)
 | (with_reducible apply zc); (iterate 10 rfl); (first | exact spec_l5Qty (by first | assumption | exact LQ.of (by assumption)) | exact spec_l5Cost (by first | assumption | exact LQ.of (by assumption)) | exact spec_MulDiv_ok (by first | assumption | omega) | exact spec_MulDiv_no (by assumption)); exact fun _ => rfl; rfl; rfl; rfl
 | fail)
    all_goals first | exact endV [0, 1] rfl rfl rfl rfl rfl rfl | trace_state
  · rw [sel_f hq2]
    repeat' (first
 | (intro h9; exfalso; first | contradiction | omega)
 | (with_reducible apply zds); exact tk; rfl; rfl; rfl; rfl; rfl
 | (with_reducible apply zd); rfl; exact tk; rfl
 | (with_reducible first | intro _ | apply wseq | apply zreg | apply thenQ_n | apply thenQ_r | apply thenQ_e | apply znil | apply wret | apply bodyQ_r | apply wblk | apply blkQ_n | apply blkQ_r | apply wskip | apply wexit)
 | apply wcf rfl
 | (with_reducible apply zeq); rfl; exact tk; rfl; rfl; rfl; rfl
 | (with_reducible apply zar); rfl; rfl; rfl; rfl; (first | omega | ((try simp only [List.length_append, List.length_cons, List.length_nil, List.length_map]); (try dsimp only); omega)); rfl; rfl
 | (with_reducible apply zix); rfl; exact tk; (iterate 7 rfl); (first | omega | ((try simp only [List.length_append, List.length_cons, List.length_nil, List.length_map]); (try dsimp only); omega)); rfl; rfl
 | (with_reducible apply zle); rfl; exact tk; rfl; rfl; rfl; rfl; (first | omega | ((try simp only [List.length_append, List.length_cons, List.length_nil, List.length_map]); (try dsimp only); omega)); rfl; rfl; rfl; rfl
 | (with_reducible apply zlit (α := Lot) (e := 99)); rfl; exact tk; (iterate 13 rfl)
 | (with_reducible apply zc); (iterate 10 rfl); (first | exact spec_l5Qty (by first | assumption | exact LQ.of (by assumption)) | exact spec_l5Cost (by first | assumption | exact LQ.of (by assumption)) | exact spec_MulDiv_ok (by first | assumption | omega) | exact spec_MulDiv_no (by assumption)); exact fun _ => rfl; rfl; rfl; rfl
 | fail)
    all_goals first | exact endV [0, 2] rfl rfl rfl rfl rfl rfl | trace_state
end Go.Proofs.YtnlajjoheegbiaaGreat.Sh
