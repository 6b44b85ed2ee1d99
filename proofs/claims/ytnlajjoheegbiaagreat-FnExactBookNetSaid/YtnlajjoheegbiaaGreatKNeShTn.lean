/- What is taken of lots: LotTake of the specification. No condition. -/
import Derived.Test.YtnlajjoheegbiaaGreatKNeShTm
namespace Go.Proofs.YtnlajjoheegbiaaGreat.Sh
open Go.RowKit
set_option linter.unusedVariables false
set_option linter.unusedSimpArgs false
theorem rem_eq {o u : List Lot} {i : Int} {x : Lot} (hu : u = upd o i x) (h : 0 ≤ i ∧ i < o.length) : [] ++ sub u 0 i ++ sub u (i + 1) u.length = o.take i.toNat ++ o.drop (i.toNat + 1) := by
  subst hu
  unfold sub upd
  rw [List.nil_append, show (i + 1).toNat = i.toNat + 1 from by omega, Int.toNat_natCast, List.take_length]
  rw [List.take_set_of_le (Nat.le_refl _), List.drop_set_of_lt (Nat.lt_succ_self _)]
  simp
theorem upd_first {o : List Lot} {x : Lot} (h : 0 < (o.length : Int)) : upd o 0 x = x :: o.drop 1 := by
  cases o with
  | nil => simp at h
  | cons y r => rfl
theorem rev_last {o : List Lot} {i : Int} (hi : i = o.length - 1) (h : 0 < (o.length : Int)) : o.reverse = rd o i :: (o.take i.toNat).reverse := by
  have h1 : i.toNat < o.length := by omega
  have e : o = o.take i.toNat ++ [rd o i] := by
    have h2 := drop_at (l := o) (i := i) ⟨by omega, by omega⟩
    rw [show (i + 1).toNat = o.length from by omega, List.drop_length] at h2
    rw [← h2, List.take_append_drop]
  conv => lhs; rw [e]
  rw [List.reverse_append]
  rfl
theorem upd_last {o : List Lot} {i : Int} {x : Lot} (hi : i = o.length - 1) (h : 0 < (o.length : Int)) : (upd o i x).reverse = x :: (o.take i.toNat).reverse := by
  have h2 := rev_last (o := upd o i x) (i := i) (by rw [upd_len]; exact hi) (by rw [upd_len]; exact h)
  rw [h2, rd_upd_s ⟨by omega, by omega⟩]
  unfold upd
  rw [List.take_set_of_le (Nat.le_refl _)]
theorem rem_last {o : List Lot} {i : Int} (hi : i = o.length - 1) (h : 0 < (o.length : Int)) : (o.take i.toNat ++ o.drop (i.toNat + 1)).reverse = (o.take i.toNat).reverse := by
  rw [List.drop_eq_nil_of_le (by omega), List.append_nil]
structure TkI (own : List Lot) (q0 q c : Int) (o : List Lot) : Prop where
  qb : 0 ≤ q ∧ q ≤ 1000000000000000
  cb : 0 ≤ c
  lg : LG o
  left : (tkq o q).1 = (tkq own q0).1
  cost : c + (tkq o q).2 = (tkq own q0).2
  en : q ≤ sQ o
  len : o.length ≤ 120
section
variable {own r : List Lot} {x : Lot} {q0 q c : Int}
theorem TkI.init (hg : LG own) (hq : 0 ≤ q0 ∧ q0 ≤ 1000000000000000) (he : q0 ≤ sQ own) (hl : own.length ≤ 120) : TkI own q0 q0 0 own := ⟨hq, Int.le_refl 0, hg, rfl, Int.zero_add _, he, hl⟩
theorem TkI.all (h : TkI own q0 q c (x :: r)) (h0 : 0 < q) (h1 : x.Qty ≤ q) : TkI own q0 (q - x.Qty) (c + x.Cost * x.Qty / x.Qty) r := by
  have hc := h.lg.cons
  have ht := tk_a (r := r) h0 h1
  have hl := h.left
  have hk := h.cost
  have he := h.en
  rw [ht] at hl hk
  rw [sQ_cons] at he
  rw [part_all hc.1.1.1]
  exact ⟨⟨by omega, by have := h.qb; omega⟩, by have := h.cb; omega, hc.2, hl, by dsimp only at hk; omega, by omega, by have := h.len; simp only [List.length_cons] at this; omega⟩
theorem TkI.part (h : TkI own q0 q c (x :: r)) (h0 : 0 < q) (h1 : ¬ x.Qty ≤ q) : TkI own q0 (q - q) (c + x.Cost * q / x.Qty) (reL x (x.Qty - q) (x.Cost - x.Cost * q / x.Qty) :: r) := by
  have hc := h.lg.cons
  have ht := tk_p (r := r) h0 h1
  have hl := h.left
  have hk := h.cost
  have hp := part_le (k := x.Cost) (q := q) (n := x.Qty) hc.1.2.1 (by omega) (by omega) hc.1.1.1
  rw [ht] at hl hk
  have hg : LG (reL x (x.Qty - q) (x.Cost - x.Cost * q / x.Qty) :: r) := fun y hy => by
    rcases List.mem_cons.1 hy with rfl | hy
    · dsimp only [reL]; omega
    · exact hc.2 y hy
  rw [Int.sub_self]
  exact ⟨by omega, by have := h.cb; omega, hg, by rw [tk_z (Int.le_refl 0)]; exact hl, by rw [tk_z (Int.le_refl 0)]; dsimp only at hk ⊢; omega, hg.sQ_nn, by have := h.len; simp only [List.length_cons] at *; omega⟩
theorem TkI.done (h : TkI own q0 q c r) (h0 : ¬ 0 < q) : (tkq own q0).1 = r ∧ (tkq own q0).2 = c := by
  have hl := h.left
  have hk := h.cost
  rw [tk_z (by omega)] at hl hk
  exact ⟨hl.symm, by dsimp only at hk; omega⟩
end
set_option maxHeartbeats 4000000 in
theorem spec_LotTake {l : List Lot} {a c q way : Int} : FC Tryz.prog 195 [.c (.row 0 0 l.length), I a, I c, I q, I way] ([ro 99 l]) (.tup [.c (.row 1 0 (lotTake l a c q way).1.length), I (lotTake l a c q way).2.1, I (lotTake l a c q way).2.2]) ([ro 99 l, ow 99 (lotTake l a c q way).1]) := by
  refine fent tk 131 [.tmp 10, .tmp 11, .tmp 12] Tryz.func195 (by kernel_rfl) rfl rfl rfl rfl rfl rfl rfl ?_
  by_cases hok : LotsOk l ∧ inP q 1 1000000000000000 ∧ inP way 1 3
  rotate_left
  ·
    rw [lt_1 hok]
    repeat' (first
 | (with_reducible apply zds); exact tk; rfl; rfl; rfl; rfl; rfl
 | (with_reducible apply zd); rfl; exact tk; rfl
 | (intro h9; exact absurd ⟨by assumption, by assumption, by assumption⟩ hok)
 | (with_reducible first | intro _ | apply wseq | apply zreg | apply thenQ_n | apply thenQ_r | apply thenQ_e | apply znil | apply wret | apply bodyQ_r | apply wblk | apply blkQ_n | apply blkQ_r | apply wskip | apply wexit)
 | apply wct rfl
 | (with_reducible apply zlit (α := Lot) (e := 99)); rfl; exact tk; (iterate 13 rfl)
 | (with_reducible apply zcp); (iterate 10 rfl); (first | exact spec_LotsOk | exact spec_l1Some | exact spec_l1In); rfl; rfl
 | fail)
    all_goals first | exact endV [0, 1] rfl rfl rfl rfl rfl rfl | trace_state
  obtain ⟨h1, h2, h3⟩ := id hok
  have hll := h1.1.2
  have hlq := h1.q
  have h2' := h2
  have h3' := h3
  unfold inP at h2' h3'
  have hlo : (lotsOf l a c).length ≤ l.length := flt_le _ _
  have hln' : (lotsNot l a c).length ≤ l.length := flt_le _ _
  have hlq2 : LQ (lotsOf l a c) := LQ.of hlq
  by_cases hsh : sQ (lotsOf l a c) < q
  ·
    rw [lt_2 hok hsh]
    repeat' (first
 | (intro h9; exfalso; first | contradiction | omega)
 | (with_reducible apply zds); exact tk; rfl; rfl; rfl; rfl; rfl
 | (with_reducible apply zd); rfl; exact tk; rfl
 | (with_reducible first | intro _ | apply wseq | apply zreg | apply thenQ_n | apply thenQ_r | apply thenQ_e | apply znil | apply wret | apply bodyQ_r | apply wblk | apply blkQ_n | apply blkQ_r | apply wskip | apply wexit)
 | apply wct rfl
 | apply wcf rfl
 | (with_reducible apply zcmp); rfl; exact tk; rfl; rfl; rfl
 | (with_reducible apply zlit (α := Lot) (e := 99)); rfl; exact tk; (iterate 13 rfl)
 | (with_reducible apply zap); rfl; exact tk; (iterate 10 rfl); (first | omega | ((try simp only [List.length_append, List.length_cons, List.length_nil, List.length_map]); (try dsimp only); omega)); rfl; rfl; rfl; rfl; rfl
 | (with_reducible apply zcp); (iterate 10 rfl); (first | exact spec_LotsOk | exact spec_l1Some | exact spec_l1In); rfl; rfl
 | (with_reducible apply zcf); (iterate 10 rfl); (first | exact spec_l5Split (by first | omega | (have := LQ.len (by assumption); omega)) | exact spec_l5Mean (by assumption) (by omega) (by omega) (by assumption) (by omega) | exact spec_l5Merge (by omega) (by omega)); rfl; rfl; rfl; rfl; rfl
 | (with_reducible apply zc); (iterate 10 rfl); (first | exact spec_l5Qty (by first | assumption | exact LQ.of (by assumption)) | exact spec_MulDiv_ok (by first | assumption | omega) | exact spec_MulDiv_no (by assumption)); exact fun _ => rfl; rfl; rfl; rfl
 | fail)
    all_goals first | exact endV [0, 4] rfl rfl rfl rfl rfl rfl | trace_state
  rw [lt_0 hok hsh]
  have hown := h1.own a c
  have hln := sQ_pos (l := lotsOf l a c) (by omega)
  have hg : LG (lotsOf l a c) := h1.LG.flt _
  have htl := tkL_len (q := q) (way := way) hln
  by_cases w3 : way = 3
  · subst w3
    repeat' (first
 | (intro h9; exfalso; first | contradiction | omega)
 | (with_reducible apply zds); exact tk; rfl; rfl; rfl; rfl; rfl
 | (with_reducible apply zd); rfl; exact tk; rfl
 | (with_reducible first | intro _ | apply wseq | apply zreg | apply thenQ_n | apply thenQ_r | apply thenQ_e | apply znil | apply wret | apply bodyQ_r | apply wblk | apply blkQ_n | apply blkQ_r | apply wskip | apply wexit)
 | apply wct rfl
 | apply wcf rfl
 | (with_reducible apply zcmp); rfl; exact tk; rfl; rfl; rfl
 | (with_reducible apply zcp); (iterate 10 rfl); (first | exact spec_LotsOk | exact spec_l1Some | exact spec_l1In); rfl; rfl
 | (with_reducible apply zcf); (iterate 10 rfl); (first | exact spec_l5Split (by first | omega | (have := LQ.len (by assumption); omega)) | exact spec_l5Mean (by assumption) (by omega) (by omega) (by assumption) (by omega) | exact spec_l5Merge (by omega) (by omega)); rfl; rfl; rfl; rfl; rfl
 | (with_reducible apply zc); (iterate 10 rfl); (first | exact spec_l5Qty (by first | assumption | exact LQ.of (by assumption)) | exact spec_MulDiv_ok (by first | assumption | omega) | exact spec_MulDiv_no (by assumption)); exact fun _ => rfl; rfl; rfl; rfl
 | fail)
    all_goals first | exact endV [0, 4] rfl rfl rfl rfl rfl rfl | trace_state
  by_cases w2 : way = 2
  · subst w2
    rw [tkL_2.1, tkL_2.2]
    repeat' (first
 | (intro h9; exfalso; first | contradiction | omega)
 | (with_reducible apply zds); exact tk; rfl; rfl; rfl; rfl; rfl
 | (with_reducible apply zd); rfl; exact tk; rfl
 | (with_reducible first | intro _ | apply wseq | apply zreg | apply thenQ_n | apply thenQ_r | apply thenQ_e | apply znil | apply wret | apply bodyQ_r | apply wblk | apply blkQ_n | apply blkQ_r | apply wskip | apply wexit)
 | apply wcf rfl
 | (with_reducible apply zcmp); rfl; exact tk; rfl; rfl; rfl
 | (with_reducible apply zcp); (iterate 10 rfl); (first | exact spec_LotsOk | exact spec_l1Some | exact spec_l1In); rfl; rfl
 | (with_reducible apply zcf); (iterate 10 rfl); (first | exact spec_l5Split (by first | omega | (have := LQ.len (by assumption); omega)) | exact spec_l5Mean (by assumption) (by omega) (by omega) (by assumption) (by omega) | exact spec_l5Merge (by omega) (by omega)); rfl; rfl; rfl; rfl; rfl
 | (with_reducible apply zc); (iterate 10 rfl); (first | exact spec_l5Qty (by first | assumption | exact LQ.of (by assumption)) | exact spec_MulDiv_ok (by first | assumption | omega) | exact spec_MulDiv_no (by assumption)); exact fun _ => rfl; rfl; rfl; rfl
 | fail)
    refine wlp (X := Int × Int × List Lot) [4, 14] [0, 1, 2] (fun x => [(3, I x.1), (17, I x.2.1), (13, .c (.row 1 0 x.2.2.length))]) (fun x => [(1, ow 99 x.2.2)]) (fun x => TkI (lotsOf l a c).reverse q x.1 x.2.1 x.2.2.reverse) (fun x => x.1.toNat) (q, 0, lotsOf l a c) (TkI.init hg.rev (by omega) (by rw [sQ_rev]; omega) (by rw [List.length_reverse]; omega)) rfl rfl (fun _ => rfl) (fun _ => rfl) ⟨rfl, rfl, rfl, rfl, rfl, rfl, rfl, rfl⟩ (fun x hx => ?_)
    obtain ⟨z, k, o⟩ := x
    dsimp only at hx ⊢
    have hz := hx.qb
    have hol := hx.len
    rw [List.length_reverse] at hol
    by_cases hz0 : 0 < z
    rotate_left
    ·
      obtain ⟨d1, d2⟩ := hx.done hz0
      rw [d1, d2, List.reverse_reverse]
      repeat' (first
 | (intro h9; exfalso; first | contradiction | omega)
 | (with_reducible apply zds); exact tk; rfl; rfl; rfl; rfl; rfl
 | (with_reducible apply zd); rfl; exact tk; rfl
 | (with_reducible first | intro _ | apply wseq | apply zreg | apply thenQ_n | apply thenQ_r | apply thenQ_e | apply znil | apply wret | apply bodyQ_r | apply wblk | apply blkQ_n | apply blkQ_r | apply wskip | apply wexit)
 | apply wcf rfl
 | (with_reducible apply blkQ_x rfl)
 | (with_reducible apply zcmp); rfl; exact tk; rfl; rfl; rfl
 | (with_reducible apply zcf); (iterate 10 rfl); (first | exact spec_l5Split (by first | omega | (have := LQ.len (by assumption); omega)) | exact spec_l5Mean (by assumption) (by omega) (by omega) (by assumption) (by omega) | exact spec_l5Merge (by omega) (by omega)); rfl; rfl; rfl; rfl; rfl
 | fail)
      all_goals first | exact endV [0, 3] rfl rfl rfl rfl rfl rfl | trace_state
    have hop : 0 < (o.length : Int) := by have := sQ_pos (l := o.reverse) (by have := hx.en; omega); rw [List.length_reverse] at this; omega
    obtain ⟨i, hi⟩ : ∃ i : Int, i = o.length - 1 := ⟨_, rfl⟩
    have hwi : IntKind.i64.wrap ((o.length : Int) - 1) = i := by rw [← hi]; exact wI (by omega)
    have hmem : rd o i ∈ o.reverse := List.mem_reverse.2 (rd_mem ⟨by omega, by omega⟩)
    have hg0 := hx.lg _ hmem
    have htc := tk_cost (q := z) hx.lg
    have htc0 := tk_cost (q := q) hg.rev
    rw [sC_rev] at htc0
    have hkc := hx.cost
    have hcb := hx.cb
    have hd0 : o.reverse = rd o i :: (o.take i.toNat).reverse := rev_last hi hop
    rw [hd0] at hx
    by_cases hz1 : (rd o i).Qty < z
    ·
      have hmd := md_part (c := (rd o i).Cost) (p := (rd o i).Qty) (n := (rd o i).Qty) hg0.2 ⟨by omega, by omega⟩ hg0.1
      have hpl := part_le (k := (rd o i).Cost) (q := (rd o i).Qty) (n := (rd o i).Qty) hg0.2.1 (by omega) (by omega) hg0.1.1
      have hU : upd (upd o i ⟨(rd o i).Account, (rd o i).Instr, (rd o i).No, (rd o i).Qty - (rd o i).Qty, (rd o i).Cost⟩) i ⟨(rd (upd o i ⟨(rd o i).Account, (rd o i).Instr, (rd o i).No, (rd o i).Qty - (rd o i).Qty, (rd o i).Cost⟩) i).Account, (rd (upd o i ⟨(rd o i).Account, (rd o i).Instr, (rd o i).No, (rd o i).Qty - (rd o i).Qty, (rd o i).Cost⟩) i).Instr, (rd (upd o i ⟨(rd o i).Account, (rd o i).Instr, (rd o i).No, (rd o i).Qty - (rd o i).Qty, (rd o i).Cost⟩) i).No, (rd (upd o i ⟨(rd o i).Account, (rd o i).Instr, (rd o i).No, (rd o i).Qty - (rd o i).Qty, (rd o i).Cost⟩) i).Qty, (rd o i).Cost - (rd o i).Cost * (rd o i).Qty / (rd o i).Qty⟩ = upd o i (reL (rd o i) ((rd o i).Qty - (rd o i).Qty) ((rd o i).Cost - (rd o i).Cost * (rd o i).Qty / (rd o i).Qty)) := by
        rw [rd_upd_s ⟨by omega, by omega⟩]
        unfold upd
        rw [List.set_set]
        rfl
      have hUq : (rd (upd (upd o i ⟨(rd o i).Account, (rd o i).Instr, (rd o i).No, (rd o i).Qty - (rd o i).Qty, (rd o i).Cost⟩) i ⟨(rd (upd o i ⟨(rd o i).Account, (rd o i).Instr, (rd o i).No, (rd o i).Qty - (rd o i).Qty, (rd o i).Cost⟩) i).Account, (rd (upd o i ⟨(rd o i).Account, (rd o i).Instr, (rd o i).No, (rd o i).Qty - (rd o i).Qty, (rd o i).Cost⟩) i).Instr, (rd (upd o i ⟨(rd o i).Account, (rd o i).Instr, (rd o i).No, (rd o i).Qty - (rd o i).Qty, (rd o i).Cost⟩) i).No, (rd (upd o i ⟨(rd o i).Account, (rd o i).Instr, (rd o i).No, (rd o i).Qty - (rd o i).Qty, (rd o i).Cost⟩) i).Qty, (rd o i).Cost - (rd o i).Cost * (rd o i).Qty / (rd o i).Qty⟩) i).Qty = (rd o i).Qty - (rd o i).Qty := by
        rw [hU, rd_upd_s ⟨by omega, by omega⟩]
        rfl
      repeat' (first
 | (intro h9; exfalso; first | contradiction | omega)
 | (with_reducible apply zds); exact tk; rfl; rfl; rfl; rfl; rfl
 | (with_reducible apply zd); rfl; exact tk; rfl
 | (with_reducible apply znw); rfl; rfl; rfl; rfl; trivial; assumption; rfl; rfl
 | (with_reducible apply zix); rfl; exact tk; (iterate 7 rfl); (first | omega | (simp only [upd_len]; omega)); rfl; rfl
 | (with_reducible apply zle); rfl; exact tk; rfl; rfl; rfl; rfl; (first | omega | (simp only [upd_len]; omega)); rfl; rfl; rfl; rfl
 | (with_reducible apply zse); rfl; exact tk; (iterate 6 rfl); (first | omega | (simp only [upd_len]; omega)); rfl; rfl; rfl; rfl; rfl
 | (with_reducible first | intro _ | apply wseq | apply zreg | apply thenQ_n | apply thenQ_r | apply thenQ_e | apply znil | apply wret | apply bodyQ_r | apply wblk | apply blkQ_n | apply blkQ_r | apply wskip | apply wexit)
 | apply wct rfl
 | (with_reducible apply zcmp); rfl; exact tk; rfl; rfl; rfl
 | (with_reducible apply zar); rfl; rfl; rfl; rfl; (first | omega | ((try simp only [List.length_append, List.length_cons, List.length_nil, List.length_map]); (try dsimp only); omega)); rfl; rfl
 | refine zdq (id := 22) rfl (by kernel_rfl) [(.p, 1), (.p, 2), (.p, 3), (.p, 5), (.p, 6), (.p, 7), (.p, 8), (.o, 0), (.l, 4), (.l, 9), (.p, 10)] [4, 9] (by kernel_rfl) rfl ?_
 | (with_reducible apply zc); (iterate 10 rfl); (first | exact spec_l5Qty (by first | assumption | exact LQ.of (by assumption)) | exact spec_MulDiv_ok (by first | assumption | omega) | exact spec_MulDiv_no (by assumption)); exact fun _ => rfl; rfl; rfl; rfl
 | (with_reducible apply zcq); (iterate 10 rfl); exact spec_l1Min; rfl; rfl
 | fail)
      obtain ⟨u, hu⟩ : ∃ u, u = upd o i (reL (rd o i) ((rd o i).Qty - (rd o i).Qty) ((rd o i).Cost - (rd o i).Cost * (rd o i).Qty / (rd o i).Qty)) := ⟨_, rfl⟩
      have hul : o.length = u.length := by rw [hu, upd_len]
      have hs1 := sub_len (l := u) (a := 0) (b := i) ⟨by omega, by omega, by omega⟩
      have hs2 := sub_len (l := u) (a := i + 1) (b := u.length) ⟨by omega, by omega, by omega⟩
      have hrem := rem_eq hu ⟨by omega, by omega⟩
      rw [hU, ← hu, hul]
      repeat' (first
 | (with_reducible apply zds); exact tk; rfl; rfl; rfl; rfl; rfl
 | (with_reducible apply zd); rfl; exact tk; rfl
 | (with_reducible first | intro _ | apply wseq | apply zreg | apply thenQ_n | apply thenQ_r | apply thenQ_e | apply znil | apply wret | apply bodyQ_r | apply wblk | apply blkQ_n | apply blkQ_r | apply wskip | apply wexit)
 | (with_reducible apply zar); rfl; rfl; rfl; rfl; (first | omega | ((try simp only [List.length_append, List.length_cons, List.length_nil, List.length_map]); (try dsimp only); omega)); rfl; rfl
 | (with_reducible apply zsl); rfl; exact tk; (iterate 8 rfl); (first | omega | ((try simp only [List.length_append, List.length_cons, List.length_nil, List.length_map]); (try dsimp only); omega)); rfl; rfl; rfl; rfl; rfl
 | (with_reducible apply zlit (α := Lot) (e := 99)); rfl; exact tk; (iterate 13 rfl)
 | (with_reducible apply zap); rfl; exact tk; (iterate 10 rfl); (first | omega | ((try simp only [List.length_append, List.length_cons, List.length_nil, List.length_map]); (try dsimp only); omega)); rfl; rfl; rfl; rfl; rfl
 | fail)
      all_goals first
        | exact endR (z - (rd o i).Qty, k + (rd o i).Cost * (rd o i).Qty / (rd o i).Qty, [] ++ sub u 0 i ++ sub u (i + 1) u.length) [0, 8, 2] ⟨rfl, rfl, rfl, rfl, rfl, rfl, rfl, rfl⟩ (by dsimp only; rw [hrem]; exact (by rw [rem_last hi hop]; exact hx.all hz0 (by omega))) (by first | omega | (dsimp only; omega))
        | trace_state
    by_cases hz2 : (rd o i).Qty = z
    · subst hz2
      have hmd := md_part (c := (rd o i).Cost) (p := (rd o i).Qty) (n := (rd o i).Qty) hg0.2 ⟨by omega, by omega⟩ hg0.1
      have hpl := part_le (k := (rd o i).Cost) (q := (rd o i).Qty) (n := (rd o i).Qty) hg0.2.1 (by omega) (by omega) hg0.1.1
      have hU : upd (upd o i ⟨(rd o i).Account, (rd o i).Instr, (rd o i).No, (rd o i).Qty - (rd o i).Qty, (rd o i).Cost⟩) i ⟨(rd (upd o i ⟨(rd o i).Account, (rd o i).Instr, (rd o i).No, (rd o i).Qty - (rd o i).Qty, (rd o i).Cost⟩) i).Account, (rd (upd o i ⟨(rd o i).Account, (rd o i).Instr, (rd o i).No, (rd o i).Qty - (rd o i).Qty, (rd o i).Cost⟩) i).Instr, (rd (upd o i ⟨(rd o i).Account, (rd o i).Instr, (rd o i).No, (rd o i).Qty - (rd o i).Qty, (rd o i).Cost⟩) i).No, (rd (upd o i ⟨(rd o i).Account, (rd o i).Instr, (rd o i).No, (rd o i).Qty - (rd o i).Qty, (rd o i).Cost⟩) i).Qty, (rd o i).Cost - (rd o i).Cost * (rd o i).Qty / (rd o i).Qty⟩ = upd o i (reL (rd o i) ((rd o i).Qty - (rd o i).Qty) ((rd o i).Cost - (rd o i).Cost * (rd o i).Qty / (rd o i).Qty)) := by
        rw [rd_upd_s ⟨by omega, by omega⟩]
        unfold upd
        rw [List.set_set]
        rfl
      have hUq : (rd (upd (upd o i ⟨(rd o i).Account, (rd o i).Instr, (rd o i).No, (rd o i).Qty - (rd o i).Qty, (rd o i).Cost⟩) i ⟨(rd (upd o i ⟨(rd o i).Account, (rd o i).Instr, (rd o i).No, (rd o i).Qty - (rd o i).Qty, (rd o i).Cost⟩) i).Account, (rd (upd o i ⟨(rd o i).Account, (rd o i).Instr, (rd o i).No, (rd o i).Qty - (rd o i).Qty, (rd o i).Cost⟩) i).Instr, (rd (upd o i ⟨(rd o i).Account, (rd o i).Instr, (rd o i).No, (rd o i).Qty - (rd o i).Qty, (rd o i).Cost⟩) i).No, (rd (upd o i ⟨(rd o i).Account, (rd o i).Instr, (rd o i).No, (rd o i).Qty - (rd o i).Qty, (rd o i).Cost⟩) i).Qty, (rd o i).Cost - (rd o i).Cost * (rd o i).Qty / (rd o i).Qty⟩) i).Qty = (rd o i).Qty - (rd o i).Qty := by
        rw [hU, rd_upd_s ⟨by omega, by omega⟩]
        rfl
      repeat' (first
 | (intro h9; exfalso; first | contradiction | omega)
 | (with_reducible apply zds); exact tk; rfl; rfl; rfl; rfl; rfl
 | (with_reducible apply zd); rfl; exact tk; rfl
 | (with_reducible apply znw); rfl; rfl; rfl; rfl; trivial; assumption; rfl; rfl
 | (with_reducible apply zix); rfl; exact tk; (iterate 7 rfl); (first | omega | (simp only [upd_len]; omega)); rfl; rfl
 | (with_reducible apply zle); rfl; exact tk; rfl; rfl; rfl; rfl; (first | omega | (simp only [upd_len]; omega)); rfl; rfl; rfl; rfl
 | (with_reducible apply zse); rfl; exact tk; (iterate 6 rfl); (first | omega | (simp only [upd_len]; omega)); rfl; rfl; rfl; rfl; rfl
 | (with_reducible first | intro _ | apply wseq | apply zreg | apply thenQ_n | apply thenQ_r | apply thenQ_e | apply znil | apply wret | apply bodyQ_r | apply wblk | apply blkQ_n | apply blkQ_r | apply wskip | apply wexit)
 | apply wct rfl
 | (with_reducible apply zcmp); rfl; exact tk; rfl; rfl; rfl
 | (with_reducible apply zar); rfl; rfl; rfl; rfl; (first | omega | ((try simp only [List.length_append, List.length_cons, List.length_nil, List.length_map]); (try dsimp only); omega)); rfl; rfl
 | refine zdq (id := 22) rfl (by kernel_rfl) [(.p, 1), (.p, 2), (.p, 3), (.p, 5), (.p, 6), (.p, 7), (.p, 8), (.o, 0), (.l, 4), (.l, 9), (.p, 10)] [4, 9] (by kernel_rfl) rfl ?_
 | (with_reducible apply zc); (iterate 10 rfl); (first | exact spec_l5Qty (by first | assumption | exact LQ.of (by assumption)) | exact spec_MulDiv_ok (by first | assumption | omega) | exact spec_MulDiv_no (by assumption)); exact fun _ => rfl; rfl; rfl; rfl
 | (with_reducible apply zcq); (iterate 10 rfl); exact spec_l1Min; rfl; rfl
 | fail)
      obtain ⟨u, hu⟩ : ∃ u, u = upd o i (reL (rd o i) ((rd o i).Qty - (rd o i).Qty) ((rd o i).Cost - (rd o i).Cost * (rd o i).Qty / (rd o i).Qty)) := ⟨_, rfl⟩
      have hul : o.length = u.length := by rw [hu, upd_len]
      have hs1 := sub_len (l := u) (a := 0) (b := i) ⟨by omega, by omega, by omega⟩
      have hs2 := sub_len (l := u) (a := i + 1) (b := u.length) ⟨by omega, by omega, by omega⟩
      have hrem := rem_eq hu ⟨by omega, by omega⟩
      rw [hU, ← hu, hul]
      repeat' (first
 | (with_reducible apply zds); exact tk; rfl; rfl; rfl; rfl; rfl
 | (with_reducible apply zd); rfl; exact tk; rfl
 | (with_reducible first | intro _ | apply wseq | apply zreg | apply thenQ_n | apply thenQ_r | apply thenQ_e | apply znil | apply wret | apply bodyQ_r | apply wblk | apply blkQ_n | apply blkQ_r | apply wskip | apply wexit)
 | (with_reducible apply zar); rfl; rfl; rfl; rfl; (first | omega | ((try simp only [List.length_append, List.length_cons, List.length_nil, List.length_map]); (try dsimp only); omega)); rfl; rfl
 | (with_reducible apply zsl); rfl; exact tk; (iterate 8 rfl); (first | omega | ((try simp only [List.length_append, List.length_cons, List.length_nil, List.length_map]); (try dsimp only); omega)); rfl; rfl; rfl; rfl; rfl
 | (with_reducible apply zlit (α := Lot) (e := 99)); rfl; exact tk; (iterate 13 rfl)
 | (with_reducible apply zap); rfl; exact tk; (iterate 10 rfl); (first | omega | ((try simp only [List.length_append, List.length_cons, List.length_nil, List.length_map]); (try dsimp only); omega)); rfl; rfl; rfl; rfl; rfl
 | fail)
      all_goals first
        | exact endR ((rd o i).Qty - (rd o i).Qty, k + (rd o i).Cost * (rd o i).Qty / (rd o i).Qty, [] ++ sub u 0 i ++ sub u (i + 1) u.length) [0, 8, 2] ⟨rfl, rfl, rfl, rfl, rfl, rfl, rfl, rfl⟩ (by dsimp only; rw [hrem]; exact (by rw [rem_last hi hop]; exact hx.all hz0 (by omega))) (by first | omega | (dsimp only; omega))
        | trace_state
    ·
      have hmd := md_part (c := (rd o i).Cost) (p := z) (n := (rd o i).Qty) hg0.2 ⟨by omega, by omega⟩ hg0.1
      have hpl := part_le (k := (rd o i).Cost) (q := z) (n := (rd o i).Qty) hg0.2.1 (by omega) (by omega) hg0.1.1
      have hU : upd (upd o i ⟨(rd o i).Account, (rd o i).Instr, (rd o i).No, (rd o i).Qty - z, (rd o i).Cost⟩) i ⟨(rd (upd o i ⟨(rd o i).Account, (rd o i).Instr, (rd o i).No, (rd o i).Qty - z, (rd o i).Cost⟩) i).Account, (rd (upd o i ⟨(rd o i).Account, (rd o i).Instr, (rd o i).No, (rd o i).Qty - z, (rd o i).Cost⟩) i).Instr, (rd (upd o i ⟨(rd o i).Account, (rd o i).Instr, (rd o i).No, (rd o i).Qty - z, (rd o i).Cost⟩) i).No, (rd (upd o i ⟨(rd o i).Account, (rd o i).Instr, (rd o i).No, (rd o i).Qty - z, (rd o i).Cost⟩) i).Qty, (rd o i).Cost - (rd o i).Cost * z / (rd o i).Qty⟩ = upd o i (reL (rd o i) ((rd o i).Qty - z) ((rd o i).Cost - (rd o i).Cost * z / (rd o i).Qty)) := by
        rw [rd_upd_s ⟨by omega, by omega⟩]
        unfold upd
        rw [List.set_set]
        rfl
      have hUq : (rd (upd (upd o i ⟨(rd o i).Account, (rd o i).Instr, (rd o i).No, (rd o i).Qty - z, (rd o i).Cost⟩) i ⟨(rd (upd o i ⟨(rd o i).Account, (rd o i).Instr, (rd o i).No, (rd o i).Qty - z, (rd o i).Cost⟩) i).Account, (rd (upd o i ⟨(rd o i).Account, (rd o i).Instr, (rd o i).No, (rd o i).Qty - z, (rd o i).Cost⟩) i).Instr, (rd (upd o i ⟨(rd o i).Account, (rd o i).Instr, (rd o i).No, (rd o i).Qty - z, (rd o i).Cost⟩) i).No, (rd (upd o i ⟨(rd o i).Account, (rd o i).Instr, (rd o i).No, (rd o i).Qty - z, (rd o i).Cost⟩) i).Qty, (rd o i).Cost - (rd o i).Cost * z / (rd o i).Qty⟩) i).Qty = (rd o i).Qty - z := by
        rw [hU, rd_upd_s ⟨by omega, by omega⟩]
        rfl
      repeat' (first
 | (intro h9; exfalso; first | contradiction | omega)
 | (with_reducible apply zds); exact tk; rfl; rfl; rfl; rfl; rfl
 | (with_reducible apply zd); rfl; exact tk; rfl
 | (with_reducible apply znw); rfl; rfl; rfl; rfl; trivial; assumption; rfl; rfl
 | (with_reducible apply zix); rfl; exact tk; (iterate 7 rfl); (first | omega | (simp only [upd_len]; omega)); rfl; rfl
 | (with_reducible apply zle); rfl; exact tk; rfl; rfl; rfl; rfl; (first | omega | (simp only [upd_len]; omega)); rfl; rfl; rfl; rfl
 | (with_reducible apply zse); rfl; exact tk; (iterate 6 rfl); (first | omega | (simp only [upd_len]; omega)); rfl; rfl; rfl; rfl; rfl
 | (with_reducible first | intro _ | apply wseq | apply zreg | apply thenQ_n | apply thenQ_r | apply thenQ_e | apply znil | apply wret | apply bodyQ_r | apply wblk | apply blkQ_n | apply blkQ_r | apply wskip | apply wexit)
 | apply wct rfl
 | apply wcf rfl
 | (with_reducible apply zcmp); rfl; exact tk; rfl; rfl; rfl
 | (with_reducible apply zar); rfl; rfl; rfl; rfl; (first | omega | ((try simp only [List.length_append, List.length_cons, List.length_nil, List.length_map]); (try dsimp only); omega)); rfl; rfl
 | (with_reducible apply zc); (iterate 10 rfl); (first | exact spec_l5Qty (by first | assumption | exact LQ.of (by assumption)) | exact spec_MulDiv_ok (by first | assumption | omega) | exact spec_MulDiv_no (by assumption)); exact fun _ => rfl; rfl; rfl; rfl
 | (with_reducible apply zcq); (iterate 10 rfl); exact spec_l1Min; rfl; rfl
 | fail)
      obtain ⟨u, hu⟩ : ∃ u, u = upd o i (reL (rd o i) ((rd o i).Qty - z) ((rd o i).Cost - (rd o i).Cost * z / (rd o i).Qty)) := ⟨_, rfl⟩
      have hul : o.length = u.length := by rw [hu, upd_len]
      rw [hU, ← hu, hul]
      all_goals first
        | exact endR (z - z, k + (rd o i).Cost * z / (rd o i).Qty, u) [0, 1, 2] ⟨rfl, rfl, rfl, rfl, rfl, rfl, rfl, rfl⟩ (by dsimp only; rw [hu, upd_last hi hop]; exact hx.part hz0 (by omega)) (by first | omega | (dsimp only; omega))
        | trace_state
  have w1 : way = 1 := by omega
  subst w1
  rw [tkL_1.1, tkL_1.2]
  repeat' (first
 | (intro h9; exfalso; first | contradiction | omega)
 | (with_reducible apply zds); exact tk; rfl; rfl; rfl; rfl; rfl
 | (with_reducible apply zd); rfl; exact tk; rfl
 | (with_reducible first | intro _ | apply wseq | apply zreg | apply thenQ_n | apply thenQ_r | apply thenQ_e | apply znil | apply wret | apply bodyQ_r | apply wblk | apply blkQ_n | apply blkQ_r | apply wskip | apply wexit)
 | apply wcf rfl
 | (with_reducible apply zcmp); rfl; exact tk; rfl; rfl; rfl
 | (with_reducible apply zcp); (iterate 10 rfl); (first | exact spec_LotsOk | exact spec_l1Some | exact spec_l1In); rfl; rfl
 | (with_reducible apply zcf); (iterate 10 rfl); (first | exact spec_l5Split (by first | omega | (have := LQ.len (by assumption); omega)) | exact spec_l5Mean (by assumption) (by omega) (by omega) (by assumption) (by omega) | exact spec_l5Merge (by omega) (by omega)); rfl; rfl; rfl; rfl; rfl
 | (with_reducible apply zc); (iterate 10 rfl); (first | exact spec_l5Qty (by first | assumption | exact LQ.of (by assumption)) | exact spec_MulDiv_ok (by first | assumption | omega) | exact spec_MulDiv_no (by assumption)); exact fun _ => rfl; rfl; rfl; rfl
 | fail)
  refine wlp (X := Int × Int × List Lot) [4, 14] [0, 1, 2] (fun x => [(3, I x.1), (17, I x.2.1), (13, .c (.row 1 0 x.2.2.length))]) (fun x => [(1, ow 99 x.2.2)]) (fun x => TkI (lotsOf l a c) q x.1 x.2.1 x.2.2) (fun x => x.1.toNat) (q, 0, lotsOf l a c) (TkI.init hg (by omega) (by omega) (by omega)) rfl rfl (fun _ => rfl) (fun _ => rfl) ⟨rfl, rfl, rfl, rfl, rfl, rfl, rfl, rfl⟩ (fun x hx => ?_)
  obtain ⟨z, k, o⟩ := x
  dsimp only at hx ⊢
  have hz := hx.qb
  have hol := hx.len
  by_cases hz0 : 0 < z
  rotate_left
  ·
    obtain ⟨d1, d2⟩ := hx.done hz0
    rw [d1, d2]
    repeat' (first
 | (intro h9; exfalso; first | contradiction | omega)
 | (with_reducible apply zds); exact tk; rfl; rfl; rfl; rfl; rfl
 | (with_reducible apply zd); rfl; exact tk; rfl
 | (with_reducible first | intro _ | apply wseq | apply zreg | apply thenQ_n | apply thenQ_r | apply thenQ_e | apply znil | apply wret | apply bodyQ_r | apply wblk | apply blkQ_n | apply blkQ_r | apply wskip | apply wexit)
 | apply wcf rfl
 | (with_reducible apply blkQ_x rfl)
 | (with_reducible apply zcmp); rfl; exact tk; rfl; rfl; rfl
 | (with_reducible apply zcf); (iterate 10 rfl); (first | exact spec_l5Split (by first | omega | (have := LQ.len (by assumption); omega)) | exact spec_l5Mean (by assumption) (by omega) (by omega) (by assumption) (by omega) | exact spec_l5Merge (by omega) (by omega)); rfl; rfl; rfl; rfl; rfl
 | fail)
    all_goals first | exact endV [0, 3] rfl rfl rfl rfl rfl rfl | trace_state
  have hop : 0 < (o.length : Int) := by have := sQ_pos (l := o) (by have := hx.en; omega); omega
  have hmem : rd o 0 ∈ o := rd_mem ⟨Int.le_refl 0, hop⟩
  have hg0 := hx.lg _ hmem
  have htc := tk_cost (q := z) hx.lg
  have htc0 := tk_cost (q := q) hg
  have hkc := hx.cost
  have hcb := hx.cb
  have hd0 : o = rd o 0 :: o.drop 1 := drop_at (l := o) (i := 0) ⟨Int.le_refl 0, hop⟩
  rw [hd0] at hx
  by_cases hz1 : (rd o 0).Qty < z
  ·
    have hmd := md_part (c := (rd o 0).Cost) (p := (rd o 0).Qty) (n := (rd o 0).Qty) hg0.2 ⟨by omega, by omega⟩ hg0.1
    have hpl := part_le (k := (rd o 0).Cost) (q := (rd o 0).Qty) (n := (rd o 0).Qty) hg0.2.1 (by omega) (by omega) hg0.1.1
    have hU : upd (upd o 0 ⟨(rd o 0).Account, (rd o 0).Instr, (rd o 0).No, (rd o 0).Qty - (rd o 0).Qty, (rd o 0).Cost⟩) 0 ⟨(rd (upd o 0 ⟨(rd o 0).Account, (rd o 0).Instr, (rd o 0).No, (rd o 0).Qty - (rd o 0).Qty, (rd o 0).Cost⟩) 0).Account, (rd (upd o 0 ⟨(rd o 0).Account, (rd o 0).Instr, (rd o 0).No, (rd o 0).Qty - (rd o 0).Qty, (rd o 0).Cost⟩) 0).Instr, (rd (upd o 0 ⟨(rd o 0).Account, (rd o 0).Instr, (rd o 0).No, (rd o 0).Qty - (rd o 0).Qty, (rd o 0).Cost⟩) 0).No, (rd (upd o 0 ⟨(rd o 0).Account, (rd o 0).Instr, (rd o 0).No, (rd o 0).Qty - (rd o 0).Qty, (rd o 0).Cost⟩) 0).Qty, (rd o 0).Cost - (rd o 0).Cost * (rd o 0).Qty / (rd o 0).Qty⟩ = upd o 0 (reL (rd o 0) ((rd o 0).Qty - (rd o 0).Qty) ((rd o 0).Cost - (rd o 0).Cost * (rd o 0).Qty / (rd o 0).Qty)) := by
      rw [rd_upd_s ⟨by omega, by omega⟩]
      unfold upd
      rw [List.set_set]
      rfl
    have hUq : (rd (upd (upd o 0 ⟨(rd o 0).Account, (rd o 0).Instr, (rd o 0).No, (rd o 0).Qty - (rd o 0).Qty, (rd o 0).Cost⟩) 0 ⟨(rd (upd o 0 ⟨(rd o 0).Account, (rd o 0).Instr, (rd o 0).No, (rd o 0).Qty - (rd o 0).Qty, (rd o 0).Cost⟩) 0).Account, (rd (upd o 0 ⟨(rd o 0).Account, (rd o 0).Instr, (rd o 0).No, (rd o 0).Qty - (rd o 0).Qty, (rd o 0).Cost⟩) 0).Instr, (rd (upd o 0 ⟨(rd o 0).Account, (rd o 0).Instr, (rd o 0).No, (rd o 0).Qty - (rd o 0).Qty, (rd o 0).Cost⟩) 0).No, (rd (upd o 0 ⟨(rd o 0).Account, (rd o 0).Instr, (rd o 0).No, (rd o 0).Qty - (rd o 0).Qty, (rd o 0).Cost⟩) 0).Qty, (rd o 0).Cost - (rd o 0).Cost * (rd o 0).Qty / (rd o 0).Qty⟩) 0).Qty = (rd o 0).Qty - (rd o 0).Qty := by
      rw [hU, rd_upd_s ⟨by omega, by omega⟩]
      rfl
    repeat' (first
 | (intro h9; exfalso; first | contradiction | omega)
 | (with_reducible apply zds); exact tk; rfl; rfl; rfl; rfl; rfl
 | (with_reducible apply zd); rfl; exact tk; rfl
 | (with_reducible apply zix); rfl; exact tk; (iterate 7 rfl); (first | omega | (simp only [upd_len]; omega)); rfl; rfl
 | (with_reducible apply zle); rfl; exact tk; rfl; rfl; rfl; rfl; (first | omega | (simp only [upd_len]; omega)); rfl; rfl; rfl; rfl
 | (with_reducible apply zse); rfl; exact tk; (iterate 6 rfl); (first | omega | (simp only [upd_len]; omega)); rfl; rfl; rfl; rfl; rfl
 | (with_reducible first | intro _ | apply wseq | apply zreg | apply thenQ_n | apply thenQ_r | apply thenQ_e | apply znil | apply wret | apply bodyQ_r | apply wblk | apply blkQ_n | apply blkQ_r | apply wskip | apply wexit)
 | apply wct rfl
 | apply wcf rfl
 | (with_reducible apply zcmp); rfl; exact tk; rfl; rfl; rfl
 | (with_reducible apply zar); rfl; rfl; rfl; rfl; (first | omega | ((try simp only [List.length_append, List.length_cons, List.length_nil, List.length_map]); (try dsimp only); omega)); rfl; rfl
 | refine zdq (id := 22) rfl (by kernel_rfl) [(.p, 1), (.p, 2), (.p, 3), (.p, 5), (.p, 6), (.p, 7), (.p, 8), (.o, 0), (.l, 4), (.l, 9), (.p, 10)] [4, 9] (by kernel_rfl) rfl ?_
 | (with_reducible apply zc); (iterate 10 rfl); (first | exact spec_l5Qty (by first | assumption | exact LQ.of (by assumption)) | exact spec_MulDiv_ok (by first | assumption | omega) | exact spec_MulDiv_no (by assumption)); exact fun _ => rfl; rfl; rfl; rfl
 | (with_reducible apply zcq); (iterate 10 rfl); exact spec_l1Min; rfl; rfl
 | fail)
    obtain ⟨u, hu⟩ : ∃ u, u = upd o 0 (reL (rd o 0) ((rd o 0).Qty - (rd o 0).Qty) ((rd o 0).Cost - (rd o 0).Cost * (rd o 0).Qty / (rd o 0).Qty)) := ⟨_, rfl⟩
    have hul : o.length = u.length := by rw [hu, upd_len]
    have hs1 := sub_len (l := u) (a := 0) (b := 0) ⟨by omega, by omega, by omega⟩
    have hs2 := sub_len (l := u) (a := 0 + 1) (b := u.length) ⟨by omega, by omega, by omega⟩
    have hrem := rem_eq hu ⟨by omega, by omega⟩
    rw [hU, ← hu, hul]
    repeat' (first
 | (with_reducible apply zds); exact tk; rfl; rfl; rfl; rfl; rfl
 | (with_reducible apply zd); rfl; exact tk; rfl
 | (with_reducible first | intro _ | apply wseq | apply zreg | apply thenQ_n | apply thenQ_r | apply thenQ_e | apply znil | apply wret | apply bodyQ_r | apply wblk | apply blkQ_n | apply blkQ_r | apply wskip | apply wexit)
 | (with_reducible apply zar); rfl; rfl; rfl; rfl; (first | omega | ((try simp only [List.length_append, List.length_cons, List.length_nil, List.length_map]); (try dsimp only); omega)); rfl; rfl
 | (with_reducible apply zsl); rfl; exact tk; (iterate 8 rfl); (first | omega | ((try simp only [List.length_append, List.length_cons, List.length_nil, List.length_map]); (try dsimp only); omega)); rfl; rfl; rfl; rfl; rfl
 | (with_reducible apply zlit (α := Lot) (e := 99)); rfl; exact tk; (iterate 13 rfl)
 | (with_reducible apply zap); rfl; exact tk; (iterate 10 rfl); (first | omega | ((try simp only [List.length_append, List.length_cons, List.length_nil, List.length_map]); (try dsimp only); omega)); rfl; rfl; rfl; rfl; rfl
 | fail)
    all_goals first
      | exact endR (z - (rd o 0).Qty, k + (rd o 0).Cost * (rd o 0).Qty / (rd o 0).Qty, [] ++ sub u 0 0 ++ sub u (0 + 1) u.length) [0, 8, 2] ⟨rfl, rfl, rfl, rfl, rfl, rfl, rfl, rfl⟩ (by dsimp only; rw [hrem]; exact hx.all hz0 (by omega)) (by first | omega | (dsimp only; omega))
      | trace_state
  by_cases hz2 : (rd o 0).Qty = z
  · subst hz2
    have hmd := md_part (c := (rd o 0).Cost) (p := (rd o 0).Qty) (n := (rd o 0).Qty) hg0.2 ⟨by omega, by omega⟩ hg0.1
    have hpl := part_le (k := (rd o 0).Cost) (q := (rd o 0).Qty) (n := (rd o 0).Qty) hg0.2.1 (by omega) (by omega) hg0.1.1
    have hU : upd (upd o 0 ⟨(rd o 0).Account, (rd o 0).Instr, (rd o 0).No, (rd o 0).Qty - (rd o 0).Qty, (rd o 0).Cost⟩) 0 ⟨(rd (upd o 0 ⟨(rd o 0).Account, (rd o 0).Instr, (rd o 0).No, (rd o 0).Qty - (rd o 0).Qty, (rd o 0).Cost⟩) 0).Account, (rd (upd o 0 ⟨(rd o 0).Account, (rd o 0).Instr, (rd o 0).No, (rd o 0).Qty - (rd o 0).Qty, (rd o 0).Cost⟩) 0).Instr, (rd (upd o 0 ⟨(rd o 0).Account, (rd o 0).Instr, (rd o 0).No, (rd o 0).Qty - (rd o 0).Qty, (rd o 0).Cost⟩) 0).No, (rd (upd o 0 ⟨(rd o 0).Account, (rd o 0).Instr, (rd o 0).No, (rd o 0).Qty - (rd o 0).Qty, (rd o 0).Cost⟩) 0).Qty, (rd o 0).Cost - (rd o 0).Cost * (rd o 0).Qty / (rd o 0).Qty⟩ = upd o 0 (reL (rd o 0) ((rd o 0).Qty - (rd o 0).Qty) ((rd o 0).Cost - (rd o 0).Cost * (rd o 0).Qty / (rd o 0).Qty)) := by
      rw [rd_upd_s ⟨by omega, by omega⟩]
      unfold upd
      rw [List.set_set]
      rfl
    have hUq : (rd (upd (upd o 0 ⟨(rd o 0).Account, (rd o 0).Instr, (rd o 0).No, (rd o 0).Qty - (rd o 0).Qty, (rd o 0).Cost⟩) 0 ⟨(rd (upd o 0 ⟨(rd o 0).Account, (rd o 0).Instr, (rd o 0).No, (rd o 0).Qty - (rd o 0).Qty, (rd o 0).Cost⟩) 0).Account, (rd (upd o 0 ⟨(rd o 0).Account, (rd o 0).Instr, (rd o 0).No, (rd o 0).Qty - (rd o 0).Qty, (rd o 0).Cost⟩) 0).Instr, (rd (upd o 0 ⟨(rd o 0).Account, (rd o 0).Instr, (rd o 0).No, (rd o 0).Qty - (rd o 0).Qty, (rd o 0).Cost⟩) 0).No, (rd (upd o 0 ⟨(rd o 0).Account, (rd o 0).Instr, (rd o 0).No, (rd o 0).Qty - (rd o 0).Qty, (rd o 0).Cost⟩) 0).Qty, (rd o 0).Cost - (rd o 0).Cost * (rd o 0).Qty / (rd o 0).Qty⟩) 0).Qty = (rd o 0).Qty - (rd o 0).Qty := by
      rw [hU, rd_upd_s ⟨by omega, by omega⟩]
      rfl
    repeat' (first
 | (intro h9; exfalso; first | contradiction | omega)
 | (with_reducible apply zds); exact tk; rfl; rfl; rfl; rfl; rfl
 | (with_reducible apply zd); rfl; exact tk; rfl
 | (with_reducible apply zix); rfl; exact tk; (iterate 7 rfl); (first | omega | (simp only [upd_len]; omega)); rfl; rfl
 | (with_reducible apply zle); rfl; exact tk; rfl; rfl; rfl; rfl; (first | omega | (simp only [upd_len]; omega)); rfl; rfl; rfl; rfl
 | (with_reducible apply zse); rfl; exact tk; (iterate 6 rfl); (first | omega | (simp only [upd_len]; omega)); rfl; rfl; rfl; rfl; rfl
 | (with_reducible first | intro _ | apply wseq | apply zreg | apply thenQ_n | apply thenQ_r | apply thenQ_e | apply znil | apply wret | apply bodyQ_r | apply wblk | apply blkQ_n | apply blkQ_r | apply wskip | apply wexit)
 | apply wct rfl
 | apply wcf rfl
 | (with_reducible apply zcmp); rfl; exact tk; rfl; rfl; rfl
 | (with_reducible apply zar); rfl; rfl; rfl; rfl; (first | omega | ((try simp only [List.length_append, List.length_cons, List.length_nil, List.length_map]); (try dsimp only); omega)); rfl; rfl
 | refine zdq (id := 22) rfl (by kernel_rfl) [(.p, 1), (.p, 2), (.p, 3), (.p, 5), (.p, 6), (.p, 7), (.p, 8), (.o, 0), (.l, 4), (.l, 9), (.p, 10)] [4, 9] (by kernel_rfl) rfl ?_
 | (with_reducible apply zc); (iterate 10 rfl); (first | exact spec_l5Qty (by first | assumption | exact LQ.of (by assumption)) | exact spec_MulDiv_ok (by first | assumption | omega) | exact spec_MulDiv_no (by assumption)); exact fun _ => rfl; rfl; rfl; rfl
 | (with_reducible apply zcq); (iterate 10 rfl); exact spec_l1Min; rfl; rfl
 | fail)
    obtain ⟨u, hu⟩ : ∃ u, u = upd o 0 (reL (rd o 0) ((rd o 0).Qty - (rd o 0).Qty) ((rd o 0).Cost - (rd o 0).Cost * (rd o 0).Qty / (rd o 0).Qty)) := ⟨_, rfl⟩
    have hul : o.length = u.length := by rw [hu, upd_len]
    have hs1 := sub_len (l := u) (a := 0) (b := 0) ⟨by omega, by omega, by omega⟩
    have hs2 := sub_len (l := u) (a := 0 + 1) (b := u.length) ⟨by omega, by omega, by omega⟩
    have hrem := rem_eq hu ⟨by omega, by omega⟩
    rw [hU, ← hu, hul]
    repeat' (first
 | (with_reducible apply zds); exact tk; rfl; rfl; rfl; rfl; rfl
 | (with_reducible apply zd); rfl; exact tk; rfl
 | (with_reducible first | intro _ | apply wseq | apply zreg | apply thenQ_n | apply thenQ_r | apply thenQ_e | apply znil | apply wret | apply bodyQ_r | apply wblk | apply blkQ_n | apply blkQ_r | apply wskip | apply wexit)
 | (with_reducible apply zar); rfl; rfl; rfl; rfl; (first | omega | ((try simp only [List.length_append, List.length_cons, List.length_nil, List.length_map]); (try dsimp only); omega)); rfl; rfl
 | (with_reducible apply zsl); rfl; exact tk; (iterate 8 rfl); (first | omega | ((try simp only [List.length_append, List.length_cons, List.length_nil, List.length_map]); (try dsimp only); omega)); rfl; rfl; rfl; rfl; rfl
 | (with_reducible apply zlit (α := Lot) (e := 99)); rfl; exact tk; (iterate 13 rfl)
 | (with_reducible apply zap); rfl; exact tk; (iterate 10 rfl); (first | omega | ((try simp only [List.length_append, List.length_cons, List.length_nil, List.length_map]); (try dsimp only); omega)); rfl; rfl; rfl; rfl; rfl
 | fail)
    all_goals first
      | exact endR ((rd o 0).Qty - (rd o 0).Qty, k + (rd o 0).Cost * (rd o 0).Qty / (rd o 0).Qty, [] ++ sub u 0 0 ++ sub u (0 + 1) u.length) [0, 8, 2] ⟨rfl, rfl, rfl, rfl, rfl, rfl, rfl, rfl⟩ (by dsimp only; rw [hrem]; exact hx.all hz0 (by omega)) (by first | omega | (dsimp only; omega))
      | trace_state
  ·
    have hmd := md_part (c := (rd o 0).Cost) (p := z) (n := (rd o 0).Qty) hg0.2 ⟨by omega, by omega⟩ hg0.1
    have hpl := part_le (k := (rd o 0).Cost) (q := z) (n := (rd o 0).Qty) hg0.2.1 (by omega) (by omega) hg0.1.1
    have hU : upd (upd o 0 ⟨(rd o 0).Account, (rd o 0).Instr, (rd o 0).No, (rd o 0).Qty - z, (rd o 0).Cost⟩) 0 ⟨(rd (upd o 0 ⟨(rd o 0).Account, (rd o 0).Instr, (rd o 0).No, (rd o 0).Qty - z, (rd o 0).Cost⟩) 0).Account, (rd (upd o 0 ⟨(rd o 0).Account, (rd o 0).Instr, (rd o 0).No, (rd o 0).Qty - z, (rd o 0).Cost⟩) 0).Instr, (rd (upd o 0 ⟨(rd o 0).Account, (rd o 0).Instr, (rd o 0).No, (rd o 0).Qty - z, (rd o 0).Cost⟩) 0).No, (rd (upd o 0 ⟨(rd o 0).Account, (rd o 0).Instr, (rd o 0).No, (rd o 0).Qty - z, (rd o 0).Cost⟩) 0).Qty, (rd o 0).Cost - (rd o 0).Cost * z / (rd o 0).Qty⟩ = upd o 0 (reL (rd o 0) ((rd o 0).Qty - z) ((rd o 0).Cost - (rd o 0).Cost * z / (rd o 0).Qty)) := by
      rw [rd_upd_s ⟨by omega, by omega⟩]
      unfold upd
      rw [List.set_set]
      rfl
    have hUq : (rd (upd (upd o 0 ⟨(rd o 0).Account, (rd o 0).Instr, (rd o 0).No, (rd o 0).Qty - z, (rd o 0).Cost⟩) 0 ⟨(rd (upd o 0 ⟨(rd o 0).Account, (rd o 0).Instr, (rd o 0).No, (rd o 0).Qty - z, (rd o 0).Cost⟩) 0).Account, (rd (upd o 0 ⟨(rd o 0).Account, (rd o 0).Instr, (rd o 0).No, (rd o 0).Qty - z, (rd o 0).Cost⟩) 0).Instr, (rd (upd o 0 ⟨(rd o 0).Account, (rd o 0).Instr, (rd o 0).No, (rd o 0).Qty - z, (rd o 0).Cost⟩) 0).No, (rd (upd o 0 ⟨(rd o 0).Account, (rd o 0).Instr, (rd o 0).No, (rd o 0).Qty - z, (rd o 0).Cost⟩) 0).Qty, (rd o 0).Cost - (rd o 0).Cost * z / (rd o 0).Qty⟩) 0).Qty = (rd o 0).Qty - z := by
      rw [hU, rd_upd_s ⟨by omega, by omega⟩]
      rfl
    repeat' (first
 | (intro h9; exfalso; first | contradiction | omega)
 | (with_reducible apply zds); exact tk; rfl; rfl; rfl; rfl; rfl
 | (with_reducible apply zd); rfl; exact tk; rfl
 | (with_reducible apply zix); rfl; exact tk; (iterate 7 rfl); (first | omega | (simp only [upd_len]; omega)); rfl; rfl
 | (with_reducible apply zle); rfl; exact tk; rfl; rfl; rfl; rfl; (first | omega | (simp only [upd_len]; omega)); rfl; rfl; rfl; rfl
 | (with_reducible apply zse); rfl; exact tk; (iterate 6 rfl); (first | omega | (simp only [upd_len]; omega)); rfl; rfl; rfl; rfl; rfl
 | (with_reducible first | intro _ | apply wseq | apply zreg | apply thenQ_n | apply thenQ_r | apply thenQ_e | apply znil | apply wret | apply bodyQ_r | apply wblk | apply blkQ_n | apply blkQ_r | apply wskip | apply wexit)
 | apply wct rfl
 | apply wcf rfl
 | (with_reducible apply zcmp); rfl; exact tk; rfl; rfl; rfl
 | (with_reducible apply zar); rfl; rfl; rfl; rfl; (first | omega | ((try simp only [List.length_append, List.length_cons, List.length_nil, List.length_map]); (try dsimp only); omega)); rfl; rfl
 | (with_reducible apply zc); (iterate 10 rfl); (first | exact spec_l5Qty (by first | assumption | exact LQ.of (by assumption)) | exact spec_MulDiv_ok (by first | assumption | omega) | exact spec_MulDiv_no (by assumption)); exact fun _ => rfl; rfl; rfl; rfl
 | (with_reducible apply zcq); (iterate 10 rfl); exact spec_l1Min; rfl; rfl
 | fail)
    obtain ⟨u, hu⟩ : ∃ u, u = upd o 0 (reL (rd o 0) ((rd o 0).Qty - z) ((rd o 0).Cost - (rd o 0).Cost * z / (rd o 0).Qty)) := ⟨_, rfl⟩
    have hul : o.length = u.length := by rw [hu, upd_len]
    rw [hU, ← hu, hul]
    all_goals first
      | exact endR (z - z, k + (rd o 0).Cost * z / (rd o 0).Qty, u) [0, 1, 2] ⟨rfl, rfl, rfl, rfl, rfl, rfl, rfl, rfl⟩ (by dsimp only; rw [hu, upd_first hop]; exact hx.part hz0 (by omega)) (by first | omega | (dsimp only; omega))
      | trace_state
end Go.Proofs.YtnlajjoheegbiaaGreat.Sh
