/- What is taken of lots: the program's side. No condition. -/
import Derived.Test.YtnlajjoheegbiaaGreatKNeShSr2
import Derived.Test.YtnlajjoheegbiaaGreatKNeShMw
import Derived.Test.YtnlajjoheegbiaaGreatKNeShSo
namespace Go.Proofs.YtnlajjoheegbiaaGreat.Sh
open Go.RowKit
set_option linter.unusedVariables false
set_option linter.unusedSimpArgs false
section
variable {P : Program} {T : TB} {ops : Array Oper} {Q : Exit → St → Prop} {h1 : AH} {k : Sk} {ks ks' : List Sk} {l : List Oper} {N0 k0 d0 : Nat} {e0 : List (Nat × AV)} {h0 : AH} {ty : TypeId} {pos : String} {af : Array Edge} {g : Option (Nat × Bool)}
theorem zmn {x y : Operand} {ts : Array TypeId} {a b r : Int} (hs0 : stK ks = (k, ks')) (hx : ev e0 x = some (I a)) (hy : ev e0 y = some (I b)) (he : (if b < a then b else a) = r) (hg : gd ops ⟨some d0, .call { callee := .builtin .min, args := #[x, y], argTypes := ts }, ty, pos, af, g⟩ e0 = some true) (hd : Nat.blt d0 N0 = true)
    (h : ZZ P ops Q h1 ks' l ⟨N0, k0, (d0, I r) :: e0, h0⟩) : ZZ P ops Q h1 ks (⟨some d0, .call { callee := .builtin .min, args := #[x, y], argTypes := ts }, ty, pos, af, g⟩ :: l) ⟨N0, k0, e0, h0⟩ := ⟨by
  rw [zipK_cons hs0]
  exact wp (T := []) (st := ⟨N0, k0, e0, h0⟩) (dst := some d0) (v := I r) (fun t ti h => by cases h) (by subst he; unfold aP; simp only [hx, hy]) hg hd h.out⟩
end
theorem tk_step {l : Lot} {r : List Lot} {q p : Int} (hg : (1 ≤ l.Qty ∧ l.Qty ≤ 1000000000000000) ∧ 0 ≤ l.Cost ∧ l.Cost ≤ 1000000000000000) (hq : 0 ≤ q) (hp : (if l.Qty < q then l.Qty else q) = p) :
    (p < l.Qty → (tkq (l :: r) q).1 = reL l (l.Qty - p) (l.Cost - l.Cost * p / l.Qty) :: (tkq r (q - p)).1) ∧ (¬ p < l.Qty → (tkq (l :: r) q).1 = (tkq r (q - p)).1) ∧ (tkq (l :: r) q).2 = l.Cost * p / l.Qty + (tkq r (q - p)).2 := by
  by_cases h0 : q ≤ 0
  · have e : q = 0 := by omega
    subst e
    rw [if_neg (by omega)] at hp
    subst hp
    rw [tk_z (Int.le_refl 0), tk_z (l := r) (by omega)]
    refine ⟨fun _ => ?_, fun h => by omega, ?_⟩
    · simp [reL]
    · simp
  by_cases h1 : l.Qty ≤ q
  · have e : p = l.Qty := by
      rw [← hp]
      by_cases h2 : l.Qty < q
      · rw [if_pos h2]
      · rw [if_neg h2]; omega
    subst e
    rw [tk_a (by omega) h1]
    refine ⟨fun h => by omega, fun _ => rfl, ?_⟩
    rw [part_all hg.1.1]
  · rw [if_neg (by omega)] at hp
    subst hp
    rw [tk_p (by omega) h1, Int.sub_self, tk_z (l := r) (Int.le_refl 0)]
    refine ⟨fun _ => rfl, fun h => by omega, ?_⟩
    simp
theorem min_bd {a b p : Int} (hp : (if b < a then b else a) = p) (ha : 0 ≤ a) (hb : 1 ≤ b) : 0 ≤ p ∧ p ≤ b ∧ p ≤ a ∧ (1 ≤ a → 1 ≤ p) := by
  subst hp
  by_cases h : b < a
  · rw [if_pos h]; omega
  · rw [if_neg h]; omega
theorem md_part {c p n : Int} (hc : 0 ≤ c ∧ c ≤ 1000000000000000) (hp : 0 ≤ p ∧ p ≤ n) (hn : 1 ≤ n ∧ n ≤ 1000000000000000) : mdOk c p n := ⟨hc, ⟨hp.1, by omega⟩, hn, by have := part_le hc.1 hp.1 hp.2 hn.1; omega⟩
set_option maxHeartbeats 4000000 in
theorem impl_takeLots {own : List Lot} {q0 : Int} (hg : LG own) (hq : 0 ≤ q0 ∧ q0 ≤ 1000000000000000) (hl : own.length ≤ 1000) (hs : sC own ≤ 1000000000000000) : FC Tryz.prog 243 [.c (.row 0 0 own.length), I q0] ([ro 99 own]) (.tup [.c (.row 1 0 (tkq own q0).1.length), I (tkq own q0).2]) ([ro 99 own, ow 99 (tkq own q0).1]) := by
  refine fent tk 62 [.tmp 4, .tmp 5] Tryz.func243 (by kernel_rfl) rfl rfl rfl rfl rfl rfl rfl ?_
  repeat' (first
 | (with_reducible apply zds); exact tk; rfl; rfl; rfl; rfl; rfl
 | (with_reducible apply zd); rfl; exact tk; rfl
 | (with_reducible first | intro _ | apply wseq | apply zreg | apply thenQ_n | apply thenQ_r | apply thenQ_e | apply znil | apply wret | apply bodyQ_r | apply wblk | apply blkQ_n | apply blkQ_r | apply wskip | apply wexit)
 | (with_reducible apply zlit (α := Lot) (e := 99)); rfl; exact tk; (iterate 13 rfl)
 | fail)
  refine wlp (X := Int × Int × Int × List Lot) [15, 16] [0, 1] (fun x => [(17, I x.1), (1, I x.2.1), (6, I x.2.2.1), (7, .c (.row 1 0 x.2.2.2.length))]) (fun x => [(1, ow 99 x.2.2.2)]) (fun x => (0 ≤ x.1 ∧ x.1 ≤ own.length) ∧ (0 ≤ x.2.1 ∧ x.2.1 ≤ 1000000000000000) ∧ 0 ≤ x.2.2.1 ∧ x.2.2.2 ++ (tkq (own.drop x.1.toNat) x.2.1).1 = (tkq own q0).1 ∧ x.2.2.1 + (tkq (own.drop x.1.toNat) x.2.1).2 = (tkq own q0).2 ∧ x.2.2.2.length ≤ x.1) (fun x => (own.length - x.1).toNat) (0, q0, 0, []) ⟨⟨by dsimp only; omega, by dsimp only; omega⟩, hq, Int.le_refl 0, rfl, by dsimp only; rw [Int.zero_add]; rfl, by dsimp only [List.length_nil]; omega⟩ rfl rfl (fun _ => rfl) (fun _ => rfl) ⟨rfl, rfl, rfl, rfl, rfl, rfl, rfl, rfl⟩ (fun x hx => ?_)
  obtain ⟨i, q, cost, out⟩ := x
  obtain ⟨h0, h1, hc, ho, ht, hol⟩ := hx
  dsimp only at h0 h1 hc ho ht hol ⊢
  have htot := tk_cost (q := q0) hg
  have hrest : 0 ≤ (tkq (own.drop i.toNat) q).2 := (tk_cost (fun x hx => hg x (List.mem_of_mem_drop hx))).1
  by_cases hil : i < own.length
  · have hgi := hg _ (rd_mem (l := own) ⟨h0.1, hil⟩)
    obtain ⟨p, hp⟩ : ∃ p, (if (rd own i).Qty < q then (rd own i).Qty else q) = p := ⟨_, rfl⟩
    obtain ⟨b1, b2, b3, _⟩ := min_bd hp h1.1 hgi.1.1
    have hmd := md_part (p := p) hgi.2 ⟨b1, b2⟩ hgi.1
    have hpl := part_le (k := (rd own i).Cost) (q := p) (n := (rd own i).Qty) hgi.2.1 b1 b2 hgi.1.1
    obtain ⟨s1, s2, s3⟩ := tk_step (r := own.drop (i + 1).toNat) hgi h1.1 hp
    rw [← drop_at ⟨h0.1, hil⟩] at s1 s2 s3
    have hrest2 : 0 ≤ (tkq (own.drop (i + 1).toNat) (q - p)).2 := (tk_cost (fun x hx => hg x (List.mem_of_mem_drop hx))).1
    repeat' (first
 | (intro h9; exfalso; first | contradiction | omega)
 | (with_reducible apply zmn); rfl; rfl; rfl; (first | assumption | rfl); rfl; rfl
 | (with_reducible apply zd); rfl; exact tk; rfl
 | (with_reducible first | intro _ | apply wseq | apply zreg | apply thenQ_n | apply thenQ_r | apply thenQ_e | apply znil | apply wret | apply bodyQ_r | apply wblk | apply blkQ_n | apply blkQ_r | apply wskip | apply wexit)
 | apply wct rfl
 | apply wcf rfl
 | (with_reducible apply zcmp); rfl; exact tk; rfl; rfl; rfl
 | (with_reducible apply zar); rfl; rfl; rfl; rfl; (first | omega | ((try simp only [List.length_append, List.length_cons, List.length_nil, List.length_map]); (try dsimp only); omega)); rfl; rfl
 | (with_reducible apply zix); rfl; exact tk; (iterate 7 rfl); (first | omega | ((try simp only [List.length_append, List.length_cons, List.length_nil, List.length_map]); (try dsimp only); omega)); rfl; rfl
 | (with_reducible apply zle); rfl; exact tk; rfl; rfl; rfl; rfl; (first | omega | ((try simp only [List.length_append, List.length_cons, List.length_nil, List.length_map]); (try dsimp only); omega)); rfl; rfl; rfl; rfl
 | (with_reducible apply zlit (α := Lot) (e := 99)); rfl; exact tk; (iterate 13 rfl)
 | (with_reducible apply zap); rfl; exact tk; (iterate 10 rfl); (first | omega | ((try simp only [List.length_append, List.length_cons, List.length_nil, List.length_map]); (try dsimp only); omega)); rfl; rfl; rfl; rfl; rfl
 | (with_reducible apply zcs); (iterate 10 rfl); exact impl_MulDiv; exact fun _ => rfl; exact fun _ => rfl; rfl; rfl; rfl; rfl
 | fail)
    all_goals first
      | (rename_i hlt
         exact endR (i + 1, q - p, cost + (rd own i).Cost * p / (rd own i).Qty, out ++ [⟨(rd own i).Account, (rd own i).Instr, (rd own i).No, (rd own i).Qty - p, (rd own i).Cost - (rd own i).Cost * p / (rd own i).Qty⟩]) [0, 4] ⟨rfl, rfl, rfl, rfl, rfl, rfl, rfl, rfl⟩ ⟨⟨by dsimp only; omega, by dsimp only; omega⟩, ⟨by dsimp only; omega, by dsimp only; omega⟩, by dsimp only; omega, by dsimp only; rw [List.append_assoc, ← ho, s1 hlt]; rfl, by dsimp only; omega, by dsimp only; rw [List.length_append]; simp only [List.length_cons, List.length_nil]; omega⟩ (by first | omega | (dsimp only; omega)))
      | (rename_i hlt
         exact endR (i + 1, q - p, cost + (rd own i).Cost * p / (rd own i).Qty, out) [0, 1] ⟨rfl, rfl, rfl, rfl, rfl, rfl, rfl, rfl⟩ ⟨⟨by dsimp only; omega, by dsimp only; omega⟩, ⟨by dsimp only; omega, by dsimp only; omega⟩, by dsimp only; omega, by dsimp only; rw [← ho, s2 hlt], by dsimp only; omega, by dsimp only; omega⟩ (by first | omega | (dsimp only; omega)))
      | trace_state
  · rw [drop_end hil] at ho ht
    have e1 : out = (tkq own q0).1 := by rw [← ho]; simp [tkq]
    have e2 : cost = (tkq own q0).2 := by rw [← ht]; simp [tkq]
    repeat' (first
 | (intro h9; exfalso; first | contradiction | omega)
 | (with_reducible apply zds); exact tk; rfl; rfl; rfl; rfl; rfl
 | (with_reducible first | intro _ | apply wseq | apply zreg | apply thenQ_n | apply thenQ_r | apply thenQ_e | apply znil | apply wret | apply bodyQ_r | apply wblk | apply blkQ_n | apply blkQ_r | apply wskip | apply wexit)
 | apply wcf rfl
 | (with_reducible apply blkQ_x rfl)
 | (with_reducible apply zcmp); rfl; exact tk; rfl; rfl; rfl
 | fail)
    all_goals first
      | (rw [← e1, ← e2]
         exact endV [0, 1] rfl rfl rfl rfl rfl rfl)
      | trace_state
set_option maxHeartbeats 4000000 in
theorem impl_meanLots {own : List Lot} {q0 : Int} (hg : LG own) (hq : 1 ≤ q0 ∧ q0 ≤ sQ own) (hs : sC own ≤ 1000000000000000 ∧ sQ own ≤ 1000000000000000) (hlq : LQ own) (hl : 0 < (own.length : Int)) : FC Tryz.prog 245 [.c (.row 0 0 own.length), I q0] ([ro 99 own]) (.tup [.c (.row 1 0 (tkL own q0 3).length), I (tkC own q0 3)]) ([ro 99 own, ow 99 (tkL own q0 3)]) := by
  refine fent tk 43 [.tmp 4, .tmp 5] Tryz.func245 (by kernel_rfl) rfl rfl rfl rfl rfl rfl rfl ?_
  have hc0 := hg.sC_nn
  have hmd := md_part (c := sC own) (p := q0) (n := sQ own) ⟨hc0, hs.1⟩ ⟨by omega, hq.2⟩ ⟨by omega, hs.2⟩
  have hpl := part_le (k := sC own) (q := q0) (n := sQ own) hc0 (by omega) hq.2 (by omega)
  rw [show tkC own q0 3 = sC own * q0 / sQ own from pick_t rfl, show tkL own q0 3 = sel (sQ own = q0) [] [reL (rd own 0) (sQ own - q0) (sC own - sC own * q0 / sQ own)] from sel_t rfl]
  by_cases hq2 : sQ own = q0
  · rw [sel_t hq2]
    repeat' (first
 | (intro h9; exfalso; first | contradiction | omega)
 | (with_reducible apply znila (d := 4) 99 5); rfl; rfl; rfl
 | (with_reducible apply zd); rfl; exact tk; rfl
 | (with_reducible first | intro _ | apply wseq | apply zreg | apply thenQ_n | apply thenQ_r | apply thenQ_e | apply znil | apply wret | apply bodyQ_r | apply wblk | apply blkQ_n | apply blkQ_r | apply wskip | apply wexit)
 | apply wct rfl
 | (with_reducible apply zeq); rfl; exact tk; rfl; rfl; rfl; rfl
 | (with_reducible apply zc); (iterate 10 rfl); (first | exact impl_sumLots (by first | assumption | exact LQ.of (by assumption)) | exact impl_MulDiv_ok (by first | assumption | omega) | exact impl_MulDiv_no (by assumption)); exact fun _ => rfl; rfl; rfl; rfl
 | fail)
    all_goals exact endV [0, 2] rfl rfl rfl rfl rfl rfl
  · rw [sel_f hq2]
    repeat' (first
 | (intro h9; exfalso; first | contradiction | omega)
 | (with_reducible apply zds); exact tk; rfl; rfl; rfl; rfl; rfl
 | (with_reducible apply zd); rfl; exact tk; rfl
 | (with_reducible first | intro _ | apply wseq | apply zreg | apply thenQ_n | apply thenQ_r | apply thenQ_e | apply znil | apply wret | apply bodyQ_r | apply wblk | apply blkQ_n | apply blkQ_r | apply wskip | apply wexit)
 | apply wcf rfl
 | (with_reducible apply zeq); rfl; exact tk; rfl; rfl; rfl; rfl
 | (with_reducible apply zar); rfl; rfl; rfl; rfl; (first | omega | ((try simp only [List.length_append, List.length_cons, List.length_nil, List.length_map]); (try dsimp only); omega)); rfl; rfl
 | (with_reducible apply zix); rfl; exact tk; (iterate 7 rfl); (first | omega | ((try simp only [List.length_append, List.length_cons, List.length_nil, List.length_map]); (try dsimp only); omega)); rfl; rfl
 | (with_reducible apply zle); rfl; exact tk; rfl; rfl; rfl; rfl; (first | omega | ((try simp only [List.length_append, List.length_cons, List.length_nil, List.length_map]); (try dsimp only); omega)); rfl; rfl; rfl; rfl
 | (with_reducible apply zlit (α := Lot) (e := 99)); rfl; exact tk; (iterate 13 rfl)
 | (with_reducible apply zc); (iterate 10 rfl); (first | exact impl_sumLots (by first | assumption | exact LQ.of (by assumption)) | exact impl_MulDiv_ok (by first | assumption | omega) | exact impl_MulDiv_no (by assumption)); exact fun _ => rfl; rfl; rfl; rfl
 | fail)
    all_goals exact endV [0, 2] rfl rfl rfl rfl rfl rfl
def rvF {α : Type} [Enc α] (l : List α) (i : Int) (k : Int) : α := if k < i ∨ l.length - 1 - i < k then rd l (l.length - 1 - k) else rd l k
theorem rv_step {α : Type} [Enc α] {l : List α} {i : Int} (h : 0 ≤ i ∧ i < l.length - 1 - i) : swp (mkl l.length (rvF l i)) i (l.length - 1 - i) = mkl l.length (rvF l (i + 1)) := ext_rd (by rw [swp_len, mkl_len, mkl_len]) fun k h0 h1 => by
  rw [swp_len, mkl_len] at h1
  rw [rd_mkl ⟨h0, h1⟩]
  by_cases e1 : k = i
  · subst e1
    rw [swp_l (by rw [mkl_len]; omega) (by rw [mkl_len]; omega), rd_mkl ⟨by omega, by omega⟩, rvF, rvF, if_neg (by omega), if_pos (by omega)]
  · by_cases e2 : k = l.length - 1 - i
    · subst e2
      rw [swp_r (by rw [mkl_len]; omega), rd_mkl ⟨by omega, by omega⟩, rvF, rvF, if_neg (by omega), if_pos (by omega)]
      congr 1
      omega
    · rw [swp_o (by omega) (by omega) h0 e1 e2, rd_mkl ⟨h0, h1⟩, rvF, rvF]
      by_cases c1 : k < i ∨ l.length - 1 - i < k
      · rw [if_pos c1, if_pos (by omega)]
      · rw [if_neg c1, if_neg (by omega)]
theorem rv_fin {α : Type} [Enc α] {l : List α} {i : Int} (h : 0 ≤ i) (hi : ¬ i < l.length - 1 - i) : mkl l.length (rvF l i) = l.reverse := ext_rd (by rw [mkl_len, List.length_reverse]) fun k h0 h1 => by
  rw [mkl_len] at h1
  have hr : rd l.reverse k = rd l (l.length - 1 - k) := by
    unfold rd
    rw [List.getD_eq_getElem?_getD, List.getD_eq_getElem?_getD, List.getElem?_reverse (by omega)]
    congr 2
    omega
  rw [rd_mkl ⟨h0, h1⟩, hr, rvF]
  by_cases c1 : k < i ∨ l.length - 1 - i < k
  · rw [if_pos c1]
  · rw [if_neg c1]
    congr 1
    omega
theorem rv_init {α : Type} [Enc α] (l : List α) : mkl l.length (rvF l 0) = l := ext_rd (mkl_len _ _) fun k h0 h1 => by
  rw [mkl_len] at h1
  rw [rd_mkl ⟨h0, h1⟩, rvF, if_neg (by omega)]
set_option maxHeartbeats 4000000 in
theorem slices_Reverse_Lot {l : List Lot} (hl : l.length ≤ 1000000) : FC Tryz.prog 244 [.c (.row 0 0 l.length)] ([ow 99 l]) (.tup []) ([ow 99 l.reverse]) := by
  refine fent tk 28 [] Tryz.func244 (by kernel_rfl) rfl rfl rfl rfl rfl rfl rfl ?_
  have hmk := mkl_len l.length (rvF l 0)
  repeat' (first
 | (with_reducible apply zds); exact tk; rfl; rfl; rfl; rfl; rfl
 | (with_reducible first | intro _ | apply wseq | apply zreg | apply thenQ_n | apply thenQ_r | apply thenQ_e | apply znil | apply wret | apply bodyQ_r | apply wblk | apply blkQ_n | apply blkQ_r | apply wskip | apply wexit)
 | (with_reducible apply zar); rfl; rfl; rfl; rfl; (first | omega | ((try simp only [List.length_append, List.length_cons, List.length_nil, List.length_map]); (try dsimp only); omega)); rfl; rfl
 | fail)
  refine wlp (X := Int × Int) [0] [0] (fun x => [(2, I x.1), (3, I x.2)]) (fun x => [(0, ow 99 (mkl l.length (rvF l x.1)))]) (fun x => (0 ≤ x.1 ∧ x.1 ≤ l.length) ∧ x.2 = l.length - 1 - x.1) (fun x => (l.length - x.1).toNat) (0, l.length - 1) ⟨⟨by dsimp only; omega, by dsimp only; omega⟩, by dsimp only; omega⟩ rfl rfl (fun _ => rfl) (fun _ => rfl) (by dsimp only; rw [rv_init]; exact ⟨rfl, rfl, rfl, rfl, rfl, rfl, rfl, rfl⟩) (fun x hx => ?_)
  obtain ⟨i, j⟩ := x
  obtain ⟨h0, hj⟩ := hx
  dsimp only at h0 hj ⊢
  have hml := mkl_len l.length (rvF l i)
  subst hj
  by_cases hij : i < l.length - 1 - i
  · have hst := rv_step (l := l) (i := i) ⟨h0.1, by omega⟩
    repeat' (first
 | (intro h9; exfalso; first | contradiction | omega)
 | (with_reducible apply zds); exact tk; rfl; rfl; rfl; rfl; rfl
 | (with_reducible apply zd); rfl; exact tk; rfl
 | (with_reducible apply zse); rfl; exact tk; (iterate 6 rfl); (rw [upd_len]; omega); rfl; rfl; rfl; rfl; rfl
 | (with_reducible first | intro _ | apply wseq | apply zreg | apply thenQ_n | apply thenQ_r | apply thenQ_e | apply znil | apply wret | apply bodyQ_r | apply wblk | apply blkQ_n | apply blkQ_r | apply wskip | apply wexit)
 | apply wct rfl
 | (with_reducible apply zcmp); rfl; exact tk; rfl; rfl; rfl
 | (with_reducible apply zar); rfl; rfl; rfl; rfl; (first | omega | ((try simp only [List.length_append, List.length_cons, List.length_nil, List.length_map]); (try dsimp only); omega)); rfl; rfl
 | (with_reducible apply zix); rfl; exact tk; (iterate 7 rfl); (first | omega | ((try simp only [List.length_append, List.length_cons, List.length_nil, List.length_map]); (try dsimp only); omega)); rfl; rfl
 | (with_reducible apply zle); rfl; exact tk; rfl; rfl; rfl; rfl; (first | omega | ((try simp only [List.length_append, List.length_cons, List.length_nil, List.length_map]); (try dsimp only); omega)); rfl; rfl; rfl; rfl
 | (with_reducible apply zse); rfl; exact tk; (iterate 6 rfl); (first | omega | ((try simp only [List.length_append, List.length_cons, List.length_nil, List.length_map]); (try dsimp only); omega)); rfl; rfl; rfl; rfl; rfl
 | refine zdq (id := 3) rfl (by kernel_rfl) [(.p, 0), (.p, 1), (.p, 2), (.p, 3), (.p, 4), (.p, 5), (.p, 6), (.p, 8), (.p, 9), (.p, 10), (.t, 7), (.t, 11), (.p, 12), (.l, 13), (.p, 14), (.l, 15)] [13, 15] (by kernel_rfl) rfl ?_
 | fail)
    all_goals
      rw [show upd (upd (mkl l.length (rvF l i)) i ⟨(rd (mkl l.length (rvF l i)) (l.length - 1 - i)).Account, (rd (mkl l.length (rvF l i)) (l.length - 1 - i)).Instr, (rd (mkl l.length (rvF l i)) (l.length - 1 - i)).No, (rd (mkl l.length (rvF l i)) (l.length - 1 - i)).Qty, (rd (mkl l.length (rvF l i)) (l.length - 1 - i)).Cost⟩) (l.length - 1 - i) ⟨(rd (mkl l.length (rvF l i)) i).Account, (rd (mkl l.length (rvF l i)) i).Instr, (rd (mkl l.length (rvF l i)) i).No, (rd (mkl l.length (rvF l i)) i).Qty, (rd (mkl l.length (rvF l i)) i).Cost⟩ = mkl l.length (rvF l (i + 1)) from hst]
      exact endR (i + 1, l.length - 1 - i - 1) [0] ⟨rfl, rfl, rfl, rfl, rfl, rfl, rfl, rfl⟩ ⟨⟨by dsimp only; omega, by dsimp only; omega⟩, by dsimp only; omega⟩ (by first | omega | (dsimp only; omega))
  · have hfi := rv_fin (l := l) h0.1 (by omega)
    repeat' (first
 | (intro h9; exfalso; first | contradiction | omega)
 | (with_reducible apply zds); exact tk; rfl; rfl; rfl; rfl; rfl
 | (with_reducible first | intro _ | apply wseq | apply zreg | apply thenQ_n | apply thenQ_r | apply thenQ_e | apply znil | apply wret | apply bodyQ_r | apply wblk | apply blkQ_n | apply blkQ_r | apply wskip | apply wexit)
 | apply wcf rfl
 | (with_reducible apply blkQ_x rfl)
 | (with_reducible apply zcmp); rfl; exact tk; rfl; rfl; rfl
 | fail)
    all_goals
      rw [hfi]
      exact endV [0] rfl rfl rfl rfl rfl rfl
set_option maxHeartbeats 4000000 in
theorem impl_withLots_1 {a c n q k u v : Int} : FC Tryz.prog 273 [.agg [.sc (.int .i64 a), .sc (.int .i64 c), .sc (.int .i64 n), .sc (.int .i64 q), .sc (.int .i64 k)], .c (.ptr 0 0 0), .c (.ptr 1 0 0)] ([vI u, vI v]) (B (dB (a = u ∧ c = v))) ([vI u, vI v]) := by
  refine fent tk 9 [.tmp 4] Tryz.func273 (by kernel_rfl) rfl rfl rfl rfl rfl rfl rfl ?_
  repeat' (first
 | (with_reducible apply zds); exact tk; rfl; rfl; rfl; rfl; rfl
 | (with_reducible apply zd); rfl; exact tk; rfl
 | (with_reducible first | intro _ | apply wseq | apply zreg | apply thenQ_n | apply thenQ_r | apply thenQ_e | apply znil | apply wret | apply bodyQ_r | apply wblk | apply blkQ_n | apply blkQ_r | apply wskip | apply wexit)
 | (with_reducible apply zcp); (iterate 10 rfl); exact impl_isLot; rfl; rfl
 | fail)
  all_goals first | exact endY [0, 1] rfl rfl rfl rfl rfl rfl (by assumption) | exact endN [0, 1] rfl rfl rfl rfl rfl rfl (by assumption)
set_option maxHeartbeats 4000000 in
theorem slices_IndexFunc_Lot_wl {l : List Lot} {u v : Int} : FC Tryz.prog 259 [.c (.row 0 0 l.length), .c (.fn 273 [(1, 0, 0), (2, 0, 0)])] ([ro 99 l, vI u, vI v]) (sel (∃ x ∈ l, x.Account = u ∧ x.Instr = v) (I (fIx l (fun x => x.Account = u ∧ x.Instr = v))) (I (-1))) (sel (∃ x ∈ l, x.Account = u ∧ x.Instr = v) [ro 99 l, vI u, vI v] [ro 99 l, vI u, vI v]) := by
  refine fent tk 19 [.tmp 4] Tryz.func259 (by kernel_rfl) rfl rfl rfl rfl rfl rfl rfl ?_
  refine wlen l 0 rfl (fun hl => ?_)
  repeat' (first
 | (with_reducible apply zds); exact tk; rfl; rfl; rfl; rfl; rfl
 | (with_reducible apply zd); rfl; exact tk; rfl
 | (with_reducible first | intro _ | apply wseq | apply zreg | apply thenQ_n | apply thenQ_r | apply thenQ_e | apply znil | apply wret | apply bodyQ_r | apply wblk | apply blkQ_n | apply blkQ_r | apply wskip | apply wexit)
 | fail)
  refine wlp (X := Int) [0, 1, 7] [0, 1, 2] (fun i => [(8, I i)]) (fun _ => []) (fun i => 0 ≤ i ∧ i ≤ l.length ∧ ∀ j : Int, 0 ≤ j → j < i → ¬ (fun x => x.Account = u ∧ x.Instr = v) (rd l j)) (fun i => (l.length - i).toNat) 0 ⟨by omega, by omega, fun j h0 h1 => by omega⟩ rfl rfl (fun _ => rfl) (fun _ => rfl) ⟨rfl, rfl, rfl, rfl, rfl, rfl, rfl, rfl⟩ (fun i hi => ?_)
  obtain ⟨h0, hi, hall⟩ := hi
  skip
  repeat' (first
 | (with_reducible apply zds); exact tk; rfl; rfl; rfl; rfl; rfl
 | (with_reducible apply zd); rfl; exact tk; rfl
 | (with_reducible apply zcp); (iterate 10 rfl); exact impl_withLots_1; rfl; rfl
 | (with_reducible first | intro _ | apply wseq | apply zreg | apply thenQ_n | apply thenQ_r | apply thenQ_e | apply znil | apply wret | apply bodyQ_r | apply wblk | apply blkQ_n | apply blkQ_r | apply wskip | apply wexit)
 | apply wct rfl
 | apply wcf rfl
 | (with_reducible apply blkQ_x rfl)
 | (with_reducible apply zcmp); rfl; exact tk; rfl; rfl; rfl
 | (with_reducible apply zar); rfl; rfl; rfl; rfl; (first | omega | ((try simp only [List.length_append, List.length_cons, List.length_nil, List.length_map]); (try dsimp only); omega)); rfl; rfl
 | (with_reducible apply zix); rfl; exact tk; (iterate 7 rfl); (first | omega | ((try simp only [List.length_append, List.length_cons, List.length_nil, List.length_map]); (try dsimp only); omega)); rfl; rfl
 | (with_reducible apply zle); rfl; exact tk; rfl; rfl; rfl; rfl; (first | omega | ((try simp only [List.length_append, List.length_cons, List.length_nil, List.length_map]); (try dsimp only); omega)); rfl; rfl; rfl; rfl
 | fail)
  all_goals first
    | (refine endG (X' := I i) (hs' := [ro 99 l, vI u, vI v]) [0, 1, 2] rfl rfl rfl rfl rfl rfl ?_ ?_
       · rw [sel_t ⟨rd l i, rd_mem ⟨by omega, by omega⟩, by assumption⟩, fIx_eq ⟨by omega, by omega⟩ hall (by assumption)]
       · rw [sel_t ⟨rd l i, rd_mem ⟨by omega, by omega⟩, by assumption⟩])
    | exact endF (no_rd (by assumption) hall) [0, 1, 2] rfl rfl rfl rfl rfl rfl
    | exact endR (i + 1) [0, 1, 2] ⟨rfl, rfl, rfl, rfl, rfl, rfl, rfl, rfl⟩ ⟨by omega, by omega, all_step hall (by assumption)⟩ (by first | omega | (dsimp only; omega))
set_option maxHeartbeats 4000000 in
theorem slices_DeleteFunc_Lot_wl {l : List Lot} {u v : Int} (hl : l.length ≤ 1000000) : FC Tryz.prog 260 [.c (.row 0 0 l.length), .c (.fn 273 [(1, 0, 0), (2, 0, 0)])] ([ow 99 l, vI u, vI v]) (.c (.row 0 0 (flt (fun x => ¬ (x.Account = u ∧ x.Instr = v)) l).length)) ([ow 99 (flt (fun x => ¬ (x.Account = u ∧ x.Instr = v)) l), vI u, vI v]) := by
  refine fent tk 42 [.tmp 4] Tryz.func260 (by kernel_rfl) rfl rfl rfl rfl rfl rfl rfl ?_
  repeat' (first
 | (with_reducible apply zds); exact tk; rfl; rfl; rfl; rfl; rfl
 | (with_reducible apply zd); rfl; exact tk; rfl
 | (with_reducible first | intro _ | apply wseq | apply zreg | apply thenQ_n | apply thenQ_r | apply thenQ_e | apply znil | apply wret | apply bodyQ_r | apply wblk | apply blkQ_n | apply blkQ_r | apply wskip | apply wexit)
 | apply wct rfl
 | apply wcf rfl
 | (with_reducible apply zcmp); rfl; exact tk; rfl; rfl; rfl
 | (with_reducible apply zar); rfl; rfl; rfl; rfl; (first | omega | ((try simp only [List.length_append, List.length_cons, List.length_nil, List.length_map]); (try dsimp only); omega)); rfl; rfl
 | (with_reducible apply zcs); (iterate 10 rfl); (first | exact slices_IndexFunc_Lot_of | exact slices_IndexFunc_Lot_ok (by assumption) | exact slices_IndexFunc_Lot_wl); exact fun _ => rfl; exact fun _ => rfl; rfl; rfl; rfl; rfl
 | fail)
  · rename_i hex hm
    have := fIx_nn l (fun x => x.Account = u ∧ x.Instr = v)
    exfalso; omega
  · rename_i hex hm
    have hn := fIx_lt hex
    have hn2 := fIx_nn l (fun x => x.Account = u ∧ x.Instr = v)
    repeat' (first
 | (with_reducible apply zd); rfl; exact tk; rfl
 | (with_reducible first | intro _ | apply wseq | apply zreg | apply thenQ_n | apply thenQ_r | apply thenQ_e | apply znil | apply wret | apply bodyQ_r | apply wblk | apply blkQ_n | apply blkQ_r | apply wskip | apply wexit)
 | (with_reducible apply zar); rfl; rfl; rfl; rfl; (first | omega | ((try simp only [List.length_append, List.length_cons, List.length_nil, List.length_map]); (try dsimp only); omega)); rfl; rfl
 | fail)
    refine wlp (X := Int × Int × List Lot) [0, 1] [0, 1, 2] (fun x => [(5, I x.1), (6, I x.2.1)]) (fun x => [(0, ow 99 x.2.2)]) (fun x => DfI l (fun x => x.Account = u ∧ x.Instr = v) x.1 x.2.1 x.2.2) (fun x => (l.length - x.2.1).toNat) (fIx l (fun x => x.Account = u ∧ x.Instr = v), fIx l (fun x => x.Account = u ∧ x.Instr = v) + 1, l) (DfI.init hex) rfl rfl (fun _ => rfl) (fun _ => rfl) ⟨rfl, rfl, rfl, rfl, rfl, rfl, rfl, rfl⟩ (fun x hx => ?_)
    obtain ⟨i, j, xs⟩ := x
    dsimp only at hx ⊢
    obtain ⟨h0, h1, h2⟩ := hx.bnd
    have hlen := hx.len
    repeat' (first
 | (with_reducible apply zds); exact tk; rfl; rfl; rfl; rfl; rfl
 | (with_reducible apply zd); rfl; exact tk; rfl
 | (with_reducible apply zcp); (iterate 10 rfl); exact impl_withLots_1; rfl; rfl
 | (with_reducible first | intro _ | apply wseq | apply zreg | apply thenQ_n | apply thenQ_r | apply thenQ_e | apply znil | apply wret | apply bodyQ_r | apply wblk | apply blkQ_n | apply blkQ_r | apply wskip | apply wexit)
 | apply wct rfl
 | apply wcf rfl
 | (with_reducible apply blkQ_x rfl)
 | (with_reducible apply zcmp); rfl; exact tk; rfl; rfl; rfl
 | (with_reducible apply zar); rfl; rfl; rfl; rfl; (first | omega | ((try simp only [List.length_append, List.length_cons, List.length_nil, List.length_map]); (try dsimp only); omega)); rfl; rfl
 | (with_reducible apply zix); rfl; exact tk; (iterate 7 rfl); (first | omega | ((try simp only [List.length_append, List.length_cons, List.length_nil, List.length_map]); (try dsimp only); omega)); rfl; rfl
 | (with_reducible apply zle); rfl; exact tk; rfl; rfl; rfl; rfl; (first | omega | ((try simp only [List.length_append, List.length_cons, List.length_nil, List.length_map]); (try dsimp only); omega)); rfl; rfl; rfl; rfl
 | (with_reducible apply zse); rfl; exact tk; (iterate 6 rfl); (first | omega | ((try simp only [List.length_append, List.length_cons, List.length_nil, List.length_map]); (try dsimp only); omega)); rfl; rfl; rfl; rfl; rfl
 | (with_reducible apply zslr); rfl; exact tk; (iterate 8 rfl); omega; rfl; rfl
 | fail)
    · rename_i h3 h4
      exact endR (i, j + 1, xs) [0, 1, 2] ⟨rfl, rfl, rfl, rfl, rfl, rfl, rfl, rfl⟩ (hx.skip (by omega) h4) (by first | omega | (dsimp only; omega))
    · rename_i h3 h4
      exact endR (i + 1, j + 1, upd xs i (rd xs j)) [0, 1, 2] ⟨rfl, rfl, rfl, rfl, rfl, rfl, rfl, rfl⟩ (hx.keep (by omega) h4) (by first | omega | (dsimp only; omega))
    · refine zclr rfl tk rfl rfl rfl rfl rfl rfl rfl (by omega) rfl rfl ?_
      repeat' (first
 | (with_reducible apply zds); exact tk; rfl; rfl; rfl; rfl; rfl
 | (with_reducible apply zd); rfl; exact tk; rfl
 | (with_reducible first | intro _ | apply wseq | apply zreg | apply thenQ_n | apply thenQ_r | apply thenQ_e | apply znil | apply wret | apply bodyQ_r | apply wblk | apply blkQ_n | apply blkQ_r | apply wskip | apply wexit)
 | (with_reducible apply zslr); rfl; exact tk; (iterate 8 rfl); omega; rfl; rfl
 | fail)
      exact endG (X' := .c (.row 0 0 (i.toNat - Int.toNat 0))) (hs' := [ow 99 (xs.take i.toNat), vI u, vI v]) [0, 1, 2] rfl rfl rfl rfl rfl rfl (by rw [← hx.len2 (by assumption)]; rfl) (by rw [hx.fin (by assumption)])
  · rename_i hex hm
    exact endG (X' := .c (.row 0 0 l.length)) (hs' := [ow 99 l, vI u, vI v]) [0, 1, 2] rfl rfl rfl rfl rfl rfl (by rw [flt_all (fun x hx k => hex ⟨x, hx, k⟩)]) (by rw [flt_all (fun x hx k => hex ⟨x, hx, k⟩)])
  · exfalso; omega
structure WL (l own : List Lot) (a c : Int) (own' : List Lot) : Prop where
  pw : l.Pairwise lb2
  pw2 : own'.Pairwise lb2
  perm : own.Perm own'
  of_ : ∀ x ∈ own', x.Account = a ∧ x.Instr = c
theorem WL.sort {l own own' : List Lot} {a c : Int} (h : WL l own a c own') : ∀ d : List Lot, d.Perm (lotsNot l a c ++ own) → d.Pairwise (fun x y => ¬ lb2 y x) → d = mrg (lotsNot l a c) own' := fun d h1 h2 => sort_mrg h1 h.perm h2 (lotsNot_pw h.pw) h.pw2 (apart_of h.of_)
set_option maxHeartbeats 4000000 in
theorem impl_withLots {l own own' : List Lot} {a c : Int} (hw : WL l own a c own') (hl : l.length ≤ 1000000) (hl2 : own.length ≤ 1000000) : FC Tryz.prog 246 [.c (.row 0 0 l.length), I a, I c, .c (.row 1 0 own.length)] ([ro 99 l, ro 99 own]) (.c (.row 2 0 (mrg (lotsNot l a c) own').length)) ([ro 99 l, ro 99 own, ow 99 (mrg (lotsNot l a c) own')]) := by
  refine fent tk 20 [.tmp 8] Tryz.func246 (by kernel_rfl) rfl rfl rfl rfl rfl rfl rfl ?_
  have hfl := flt_le (fun x : Lot => ¬ (x.Account = a ∧ x.Instr = c)) l
  have hso := hw.sort
  have hml : (mrg (lotsNot l a c) own').length = (lotsNot l a c ++ own).length := by rw [mrg_len, List.length_append, hw.perm.length_eq]
  repeat' (first
 | (with_reducible apply zds); exact tk; rfl; rfl; rfl; rfl; rfl
 | (with_reducible apply zd); rfl; exact tk; rfl
 | (with_reducible first | intro _ | apply wseq | apply zreg | apply thenQ_n | apply thenQ_r | apply thenQ_e | apply znil | apply wret | apply bodyQ_r | apply wblk | apply blkQ_n | apply blkQ_r | apply wskip | apply wexit)
 | (with_reducible apply zap); rfl; exact tk; (iterate 10 rfl); (first | omega | ((try simp only [List.length_append, List.length_cons, List.length_nil, List.length_map]); (try dsimp only); omega)); rfl; rfl; rfl; rfl; rfl
 | (with_reducible apply zcf); (iterate 10 rfl); exact slices_Clone_Lot (by omega); rfl; rfl; rfl; rfl; rfl
 | (with_reducible apply zcw  [true]); (iterate 10 rfl); (first | exact slices_DeleteFunc_Lot_of (by omega) | exact slices_DeleteFunc_Lot_wl (by omega) | exact slices_SortFunc_Lot (by first | omega | (simp only [List.length_append]; omega)) (by assumption)); rfl; rfl; rfl; rfl
 | fail)
  all_goals exact endG (X' := .c (.row 2 0 (lotsNot l a c ++ own).length)) (hs' := [ro 99 l, ro 99 own, ow 99 (mrg (lotsNot l a c) own')]) [0, 1, 5] rfl rfl rfl rfl rfl rfl (by rw [hml]) rfl
end Go.Proofs.YtnlajjoheegbiaaGreat.Sh
namespace Go.Proofs.YtnlajjoheegbiaaGreat.Sh
open Go.RowKit
set_option linter.unusedVariables false
set_option linter.unusedSimpArgs false
noncomputable def lotTake (l : List Lot) (a c q way : Int) : List Lot × Int × Int :=
  sel (¬ (LotsOk l ∧ inP q 1 1000000000000000 ∧ inP way 1 3)) ([], 0, 1) (sel (sQ (lotsOf l a c) < q) (l, 0, 2) (mrg (lotsNot l a c) (tkL (lotsOf l a c) q way), tkC (lotsOf l a c) q way, 0))
section
variable {l : List Lot} {a c q way : Int}
theorem lt_1 (h : ¬ (LotsOk l ∧ inP q 1 1000000000000000 ∧ inP way 1 3)) : lotTake l a c q way = ([], 0, 1) := by rw [lotTake, sel_t h]
theorem lt_2 (h : LotsOk l ∧ inP q 1 1000000000000000 ∧ inP way 1 3) (h2 : sQ (lotsOf l a c) < q) : lotTake l a c q way = (l, 0, 2) := by rw [lotTake, sel_f (fun k => k h), sel_t h2]
theorem lt_0 (h : LotsOk l ∧ inP q 1 1000000000000000 ∧ inP way 1 3) (h2 : ¬ sQ (lotsOf l a c) < q) : lotTake l a c q way = (mrg (lotsNot l a c) (tkL (lotsOf l a c) q way), tkC (lotsOf l a c) q way, 0) := by rw [lotTake, sel_f (fun k => k h), sel_f h2]
theorem tkL_1 {own : List Lot} {q : Int} : tkL own q 1 = (tkq own q).1 ∧ tkC own q 1 = (tkq own q).2 := ⟨by rw [tkL, sel_f (by decide), sel_f (by decide)], by rw [tkC, pick_f (by decide), pick_f (by decide)]⟩
theorem tkL_2 {own : List Lot} {q : Int} : tkL own q 2 = (tkq own.reverse q).1.reverse ∧ tkC own q 2 = (tkq own.reverse q).2 := ⟨by rw [tkL, sel_f (by decide), sel_t rfl], by rw [tkC, pick_f (by decide), pick_t rfl]⟩
theorem LotsOk.wl (h : LotsOk l) {own : List Lot} (hn : 0 < ((lotsOf l a c).length : Int)) (hp : own.Perm (tkL (lotsOf l a c) q way)) : WL l own a c (tkL (lotsOf l a c) q way) := ⟨h.pw, tkL_pw (lotsOf_pw h.pw), hp, tkL_of (fun x hx => (lotsOf_mem.1 hx).2) hn⟩
end
set_option maxHeartbeats 4000000 in
theorem impl_LotTake {l : List Lot} {a c q way : Int} : FC Tryz.prog 197 [.c (.row 0 0 l.length), I a, I c, I q, I way] ([ro 99 l]) (.tup [.c (.row 1 0 (lotTake l a c q way).1.length), I (lotTake l a c q way).2.1, I (lotTake l a c q way).2.2]) ([ro 99 l, ow 99 (lotTake l a c q way).1]) := by
  refine fent tk 78 [.tmp 10, .tmp 11, .tmp 12] Tryz.func197 (by kernel_rfl) rfl rfl rfl rfl rfl rfl rfl ?_
  by_cases hok : LotsOk l ∧ inP q 1 1000000000000000 ∧ inP way 1 3
  rotate_left
  ·
    rw [lt_1 hok]
    repeat' (first
 | (intro h9; exact absurd ⟨by assumption, by assumption, by assumption⟩ hok)
 | (with_reducible apply znila (d := 10) 99 5); rfl; rfl; rfl
 | (with_reducible apply zd); rfl; exact tk; rfl
 | (with_reducible first | intro _ | apply wseq | apply zreg | apply thenQ_n | apply thenQ_r | apply thenQ_e | apply znil | apply wret | apply bodyQ_r | apply wblk | apply blkQ_n | apply blkQ_r | apply wskip | apply wexit)
 | apply wct rfl
 | (with_reducible apply zcp); (iterate 10 rfl); (first | exact impl_LotsOk | exact impl_in); rfl; rfl
 | fail)
    all_goals first | exact endV [0, 2] rfl rfl rfl rfl rfl rfl | exact endV [0, 1] rfl rfl rfl rfl rfl rfl | trace_state
  obtain ⟨h1, h2, h3⟩ := id hok
  have hll := h1.1.2
  have hlq := h1.q
  have h2' := h2
  have h3' := h3
  unfold inP at h2' h3'
  by_cases hsh : sQ (lotsOf l a c) < q
  ·
    rw [lt_2 hok hsh]
    repeat' (first
 | (intro h9; exfalso; first | contradiction | omega)
 | (with_reducible apply zds); exact tk; rfl; rfl; rfl; rfl; rfl
 | (with_reducible apply zd); rfl; exact tk; rfl
 | (with_reducible first | intro _ | apply wseq | apply zreg | apply thenQ_n | apply thenQ_r | apply thenQ_e | apply znil | apply wret | apply bodyQ_r | apply wblk | apply blkQ_n | apply blkQ_r | apply wskip | apply wexit)
 | apply wct rfl
 | apply wcf rfl
 | (with_reducible apply zcmp); rfl; exact tk; rfl; rfl; rfl
 | (with_reducible apply zcp); (iterate 10 rfl); (first | exact impl_LotsOk | exact impl_in); rfl; rfl
 | (with_reducible apply zcf); (iterate 10 rfl); (first | exact impl_lotsOf (by first | omega | (have := LQ.len (by assumption); omega)) | exact slices_Clone_Lot (by omega) | exact impl_takeLots (by assumption) (by omega) (by omega) (by omega) | exact impl_meanLots (by assumption) (by omega) (by omega) (by assumption) (by omega) | exact impl_withLots (by assumption) (by omega) (by omega)); rfl; rfl; rfl; rfl; rfl
 | (with_reducible apply zc); (iterate 10 rfl); exact impl_sumLots (by first | assumption | exact LQ.of (by assumption)); exact fun _ => rfl; rfl; rfl; rfl
 | fail)
    all_goals first | exact endV [0, 3] rfl rfl rfl rfl rfl rfl | exact endV [0, 2] rfl rfl rfl rfl rfl rfl | trace_state
  rw [lt_0 hok hsh]
  have hown := h1.own a c
  have hln := sQ_pos (l := lotsOf l a c) (by omega)
  have hlo : (lotsOf l a c).length ≤ l.length := flt_le _ _
  have hg : LG (lotsOf l a c) := h1.LG.flt _
  have hlq2 : LQ (lotsOf l a c) := LQ.of hlq
  by_cases w3 : way = 3
  · subst w3
    have hw := h1.wl (a := a) (c := c) (q := q) (way := 3) hln (.refl _)
    have hwl := tkL_len (q := q) (way := 3) hln
    repeat' (first
 | (intro h9; exfalso; first | contradiction | omega)
 | (with_reducible apply zds); exact tk; rfl; rfl; rfl; rfl; rfl
 | (with_reducible apply zd); rfl; exact tk; rfl
 | (with_reducible first | intro _ | apply wseq | apply zreg | apply thenQ_n | apply thenQ_r | apply thenQ_e | apply znil | apply wret | apply bodyQ_r | apply wblk | apply blkQ_n | apply blkQ_r | apply wskip | apply wexit)
 | apply wct rfl
 | apply wcf rfl
 | (with_reducible apply zcmp); rfl; exact tk; rfl; rfl; rfl
 | (with_reducible apply zcp); (iterate 10 rfl); (first | exact impl_LotsOk | exact impl_in); rfl; rfl
 | (with_reducible apply zcf); (iterate 10 rfl); (first | exact impl_lotsOf (by first | omega | (have := LQ.len (by assumption); omega)) | exact slices_Clone_Lot (by omega) | exact impl_takeLots (by assumption) (by omega) (by omega) (by omega) | exact impl_meanLots (by assumption) (by omega) (by omega) (by assumption) (by omega) | exact impl_withLots (by assumption) (by omega) (by omega)); rfl; rfl; rfl; rfl; rfl
 | (with_reducible apply zc); (iterate 10 rfl); exact impl_sumLots (by first | assumption | exact LQ.of (by assumption)); exact fun _ => rfl; rfl; rfl; rfl
 | fail)
    all_goals first | exact endV [0, 3] rfl rfl rfl rfl rfl rfl | trace_state
  by_cases w2 : way = 2
  · subst w2
    have hg2 := hg.rev
    have hlr : (lotsOf l a c).reverse.length = (lotsOf l a c).length := List.length_reverse
    have hcr := sC_rev (lotsOf l a c)
    have hw := h1.wl (a := a) (c := c) (q := q) (way := 2) (own := (tkq (lotsOf l a c).reverse q).1) hln (by rw [tkL_2.1]; exact (List.reverse_perm _).symm)
    have hwl := tk_len (lotsOf l a c).reverse q
    rw [tkL_2.2]
    repeat' (first
 | (intro h9; exfalso; first | contradiction | omega)
 | (with_reducible apply zds); exact tk; rfl; rfl; rfl; rfl; rfl
 | (with_reducible apply zd); rfl; exact tk; rfl
 | (with_reducible first | intro _ | apply wseq | apply zreg | apply thenQ_n | apply thenQ_r | apply thenQ_e | apply znil | apply wret | apply bodyQ_r | apply wblk | apply blkQ_n | apply blkQ_r | apply wskip | apply wexit)
 | apply wct rfl
 | apply wcf rfl
 | (with_reducible apply zcmp); rfl; exact tk; rfl; rfl; rfl
 | (with_reducible apply zcp); (iterate 10 rfl); (first | exact impl_LotsOk | exact impl_in); rfl; rfl
 | (with_reducible apply zcf); (iterate 10 rfl); (first | exact impl_lotsOf (by first | omega | (have := LQ.len (by assumption); omega)) | exact slices_Clone_Lot (by omega) | exact impl_takeLots (by assumption) (by omega) (by omega) (by omega) | exact impl_meanLots (by assumption) (by omega) (by omega) (by assumption) (by omega) | exact impl_withLots (by assumption) (by omega) (by omega)); rfl; rfl; rfl; rfl; rfl
 | (with_reducible apply zc); (iterate 10 rfl); exact impl_sumLots (by first | assumption | exact LQ.of (by assumption)); exact fun _ => rfl; rfl; rfl; rfl
 | (with_reducible apply zcw  [true]); (iterate 10 rfl); exact slices_Reverse_Lot (by omega); rfl; rfl; rfl; rfl
 | fail)
    rw [← hlr]
    repeat' (first
 | (with_reducible apply zds); exact tk; rfl; rfl; rfl; rfl; rfl
 | (with_reducible first | intro _ | apply wseq | apply zreg | apply thenQ_n | apply thenQ_r | apply thenQ_e | apply znil | apply wret | apply bodyQ_r | apply wblk | apply blkQ_n | apply blkQ_r | apply wskip | apply wexit)
 | (with_reducible apply zcf); (iterate 10 rfl); (first | exact impl_lotsOf (by first | omega | (have := LQ.len (by assumption); omega)) | exact slices_Clone_Lot (by omega) | exact impl_takeLots (by assumption) (by omega) (by omega) (by omega) | exact impl_meanLots (by assumption) (by omega) (by omega) (by assumption) (by omega) | exact impl_withLots (by assumption) (by omega) (by omega)); rfl; rfl; rfl; rfl; rfl
 | fail)
    all_goals first | exact endV [0, 3] rfl rfl rfl rfl rfl rfl | trace_state
  · have w1 : way = 1 := by omega
    subst w1
    have hw := h1.wl (a := a) (c := c) (q := q) (way := 1) (own := (tkq (lotsOf l a c) q).1) hln (by rw [tkL_1.1])
    have hwl := tk_len (lotsOf l a c) q
    rw [tkL_1.2]
    repeat' (first
 | (intro h9; exfalso; first | contradiction | omega)
 | (with_reducible apply zds); exact tk; rfl; rfl; rfl; rfl; rfl
 | (with_reducible apply zd); rfl; exact tk; rfl
 | (with_reducible first | intro _ | apply wseq | apply zreg | apply thenQ_n | apply thenQ_r | apply thenQ_e | apply znil | apply wret | apply bodyQ_r | apply wblk | apply blkQ_n | apply blkQ_r | apply wskip | apply wexit)
 | apply wct rfl
 | apply wcf rfl
 | (with_reducible apply zcmp); rfl; exact tk; rfl; rfl; rfl
 | (with_reducible apply zcp); (iterate 10 rfl); (first | exact impl_LotsOk | exact impl_in); rfl; rfl
 | (with_reducible apply zcf); (iterate 10 rfl); (first | exact impl_lotsOf (by first | omega | (have := LQ.len (by assumption); omega)) | exact slices_Clone_Lot (by omega) | exact impl_takeLots (by assumption) (by omega) (by omega) (by omega) | exact impl_meanLots (by assumption) (by omega) (by omega) (by assumption) (by omega) | exact impl_withLots (by assumption) (by omega) (by omega)); rfl; rfl; rfl; rfl; rfl
 | (with_reducible apply zc); (iterate 10 rfl); exact impl_sumLots (by first | assumption | exact LQ.of (by assumption)); exact fun _ => rfl; rfl; rfl; rfl
 | fail)
    all_goals first | exact endV [0, 3] rfl rfl rfl rfl rfl rfl | trace_state
end Go.Proofs.YtnlajjoheegbiaaGreat.Sh
