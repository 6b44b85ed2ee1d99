/- Lots: what is added up from group to group. No condition. -/
import Derived.Test.YtnlajjoheegbiaaGreatKNeShLo
namespace Go.Proofs.YtnlajjoheegbiaaGreat.Sh
open Go.RowKit
set_option linter.unusedVariables false
set_option linter.unusedSimpArgs false
noncomputable def lotsNot (l : List Lot) (a c : Int) : List Lot := flt (fun x => ¬ (x.Account = a ∧ x.Instr = c)) l
theorem lotsOf_append (a b : List Lot) (u v : Int) : lotsOf (a ++ b) u v = lotsOf a u v ++ lotsOf b u v := flt_append a b
theorem lotsOf_one (x : Lot) : lotsOf [x] x.Account x.Instr = [x] := flt_y (p := fun y : Lot => y.Account = x.Account ∧ y.Instr = x.Instr) ⟨rfl, rfl⟩
noncomputable def gF (f : Lot → Int) (l : List Lot) (i : Int) : Int := sumF f (lotsOf (pf l (i + 1)) (rd l i).Account (rd l i).Instr)
theorem lbef_trans {a c n a' c' n' a2 c2 n2 : Int} (h : lbef a c n a' c' n') (k : lbef a' c' n' a2 c2 n2) : lbef a c n a2 c2 n2 := by unfold lbef bef at *; omega
def LSd (l : List Lot) (m : Int) : Prop := ∀ i : Int, 0 < i → i < m → lbef (rd l (i - 1)).Account (rd l (i - 1)).Instr (rd l (i - 1)).No (rd l i).Account (rd l i).Instr (rd l i).No
theorem LSd.lt {l : List Lot} {m : Int} (h : LSd l m) {i j : Int} (h0 : 0 ≤ i) (hij : i < j) (hj : j < m) : lbef (rd l i).Account (rd l i).Instr (rd l i).No (rd l j).Account (rd l j).Instr (rd l j).No := by
  obtain ⟨n, rfl⟩ : ∃ n : Nat, j = i + 1 + n := ⟨(j - i - 1).toNat, by omega⟩
  induction n with
  | zero =>
    have := h (i + 1 + (0 : Nat)) (by omega) hj
    rwa [show i + 1 + ((0 : Nat) : Int) - 1 = i from by omega] at this
  | succ n ih =>
    have h1 := h (i + 1 + (n + 1 : Nat)) (by omega) hj
    rw [show i + 1 + ((n + 1 : Nat) : Int) - 1 = i + 1 + (n : Int) from by omega] at h1
    exact lbef_trans (ih (by omega) (by omega)) h1
theorem gF_step {f : Lot → Int} {l : List Lot} {i : Int} (h : 0 ≤ i ∧ i < l.length) : gF f l i = sumF f (lotsOf (pf l i) (rd l i).Account (rd l i).Instr) + f (rd l i) := by
  rw [gF, pf_succ h, lotsOf_append, lotsOf_one, sumF_append, sumF_one]
theorem gF_same {f : Lot → Int} {l : List Lot} {i : Int} (h : 0 < i ∧ i < l.length) (ha : (rd l i).Account = (rd l (i - 1)).Account) (hc : (rd l i).Instr = (rd l (i - 1)).Instr) : gF f l i = gF f l (i - 1) + f (rd l i) := by
  rw [gF_step ⟨by omega, h.2⟩, gF, ha, hc, show i - 1 + 1 = i from by omega]
theorem gF_new {f : Lot → Int} {l : List Lot} {i : Int} (h : 0 ≤ i ∧ i < l.length) (hs : LSd l (i + 1)) (hn : i = 0 ∨ ¬ (rd l i).Account = (rd l (i - 1)).Account ∨ ¬ (rd l i).Instr = (rd l (i - 1)).Instr) : gF f l i = f (rd l i) := by
  rw [gF_step h]
  have : lotsOf (pf l i) (rd l i).Account (rd l i).Instr = [] := by
    unfold lotsOf flt
    rw [List.filter_eq_nil_iff]
    intro x hx
    obtain ⟨j, hj, rfl⟩ := mem_rd (l := pf l i) hx
    rw [pf_len ⟨h.1, by omega⟩] at hj
    rw [rd_pf hj, dB_iff]
    rintro ⟨e1, e2⟩
    rcases hn with hn | hn
    · omega
    have h1 := hs.lt (i := i - 1) (j := i) (by omega) (by omega) (by omega)
    by_cases e : j = i - 1
    · subst e
      rcases hn with hn | hn
      · exact hn e1.symm
      · exact hn e2.symm
    · have h2 := hs.lt (i := j) (j := i - 1) hj.1 (by omega) (by omega)
      unfold lbef bef at h1 h2
      omega
  rw [this, sumF_nil, Int.zero_add]
theorem gF_le {f : Lot → Int} {l : List Lot} (hf : ∀ x ∈ l, 0 ≤ f x) {i : Int} (h : 0 ≤ i ∧ i < l.length) : 0 ≤ gF f l i ∧ gF f l i ≤ sumF f (lotsOf l (rd l i).Account (rd l i).Instr) := by
  have hm : ∀ x ∈ lotsOf (pf l (i + 1)) (rd l i).Account (rd l i).Instr, 0 ≤ f x := fun x hx => hf x (List.mem_of_mem_take (flt_mem.1 hx).1)
  refine ⟨sumF_nn hm, ?_⟩
  have e : l = pf l (i + 1) ++ l.drop (i + 1).toNat := (List.take_append_drop _ _).symm
  have h2 : sumF f (lotsOf l (rd l i).Account (rd l i).Instr) = sumF f (lotsOf (pf l (i + 1)) (rd l i).Account (rd l i).Instr) + sumF f (lotsOf (l.drop (i + 1).toNat) (rd l i).Account (rd l i).Instr) := by
    rw [← sumF_append, ← lotsOf_append, ← e]
  have h3 : 0 ≤ sumF f (lotsOf (l.drop (i + 1).toNat) (rd l i).Account (rd l i).Instr) := sumF_nn fun x hx => hf x (List.mem_of_mem_drop (flt_mem.1 hx).1)
  rw [h2, gF]
  omega
theorem gF_all {f : Lot → Int} {l : List Lot} {x : Lot} (hx : x ∈ l) : ∃ i : Int, (0 ≤ i ∧ i < l.length) ∧ gF f l i = sumF f (lotsOf l x.Account x.Instr) := by
  suffices H : ∀ n : Nat, ∀ i : Int, 0 ≤ i → i < l.length → (l.length - i).toNat = n → (rd l i).Account = x.Account → (rd l i).Instr = x.Instr → ∃ i : Int, (0 ≤ i ∧ i < l.length) ∧ gF f l i = sumF f (lotsOf l x.Account x.Instr) by
    obtain ⟨i, hi, rfl⟩ := mem_rd hx
    exact H _ i hi.1 hi.2 rfl rfl rfl
  intro n
  induction n using Nat.strongRecOn with
  | _ n ih =>
    intro i h0 h1 hn ha hc
    by_cases hex : ∃ j : Int, i < j ∧ j < l.length ∧ (rd l j).Account = x.Account ∧ (rd l j).Instr = x.Instr
    · obtain ⟨j, k1, k2, k3, k4⟩ := hex
      exact ih _ (by omega) j (by omega) k2 rfl k3 k4
    · refine ⟨i, ⟨h0, h1⟩, ?_⟩
      have e : l = pf l (i + 1) ++ l.drop (i + 1).toNat := (List.take_append_drop _ _).symm
      have h3 : lotsOf (l.drop (i + 1).toNat) x.Account x.Instr = [] := by
        unfold lotsOf flt
        rw [List.filter_eq_nil_iff]
        intro y hy
        obtain ⟨j, hj, rfl⟩ := mem_rd (l := l.drop (i + 1).toNat) hy
        rw [List.length_drop] at hj
        have e2 : rd (l.drop (i + 1).toNat) j = rd l (i + 1 + j) := by
          unfold rd
          rw [List.getD_eq_getElem?_getD, List.getD_eq_getElem?_getD, List.getElem?_drop]
          congr 2
          omega
        rw [e2, dB_iff]
        rintro ⟨e3, e4⟩
        exact hex ⟨i + 1 + j, by omega, by omega, e3, e4⟩
      have h2 : lotsOf l x.Account x.Instr = lotsOf (pf l (i + 1)) x.Account x.Instr ++ lotsOf (l.drop (i + 1).toNat) x.Account x.Instr := by
        rw [← lotsOf_append, ← e]
      rw [gF, ha, hc, h2, h3, List.append_nil]
theorem lots_run {l : List Lot} (h : ∀ i : Int, 0 ≤ i → i < l.length → lotAt l i) (hl : l.length ≤ 120) : LotsOk l ↔ ∀ i : Int, 0 ≤ i → i < l.length → amountOk (gF Lot.Qty l i) ∧ amountOk (gF Lot.Cost l i) := by
  have hq := lotAt_q h hl
  constructor
  · intro hk i h0 h1
    have k1 := hk.2 _ (rd_mem ⟨h0, h1⟩)
    have k2 := gF_le (f := Lot.Qty) (fun x hx => (hq.q x hx).1) ⟨h0, h1⟩
    have k3 := gF_le (f := Lot.Cost) (fun x hx => (hq.c x hx).1) ⟨h0, h1⟩
    unfold amountOk inP sQ sC at *
    omega
  · intro hk
    refine ⟨⟨h, hl⟩, fun x hx => ?_⟩
    obtain ⟨i, hi, e1⟩ := gF_all (f := Lot.Qty) hx
    obtain ⟨j, hj, e2⟩ := gF_all (f := Lot.Cost) hx
    unfold sQ sC
    rw [← e1, ← e2]
    exact ⟨(hk i hi.1 hi.2).1, (hk j hj.1 hj.2).2⟩
structure LRun (l : List Lot) (i q c : Int) : Prop where
  bnd : 0 ≤ i ∧ i ≤ l.length
  at_ : ∀ j : Int, 0 ≤ j → j < i → lotAt l j
  ok : ∀ j : Int, 0 ≤ j → j < i → amountOk (gF Lot.Qty l j) ∧ amountOk (gF Lot.Cost l j)
  qE : 0 < i → q = gF Lot.Qty l (i - 1)
  cE : 0 < i → c = gF Lot.Cost l (i - 1)
  z : i = 0 → q = 0 ∧ c = 0
theorem LRun.sd {l : List Lot} {i q c : Int} (h : LRun l i q c) (ha : lotAt l i) : LSd l (i + 1) := fun j h0 h1 => by
  by_cases e : j = i
  · subst e
    exact ha.2 h0
  · exact (h.at_ j (by omega) (by omega)).2 h0
theorem LRun.num {l : List Lot} {i q c : Int} (h : LRun l i q c) : (-1000000000000000 ≤ q ∧ q ≤ 1000000000000000) ∧ -1000000000000000 ≤ c ∧ c ≤ 1000000000000000 := by
  by_cases e : i = 0
  · have := h.z e
    omega
  · have h1 := h.ok (i - 1) (by have := h.bnd; omega) (by omega)
    rw [h.qE (by have := h.bnd; omega), h.cE (by have := h.bnd; omega)]
    exact h1
theorem LRun.new {l : List Lot} {i q c : Int} (h : LRun l i q c) (hi : i < l.length) (ha : lotAt l i) (hn : i = 0 ∨ ¬ (rd l i).Account = (rd l (i - 1)).Account ∨ ¬ (rd l i).Instr = (rd l (i - 1)).Instr) : gF Lot.Qty l i = (rd l i).Qty ∧ gF Lot.Cost l i = (rd l i).Cost :=
  ⟨gF_new ⟨h.bnd.1, hi⟩ (h.sd ha) hn, gF_new ⟨h.bnd.1, hi⟩ (h.sd ha) hn⟩
theorem LRun.same {l : List Lot} {i q c : Int} (h : LRun l i q c) (hi : i < l.length) (h0 : ¬ i = 0) (h1 : (rd l i).Account = (rd l (i - 1)).Account) (h2 : (rd l i).Instr = (rd l (i - 1)).Instr) : gF Lot.Qty l i = q + (rd l i).Qty ∧ gF Lot.Cost l i = c + (rd l i).Cost := by
  have := h.bnd
  rw [h.qE (by omega), h.cE (by omega)]
  exact ⟨gF_same ⟨by omega, hi⟩ h1 h2, gF_same ⟨by omega, hi⟩ h1 h2⟩
theorem LRun.step {l : List Lot} {i q c q' c' : Int} (h : LRun l i q c) (hi : i < l.length) (ha : lotAt l i) (hq : gF Lot.Qty l i = q' ∧ gF Lot.Cost l i = c') (k1 : amountOk q') (k2 : amountOk c') : LRun l (i + 1) q' c' := by
  have := h.bnd
  refine ⟨by omega, all_step h.at_ ha, all_step h.ok (by rw [hq.1, hq.2]; exact ⟨k1, k2⟩), fun _ => ?_, fun _ => ?_, fun e => by omega⟩
  · rw [show i + 1 - 1 = i from by omega]; exact hq.1.symm
  · rw [show i + 1 - 1 = i from by omega]; exact hq.2.symm
theorem LRun.fin {l : List Lot} {i q c : Int} (h : LRun l i q c) (hi : ¬ i < l.length) (hl : l.length ≤ 120) : LotsOk l := (lots_run (fun j h0 h1 => h.at_ j h0 (by omega)) hl).2 (fun j h0 h1 => h.ok j h0 (by omega))
theorem LRun.bad {l : List Lot} {i q' c' : Int} (hi : 0 ≤ i ∧ i < l.length) (hq : gF Lot.Qty l i = q' ∧ gF Lot.Cost l i = c') (k : ¬ amountOk q' ∨ ¬ amountOk c') : ¬ LotsOk l := fun hk => by
  have := (lots_run hk.1.1 hk.1.2).1 hk i hi.1 hi.2
  rw [hq.1, hq.2] at this
  rcases k with k | k
  · exact k this.1
  · exact k this.2
set_option maxHeartbeats 4000000 in
theorem spec_l5Before {a c n q k a' c' n' q' k' : Int} : FC Tryz.prog 212 [.agg [.sc (.int .i64 a), .sc (.int .i64 c), .sc (.int .i64 n), .sc (.int .i64 q), .sc (.int .i64 k)], .agg [.sc (.int .i64 a'), .sc (.int .i64 c'), .sc (.int .i64 n'), .sc (.int .i64 q'), .sc (.int .i64 k')]] ([]) (B (dB (lbef a c n a' c' n'))) ([]) := by
  refine fent tk 35 [.tmp 4] Tryz.func212 (by kernel_rfl) rfl rfl rfl rfl rfl rfl rfl ?_
  repeat' (first
 | (with_reducible apply zds); exact tk; rfl; rfl; rfl; rfl; rfl
 | (with_reducible first | intro _ | apply wseq | apply zreg | apply thenQ_n | apply thenQ_r | apply thenQ_e | apply znil | apply wret | apply bodyQ_r | apply wblk | apply blkQ_n | apply blkQ_r | apply wskip | apply wexit)
 | (with_reducible apply zcmp); rfl; exact tk; rfl; rfl; rfl
 | (with_reducible apply zcp); (iterate 10 rfl); exact spec_l4Before; rfl; rfl
 | fail)
  all_goals first | exact endY [] rfl rfl rfl rfl rfl rfl (.inl (by assumption)) | exact endY [] rfl rfl rfl rfl rfl rfl (.inr ⟨by assumption, by assumption, by assumption⟩) | exact endN [] rfl rfl rfl rfl rfl rfl (by rintro (h | h) <;> first | contradiction | (obtain ⟨e1, e2, e3⟩ := h; contradiction))
set_option maxHeartbeats 4000000 in
theorem spec_l5Right {a c n q k : Int} : FC Tryz.prog 211 [.agg [.sc (.int .i64 a), .sc (.int .i64 c), .sc (.int .i64 n), .sc (.int .i64 q), .sc (.int .i64 k)]] ([]) (B (dB (lotF a c n q k))) ([]) := by
  refine fent tk 26 [.tmp 2] Tryz.func211 (by kernel_rfl) rfl rfl rfl rfl rfl rfl rfl ?_
  repeat' (first
 | (with_reducible apply zds); exact tk; rfl; rfl; rfl; rfl; rfl
 | (with_reducible first | intro _ | apply wseq | apply zreg | apply thenQ_n | apply thenQ_r | apply thenQ_e | apply znil | apply wret | apply bodyQ_r | apply wblk | apply blkQ_n | apply blkQ_r | apply wskip | apply wexit)
 | (with_reducible apply zcp); (iterate 10 rfl); (first | exact spec_l3No | exact spec_l1In | exact spec_l1Some); rfl; rfl
 | fail)
  all_goals first | exact endY [] rfl rfl rfl rfl rfl rfl ⟨by assumption, by assumption, by assumption, by assumption, by assumption⟩ | exact endN [] rfl rfl rfl rfl rfl rfl (fun e => by obtain ⟨e1, e2, e3, e4, e5⟩ := e; contradiction)
set_option maxHeartbeats 4000000 in
theorem spec_LotsOk {l : List Lot} : FC Tryz.prog 139 [.c (.row 0 0 l.length)] ([ro 99 l]) (B (dB (LotsOk l))) ([ro 99 l]) := by
  refine fent tk 77 [.tmp 2] Tryz.func139 (by kernel_rfl) rfl rfl rfl rfl rfl rfl rfl ?_
  refine wlen l 0 rfl (fun hl => ?_)
  repeat' (first
 | (with_reducible apply zds); exact tk; rfl; rfl; rfl; rfl; rfl
 | (with_reducible apply zd); rfl; exact tk; rfl
 | (with_reducible first | intro _ | apply wseq | apply zreg | apply thenQ_n | apply thenQ_r | apply thenQ_e | apply znil | apply wret | apply bodyQ_r | apply wblk | apply blkQ_n | apply blkQ_r | apply wskip | apply wexit)
 | apply wct rfl
 | apply wcf rfl
 | (with_reducible apply zcmp); rfl; exact tk; rfl; rfl; rfl
 | fail)
  · exact endN [0] rfl rfl rfl rfl rfl rfl (fun h => absurd h.1.2 (by omega))
  rename_i hl2
  refine wlp (X := Int × Int × Int) [0] [0] (fun x => [(5, I x.1), (3, I x.2.1), (4, I x.2.2)]) (fun _ => []) (fun x => LRun l x.1 x.2.1 x.2.2) (fun x => (l.length - x.1).toNat) (0, 0, 0) ⟨by dsimp only; omega, fun j h0 h1 => by dsimp only at h1; omega, fun j h0 h1 => by dsimp only at h1; omega, fun h => by dsimp only at h; omega, fun h => by dsimp only at h; omega, fun _ => ⟨rfl, rfl⟩⟩ rfl rfl (fun _ => rfl) (fun _ => rfl) ⟨rfl, rfl, rfl, rfl, rfl, rfl, rfl, rfl⟩ (fun x hx => ?_)
  obtain ⟨i, q, c⟩ := x
  dsimp only at hx ⊢
  have hb := hx.bnd
  have hnum := hx.num
  have hf := fun (h : lotF (rd l i).Account (rd l i).Instr (rd l i).No (rd l i).Qty (rd l i).Cost) => (⟨h.2.2.2.1, h.2.2.2.2⟩ : inP (rd l i).Qty 1 1000000000000000 ∧ inP (rd l i).Cost 0 1000000000000000)
  repeat' (first
 | (with_reducible apply zds); exact tk; rfl; rfl; rfl; rfl; rfl
 | (with_reducible apply zd); rfl; exact tk; rfl
 | (with_reducible apply zar); rfl; rfl; rfl; rfl; (have hf1 := hf (by assumption); unfold inP at hf1; omega); rfl; rfl
 | (with_reducible first | intro _ | apply wseq | apply zreg | apply thenQ_n | apply thenQ_r | apply thenQ_e | apply znil | apply wret | apply bodyQ_r | apply wblk | apply blkQ_n | apply blkQ_r | apply wskip | apply wexit)
 | apply wct rfl
 | apply wcf rfl
 | (with_reducible apply blkQ_x rfl)
 | (with_reducible apply zcmp); rfl; exact tk; rfl; rfl; rfl
 | (with_reducible apply zne); rfl; exact tk; rfl; rfl; rfl; rfl
 | (with_reducible apply zix); rfl; exact tk; (iterate 7 rfl); (first | omega | ((try simp only [List.length_append, List.length_cons, List.length_nil, List.length_map]); (try dsimp only); omega)); rfl; rfl
 | (with_reducible apply zle); rfl; exact tk; rfl; rfl; rfl; rfl; (first | omega | ((try simp only [List.length_append, List.length_cons, List.length_nil, List.length_map]); (try dsimp only); omega)); rfl; rfl; rfl; rfl
 | refine zdq (id := 8) rfl (by kernel_rfl) [(.t, 0), (.o, 1), (.p, 2), (.p, 3), (.p, 4), (.p, 5), (.p, 6), (.p, 7), (.p, 8), (.p, 9), (.p, 10), (.t, 11), (.t, 12), (.o, 13), (.p, 14), (.p, 15), (.p, 16)] [] (by kernel_rfl) rfl ?_
 | refine zdq (id := 10) rfl (by kernel_rfl) [(.p, 0), (.p, 1), (.p, 2), (.p, 3), (.p, 5), (.p, 6), (.p, 7), (.p, 8), (.p, 9), (.t, 4), (.t, 10), (.p, 11), (.p, 12), (.p, 13), (.p, 14), (.p, 16), (.p, 17), (.p, 18), (.p, 19), (.p, 20), (.t, 15), (.t, 21), (.p, 22), (.p, 23)] [] (by kernel_rfl) rfl ?_
 | (with_reducible apply zcp); (iterate 10 rfl); (first | exact spec_l5Right | exact spec_l5Before | exact spec_AmountOk); rfl; rfl
 | fail)
  all_goals first
    | exact endN [0] rfl rfl rfl rfl rfl rfl (fun h => by
        obtain ⟨g0, g1⟩ := h.1.1 i (by omega) (by omega)
        first | contradiction | exact absurd (g1 (by omega)) (by assumption))
    | exact endY [0] rfl rfl rfl rfl rfl rfl (hx.fin (by assumption) (by omega))
    | (exfalso; omega)
    | (have hi' : i < l.length := by assumption
       have ha : lotAt l i := ⟨by assumption, fun h => by first | assumption | omega⟩
       first
       | (have hq := hx.new hi' ha (by first | exact .inl (by omega) | exact .inr (.inl (by assumption)) | exact .inr (.inr (by assumption)))
          rw [← Int.zero_add (rd l i).Qty, ← Int.zero_add (rd l i).Cost] at hq
          first
          | exact endR (i + 1, _, _) [0] ⟨rfl, rfl, rfl, rfl, rfl, rfl, rfl, rfl⟩ (hx.step hi' ha hq (by assumption) (by assumption)) (by first | omega | (dsimp only; omega))
          | exact endN [0] rfl rfl rfl rfl rfl rfl (LRun.bad ⟨by omega, hi'⟩ hq (by first | exact .inl (by assumption) | exact .inr (by assumption))))
       | (have hq := hx.same hi' (by omega) (by assumption) (by assumption)
          first
          | exact endR (i + 1, _, _) [0] ⟨rfl, rfl, rfl, rfl, rfl, rfl, rfl, rfl⟩ (hx.step hi' ha hq (by assumption) (by assumption)) (by first | omega | (dsimp only; omega))
          | exact endN [0] rfl rfl rfl rfl rfl rfl (LRun.bad ⟨by omega, hi'⟩ hq (by first | exact .inl (by assumption) | exact .inr (by assumption)))))
set_option maxHeartbeats 4000000 in
theorem spec_l5Split {l : List Lot} {a c : Int} (hl : l.length ≤ 1000000) : FC Tryz.prog 199 [.c (.row 0 0 l.length), I a, I c] ([ro 99 l]) (.tup [.c (.row 1 0 (lotsOf l a c).length), .c (.row 2 0 (lotsNot l a c).length)]) ([ro 99 l, ow 99 (lotsOf l a c), ow 99 (lotsNot l a c)]) := by
  refine fent tk 51 [.tmp 6, .tmp 7] Tryz.func199 (by kernel_rfl) rfl rfl rfl rfl rfl rfl rfl ?_
  repeat' (first
 | (with_reducible apply zds); exact tk; rfl; rfl; rfl; rfl; rfl
 | (with_reducible apply zd); rfl; exact tk; rfl
 | (with_reducible first | intro _ | apply wseq | apply zreg | apply thenQ_n | apply thenQ_r | apply thenQ_e | apply znil | apply wret | apply bodyQ_r | apply wblk | apply blkQ_n | apply blkQ_r | apply wskip | apply wexit)
 | (with_reducible apply zlit (α := Lot) (e := 99)); rfl; exact tk; (iterate 13 rfl)
 | fail)
  refine wlp (X := Int × List Lot × List Lot) [0, 1, 2] [0, 1, 2] (fun x => [(10, I x.1), (8, .c (.row 1 0 x.2.1.length)), (9, .c (.row 2 0 x.2.2.length))]) (fun x => [(1, ow 99 x.2.1), (2, ow 99 x.2.2)]) (fun x => (0 ≤ x.1 ∧ x.1 ≤ l.length) ∧ x.2.1 = lotsOf (pf l x.1) a c ∧ x.2.2 = lotsNot (pf l x.1) a c) (fun x => (l.length - x.1).toNat) (0, [], []) ⟨by dsimp only; omega, rfl, rfl⟩ rfl rfl (fun _ => rfl) (fun _ => rfl) ⟨rfl, rfl, rfl, rfl, rfl, rfl, rfl, rfl⟩ (fun x hx => ?_)
  obtain ⟨i, u, v⟩ := x
  obtain ⟨h0, hu, hv⟩ := hx
  dsimp only at h0 hu hv ⊢
  have hpl := pf_len h0
  have hul : u.length ≤ 1000000 := by rw [hu]; have := flt_le (fun x => x.Account = a ∧ x.Instr = c) (pf l i); unfold lotsOf; omega
  have hvl : v.length ≤ 1000000 := by rw [hv]; have := flt_le (fun x => ¬ (x.Account = a ∧ x.Instr = c)) (pf l i); unfold lotsNot; omega
  have hy := fun (h : i < l.length) (e : (rd l i).Account = a ∧ (rd l i).Instr = c) => (⟨by rw [hu, lotsOf, lotsOf, flt_succ ⟨h0.1, h⟩, flt_y (p := fun x : Lot => x.Account = a ∧ x.Instr = c) e], by rw [hv, lotsNot, lotsNot, flt_succ ⟨h0.1, h⟩, flt_n (p := fun x : Lot => ¬ (x.Account = a ∧ x.Instr = c)) (fun k => k e), List.append_nil]⟩ : u ++ [rd l i] = lotsOf (pf l (i + 1)) a c ∧ v = lotsNot (pf l (i + 1)) a c)
  have hn := fun (h : i < l.length) (e : ¬ ((rd l i).Account = a ∧ (rd l i).Instr = c)) => (⟨by rw [hu, lotsOf, lotsOf, flt_succ ⟨h0.1, h⟩, flt_n (p := fun x : Lot => x.Account = a ∧ x.Instr = c) e, List.append_nil], by rw [hv, lotsNot, lotsNot, flt_succ ⟨h0.1, h⟩, flt_y (p := fun x : Lot => ¬ (x.Account = a ∧ x.Instr = c)) e]⟩ : u = lotsOf (pf l (i + 1)) a c ∧ v ++ [rd l i] = lotsNot (pf l (i + 1)) a c)
  repeat' (first
 | (with_reducible apply zds); exact tk; rfl; rfl; rfl; rfl; rfl
 | (with_reducible apply zd); rfl; exact tk; rfl
 | (with_reducible first | intro _ | apply wseq | apply zreg | apply thenQ_n | apply thenQ_r | apply thenQ_e | apply znil | apply wret | apply bodyQ_r | apply wblk | apply blkQ_n | apply blkQ_r | apply wskip | apply wexit)
 | apply wct rfl
 | apply wcf rfl
 | (with_reducible apply blkQ_x rfl)
 | (with_reducible apply zcmp); rfl; exact tk; rfl; rfl; rfl
 | (with_reducible apply zar); rfl; rfl; rfl; rfl; (first | omega | ((try simp only [List.length_append, List.length_cons, List.length_nil, List.length_map]); (try dsimp only); omega)); rfl; rfl
 | (with_reducible apply zix); rfl; exact tk; (iterate 7 rfl); (first | omega | ((try simp only [List.length_append, List.length_cons, List.length_nil, List.length_map]); (try dsimp only); omega)); rfl; rfl
 | (with_reducible apply zle); rfl; exact tk; rfl; rfl; rfl; rfl; (first | omega | ((try simp only [List.length_append, List.length_cons, List.length_nil, List.length_map]); (try dsimp only); omega)); rfl; rfl; rfl; rfl
 | (with_reducible apply zlit (α := Lot) (e := 99)); rfl; exact tk; (iterate 13 rfl)
 | (with_reducible apply zap); rfl; exact tk; (iterate 10 rfl); (first | omega | ((try simp only [List.length_append, List.length_cons, List.length_nil, List.length_map]); (try dsimp only); omega)); rfl; rfl; rfl; rfl; rfl
 | fail)
  all_goals first
    | exact endR (i + 1, u ++ [rd l i], v) [0, 4, 2] ⟨rfl, rfl, rfl, rfl, rfl, rfl, rfl, rfl⟩ ⟨by dsimp only; omega, hy (by assumption) ⟨by assumption, by assumption⟩⟩ (by first | omega | (dsimp only; omega))
    | exact endR (i + 1, u, v ++ [rd l i]) [0, 1, 4] ⟨rfl, rfl, rfl, rfl, rfl, rfl, rfl, rfl⟩ ⟨by dsimp only; omega, hn (by assumption) (fun e => by first | exact absurd e.1 (by assumption) | exact absurd e.2 (by assumption))⟩ (by first | omega | (dsimp only; omega))
    | (rename_i h
       rw [pf_all h] at hu hv
       subst hu
       subst hv
       exact endV [0, 1, 2] rfl rfl rfl rfl rfl rfl)
set_option maxHeartbeats 4000000 in
theorem spec_l5Qty {l : List Lot} (hq : LQ l) : FC Tryz.prog 214 [.c (.row 0 0 l.length)] ([ro 99 l]) (I (sQ l)) ([ro 99 l]) := by
  refine fent tk 19 [.tmp 2] Tryz.func214 (by kernel_rfl) rfl rfl rfl rfl rfl rfl rfl ?_
  have hl := hq.len
  repeat' (first
 | (with_reducible apply zd); rfl; exact tk; rfl
 | (with_reducible first | intro _ | apply wseq | apply zreg | apply thenQ_n | apply thenQ_r | apply thenQ_e | apply znil | apply wret | apply bodyQ_r | apply wblk | apply blkQ_n | apply blkQ_r | apply wskip | apply wexit)
 | fail)
  refine wlp (X := Int × Int) [0] [0] (fun x => [(4, I x.1), (3, I x.2)]) (fun _ => []) (fun x => (0 ≤ x.1 ∧ x.1 ≤ l.length) ∧ x.2 = sQ (pf l x.1)) (fun x => (l.length - x.1).toNat) (0, 0) ⟨by dsimp only; omega, rfl⟩ rfl rfl (fun _ => rfl) (fun _ => rfl) ⟨rfl, rfl, rfl, rfl, rfl, rfl, rfl, rfl⟩ (fun x hx => ?_)
  obtain ⟨i, n⟩ := x
  obtain ⟨h0, hn⟩ := hx
  dsimp only at h0 hn ⊢
  have hbd := (lot_bnd hq h0).1
  rw [← hn] at hbd
  have hm := fun (h : i < l.length) => hq.q _ (rd_mem ⟨h0.1, h⟩)
  repeat' (first
 | (with_reducible apply zds); exact tk; rfl; rfl; rfl; rfl; rfl
 | (with_reducible apply zd); rfl; exact tk; rfl
 | (with_reducible apply zar); rfl; rfl; rfl; rfl; (have h1 := hm (by assumption); omega); rfl; rfl
 | (with_reducible first | intro _ | apply wseq | apply zreg | apply thenQ_n | apply thenQ_r | apply thenQ_e | apply znil | apply wret | apply bodyQ_r | apply wblk | apply blkQ_n | apply blkQ_r | apply wskip | apply wexit)
 | apply wct rfl
 | apply wcf rfl
 | (with_reducible apply blkQ_x rfl)
 | (with_reducible apply zcmp); rfl; exact tk; rfl; rfl; rfl
 | (with_reducible apply zix); rfl; exact tk; (iterate 7 rfl); (first | omega | ((try simp only [List.length_append, List.length_cons, List.length_nil, List.length_map]); (try dsimp only); omega)); rfl; rfl
 | (with_reducible apply zle); rfl; exact tk; rfl; rfl; rfl; rfl; (first | omega | ((try simp only [List.length_append, List.length_cons, List.length_nil, List.length_map]); (try dsimp only); omega)); rfl; rfl; rfl; rfl
 | fail)
  · rename_i h
    exact endR (i + 1, _) [0] ⟨rfl, rfl, rfl, rfl, rfl, rfl, rfl, rfl⟩ ⟨by dsimp only; omega, by dsimp only; rw [sQ, sumF_succ ⟨h0.1, h⟩, hn]; rfl⟩ (by first | omega | (dsimp only; omega))
  · rename_i h
    rw [pf_all h] at hn
    exact endI [0] rfl rfl rfl rfl rfl rfl hn.symm
set_option maxHeartbeats 4000000 in
theorem spec_l5Cost {l : List Lot} (hq : LQ l) : FC Tryz.prog 272 [.c (.row 0 0 l.length)] ([ro 99 l]) (I (sC l)) ([ro 99 l]) := by
  refine fent tk 19 [.tmp 2] Tryz.func272 (by kernel_rfl) rfl rfl rfl rfl rfl rfl rfl ?_
  have hl := hq.len
  repeat' (first
 | (with_reducible apply zd); rfl; exact tk; rfl
 | (with_reducible first | intro _ | apply wseq | apply zreg | apply thenQ_n | apply thenQ_r | apply thenQ_e | apply znil | apply wret | apply bodyQ_r | apply wblk | apply blkQ_n | apply blkQ_r | apply wskip | apply wexit)
 | fail)
  refine wlp (X := Int × Int) [0] [0] (fun x => [(4, I x.1), (3, I x.2)]) (fun _ => []) (fun x => (0 ≤ x.1 ∧ x.1 ≤ l.length) ∧ x.2 = sC (pf l x.1)) (fun x => (l.length - x.1).toNat) (0, 0) ⟨by dsimp only; omega, rfl⟩ rfl rfl (fun _ => rfl) (fun _ => rfl) ⟨rfl, rfl, rfl, rfl, rfl, rfl, rfl, rfl⟩ (fun x hx => ?_)
  obtain ⟨i, n⟩ := x
  obtain ⟨h0, hn⟩ := hx
  dsimp only at h0 hn ⊢
  have hbd := (lot_bnd hq h0).2
  rw [← hn] at hbd
  have hm := fun (h : i < l.length) => hq.c _ (rd_mem ⟨h0.1, h⟩)
  repeat' (first
 | (with_reducible apply zds); exact tk; rfl; rfl; rfl; rfl; rfl
 | (with_reducible apply zd); rfl; exact tk; rfl
 | (with_reducible apply zar); rfl; rfl; rfl; rfl; (have h1 := hm (by assumption); omega); rfl; rfl
 | (with_reducible first | intro _ | apply wseq | apply zreg | apply thenQ_n | apply thenQ_r | apply thenQ_e | apply znil | apply wret | apply bodyQ_r | apply wblk | apply blkQ_n | apply blkQ_r | apply wskip | apply wexit)
 | apply wct rfl
 | apply wcf rfl
 | (with_reducible apply blkQ_x rfl)
 | (with_reducible apply zcmp); rfl; exact tk; rfl; rfl; rfl
 | (with_reducible apply zix); rfl; exact tk; (iterate 7 rfl); (first | omega | ((try simp only [List.length_append, List.length_cons, List.length_nil, List.length_map]); (try dsimp only); omega)); rfl; rfl
 | (with_reducible apply zle); rfl; exact tk; rfl; rfl; rfl; rfl; (first | omega | ((try simp only [List.length_append, List.length_cons, List.length_nil, List.length_map]); (try dsimp only); omega)); rfl; rfl; rfl; rfl
 | fail)
  · rename_i h
    exact endR (i + 1, _) [0] ⟨rfl, rfl, rfl, rfl, rfl, rfl, rfl, rfl⟩ ⟨by dsimp only; omega, by dsimp only; rw [sC, sumF_succ ⟨h0.1, h⟩, hn]; rfl⟩ (by first | omega | (dsimp only; omega))
  · rename_i h
    rw [pf_all h] at hn
    exact endI [0] rfl rfl rfl rfl rfl rfl hn.symm
end Go.Proofs.YtnlajjoheegbiaaGreat.Sh
namespace Go.Proofs.YtnlajjoheegbiaaGreat.Sh
open Go.RowKit
set_option linter.unusedVariables false
set_option linter.unusedSimpArgs false
set_option linter.unusedSectionVars false
def lb2 (x y : Lot) : Prop := lbef x.Account x.Instr x.No y.Account y.Instr y.No
theorem lb2_irr (x : Lot) : ¬ lb2 x x := by unfold lb2 lbef bef; omega
theorem lb2_tr {x y z : Lot} (h : lb2 x y) (k : lb2 y z) : lb2 x z := lbef_trans h k
theorem pw_ext {α : Type} {R : α → α → Prop} (hi : ∀ x, ¬ R x x) (ht : ∀ {x y z}, R x y → R y z → R x z) : ∀ {l m : List α}, l.Pairwise R → m.Pairwise R → (∀ x, x ∈ l ↔ x ∈ m) → l = m
  | [], [], _, _, _ => rfl
  | [], y :: m, _, _, h => absurd ((h y).2 (by simp)) (by simp)
  | x :: l, [], _, _, h => absurd ((h x).1 (by simp)) (by simp)
  | x :: l, y :: m, hl, hm, h => by
    rw [List.pairwise_cons] at hl hm
    have hx := (h x).1 (by simp)
    have hy := (h y).2 (by simp)
    rw [List.mem_cons] at hx hy
    have e : x = y := by
      rcases hx with hx | hx
      · exact hx
      · rcases hy with hy | hy
        · exact hy.symm
        · exact absurd (ht (hm.1 x hx) (hl.1 y hy)) (hi y)
    subst e
    congr 1
    refine pw_ext hi ht hl.2 hm.2 (fun z => ⟨fun hz => ?_, fun hz => ?_⟩)
    · have h1 := (h z).1 (by simp [hz])
      rw [List.mem_cons] at h1
      rcases h1 with rfl | h1
      · exact absurd (hl.1 z hz) (hi z)
      · exact h1
    · have h1 := (h z).2 (by simp [hz])
      rw [List.mem_cons] at h1
      rcases h1 with rfl | h1
      · exact absurd (hm.1 z hz) (hi z)
      · exact h1
noncomputable def mrg : List Lot → List Lot → List Lot
  | [], b => b
  | x :: a, [] => x :: a
  | x :: a, y :: b => sel (lb2 x y) (x :: mrg a (y :: b)) (y :: mrg (x :: a) b)
termination_by a b => a.length + b.length
theorem mrg_nil (b : List Lot) : mrg [] b = b := by rw [mrg]
theorem mrg_nil2 (a : List Lot) : mrg a [] = a := by cases a <;> rw [mrg]
theorem mrg_l {x y : Lot} {a b : List Lot} (h : lb2 x y) : mrg (x :: a) (y :: b) = x :: mrg a (y :: b) := by rw [mrg, sel_t h]
theorem mrg_r {x y : Lot} {a b : List Lot} (h : ¬ lb2 x y) : mrg (x :: a) (y :: b) = y :: mrg (x :: a) b := by rw [mrg, sel_f h]
theorem mrg_perm : ∀ (a b : List Lot), (mrg a b).Perm (a ++ b)
  | [], b => by rw [mrg_nil]; exact .refl _
  | x :: a, [] => by rw [mrg_nil2, List.append_nil]
  | x :: a, y :: b => by
    by_cases h : lb2 x y
    · rw [mrg_l h]
      exact (mrg_perm a (y :: b)).cons x
    · rw [mrg_r h]
      exact ((mrg_perm (x :: a) b).cons y).trans List.perm_middle.symm
termination_by a b => a.length + b.length
theorem mrg_len (a b : List Lot) : (mrg a b).length = a.length + b.length := by rw [(mrg_perm a b).length_eq, List.length_append]
theorem mrg_mem {a b : List Lot} {x : Lot} : x ∈ mrg a b ↔ x ∈ a ∨ x ∈ b := by rw [(mrg_perm a b).mem_iff, List.mem_append]
def Apart (a b : List Lot) : Prop := ∀ x ∈ a, ∀ y ∈ b, lb2 x y ∨ lb2 y x
theorem mrg_pw : ∀ {a b : List Lot}, a.Pairwise lb2 → b.Pairwise lb2 → Apart a b → (mrg a b).Pairwise lb2
  | [], b, _, hb, _ => by rw [mrg_nil]; exact hb
  | x :: a, [], ha, _, _ => by rw [mrg_nil2]; exact ha
  | x :: a, y :: b, ha, hb, hd => by
    have ha' := List.pairwise_cons.1 ha
    have hb' := List.pairwise_cons.1 hb
    by_cases h : lb2 x y
    · rw [mrg_l h, List.pairwise_cons]
      refine ⟨fun z hz => ?_, mrg_pw ha'.2 hb (fun u hu v hv => hd u (by simp [hu]) v hv)⟩
      rcases mrg_mem.1 hz with hz | hz
      · exact ha'.1 z hz
      · rcases List.mem_cons.1 hz with rfl | hz
        · exact h
        · exact lb2_tr h (hb'.1 z hz)
    · have h2 : lb2 y x := (hd x (by simp) y (by simp)).resolve_left h
      rw [mrg_r h, List.pairwise_cons]
      refine ⟨fun z hz => ?_, mrg_pw ha hb'.2 (fun u hu v hv => hd u hu v (by simp [hv]))⟩
      rcases mrg_mem.1 hz with hz | hz
      · rcases List.mem_cons.1 hz with rfl | hz
        · exact h2
        · exact lb2_tr h2 (ha'.1 z hz)
      · exact hb'.1 z hz
termination_by a b => a.length + b.length
theorem sort_mrg {a b b' s : List Lot} (hs : s.Perm (a ++ b')) (hb : b'.Perm b) (hp : s.Pairwise (fun x y => ¬ lb2 y x)) (ha : a.Pairwise lb2) (hb2 : b.Pairwise lb2) (hd : Apart a b) : s = mrg a b := by
  have h1 : s.Perm (mrg a b) := (hs.trans (List.Perm.append_left a hb)).trans (mrg_perm a b).symm
  have h2 := mrg_pw ha hb2 hd
  have hsym : s.Pairwise (fun x y => lb2 x y ∨ lb2 y x) := (h1.symm.pairwise (h2.imp fun h => .inl h) (fun h => h.symm))
  refine pw_ext lb2_irr lb2_tr ?_ h2 (fun x => h1.mem_iff)
  have := hsym.and hp
  exact this.imp fun h => h.1.resolve_right h.2
theorem mrg_one (l : List Lot) (x : Lot) : mrg l [x] = ins l (fIx l (fun y => ¬ lb2 y x)) x := by
  unfold ins fIx
  rw [Int.toNat_natCast]
  induction l with
  | nil => rw [mrg_nil]; rfl
  | cons y l ih =>
    by_cases h : lb2 y x
    · rw [mrg_l h, ih, List.findIdx_cons, dB_f (p := ¬ lb2 y x) (fun k => k h)]
      rfl
    · rw [mrg_r h, mrg_nil2, List.findIdx_cons, dB_t (p := ¬ lb2 y x) h]
      rfl
theorem LSd.pw {l : List Lot} (h : LSd l l.length) : l.Pairwise lb2 := by
  rw [List.pairwise_iff_getElem]
  intro i j hi hj hij
  have := h.lt (i := i) (j := j) (by omega) (by omega) (by omega)
  simpa [lb2, rd, List.getD_eq_getElem?_getD, hi, hj] using this
theorem LotsOk.pw {l : List Lot} (h : LotsOk l) : l.Pairwise lb2 := LSd.pw (fun i h0 h1 => (h.1.1 i (by omega) h1).2 h0)
def reL (l : Lot) (q k : Int) : Lot := ⟨l.Account, l.Instr, l.No, q, k⟩
def tkq : List Lot → Int → List Lot × Int
  | [], _ => ([], 0)
  | l :: r, q => if q ≤ 0 then (l :: r, 0) else if l.Qty ≤ q then ((tkq r (q - l.Qty)).1, l.Cost + (tkq r (q - l.Qty)).2) else (reL l (l.Qty - q) (l.Cost - l.Cost * q / l.Qty) :: r, l.Cost * q / l.Qty)
theorem tk_z {l : List Lot} {q : Int} (h : q ≤ 0) : tkq l q = (l, 0) := by
  cases l with
  | nil => rfl
  | cons x r => rw [tkq, if_pos h]
theorem tk_a {l : Lot} {r : List Lot} {q : Int} (h : 0 < q) (h2 : l.Qty ≤ q) : tkq (l :: r) q = ((tkq r (q - l.Qty)).1, l.Cost + (tkq r (q - l.Qty)).2) := by
  rw [tkq, if_neg (by omega), if_pos h2]
theorem tk_p {l : Lot} {r : List Lot} {q : Int} (h : 0 < q) (h2 : ¬ l.Qty ≤ q) : tkq (l :: r) q = (reL l (l.Qty - q) (l.Cost - l.Cost * q / l.Qty) :: r, l.Cost * q / l.Qty) := by
  rw [tkq, if_neg (by omega), if_neg h2]
def LG (l : List Lot) : Prop := ∀ x ∈ l, (1 ≤ x.Qty ∧ x.Qty ≤ 1000000000000000) ∧ 0 ≤ x.Cost ∧ x.Cost ≤ 1000000000000000
theorem part_le {k q n : Int} (hk : 0 ≤ k) (hq : 0 ≤ q) (hn : q ≤ n) (h1 : 1 ≤ n) : 0 ≤ k * q / n ∧ k * q / n ≤ k := by
  refine ⟨Int.ediv_nonneg (Int.mul_nonneg hk hq) (by omega), ?_⟩
  have h2 : k * q ≤ k * n := Int.mul_le_mul_of_nonneg_left hn hk
  have h3 := Int.ediv_le_ediv (c := n) (by omega) h2
  rwa [Int.mul_ediv_cancel _ (by omega)] at h3
theorem part_all {k n : Int} (h1 : 1 ≤ n) : k * n / n = k := Int.mul_ediv_cancel _ (by omega)
theorem LG.cons {x : Lot} {r : List Lot} (h : LG (x :: r)) : ((1 ≤ x.Qty ∧ x.Qty ≤ 1000000000000000) ∧ 0 ≤ x.Cost ∧ x.Cost ≤ 1000000000000000) ∧ LG r := ⟨h x (by simp), fun y hy => h y (by simp [hy])⟩
theorem sC_cons (x : Lot) (r : List Lot) : sC (x :: r) = x.Cost + sC r := sumF_cons _ _ _
theorem sQ_cons (x : Lot) (r : List Lot) : sQ (x :: r) = x.Qty + sQ r := sumF_cons _ _ _
theorem LG.sC_nn {l : List Lot} (h : LG l) : 0 ≤ sC l := sumF_nn (fun x hx => (h x hx).2.1)
theorem LG.sQ_nn {l : List Lot} (h : LG l) : 0 ≤ sQ l := sumF_nn (fun x hx => by have := (h x hx).1.1; omega)
theorem tk_cost : ∀ {l : List Lot} {q : Int}, LG l → 0 ≤ (tkq l q).2 ∧ (tkq l q).2 ≤ sC l
  | [], q, _ => by simp [tkq, sC, sumF]
  | x :: r, q, h => by
    have hc := h.cons
    have hs := hc.2.sC_nn
    rw [sC_cons]
    by_cases h1 : q ≤ 0
    · rw [tk_z h1]; dsimp only; omega
    by_cases h2 : x.Qty ≤ q
    · rw [tk_a (by omega) h2]
      have := tk_cost (q := q - x.Qty) hc.2
      dsimp only; omega
    · rw [tk_p (by omega) h2]
      have := part_le (k := x.Cost) (q := q) (n := x.Qty) (by omega) (by omega) (by omega) (by omega)
      dsimp only; omega
theorem tk_pw {R : Lot → Lot → Prop} (hR : ∀ x y q k, R x y → R (reL x q k) y) : ∀ {l : List Lot} {q : Int}, l.Pairwise R → (tkq l q).1.Pairwise R
  | [], q, h => by simp [tkq]
  | x :: r, q, h => by
    have hc := List.pairwise_cons.1 h
    by_cases h1 : q ≤ 0
    · rw [tk_z h1]; exact h
    by_cases h2 : x.Qty ≤ q
    · rw [tk_a (by omega) h2]
      exact tk_pw hR hc.2
    · rw [tk_p (by omega) h2]
      exact List.pairwise_cons.2 ⟨fun y hy => hR _ _ _ _ (hc.1 y hy), hc.2⟩
theorem tk_of {p : Lot → Prop} (hp : ∀ x q k, p x → p (reL x q k)) : ∀ {l : List Lot} {q : Int}, (∀ x ∈ l, p x) → ∀ x ∈ (tkq l q).1, p x
  | [], q, h => by simp [tkq]
  | x :: r, q, h => by
    by_cases h1 : q ≤ 0
    · rw [tk_z h1]; exact h
    by_cases h2 : x.Qty ≤ q
    · rw [tk_a (by omega) h2]
      exact tk_of hp (fun y hy => h y (by simp [hy]))
    · rw [tk_p (by omega) h2]
      intro y hy
      rcases List.mem_cons.1 hy with rfl | hy
      · exact hp _ _ _ (h x (by simp))
      · exact h y (by simp [hy])
theorem tk_len : ∀ (l : List Lot) (q : Int), (tkq l q).1.length ≤ l.length
  | [], q => by simp [tkq]
  | x :: r, q => by
    by_cases h1 : q ≤ 0
    · rw [tk_z h1]; exact Nat.le_refl _
    by_cases h2 : x.Qty ≤ q
    · rw [tk_a (by omega) h2]
      have := tk_len r (q - x.Qty)
      simp only [List.length_cons]; omega
    · rw [tk_p (by omega) h2]
      simp
noncomputable def tkL (own : List Lot) (q way : Int) : List Lot :=
  sel (way = 3) (sel (sQ own = q) [] [reL (rd own 0) (sQ own - q) (sC own - sC own * q / sQ own)]) (sel (way = 2) (tkq own.reverse q).1.reverse (tkq own q).1)
noncomputable def tkC (own : List Lot) (q way : Int) : Int :=
  pick (way = 3) (sC own * q / sQ own) (pick (way = 2) (tkq own.reverse q).2 (tkq own q).2)
theorem LG.rev {l : List Lot} (h : LG l) : LG l.reverse := fun x hx => h x (List.mem_reverse.1 hx)
theorem sC_rev (l : List Lot) : sC l.reverse = sC l := by
  unfold sC sumF
  rw [List.map_reverse, List.sum_reverse]
theorem sQ_rev (l : List Lot) : sQ l.reverse = sQ l := by
  unfold sQ sumF
  rw [List.map_reverse, List.sum_reverse]
theorem tkC_bd {own : List Lot} {q way : Int} (h : LG own) (hq : 0 ≤ q ∧ q ≤ sQ own) (h1 : 1 ≤ sQ own) : 0 ≤ tkC own q way ∧ tkC own q way ≤ sC own := by
  unfold tkC
  by_cases h3 : way = 3
  · rw [pick_t h3]
    exact part_le h.sC_nn hq.1 hq.2 h1
  · rw [pick_f h3]
    by_cases h2 : way = 2
    · rw [pick_t h2, ← sC_rev]
      exact tk_cost h.rev
    · rw [pick_f h2]
      exact tk_cost h
theorem tkL_pw {own : List Lot} {q way : Int} (h : own.Pairwise lb2) : (tkL own q way).Pairwise lb2 := by
  unfold tkL
  by_cases h3 : way = 3
  · rw [sel_t h3]
    by_cases h4 : sQ own = q
    · rw [sel_t h4]; exact .nil
    · rw [sel_f h4]; simp
  · rw [sel_f h3]
    by_cases h2 : way = 2
    · rw [sel_t h2, List.pairwise_reverse]
      exact tk_pw (R := fun x y => lb2 y x) (fun x y q k h => h) (List.pairwise_reverse.2 h)
    · rw [sel_f h2]
      exact tk_pw (fun x y q k h => h) h
theorem tkL_of {own : List Lot} {q way a c : Int} (h : ∀ x ∈ own, x.Account = a ∧ x.Instr = c) (hn : 0 < (own.length : Int)) : ∀ x ∈ tkL own q way, x.Account = a ∧ x.Instr = c := by
  unfold tkL
  by_cases h3 : way = 3
  · rw [sel_t h3]
    by_cases h4 : sQ own = q
    · rw [sel_t h4]; intro x hx; cases hx
    · rw [sel_f h4]
      intro x hx
      rw [List.mem_singleton] at hx
      subst hx
      exact h (rd own 0) (rd_mem ⟨by omega, hn⟩)
  · rw [sel_f h3]
    by_cases h2 : way = 2
    · rw [sel_t h2]
      intro x hx
      exact tk_of (p := fun x => x.Account = a ∧ x.Instr = c) (fun x q k h => h) (fun y hy => h y (List.mem_reverse.1 hy)) x (List.mem_reverse.1 hx)
    · rw [sel_f h2]
      exact tk_of (p := fun x => x.Account = a ∧ x.Instr = c) (fun x q k h => h) h
theorem tkL_len {own : List Lot} {q way : Int} (hn : 0 < (own.length : Int)) : (tkL own q way).length ≤ own.length := by
  unfold tkL
  by_cases h3 : way = 3
  · rw [sel_t h3]
    by_cases h4 : sQ own = q
    · rw [sel_t h4]; simp
    · rw [sel_f h4]; simp only [List.length_cons, List.length_nil]; omega
  · rw [sel_f h3]
    by_cases h2 : way = 2
    · rw [sel_t h2, List.length_reverse]
      have := tk_len own.reverse q
      rwa [List.length_reverse] at this
    · rw [sel_f h2]
      exact tk_len _ _
theorem lotsOf_mem {l : List Lot} {a c : Int} {x : Lot} : x ∈ lotsOf l a c ↔ x ∈ l ∧ x.Account = a ∧ x.Instr = c := flt_mem
theorem lotsNot_mem {l : List Lot} {a c : Int} {x : Lot} : x ∈ lotsNot l a c ↔ x ∈ l ∧ ¬ (x.Account = a ∧ x.Instr = c) := flt_mem
theorem apart_of {l b : List Lot} {a c : Int} (h : ∀ x ∈ b, x.Account = a ∧ x.Instr = c) : Apart (lotsNot l a c) b := fun x hx y hy => by
  have h1 := (lotsNot_mem.1 hx).2
  have h2 := h y hy
  unfold lb2 lbef bef
  omega
theorem lotsOf_pw {l : List Lot} {a c : Int} (h : l.Pairwise lb2) : (lotsOf l a c).Pairwise lb2 := h.filter _
theorem lotsNot_pw {l : List Lot} {a c : Int} (h : l.Pairwise lb2) : (lotsNot l a c).Pairwise lb2 := h.filter _
theorem LotsOk.LG {l : List Lot} (h : LotsOk l) : LG l := fun x hx => by
  obtain ⟨i, hi, rfl⟩ := mem_rd hx
  have := (h.1.1 i hi.1 hi.2).1
  unfold lotF inP at this
  omega
theorem LG.flt {l : List Lot} (h : LG l) (p : Lot → Prop) : LG (flt p l) := fun x hx => h x (flt_mem.1 hx).1
theorem LotsOk.own {l : List Lot} (h : LotsOk l) (a c : Int) : (0 ≤ sQ (lotsOf l a c) ∧ sQ (lotsOf l a c) ≤ 1000000000000000) ∧ 0 ≤ sC (lotsOf l a c) ∧ sC (lotsOf l a c) ≤ 1000000000000000 := by
  have hg := h.LG.flt (fun x => x.Account = a ∧ x.Instr = c)
  have h1 := hg.sQ_nn
  have h2 := hg.sC_nn
  by_cases e : lotsOf l a c = []
  · rw [e]; decide
  · obtain ⟨x, hx⟩ := List.exists_mem_of_ne_nil _ e
    obtain ⟨hx1, hx2, hx3⟩ := lotsOf_mem.1 hx
    have := h.2 x hx1
    rw [hx2, hx3] at this
    unfold amountOk inP at this
    exact ⟨⟨h1, by omega⟩, h2, by omega⟩
theorem sQ_pos {l : List Lot} (h : 1 ≤ sQ l) : 0 < (l.length : Int) := by
  cases l with
  | nil => simp [sQ, sumF] at h
  | cons x r => simp only [List.length_cons]; omega
end Go.Proofs.YtnlajjoheegbiaaGreat.Sh
