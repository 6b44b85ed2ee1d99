/- Lots: what is added up from group to group. No condition. -/
import Derived.Test.YtgehbhkfehmdkaaGreatKSpShLo
namespace Go.Proofs.YtgehbhkfehmdkaaGreat.Sh
open Go.RowKit
set_option linter.unusedVariables false
set_option linter.unusedSimpArgs false
noncomputable def lotsNot (l : List Lot) (a c : Int) : List Lot := flt (fun x => ¬ (x.Account = a ∧ x.Instr = c)) l
theorem lotsOf_append (a b : List Lot) (u v : Int) : lotsOf (a ++ b) u v = lotsOf a u v ++ lotsOf b u v := flt_append a b
theorem lotsOf_one (x : Lot) : lotsOf [x] x.Account x.Instr = [x] := flt_y (p := fun y : Lot => y.Account = x.Account ∧ y.Instr = x.Instr) ⟨rfl, rfl⟩
noncomputable def gF (f : Lot → Int) (l : List Lot) (i : Int) : Int := sumF f (lotsOf (pf l (i + 1)) (rd l i).Account (rd l i).Instr)
theorem lbef_trans {a c n a' c' n' a2 c2 n2 : Int} (h : lbef a c n a' c' n') (k : lbef a' c' n' a2 c2 n2) : lbef a c n a2 c2 n2 := by unfold lbef bef at *; omega
def LSd (l : List Lot) (m : Int) : Prop := ∀ i : Int, 0 < i → i < m → lbef (rd l (i - 1)).Account (rd l (i - 1)).Instr (rd l (i - 1)).No (rd l i).Account (rd l i).Instr (rd l i).No
theorem LSd.lt {l : List Lot} {m : Int} (h : LSd l m) {i j : Int} (h0 : 0 ≤ i) (hij : i < j) (hj : j < m) : lbef (rd l i).Account (rd l i).Instr (rd l i).No (rd l j).Account (rd l j).Instr (rd l j).No := by
  obtain ⟨n, rfl⟩ : ∃ n : Nat, j = i + 1 + n := ⟨(j - i - 1).toNat, by omega⟩
  induction n with
  | zero =>
    have := h (i + 1 + (0 : Nat)) (by omega) hj
    rwa [show i + 1 + ((0 : Nat) : Int) - 1 = i from by omega] at this
  | succ n ih =>
    have h1 := h (i + 1 + (n + 1 : Nat)) (by omega) hj
    rw [show i + 1 + ((n + 1 : Nat) : Int) - 1 = i + 1 + (n : Int) from by omega] at h1
    exact lbef_trans (ih (by omega) (by omega)) h1
theorem gF_step {f : Lot → Int} {l : List Lot} {i : Int} (h : 0 ≤ i ∧ i < l.length) : gF f l i = sumF f (lotsOf (pf l i) (rd l i).Account (rd l i).Instr) + f (rd l i) := by
  rw [gF, pf_succ h, lotsOf_append, lotsOf_one, sumF_append, sumF_one]
theorem gF_same {f : Lot → Int} {l : List Lot} {i : Int} (h : 0 < i ∧ i < l.length) (ha : (rd l i).Account = (rd l (i - 1)).Account) (hc : (rd l i).Instr = (rd l (i - 1)).Instr) : gF f l i = gF f l (i - 1) + f (rd l i) := by
  rw [gF_step ⟨by omega, h.2⟩, gF, ha, hc, show i - 1 + 1 = i from by omega]
theorem gF_new {f : Lot → Int} {l : List Lot} {i : Int} (h : 0 ≤ i ∧ i < l.length) (hs : LSd l (i + 1)) (hn : i = 0 ∨ ¬ (rd l i).Account = (rd l (i - 1)).Account ∨ ¬ (rd l i).Instr = (rd l (i - 1)).Instr) : gF f l i = f (rd l i) := by
  rw [gF_step h]
  have : lotsOf (pf l i) (rd l i).Account (rd l i).Instr = [] := by
    unfold lotsOf flt
    rw [List.filter_eq_nil_iff]
    intro x hx
    obtain ⟨j, hj, rfl⟩ := mem_rd (l := pf l i) hx
    rw [pf_len ⟨h.1, by omega⟩] at hj
    rw [rd_pf hj, dB_iff]
    rintro ⟨e1, e2⟩
    rcases hn with hn | hn
    · omega
    have h1 := hs.lt (i := i - 1) (j := i) (by omega) (by omega) (by omega)
    by_cases e : j = i - 1
    · subst e
      rcases hn with hn | hn
      · exact hn e1.symm
      · exact hn e2.symm
    · have h2 := hs.lt (i := j) (j := i - 1) hj.1 (by omega) (by omega)
      unfold lbef bef at h1 h2
      omega
  rw [this, sumF_nil, Int.zero_add]
theorem gF_le {f : Lot → Int} {l : List Lot} (hf : ∀ x ∈ l, 0 ≤ f x) {i : Int} (h : 0 ≤ i ∧ i < l.length) : 0 ≤ gF f l i ∧ gF f l i ≤ sumF f (lotsOf l (rd l i).Account (rd l i).Instr) := by
  have hm : ∀ x ∈ lotsOf (pf l (i + 1)) (rd l i).Account (rd l i).Instr, 0 ≤ f x := fun x hx => hf x (List.mem_of_mem_take (flt_mem.1 hx).1)
  refine ⟨sumF_nn hm, ?_⟩
  have e : l = pf l (i + 1) ++ l.drop (i + 1).toNat := (List.take_append_drop _ _).symm
  have h2 : sumF f (lotsOf l (rd l i).Account (rd l i).Instr) = sumF f (lotsOf (pf l (i + 1)) (rd l i).Account (rd l i).Instr) + sumF f (lotsOf (l.drop (i + 1).toNat) (rd l i).Account (rd l i).Instr) := by
    rw [← sumF_append, ← lotsOf_append, ← e]
  have h3 : 0 ≤ sumF f (lotsOf (l.drop (i + 1).toNat) (rd l i).Account (rd l i).Instr) := sumF_nn fun x hx => hf x (List.mem_of_mem_drop (flt_mem.1 hx).1)
  rw [h2, gF]
  omega
theorem gF_all {f : Lot → Int} {l : List Lot} {x : Lot} (hx : x ∈ l) : ∃ i : Int, (0 ≤ i ∧ i < l.length) ∧ gF f l i = sumF f (lotsOf l x.Account x.Instr) := by
  suffices H : ∀ n : Nat, ∀ i : Int, 0 ≤ i → i < l.length → (l.length - i).toNat = n → (rd l i).Account = x.Account → (rd l i).Instr = x.Instr → ∃ i : Int, (0 ≤ i ∧ i < l.length) ∧ gF f l i = sumF f (lotsOf l x.Account x.Instr) by
    obtain ⟨i, hi, rfl⟩ := mem_rd hx
    exact H _ i hi.1 hi.2 rfl rfl rfl
  intro n
  induction n using Nat.strongRecOn with
  | _ n ih =>
    intro i h0 h1 hn ha hc
    by_cases hex : ∃ j : Int, i < j ∧ j < l.length ∧ (rd l j).Account = x.Account ∧ (rd l j).Instr = x.Instr
    · obtain ⟨j, k1, k2, k3, k4⟩ := hex
      exact ih _ (by omega) j (by omega) k2 rfl k3 k4
    · refine ⟨i, ⟨h0, h1⟩, ?_⟩
      have e : l = pf l (i + 1) ++ l.drop (i + 1).toNat := (List.take_append_drop _ _).symm
      have h3 : lotsOf (l.drop (i + 1).toNat) x.Account x.Instr = [] := by
        unfold lotsOf flt
        rw [List.filter_eq_nil_iff]
        intro y hy
        obtain ⟨j, hj, rfl⟩ := mem_rd (l := l.drop (i + 1).toNat) hy
        rw [List.length_drop] at hj
        have e2 : rd (l.drop (i + 1).toNat) j = rd l (i + 1 + j) := by
          unfold rd
          rw [List.getD_eq_getElem?_getD, List.getD_eq_getElem?_getD, List.getElem?_drop]
          congr 2
          omega
        rw [e2, dB_iff]
        rintro ⟨e3, e4⟩
        exact hex ⟨i + 1 + j, by omega, by omega, e3, e4⟩
      have h2 : lotsOf l x.Account x.Instr = lotsOf (pf l (i + 1)) x.Account x.Instr ++ lotsOf (l.drop (i + 1).toNat) x.Account x.Instr := by
        rw [← lotsOf_append, ← e]
      rw [gF, ha, hc, h2, h3, List.append_nil]
theorem lots_run {l : List Lot} (h : ∀ i : Int, 0 ≤ i → i < l.length → lotAt l i) (hl : l.length ≤ 120) : LotsOk l ↔ ∀ i : Int, 0 ≤ i → i < l.length → amountOk (gF Lot.Qty l i) ∧ amountOk (gF Lot.Cost l i) := by
  have hq := lotAt_q h hl
  constructor
  · intro hk i h0 h1
    have k1 := hk.2 _ (rd_mem ⟨h0, h1⟩)
    have k2 := gF_le (f := Lot.Qty) (fun x hx => (hq.q x hx).1) ⟨h0, h1⟩
    have k3 := gF_le (f := Lot.Cost) (fun x hx => (hq.c x hx).1) ⟨h0, h1⟩
    unfold amountOk inP sQ sC at *
    omega
  · intro hk
    refine ⟨⟨h, hl⟩, fun x hx => ?_⟩
    obtain ⟨i, hi, e1⟩ := gF_all (f := Lot.Qty) hx
    obtain ⟨j, hj, e2⟩ := gF_all (f := Lot.Cost) hx
    unfold sQ sC
    rw [← e1, ← e2]
    exact ⟨(hk i hi.1 hi.2).1, (hk j hj.1 hj.2).2⟩
structure LRun (l : List Lot) (i q c : Int) : Prop where
  bnd : 0 ≤ i ∧ i ≤ l.length
  at_ : ∀ j : Int, 0 ≤ j → j < i → lotAt l j
  ok : ∀ j : Int, 0 ≤ j → j < i → amountOk (gF Lot.Qty l j) ∧ amountOk (gF Lot.Cost l j)
  qE : 0 < i → q = gF Lot.Qty l (i - 1)
  cE : 0 < i → c = gF Lot.Cost l (i - 1)
  z : i = 0 → q = 0 ∧ c = 0
theorem LRun.sd {l : List Lot} {i q c : Int} (h : LRun l i q c) (ha : lotAt l i) : LSd l (i + 1) := fun j h0 h1 => by
  by_cases e : j = i
  · subst e
    exact ha.2 h0
  · exact (h.at_ j (by omega) (by omega)).2 h0
theorem LRun.num {l : List Lot} {i q c : Int} (h : LRun l i q c) : (-1000000000000000 ≤ q ∧ q ≤ 1000000000000000) ∧ -1000000000000000 ≤ c ∧ c ≤ 1000000000000000 := by
  by_cases e : i = 0
  · have := h.z e
    omega
  · have h1 := h.ok (i - 1) (by have := h.bnd; omega) (by omega)
    rw [h.qE (by have := h.bnd; omega), h.cE (by have := h.bnd; omega)]
    exact h1
theorem LRun.new {l : List Lot} {i q c : Int} (h : LRun l i q c) (hi : i < l.length) (ha : lotAt l i) (hn : i = 0 ∨ ¬ (rd l i).Account = (rd l (i - 1)).Account ∨ ¬ (rd l i).Instr = (rd l (i - 1)).Instr) : gF Lot.Qty l i = (rd l i).Qty ∧ gF Lot.Cost l i = (rd l i).Cost :=
  ⟨gF_new ⟨h.bnd.1, hi⟩ (h.sd ha) hn, gF_new ⟨h.bnd.1, hi⟩ (h.sd ha) hn⟩
theorem LRun.same {l : List Lot} {i q c : Int} (h : LRun l i q c) (hi : i < l.length) (h0 : ¬ i = 0) (h1 : (rd l i).Account = (rd l (i - 1)).Account) (h2 : (rd l i).Instr = (rd l (i - 1)).Instr) : gF Lot.Qty l i = q + (rd l i).Qty ∧ gF Lot.Cost l i = c + (rd l i).Cost := by
  have := h.bnd
  rw [h.qE (by omega), h.cE (by omega)]
  exact ⟨gF_same ⟨by omega, hi⟩ h1 h2, gF_same ⟨by omega, hi⟩ h1 h2⟩
theorem LRun.step {l : List Lot} {i q c q' c' : Int} (h : LRun l i q c) (hi : i < l.length) (ha : lotAt l i) (hq : gF Lot.Qty l i = q' ∧ gF Lot.Cost l i = c') (k1 : amountOk q') (k2 : amountOk c') : LRun l (i + 1) q' c' := by
  have := h.bnd
  refine ⟨by omega, all_step h.at_ ha, all_step h.ok (by rw [hq.1, hq.2]; exact ⟨k1, k2⟩), fun _ => ?_, fun _ => ?_, fun e => by omega⟩
  · rw [show i + 1 - 1 = i from by omega]; exact hq.1.symm
  · rw [show i + 1 - 1 = i from by omega]; exact hq.2.symm
theorem LRun.fin {l : List Lot} {i q c : Int} (h : LRun l i q c) (hi : ¬ i < l.length) (hl : l.length ≤ 120) : LotsOk l := (lots_run (fun j h0 h1 => h.at_ j h0 (by omega)) hl).2 (fun j h0 h1 => h.ok j h0 (by omega))
theorem LRun.bad {l : List Lot} {i q' c' : Int} (hi : 0 ≤ i ∧ i < l.length) (hq : gF Lot.Qty l i = q' ∧ gF Lot.Cost l i = c') (k : ¬ amountOk q' ∨ ¬ amountOk c') : ¬ LotsOk l := fun hk => by
  have := (lots_run hk.1.1 hk.1.2).1 hk i hi.1 hi.2
  rw [hq.1, hq.2] at this
  rcases k with k | k
  · exact k this.1
  · exact k this.2
set_option maxHeartbeats 4000000 in
theorem spec_l5Before {a c n q k a' c' n' q' k' : Int} : FC Tryz.prog 287 [.agg [.sc (.int .i64 a), .sc (.int .i64 c), .sc (.int .i64 n), .sc (.int .i64 q), .sc (.int .i64 k)], .agg [.sc (.int .i64 a'), .sc (.int .i64 c'), .sc (.int .i64 n'), .sc (.int .i64 q'), .sc (.int .i64 k')]] ([]) (B (dB (lbef a c n a' c' n'))) ([]) := by
  refine fent tk 35 [.tmp 4] Tryz.func287 (by kernel_rfl) rfl rfl rfl rfl rfl rfl rfl ?_
  repeat' (first
 | (with_reducible apply zds); exact tk; rfl; rfl; rfl; rfl; rfl
 | (with_reducible first | intro _ | apply wseq | apply zreg | apply thenQ_n | apply thenQ_r | apply thenQ_e | apply znil | apply wret | apply bodyQ_r | apply wblk | apply blkQ_n | apply blkQ_r | apply wskip | apply wexit)
 | (with_reducible apply zcmp); rfl; exact tk; rfl; rfl; rfl
 | (with_reducible apply zcp); (iterate 10 rfl); exact spec_l4Before; rfl; rfl
 | fail)
  all_goals first | exact endY [] rfl rfl rfl rfl rfl rfl (.inl (by assumption)) | exact endY [] rfl rfl rfl rfl rfl rfl (.inr ⟨by assumption, by assumption, by assumption⟩) | exact endN [] rfl rfl rfl rfl rfl rfl (by rintro (h | h) <;> first | contradiction | (obtain ⟨e1, e2, e3⟩ := h; contradiction))
set_option maxHeartbeats 4000000 in
theorem spec_l5Right {a c n q k : Int} : FC Tryz.prog 286 [.agg [.sc (.int .i64 a), .sc (.int .i64 c), .sc (.int .i64 n), .sc (.int .i64 q), .sc (.int .i64 k)]] ([]) (B (dB (lotF a c n q k))) ([]) := by
  refine fent tk 26 [.tmp 2] Tryz.func286 (by kernel_rfl) rfl rfl rfl rfl rfl rfl rfl ?_
  repeat' (first
 | (with_reducible apply zds); exact tk; rfl; rfl; rfl; rfl; rfl
 | (with_reducible first | intro _ | apply wseq | apply zreg | apply thenQ_n | apply thenQ_r | apply thenQ_e | apply znil | apply wret | apply bodyQ_r | apply wblk | apply blkQ_n | apply blkQ_r | apply wskip | apply wexit)
 | (with_reducible apply zcp); (iterate 10 rfl); (first | exact spec_l3No | exact spec_l1In | exact spec_l1Some); rfl; rfl
 | fail)
  all_goals first | exact endY [] rfl rfl rfl rfl rfl rfl ⟨by assumption, by assumption, by assumption, by assumption, by assumption⟩ | exact endN [] rfl rfl rfl rfl rfl rfl (fun e => by obtain ⟨e1, e2, e3, e4, e5⟩ := e; contradiction)
set_option maxHeartbeats 4000000 in
theorem spec_LotsOk {l : List Lot} : FC Tryz.prog 220 [.c (.row 0 0 l.length)] ([ro 137 l]) (B (dB (LotsOk l))) ([ro 137 l]) := by
  refine fent tk 77 [.tmp 2] Tryz.func220 (by kernel_rfl) rfl rfl rfl rfl rfl rfl rfl ?_
  refine wlen l 0 rfl (fun hl => ?_)
  repeat' (first
 | (with_reducible apply zds); exact tk; rfl; rfl; rfl; rfl; rfl
 | (with_reducible apply zd); rfl; exact tk; rfl
 | (with_reducible first | intro _ | apply wseq | apply zreg | apply thenQ_n | apply thenQ_r | apply thenQ_e | apply znil | apply wret | apply bodyQ_r | apply wblk | apply blkQ_n | apply blkQ_r | apply wskip | apply wexit)
 | apply wct rfl
 | apply wcf rfl
 | (with_reducible apply zcmp); rfl; exact tk; rfl; rfl; rfl
 | fail)
  · exact endN [0] rfl rfl rfl rfl rfl rfl (fun h => absurd h.1.2 (by omega))
  rename_i hl2
  refine wlp (X := Int × Int × Int) [0] [0] (fun x => [(5, I x.1), (3, I x.2.1), (4, I x.2.2)]) (fun _ => []) (fun x => LRun l x.1 x.2.1 x.2.2) (fun x => (l.length - x.1).toNat) (0, 0, 0) ⟨by dsimp only; omega, fun j h0 h1 => by dsimp only at h1; omega, fun j h0 h1 => by dsimp only at h1; omega, fun h => by dsimp only at h; omega, fun h => by dsimp only at h; omega, fun _ => ⟨rfl, rfl⟩⟩ rfl rfl (fun _ => rfl) (fun _ => rfl) ⟨rfl, rfl, rfl, rfl, rfl, rfl, rfl, rfl⟩ (fun x hx => ?_)
  obtain ⟨i, q, c⟩ := x
  dsimp only at hx ⊢
  have hb := hx.bnd
  have hnum := hx.num
  have hf := fun (h : lotF (rd l i).Account (rd l i).Instr (rd l i).No (rd l i).Qty (rd l i).Cost) => (⟨h.2.2.2.1, h.2.2.2.2⟩ : inP (rd l i).Qty 1 1000000000000000 ∧ inP (rd l i).Cost 0 1000000000000000)
  repeat' (first
 | (with_reducible apply zds); exact tk; rfl; rfl; rfl; rfl; rfl
 | (with_reducible apply zd); rfl; exact tk; rfl
 | (with_reducible apply zar); rfl; rfl; rfl; rfl; (have hf1 := hf (by assumption); unfold inP at hf1; omega); rfl; rfl
 | (with_reducible first | intro _ | apply wseq | apply zreg | apply thenQ_n | apply thenQ_r | apply thenQ_e | apply znil | apply wret | apply bodyQ_r | apply wblk | apply blkQ_n | apply blkQ_r | apply wskip | apply wexit)
 | apply wct rfl
 | apply wcf rfl
 | (with_reducible apply blkQ_x rfl)
 | (with_reducible apply zcmp); rfl; exact tk; rfl; rfl; rfl
 | (with_reducible apply zne); rfl; exact tk; rfl; rfl; rfl; rfl
 | (with_reducible apply zix); rfl; exact tk; (iterate 7 rfl); (first | omega | ((try simp only [List.length_append, List.length_cons, List.length_nil, List.length_map]); (try dsimp only); omega)); rfl; rfl
 | (with_reducible apply zle); rfl; exact tk; rfl; rfl; rfl; rfl; (first | omega | ((try simp only [List.length_append, List.length_cons, List.length_nil, List.length_map]); (try dsimp only); omega)); rfl; rfl; rfl; rfl
 | refine zdq (id := 8) rfl (by kernel_rfl) [(.t, 0), (.o, 1), (.p, 2), (.p, 3), (.p, 4), (.p, 5), (.p, 6), (.p, 7), (.p, 8), (.p, 9), (.p, 10), (.t, 11), (.t, 12), (.o, 13), (.p, 14), (.p, 15), (.p, 16)] [] (by kernel_rfl) rfl ?_
 | refine zdq (id := 10) rfl (by kernel_rfl) [(.p, 0), (.p, 1), (.p, 2), (.p, 3), (.p, 5), (.p, 6), (.p, 7), (.p, 8), (.p, 9), (.t, 4), (.t, 10), (.p, 11), (.p, 12), (.p, 13), (.p, 14), (.p, 16), (.p, 17), (.p, 18), (.p, 19), (.p, 20), (.t, 15), (.t, 21), (.p, 22), (.p, 23)] [] (by kernel_rfl) rfl ?_
 | (with_reducible apply zcp); (iterate 10 rfl); (first | exact spec_l5Right | exact spec_l5Before | exact spec_AmountOk); rfl; rfl
 | fail)
  all_goals first
    | exact endN [0] rfl rfl rfl rfl rfl rfl (fun h => by
        obtain ⟨g0, g1⟩ := h.1.1 i (by omega) (by omega)
        first | contradiction | exact absurd (g1 (by omega)) (by assumption))
    | exact endY [0] rfl rfl rfl rfl rfl rfl (hx.fin (by assumption) (by omega))
    | (exfalso; omega)
    | (have hi' : i < l.length := by assumption
       have ha : lotAt l i := ⟨by assumption, fun h => by first | assumption | omega⟩
       first
       | (have hq := hx.new hi' ha (by first | exact .inl (by omega) | exact .inr (.inl (by assumption)) | exact .inr (.inr (by assumption)))
          rw [← Int.zero_add (rd l i).Qty, ← Int.zero_add (rd l i).Cost] at hq
          first
          | exact endR (i + 1, _, _) [0] ⟨rfl, rfl, rfl, rfl, rfl, rfl, rfl, rfl⟩ (hx.step hi' ha hq (by assumption) (by assumption)) (by first | omega | (dsimp only; omega))
          | exact endN [0] rfl rfl rfl rfl rfl rfl (LRun.bad ⟨by omega, hi'⟩ hq (by first | exact .inl (by assumption) | exact .inr (by assumption))))
       | (have hq := hx.same hi' (by omega) (by assumption) (by assumption)
          first
          | exact endR (i + 1, _, _) [0] ⟨rfl, rfl, rfl, rfl, rfl, rfl, rfl, rfl⟩ (hx.step hi' ha hq (by assumption) (by assumption)) (by first | omega | (dsimp only; omega))
          | exact endN [0] rfl rfl rfl rfl rfl rfl (LRun.bad ⟨by omega, hi'⟩ hq (by first | exact .inl (by assumption) | exact .inr (by assumption)))))
set_option maxHeartbeats 4000000 in
theorem spec_l5Split {l : List Lot} {a c : Int} (hl : l.length ≤ 1000000) : FC Tryz.prog 247 [.c (.row 0 0 l.length), I a, I c] ([ro 137 l]) (.tup [.c (.row 1 0 (lotsOf l a c).length), .c (.row 2 0 (lotsNot l a c).length)]) ([ro 137 l, ow 137 (lotsOf l a c), ow 137 (lotsNot l a c)]) := by
  refine fent tk 51 [.tmp 6, .tmp 7] Tryz.func247 (by kernel_rfl) rfl rfl rfl rfl rfl rfl rfl ?_
  repeat' (first
 | (with_reducible apply zds); exact tk; rfl; rfl; rfl; rfl; rfl
 | (with_reducible apply zd); rfl; exact tk; rfl
 | (with_reducible first | intro _ | apply wseq | apply zreg | apply thenQ_n | apply thenQ_r | apply thenQ_e | apply znil | apply wret | apply bodyQ_r | apply wblk | apply blkQ_n | apply blkQ_r | apply wskip | apply wexit)
 | (with_reducible apply zlit (α := Lot) (e := 137)); rfl; exact tk; (iterate 13 rfl)
 | fail)
  refine wlp (X := Int × List Lot × List Lot) [0, 1, 2] [0, 1, 2] (fun x => [(10, I x.1), (8, .c (.row 1 0 x.2.1.length)), (9, .c (.row 2 0 x.2.2.length))]) (fun x => [(1, ow 137 x.2.1), (2, ow 137 x.2.2)]) (fun x => (0 ≤ x.1 ∧ x.1 ≤ l.length) ∧ x.2.1 = lotsOf (pf l x.1) a c ∧ x.2.2 = lotsNot (pf l x.1) a c) (fun x => (l.length - x.1).toNat) (0, [], []) ⟨by dsimp only; omega, rfl, rfl⟩ rfl rfl (fun _ => rfl) (fun _ => rfl) ⟨rfl, rfl, rfl, rfl, rfl, rfl, rfl, rfl⟩ (fun x hx => ?_)
  obtain ⟨i, u, v⟩ := x
  obtain ⟨h0, hu, hv⟩ := hx
  dsimp only at h0 hu hv ⊢
  have hpl := pf_len h0
  have hul : u.length ≤ 1000000 := by rw [hu]; have := flt_le (fun x => x.Account = a ∧ x.Instr = c) (pf l i); unfold lotsOf; omega
  have hvl : v.length ≤ 1000000 := by rw [hv]; have := flt_le (fun x => ¬ (x.Account = a ∧ x.Instr = c)) (pf l i); unfold lotsNot; omega
  have hy := fun (h : i < l.length) (e : (rd l i).Account = a ∧ (rd l i).Instr = c) => (⟨by rw [hu, lotsOf, lotsOf, flt_succ ⟨h0.1, h⟩, flt_y (p := fun x : Lot => x.Account = a ∧ x.Instr = c) e], by rw [hv, lotsNot, lotsNot, flt_succ ⟨h0.1, h⟩, flt_n (p := fun x : Lot => ¬ (x.Account = a ∧ x.Instr = c)) (fun k => k e), List.append_nil]⟩ : u ++ [rd l i] = lotsOf (pf l (i + 1)) a c ∧ v = lotsNot (pf l (i + 1)) a c)
  have hn := fun (h : i < l.length) (e : ¬ ((rd l i).Account = a ∧ (rd l i).Instr = c)) => (⟨by rw [hu, lotsOf, lotsOf, flt_succ ⟨h0.1, h⟩, flt_n (p := fun x : Lot => x.Account = a ∧ x.Instr = c) e, List.append_nil], by rw [hv, lotsNot, lotsNot, flt_succ ⟨h0.1, h⟩, flt_y (p := fun x : Lot => ¬ (x.Account = a ∧ x.Instr = c)) e]⟩ : u = lotsOf (pf l (i + 1)) a c ∧ v ++ [rd l i] = lotsNot (pf l (i + 1)) a c)
  repeat' (first
 | (with_reducible apply zds); exact tk; rfl; rfl; rfl; rfl; rfl
 | (with_reducible apply zd); rfl; exact tk; rfl
 | (with_reducible first | intro _ | apply wseq | apply zreg | apply thenQ_n | apply thenQ_r | apply thenQ_e | apply znil | apply wret | apply bodyQ_r | apply wblk | apply blkQ_n | apply blkQ_r | apply wskip | apply wexit)
 | apply wct rfl
 | apply wcf rfl
 | (with_reducible apply blkQ_x rfl)
 | (with_reducible apply zcmp); rfl; exact tk; rfl; rfl; rfl
 | (with_reducible apply zar); rfl; rfl; rfl; rfl; (first | omega | ((try simp only [List.length_append, List.length_cons, List.length_nil, List.length_map]); (try dsimp only); omega)); rfl; rfl
 | (with_reducible apply zix); rfl; exact tk; (iterate 7 rfl); (first | omega | ((try simp only [List.length_append, List.length_cons, List.length_nil, List.length_map]); (try dsimp only); omega)); rfl; rfl
 | (with_reducible apply zle); rfl; exact tk; rfl; rfl; rfl; rfl; (first | omega | ((try simp only [List.length_append, List.length_cons, List.length_nil, List.length_map]); (try dsimp only); omega)); rfl; rfl; rfl; rfl
 | (with_reducible apply zlit (α := Lot) (e := 137)); rfl; exact tk; (iterate 13 rfl)
 | (with_reducible apply zap); rfl; exact tk; (iterate 10 rfl); (first | omega | ((try simp only [List.length_append, List.length_cons, List.length_nil, List.length_map]); (try dsimp only); omega)); rfl; rfl; rfl; rfl; rfl
 | fail)
  all_goals first
    | exact endR (i + 1, u ++ [rd l i], v) [0, 4, 2] ⟨rfl, rfl, rfl, rfl, rfl, rfl, rfl, rfl⟩ ⟨by dsimp only; omega, hy (by assumption) ⟨by assumption, by assumption⟩⟩ (by first | omega | (dsimp only; omega))
    | exact endR (i + 1, u, v ++ [rd l i]) [0, 1, 4] ⟨rfl, rfl, rfl, rfl, rfl, rfl, rfl, rfl⟩ ⟨by dsimp only; omega, hn (by assumption) (fun e => by first | exact absurd e.1 (by assumption) | exact absurd e.2 (by assumption))⟩ (by first | omega | (dsimp only; omega))
    | (rename_i h
       rw [pf_all h] at hu hv
       subst hu
       subst hv
       exact endV [0, 1, 2] rfl rfl rfl rfl rfl rfl)
set_option maxHeartbeats 4000000 in
theorem spec_l5Qty {l : List Lot} (hq : LQ l) : FC Tryz.prog 289 [.c (.row 0 0 l.length)] ([ro 137 l]) (I (sQ l)) ([ro 137 l]) := by
  refine fent tk 19 [.tmp 2] Tryz.func289 (by kernel_rfl) rfl rfl rfl rfl rfl rfl rfl ?_
  have hl := hq.len
  repeat' (first
 | (with_reducible apply zd); rfl; exact tk; rfl
 | (with_reducible first | intro _ | apply wseq | apply zreg | apply thenQ_n | apply thenQ_r | apply thenQ_e | apply znil | apply wret | apply bodyQ_r | apply wblk | apply blkQ_n | apply blkQ_r | apply wskip | apply wexit)
 | fail)
  refine wlp (X := Int × Int) [0] [0] (fun x => [(4, I x.1), (3, I x.2)]) (fun _ => []) (fun x => (0 ≤ x.1 ∧ x.1 ≤ l.length) ∧ x.2 = sQ (pf l x.1)) (fun x => (l.length - x.1).toNat) (0, 0) ⟨by dsimp only; omega, rfl⟩ rfl rfl (fun _ => rfl) (fun _ => rfl) ⟨rfl, rfl, rfl, rfl, rfl, rfl, rfl, rfl⟩ (fun x hx => ?_)
  obtain ⟨i, n⟩ := x
  obtain ⟨h0, hn⟩ := hx
  dsimp only at h0 hn ⊢
  have hbd := (lot_bnd hq h0).1
  rw [← hn] at hbd
  have hm := fun (h : i < l.length) => hq.q _ (rd_mem ⟨h0.1, h⟩)
  repeat' (first
 | (with_reducible apply zds); exact tk; rfl; rfl; rfl; rfl; rfl
 | (with_reducible apply zd); rfl; exact tk; rfl
 | (with_reducible apply zar); rfl; rfl; rfl; rfl; (have h1 := hm (by assumption); omega); rfl; rfl
 | (with_reducible first | intro _ | apply wseq | apply zreg | apply thenQ_n | apply thenQ_r | apply thenQ_e | apply znil | apply wret | apply bodyQ_r | apply wblk | apply blkQ_n | apply blkQ_r | apply wskip | apply wexit)
 | apply wct rfl
 | apply wcf rfl
 | (with_reducible apply blkQ_x rfl)
 | (with_reducible apply zcmp); rfl; exact tk; rfl; rfl; rfl
 | (with_reducible apply zix); rfl; exact tk; (iterate 7 rfl); (first | omega | ((try simp only [List.length_append, List.length_cons, List.length_nil, List.length_map]); (try dsimp only); omega)); rfl; rfl
 | (with_reducible apply zle); rfl; exact tk; rfl; rfl; rfl; rfl; (first | omega | ((try simp only [List.length_append, List.length_cons, List.length_nil, List.length_map]); (try dsimp only); omega)); rfl; rfl; rfl; rfl
 | fail)
  · rename_i h
    exact endR (i + 1, _) [0] ⟨rfl, rfl, rfl, rfl, rfl, rfl, rfl, rfl⟩ ⟨by dsimp only; omega, by dsimp only; rw [sQ, sumF_succ ⟨h0.1, h⟩, hn]; rfl⟩ (by first | omega | (dsimp only; omega))
  · rename_i h
    rw [pf_all h] at hn
    exact endI [0] rfl rfl rfl rfl rfl rfl hn.symm
end Go.Proofs.YtgehbhkfehmdkaaGreat.Sh
