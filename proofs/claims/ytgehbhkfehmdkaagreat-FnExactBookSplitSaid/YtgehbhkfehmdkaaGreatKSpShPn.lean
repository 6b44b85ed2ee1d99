/- Numbers as bytes. No condition. -/
import Derived.Test.YtgehbhkfehmdkaaGreatKSpShX2
import Derived.Test.YtgehbhkfehmdkaaGreatKSpShBo
namespace Go.Proofs.YtgehbhkfehmdkaaGreat.Sh
open Go.RowKit
set_option linter.unusedVariables false
set_option linter.unusedSimpArgs false
set_option maxHeartbeats 4000000 in
theorem impl_sumOf {l : List Int} (hq : (∀ x ∈ l, -1000000000000000 ≤ x ∧ x ≤ 1000000000000000) ∧ l.length ≤ 1000) : FC Tryz.prog 139 [.c (.row 0 0 l.length)] ([ro 3 l]) (I (sumF id l)) ([ro 3 l]) := by
  refine fent tk 17 [.tmp 2] Tryz.func139 (by kernel_rfl) rfl rfl rfl rfl rfl rfl rfl ?_
  repeat' (first
 | (with_reducible apply zds); exact tk; rfl; rfl; rfl; rfl; rfl
 | (with_reducible apply zd); rfl; exact tk; rfl
 | (with_reducible first | intro _ | apply wseq | apply zreg | apply thenQ_n | apply thenQ_r | apply thenQ_e | apply znil | apply wret | apply bodyQ_r | apply wblk | apply blkQ_n | apply blkQ_r | apply wskip | apply wexit)
 | fail)
  refine wlp (X := Int × Int) [6, 7] [0] (fun x => [(8, I x.1), (3, I x.2)]) (fun _ => []) (fun x => (0 ≤ x.1 ∧ x.1 ≤ l.length) ∧ x.2 = sumF id (pf l x.1)) (fun x => (l.length - x.1).toNat) (0, 0) ⟨by dsimp only; omega, rfl⟩ rfl rfl (fun _ => rfl) (fun _ => rfl) ⟨rfl, rfl, rfl, rfl, rfl, rfl, rfl, rfl⟩ (fun x hx => ?_)
  obtain ⟨i, n⟩ := x
  obtain ⟨h0, hn⟩ := hx
  dsimp only at h0 hn ⊢
  have hbd := sumF_bnd (f := id) hq.1 h0
  rw [← hn] at hbd
  have hm := fun (h : i < l.length) => hq.1 _ (rd_mem ⟨h0.1, h⟩)
  repeat' (first
 | (with_reducible apply zds); exact tk; rfl; rfl; rfl; rfl; rfl
 | (with_reducible apply zd); rfl; exact tk; rfl
 | (with_reducible apply zar); rfl; rfl; rfl; rfl; (have h1 := hm (by assumption); have h2 := hq.2; omega); rfl; rfl
 | (with_reducible first | intro _ | apply wseq | apply zreg | apply thenQ_n | apply thenQ_r | apply thenQ_e | apply znil | apply wret | apply bodyQ_r | apply wblk | apply blkQ_n | apply blkQ_r | apply wskip | apply wexit)
 | apply wct rfl
 | apply wcf rfl
 | (with_reducible apply blkQ_x rfl)
 | (with_reducible apply zcmp); rfl; exact tk; rfl; rfl; rfl
 | (with_reducible apply zix); rfl; exact tk; (iterate 7 rfl); (first | omega | ((try simp only [List.length_append, List.length_cons, List.length_nil, List.length_map]); (try dsimp only); omega)); rfl; rfl
 | (with_reducible apply zle); rfl; exact tk; rfl; rfl; rfl; rfl; (first | omega | ((try simp only [List.length_append, List.length_cons, List.length_nil, List.length_map]); (try dsimp only); omega)); rfl; rfl; rfl; rfl
 | fail)
  · rename_i h
    exact endR (i + 1, _) [0] ⟨rfl, rfl, rfl, rfl, rfl, rfl, rfl, rfl⟩ ⟨by dsimp only; omega, by dsimp only; rw [sumF_succ ⟨h0.1, h⟩, hn]; rfl⟩ (by first | omega | (dsimp only; omega))
  · rename_i h
    rw [pf_all h] at hn
    exact endI [0] rfl rfl rfl rfl rfl rfl hn.symm
end Go.Proofs.YtgehbhkfehmdkaaGreat.Sh
namespace Go.Proofs.YtgehbhkfehmdkaaGreat.Sh
open Go.RowKit
set_option linter.unusedVariables false
set_option linter.unusedSimpArgs false
theorem sorted_ext : ∀ {l m : List Int}, l.Pairwise (· < ·) → m.Pairwise (· < ·) → (∀ x, x ∈ l ↔ x ∈ m) → l = m
  | [], [], _, _, _ => rfl
  | [], y :: m, _, _, h => absurd ((h y).2 (by simp)) (by simp)
  | x :: l, [], _, _, h => absurd ((h x).1 (by simp)) (by simp)
  | x :: l, y :: m, hl, hm, h => by
    rw [List.pairwise_cons] at hl hm
    have hx := (h x).1 (by simp)
    have hy := (h y).2 (by simp)
    rw [List.mem_cons] at hx hy
    have e : x = y := by
      rcases hx with hx | hx
      · exact hx
      · rcases hy with hy | hy
        · exact hy.symm
        · have h1 := hm.1 x hx
          have h2 := hl.1 y hy
          omega
    subst e
    congr 1
    refine sorted_ext hl.2 hm.2 (fun z => ⟨fun hz => ?_, fun hz => ?_⟩)
    · have h1 := (h z).1 (by simp [hz])
      rw [List.mem_cons] at h1
      rcases h1 with h1 | h1
      · have := hl.1 z hz; omega
      · exact h1
    · have h1 := (h z).2 (by simp [hz])
      rw [List.mem_cons] at h1
      rcases h1 with h1 | h1
      · have := hm.1 z hz; omega
      · exact h1
theorem pw_rd {α : Type} [Enc α] {R : α → α → Prop} {l : List α} (h : ∀ i j : Int, 0 ≤ i → i < j → j < l.length → R (rd l i) (rd l j)) : l.Pairwise R := by
  rw [List.pairwise_iff_getElem]
  intro i j hi hj hij
  have := h i j (by omega) (by omega) (by omega)
  simpa [rd, List.getD_eq_getElem?_getD, hi, hj] using this
theorem acc_lt {l : List Account} (h : AccountsOk l) : l.Pairwise (fun a b => a.No < b.No) := by
  refine pw_rd fun i j h0 hij hj => ?_
  obtain ⟨n, rfl⟩ : ∃ n : Nat, j = i + 1 + n := ⟨(j - i - 1).toNat, by omega⟩
  induction n with
  | zero =>
    have := (h.1 (i + 1 + (0 : Nat)) (by omega) hj).2.2 (by omega)
    rwa [show i + 1 + ((0 : Nat) : Int) - 1 = i from by omega] at this
  | succ n ih =>
    have h1 := (h.1 (i + 1 + (n + 1 : Nat)) (by omega) hj).2.2 (by omega)
    rw [show i + 1 + ((n + 1 : Nat) : Int) - 1 = i + 1 + (n : Int) from by omega] at h1
    have := ih (by omega) (by omega)
    omega
theorem bal_lt {l : List Bal} (h : BSd l) : l.Pairwise (fun x y => bef x.Account x.Instr y.Account y.Instr) := pw_rd fun i j h0 hij hj => h.lt h0 hij hj
theorem accKind_mem {l : List Account} (h : AccountsOk l) {a : Account} (ha : a ∈ l) : accKind l a.No = a.Kind := by
  obtain ⟨i, hi, rfl⟩ := mem_rd ha
  refine accKind_at hi (fun j h0 h1 e => ?_) rfl
  have := List.pairwise_iff_getElem.1 (acc_lt h) j.toNat i.toNat (by omega) (by omega) (by omega)
  have e1 : l[j.toNat]'(by omega) = rd l j := by simp [rd, List.getD_eq_getElem?_getD, show j.toNat < l.length from by omega]
  have e2 : l[i.toNat]'(by omega) = rd l i := by simp [rd, List.getD_eq_getElem?_getD, show i.toNat < l.length from by omega]
  rw [e1, e2] at this
  omega
theorem accKind_ex {l : List Account} {n : Int} (h : accKind l n ≠ 0) : ∃ a ∈ l, a.No = n ∧ a.Kind = accKind l n := by
  unfold accKind at *
  cases hf : l.find? (fun x => decide (x.No = n)) with
  | none => rw [hf] at h; exact absurd rfl h
  | some a =>
    rw [hf] at h
    exact ⟨a, List.mem_of_find?_eq_some hf, by simpa using List.find?_some hf, rfl⟩
theorem balOf_mem {l : List Bal} (h : BSd l) {x : Bal} (hx : x ∈ l) : balOf l x.Account x.Instr = x.Amount := by
  obtain ⟨i, hi, rfl⟩ := mem_rd hx
  refine balOf_at hi (fun j h0 h1 e => ?_) ⟨rfl, rfl⟩
  have := h.lt h0 h1 hi.2
  unfold bef at this
  omega
theorem balOf_ex {l : List Bal} {a c : Int} (h : balOf l a c ≠ 0) : ∃ x ∈ l, x.Account = a ∧ x.Instr = c ∧ x.Amount = balOf l a c := by
  unfold balOf at *
  cases hf : l.find? (fun x => decide (x.Account = a ∧ x.Instr = c)) with
  | none => rw [hf] at h; exact absurd rfl h
  | some x =>
    rw [hf] at h
    have := List.find?_some hf
    simp only [decide_eq_true_eq] at this
    exact ⟨x, List.mem_of_find?_eq_some hf, this.1, this.2, rfl⟩
noncomputable def who (ba : List Account) (bb : List Bal) (p : Int) : List Int := (flt (fun a => a.Kind = 1 ∧ balOf bb a.No p > 0) ba).map Account.No
noncomputable def much (ba : List Account) (bb : List Bal) (p : Int) : List Int := (who ba bb p).map (fun n => balOf bb n p)
noncomputable def heldB (ba : List Account) (bb : List Bal) (p : Int) : List Bal := flt (fun x => x.Instr = p ∧ x.Amount > 0 ∧ accKind ba x.Account = 1) bb
theorem heldB_who {ba : List Account} {bb : List Bal} {p : Int} (ha : AccountsOk ba) (hb : BSd bb) : (heldB ba bb p).map Bal.Account = who ba bb p := by
  refine sorted_ext ?_ ?_ (fun n => ?_)
  · rw [List.pairwise_map]
    have h1 : (heldB ba bb p).Pairwise (fun x y => bef x.Account x.Instr y.Account y.Instr) := (bal_lt hb).filter _
    refine h1.imp_of_mem ?_
    intro x y hx hy h
    have e1 := (flt_mem.1 hx).2.1
    have e2 := (flt_mem.1 hy).2.1
    unfold bef at h
    omega
  · unfold who
    rw [List.pairwise_map]
    exact (acc_lt ha).filter _
  · unfold who heldB
    simp only [List.mem_map]
    constructor
    · rintro ⟨x, hx, rfl⟩
      obtain ⟨h1, h2, h3, h4⟩ := flt_mem.1 hx
      obtain ⟨a, ha1, ha2, ha3⟩ := accKind_ex (l := ba) (n := x.Account) (by omega)
      refine ⟨a, flt_mem.2 ⟨ha1, by omega, ?_⟩, ha2⟩
      rw [ha2, ← h2, balOf_mem hb h1]
      exact h3
    · rintro ⟨a, hx, rfl⟩
      obtain ⟨h1, h2, h3⟩ := flt_mem.1 hx
      obtain ⟨x, hx1, hx2, hx3, hx4⟩ := balOf_ex (l := bb) (a := a.No) (c := p) (by omega)
      exact ⟨x, flt_mem.2 ⟨hx1, hx3, by omega, by rw [hx2, accKind_mem ha h1]; exact h2⟩, hx2⟩
theorem heldB_much {ba : List Account} {bb : List Bal} {p : Int} (ha : AccountsOk ba) (hb : BSd bb) : (heldB ba bb p).map Bal.Amount = much ba bb p := by
  rw [much, ← heldB_who ha hb, List.map_map]
  refine List.map_congr_left (fun x hx => ?_)
  obtain ⟨h1, h2, _⟩ := flt_mem.1 hx
  show x.Amount = balOf bb x.Account p
  rw [← h2, balOf_mem hb h1]
theorem who_len (ba : List Account) (bb : List Bal) (p : Int) : (who ba bb p).length ≤ ba.length := by
  unfold who
  rw [List.length_map]
  exact flt_le _ _
theorem much_len (ba : List Account) (bb : List Bal) (p : Int) : (much ba bb p).length = (who ba bb p).length := by simp [much]
theorem much_rng {ba : List Account} {bb : List Bal} {p : Int} (hb : BalsOk bb) : ∀ x ∈ much ba bb p, 0 < x ∧ x ≤ 1000000000000000 := by
  intro x hx
  unfold much who at hx
  simp only [List.mem_map] at hx
  obtain ⟨n, ⟨a, ha, rfl⟩, rfl⟩ := hx
  have h1 := (flt_mem.1 ha).2.2
  obtain ⟨y, hy, _, _, e⟩ := balOf_ex (l := bb) (a := a.No) (c := p) (by omega)
  obtain ⟨i, hi, rfl⟩ := mem_rd hy
  have h2 := (hb.1 i hi.1 hi.2).2.2.1
  unfold amountOk inP at h2
  omega
def HeldOk (b : Books) (p : Int) : Prop := BooksOk b ∧ amountOk (sumF id (much b.Accounts b.Bals p))
theorem much_ok {ba : List Account} {bb : List Bal} {p : Int} (ha : AccountsOk ba) (hb : BalsOk bb) : (∀ x ∈ much ba bb p, -1000000000000000 ≤ x ∧ x ≤ 1000000000000000) ∧ (much ba bb p).length ≤ 1000 :=
  ⟨fun x hx => by have := much_rng hb x hx; omega, by rw [much_len]; have := who_len ba bb p; have := ha.2; omega⟩
theorem heldB_len (ba : List Account) (bb : List Bal) (p : Int) (i : Int) : (flt (fun x => x.Instr = p ∧ x.Amount > 0 ∧ accKind ba x.Account = 1) (pf bb i)).length ≤ bb.length := Nat.le_trans (flt_le _ _) (by simp only [pf, List.length_take]; omega)
set_option maxHeartbeats 4000000 in
theorem impl_Held {ba : List Account} {bi : List Instr} {bb : List Bal} {bl : List Lot} {bt : List Trade} {bn : Int} {p : Int} : FC Tryz.prog 32 [bkV 0 ⟨ba, bi, bb, bl, bt, bn⟩, I p] (bkR ⟨ba, bi, bb, bl, bt, bn⟩) (sel (HeldOk ⟨ba, bi, bb, bl, bt, bn⟩ p) (.tup [.c (.row 5 0 (who ba bb p).length), .c (.row 6 0 (much ba bb p).length), I (sumF id (much ba bb p)), B true]) (.tup [.c (.row 5 0 ([] : List Int).length), .c (.row 6 0 ([] : List Int).length), I 0, B false])) (sel (HeldOk ⟨ba, bi, bb, bl, bt, bn⟩ p) (bkR ⟨ba, bi, bb, bl, bt, bn⟩ ++ [ow 3 (who ba bb p), ow 3 (much ba bb p)]) (bkR ⟨ba, bi, bb, bl, bt, bn⟩ ++ [ow 3 ([] : List Int), ow 3 ([] : List Int)])) := by
  refine fent tk 61 [.tmp 4, .tmp 5, .tmp 6, .tmp 7] Tryz.func32 (by kernel_rfl) rfl rfl rfl rfl rfl rfl rfl ?_
  repeat' (first
 | (with_reducible apply zds); exact tk; rfl; rfl; rfl; rfl; rfl
 | (with_reducible apply zd); rfl; exact tk; rfl
 | (with_reducible apply znila (d := 4) 3 1); rfl; rfl; rfl
 | (with_reducible apply znila (d := 5) 3 1); rfl; rfl; rfl
 | (with_reducible first | intro _ | apply wseq | apply zreg | apply thenQ_n | apply thenQ_r | apply thenQ_e | apply znil | apply wret | apply bodyQ_r | apply wblk | apply blkQ_n | apply blkQ_r | apply wskip | apply wexit)
 | apply wct rfl
 | apply wcf rfl
 | (with_reducible apply zlit (α := Int) (e := 3)); rfl; exact tk; (iterate 13 rfl)
 | (with_reducible apply zcp); (iterate 10 rfl); (first | exact impl_BooksOk | exact impl_AmountOk); rfl; rfl
 | fail)
  rotate_left
  · rename_i h
    exact endF (fun k => h k.1) [0, 1, 2, 3, 4, 8, 9] rfl rfl rfl rfl rfl rfl
  rename_i hok
  have hlb := hok.bals.2
  dsimp only at hlb
  refine wlp (X := Int × List Int × List Int) [1, 2, 19, 20] [0, 1, 2, 3, 4, 5, 8, 9] (fun x => [(21, I x.1), (8, .c (.row 6 0 x.2.1.length)), (9, .c (.row 7 0 x.2.2.length))]) (fun x => [(6, ow 3 x.2.1), (7, ow 3 x.2.2)]) (fun x => (0 ≤ x.1 ∧ x.1 ≤ bb.length) ∧ x.2.1 = (flt (fun x => x.Instr = p ∧ x.Amount > 0 ∧ accKind ba x.Account = 1) (pf bb x.1)).map Bal.Account ∧ x.2.2 = (flt (fun x => x.Instr = p ∧ x.Amount > 0 ∧ accKind ba x.Account = 1) (pf bb x.1)).map Bal.Amount) (fun x => (bb.length - x.1).toNat) (0, [], []) ⟨by dsimp only; omega, rfl, rfl⟩ rfl rfl (fun _ => rfl) (fun _ => rfl) ⟨rfl, rfl, rfl, rfl, rfl, rfl, rfl, rfl⟩ (fun x hx => ?_)
  obtain ⟨i, u, v⟩ := x
  obtain ⟨h0, hu, hv⟩ := hx
  dsimp only at h0 hu hv ⊢
  have hul : u.length ≤ 160 := by rw [hu, List.length_map]; have := heldB_len ba bb p i; omega
  have hvl : v.length ≤ 160 := by rw [hv, List.length_map]; have := heldB_len ba bb p i; omega
  repeat' (first
 | (with_reducible apply zds); exact tk; rfl; rfl; rfl; rfl; rfl
 | (with_reducible apply zd); rfl; exact tk; rfl
 | (with_reducible first | intro _ | apply wseq | apply zreg | apply thenQ_n | apply thenQ_r | apply thenQ_e | apply znil | apply wret | apply bodyQ_r | apply wblk | apply blkQ_n | apply blkQ_r | apply wskip | apply wexit)
 | apply wct rfl
 | apply wcf rfl
 | (with_reducible apply blkQ_x rfl)
 | (with_reducible apply zcmp); rfl; exact tk; rfl; rfl; rfl
 | (with_reducible apply zar); rfl; rfl; rfl; rfl; (first | omega | ((try simp only [List.length_append, List.length_cons, List.length_nil, List.length_map]); (try dsimp only); omega)); rfl; rfl
 | (with_reducible apply zix); rfl; exact tk; (iterate 7 rfl); (first | omega | ((try simp only [List.length_append, List.length_cons, List.length_nil, List.length_map]); (try dsimp only); omega)); rfl; rfl
 | (with_reducible apply zle); rfl; exact tk; rfl; rfl; rfl; rfl; (first | omega | ((try simp only [List.length_append, List.length_cons, List.length_nil, List.length_map]); (try dsimp only); omega)); rfl; rfl; rfl; rfl
 | (with_reducible apply zlit (α := Int) (e := 3)); rfl; exact tk; (iterate 13 rfl)
 | (with_reducible apply zap); rfl; exact tk; (iterate 10 rfl); (first | omega | ((try simp only [List.length_append, List.length_cons, List.length_nil, List.length_map]); (try dsimp only); omega)); rfl; rfl; rfl; rfl; rfl
 | (with_reducible apply zc); (iterate 10 rfl); (first | exact impl_accountKind | exact impl_sumOf_w (by first | assumption | exact all_of (by assumption)) (by unfold inP at *; omega) | exact impl_sumOf (by assumption)); exact fun _ => rfl; rfl; rfl; rfl
 | fail)
  all_goals first
    | exact endR (i + 1, u ++ [(rd bb i).Account], v ++ [(rd bb i).Amount]) [0, 1, 2, 3, 4, 5, 10, 12] ⟨rfl, rfl, rfl, rfl, rfl, rfl, rfl, rfl⟩ ⟨by dsimp only; omega, by dsimp only; rw [flt_succ ⟨h0.1, by assumption⟩, flt_y (p := fun x : Bal => x.Instr = p ∧ x.Amount > 0 ∧ accKind ba x.Account = 1) ⟨by assumption, by assumption, by assumption⟩, List.map_append, hu]; rfl, by dsimp only; rw [flt_succ ⟨h0.1, by assumption⟩, flt_y (p := fun x : Bal => x.Instr = p ∧ x.Amount > 0 ∧ accKind ba x.Account = 1) ⟨by assumption, by assumption, by assumption⟩, List.map_append, hv]; rfl⟩ (by first | omega | (dsimp only; omega))
    | exact endR (i + 1, u, v) [0, 1, 2, 3, 4, 5, 6, 7] ⟨rfl, rfl, rfl, rfl, rfl, rfl, rfl, rfl⟩ ⟨by dsimp only; omega, by dsimp only; rw [flt_succ ⟨h0.1, by assumption⟩, flt_n (p := fun x : Bal => x.Instr = p ∧ x.Amount > 0 ∧ accKind ba x.Account = 1) (fun e => by obtain ⟨e1, e2, e3⟩ := e; contradiction), List.append_nil, hu], by dsimp only; rw [flt_succ ⟨h0.1, by assumption⟩, flt_n (p := fun x : Bal => x.Instr = p ∧ x.Amount > 0 ∧ accKind ba x.Account = 1) (fun e => by obtain ⟨e1, e2, e3⟩ := e; contradiction), List.append_nil, hv]⟩ (by first | omega | (dsimp only; omega))
    | skip
  rename_i h
  rw [pf_all h] at hu hv
  replace hu := hu.trans (heldB_who hok.acc hok.bals.sd)
  replace hv := hv.trans (heldB_much hok.acc hok.bals.sd)
  subst hu
  subst hv
  have hq : (∀ x ∈ much ba bb p, -1000000000000000 ≤ x ∧ x ≤ 1000000000000000) ∧ (much ba bb p).length ≤ 1000 := much_ok (p := p) hok.acc hok.bals
  repeat' (first
 | (with_reducible apply zds); exact tk; rfl; rfl; rfl; rfl; rfl
 | (with_reducible apply zd); rfl; exact tk; rfl
 | (with_reducible apply znila (d := 4) 3 1); rfl; rfl; rfl
 | (with_reducible apply znila (d := 5) 3 1); rfl; rfl; rfl
 | (with_reducible first | intro _ | apply wseq | apply zreg | apply thenQ_n | apply thenQ_r | apply thenQ_e | apply znil | apply wret | apply bodyQ_r | apply wblk | apply blkQ_n | apply blkQ_r | apply wskip | apply wexit)
 | apply wct rfl
 | apply wcf rfl
 | (with_reducible apply zcp); (iterate 10 rfl); (first | exact impl_BooksOk | exact impl_AmountOk); rfl; rfl
 | (with_reducible apply zc); (iterate 10 rfl); (first | exact impl_accountKind | exact impl_sumOf_w (by first | assumption | exact all_of (by assumption)) (by unfold inP at *; omega) | exact impl_sumOf (by assumption)); exact fun _ => rfl; rfl; rfl; rfl
 | fail)
  all_goals first
    | exact endT ⟨hok, by assumption⟩ [0, 1, 2, 3, 4, 6, 7] rfl rfl rfl rfl rfl rfl
    | exact endF (fun k => absurd k.2 (by assumption)) [0, 1, 2, 3, 4, 8, 9] rfl rfl rfl rfl rfl rfl
set_option maxHeartbeats 4000000 in
theorem spec_Held {ba : List Account} {bi : List Instr} {bb : List Bal} {bl : List Lot} {bt : List Trade} {bn : Int} {p : Int} : FC Tryz.prog 134 [bkV 0 ⟨ba, bi, bb, bl, bt, bn⟩, I p] (bkR ⟨ba, bi, bb, bl, bt, bn⟩) (sel (HeldOk ⟨ba, bi, bb, bl, bt, bn⟩ p) (.tup [.c (.row 5 0 (who ba bb p).length), .c (.row 6 0 (much ba bb p).length), I (sumF id (much ba bb p)), B true]) (.tup [.c (.row 5 0 ([] : List Int).length), .c (.row 6 0 ([] : List Int).length), I 0, B false])) (sel (HeldOk ⟨ba, bi, bb, bl, bt, bn⟩ p) (bkR ⟨ba, bi, bb, bl, bt, bn⟩ ++ [ow 3 (who ba bb p), ow 3 (much ba bb p)]) (bkR ⟨ba, bi, bb, bl, bt, bn⟩ ++ [ow 3 ([] : List Int), ow 3 ([] : List Int)])) := by
  refine fent tk 72 [.tmp 4, .tmp 5, .tmp 6, .tmp 7] Tryz.func134 (by kernel_rfl) rfl rfl rfl rfl rfl rfl rfl ?_
  repeat' (first
 | (with_reducible apply zds); exact tk; rfl; rfl; rfl; rfl; rfl
 | (with_reducible apply zd); rfl; exact tk; rfl
 | (with_reducible first | intro _ | apply wseq | apply zreg | apply thenQ_n | apply thenQ_r | apply thenQ_e | apply znil | apply wret | apply bodyQ_r | apply wblk | apply blkQ_n | apply blkQ_r | apply wskip | apply wexit)
 | apply wct rfl
 | apply wcf rfl
 | (with_reducible apply zlit (α := Int) (e := 3)); rfl; exact tk; (iterate 13 rfl)
 | (with_reducible apply zcp); (iterate 10 rfl); (first | exact spec_BooksOk | exact spec_AmountOk); rfl; rfl
 | fail)
  rotate_left
  · rename_i h
    exact endF (fun k => h k.1) [0, 1, 2, 3, 4, 6, 7] rfl rfl rfl rfl rfl rfl
  rename_i hok
  have hla := hok.acc.2
  dsimp only at hla
  have hbr := fun x (hx : x ∈ bb) => (by obtain ⟨i, hi, rfl⟩ := mem_rd hx; exact (hok.bals.1 i hi.1 hi.2).2.2.1 : amountOk x.Amount)
  have hbo : ∀ n, -1000000000000000 ≤ balOf bb n p ∧ balOf bb n p ≤ 1000000000000000 := fun n => by
    by_cases e : balOf bb n p = 0
    · omega
    · obtain ⟨x, hx, _, _, e2⟩ := balOf_ex e
      have := hbr x hx
      unfold amountOk inP at this
      omega
  refine wlp (X := Int × List Int × List Int × Int) [1, 2] [0, 1, 2, 3, 4, 5, 6, 7] (fun x => [(11, I x.1), (8, .c (.row 6 0 x.2.1.length)), (9, .c (.row 7 0 x.2.2.1.length)), (10, I x.2.2.2)]) (fun x => [(6, ow 3 x.2.1), (7, ow 3 x.2.2.1)]) (fun x => (0 ≤ x.1 ∧ x.1 ≤ ba.length) ∧ x.2.1 = (flt (fun a => a.Kind = 1 ∧ balOf bb a.No p > 0) (pf ba x.1)).map Account.No ∧ x.2.2.1 = x.2.1.map (fun n => balOf bb n p) ∧ x.2.2.2 = sumF id x.2.2.1 ∧ -1000000000000000 * x.1 ≤ x.2.2.2 ∧ x.2.2.2 ≤ 1000000000000000 * x.1) (fun x => (ba.length - x.1).toNat) (0, [], [], 0) ⟨by dsimp only; omega, rfl, rfl, rfl, by dsimp only; omega, by dsimp only; omega⟩ rfl rfl (fun _ => rfl) (fun _ => rfl) ⟨rfl, rfl, rfl, rfl, rfl, rfl, rfl, rfl⟩ (fun x hx => ?_)
  obtain ⟨i, u, v, n⟩ := x
  obtain ⟨h0, hu, hv, hn, hn1, hn2⟩ := hx
  dsimp only at h0 hu hv hn hn1 hn2 ⊢
  have hul : u.length ≤ 20 := by
    rw [hu, List.length_map]
    have h1 := flt_le (fun a => a.Kind = 1 ∧ balOf bb a.No p > 0) (pf ba i)
    have h2 := pf_len h0
    omega
  have hvl : v.length ≤ 20 := by rw [hv, List.length_map]; exact hul
  have hbi := hbo (rd ba i).No
  repeat' (first
 | (with_reducible apply zds); exact tk; rfl; rfl; rfl; rfl; rfl
 | (with_reducible apply zd); rfl; exact tk; rfl
 | (with_reducible first | intro _ | apply wseq | apply zreg | apply thenQ_n | apply thenQ_r | apply thenQ_e | apply znil | apply wret | apply bodyQ_r | apply wblk | apply blkQ_n | apply blkQ_r | apply wskip | apply wexit)
 | apply wct rfl
 | apply wcf rfl
 | (with_reducible apply blkQ_x rfl)
 | (with_reducible apply zcmp); rfl; exact tk; rfl; rfl; rfl
 | (with_reducible apply zar); rfl; rfl; rfl; rfl; (first | omega | ((try simp only [List.length_append, List.length_cons, List.length_nil, List.length_map]); (try dsimp only); omega)); rfl; rfl
 | (with_reducible apply zix); rfl; exact tk; (iterate 7 rfl); (first | omega | ((try simp only [List.length_append, List.length_cons, List.length_nil, List.length_map]); (try dsimp only); omega)); rfl; rfl
 | (with_reducible apply zle); rfl; exact tk; rfl; rfl; rfl; rfl; (first | omega | ((try simp only [List.length_append, List.length_cons, List.length_nil, List.length_map]); (try dsimp only); omega)); rfl; rfl; rfl; rfl
 | (with_reducible apply zlit (α := Int) (e := 3)); rfl; exact tk; (iterate 13 rfl)
 | (with_reducible apply zap); rfl; exact tk; (iterate 10 rfl); (first | omega | ((try simp only [List.length_append, List.length_cons, List.length_nil, List.length_map]); (try dsimp only); omega)); rfl; rfl; rfl; rfl; rfl
 | refine zdq (id := 8) rfl (by kernel_rfl) [(.p, 0), (.p, 2), (.p, 4), (.p, 8), (.t, 1), (.t, 3), (.p, 5), (.p, 6), (.t, 7), (.o, 9), (.p, 10)] [] (by kernel_rfl) rfl ?_
 | (with_reducible apply zcp); (iterate 10 rfl); (first | exact spec_BooksOk | exact spec_AmountOk); rfl; rfl
 | (with_reducible apply zc); (iterate 10 rfl); exact spec_l4Of; exact fun _ => rfl; rfl; rfl; rfl
 | fail)
  all_goals first
    | exact endR (i + 1, u ++ [(rd ba i).No], v ++ [balOf bb (rd ba i).No p], n + balOf bb (rd ba i).No p) [0, 1, 2, 3, 4, 5, 9, 11] ⟨rfl, rfl, rfl, rfl, rfl, rfl, rfl, rfl⟩ ⟨by dsimp only; omega, by dsimp only; rw [flt_succ ⟨h0.1, by assumption⟩, flt_y (p := fun a : Account => a.Kind = 1 ∧ balOf bb a.No p > 0) ⟨by assumption, by assumption⟩, List.map_append, hu]; rfl, by dsimp only; rw [List.map_append, hv]; rfl, by dsimp only; rw [sumF_append, sumF_one, hn]; rfl, by dsimp only; omega, by dsimp only; omega⟩ (by first | omega | (dsimp only; omega))
    | exact endR (i + 1, u, v, n) [0, 1, 2, 3, 4, 5, 6, 7] ⟨rfl, rfl, rfl, rfl, rfl, rfl, rfl, rfl⟩ ⟨by dsimp only; omega, by dsimp only; rw [flt_succ ⟨h0.1, by assumption⟩, flt_n (p := fun a : Account => a.Kind = 1 ∧ balOf bb a.No p > 0) (fun e => by obtain ⟨e1, e2⟩ := e; contradiction), List.append_nil, hu], hv, hn, by dsimp only; omega, by dsimp only; omega⟩ (by first | omega | (dsimp only; omega))
    | skip
  all_goals
    rename_i h hk
    rw [pf_all h] at hu
    have hu2 : u = who ba bb p := hu
    have hv2 : v = much ba bb p := by rw [hv, hu2]; rfl
    subst hn
    subst hu2
    subst hv2
    first
    | exact endT ⟨hok, hk⟩ [0, 1, 2, 3, 4, 6, 7] rfl rfl rfl rfl rfl rfl
    | exact endF (fun k => hk k.2) [0, 1, 2, 3, 4, 8, 9] rfl rfl rfl rfl rfl rfl
end Go.Proofs.YtgehbhkfehmdkaaGreat.Sh
