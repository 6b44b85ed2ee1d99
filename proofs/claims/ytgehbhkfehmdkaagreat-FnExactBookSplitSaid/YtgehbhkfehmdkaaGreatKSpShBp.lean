/- What is laid into balances. No condition. -/
import Derived.Test.YtgehbhkfehmdkaaGreatKSpShBo
namespace Go.Proofs.YtgehbhkfehmdkaaGreat.Sh
open Go.RowKit
set_option linter.unusedVariables false
set_option linter.unusedSimpArgs false
noncomputable def woB (l : List Bal) (a c : Int) : List Bal := sel (bHas l a c) (del l (bIx l a c)) l
noncomputable def putB (l : List Bal) (a c n : Int) : List Bal := sel (n = 0) (woB l a c) (ins (woB l a c) (bIx l a c) ⟨a, c, n⟩)
set_option maxHeartbeats 4000000 in
theorem impl_withBal {l : List Bal} {a c n : Int} (hs : BSd l) (hl : l.length ≤ 4000000) : FC Tryz.prog 119 [.c (.row 0 0 l.length), I a, I c, I n] ([ro 135 l]) (.c (.row 1 0 (putB l a c n).length)) ([ro 135 l, ow 135 (putB l a c n)]) := by
  refine fent tk 38 [.tmp 8] Tryz.func119 (by kernel_rfl) rfl rfl rfl rfl rfl rfl rfl ?_
  have hn := bIx_nn l a c
  have hlt := fun h : bHas l a c => (bHas_ix hs h).1
  by_cases hh : bHas l a c
  · have h1 := hlt hh
    have h2 := del_len (l := l) (i := bIx l a c) ⟨hn.1, h1⟩
    have hw : woB l a c = del l (bIx l a c) := sel_t hh
    by_cases hz : n = 0
    · rw [show putB l a c n = del l (bIx l a c) from (sel_t hz).trans hw]
      repeat' (first
 | (intro h9; exfalso; first | contradiction | omega)
 | (with_reducible apply zds); exact tk; rfl; rfl; rfl; rfl; rfl
 | (with_reducible apply zd); rfl; exact tk; rfl
 | (with_reducible first | intro _ | apply wseq | apply zreg | apply thenQ_n | apply thenQ_r | apply thenQ_e | apply znil | apply wret | apply bodyQ_r | apply wblk | apply blkQ_n | apply blkQ_r | apply wskip | apply wexit)
 | apply wct rfl
 | apply wcf rfl
 | (with_reducible apply zne); rfl; exact tk; rfl; rfl; rfl; rfl
 | (with_reducible apply zar); rfl; rfl; rfl; rfl; (first | omega | ((try simp only [List.length_append, List.length_cons, List.length_nil, List.length_map]); (try dsimp only); omega)); rfl; rfl
 | (with_reducible apply zcf); (iterate 10 rfl); exact slices_Clone_Bal (by omega); rfl; rfl; rfl; rfl; rfl
 | (with_reducible apply zcs); (iterate 10 rfl); exact impl_balAt (by assumption); exact fun _ => rfl; exact fun _ => rfl; rfl; rfl; rfl; rfl
 | (with_reducible apply zcw  [true]); (iterate 10 rfl); exact slices_Delete_Bal (by omega) (by omega); rfl; rfl; rfl; rfl
 | fail)
      all_goals exact endV [0, 1] rfl rfl rfl rfl rfl rfl
    · rw [show putB l a c n = ins (del l (bIx l a c)) (bIx l a c) ⟨a, c, n⟩ from (sel_f hz).trans (by rw [hw])]
      repeat' (first
 | (intro h9; exfalso; first | contradiction | omega)
 | (with_reducible apply zds); exact tk; rfl; rfl; rfl; rfl; rfl
 | (with_reducible apply zd); rfl; exact tk; rfl
 | (with_reducible first | intro _ | apply wseq | apply zreg | apply thenQ_n | apply thenQ_r | apply thenQ_e | apply znil | apply wret | apply bodyQ_r | apply wblk | apply blkQ_n | apply blkQ_r | apply wskip | apply wexit)
 | apply wct rfl
 | (with_reducible apply zne); rfl; exact tk; rfl; rfl; rfl; rfl
 | (with_reducible apply zar); rfl; rfl; rfl; rfl; (first | omega | ((try simp only [List.length_append, List.length_cons, List.length_nil, List.length_map]); (try dsimp only); omega)); rfl; rfl
 | (with_reducible apply zlit (α := Bal) (e := 135)); rfl; exact tk; (iterate 13 rfl)
 | (with_reducible apply zcf); (iterate 10 rfl); exact slices_Clone_Bal (by omega); rfl; rfl; rfl; rfl; rfl
 | (with_reducible apply zcs); (iterate 10 rfl); exact impl_balAt (by assumption); exact fun _ => rfl; exact fun _ => rfl; rfl; rfl; rfl; rfl
 | (with_reducible apply zcw  [true]); (iterate 10 rfl); exact slices_Delete_Bal (by omega) (by omega); rfl; rfl; rfl; rfl
 | (with_reducible apply zcw  [true,true]); (iterate 10 rfl); exact slices_Insert_Bal (by omega) (by omega); rfl; rfl; rfl; rfl
 | fail)
      all_goals exact endV [0, 3] rfl rfl rfl rfl rfl rfl
  · have hw : woB l a c = l := sel_f hh
    by_cases hz : n = 0
    · rw [show putB l a c n = l from (sel_t hz).trans hw]
      repeat' (first
 | (intro h9; exfalso; first | contradiction | omega)
 | (with_reducible apply zds); exact tk; rfl; rfl; rfl; rfl; rfl
 | (with_reducible apply zd); rfl; exact tk; rfl
 | (with_reducible first | intro _ | apply wseq | apply zreg | apply thenQ_n | apply thenQ_r | apply thenQ_e | apply znil | apply wret | apply bodyQ_r | apply wblk | apply blkQ_n | apply blkQ_r | apply wskip | apply wexit)
 | apply wcf rfl
 | (with_reducible apply zne); rfl; exact tk; rfl; rfl; rfl; rfl
 | (with_reducible apply zcf); (iterate 10 rfl); exact slices_Clone_Bal (by omega); rfl; rfl; rfl; rfl; rfl
 | (with_reducible apply zcs); (iterate 10 rfl); exact impl_balAt (by assumption); exact fun _ => rfl; exact fun _ => rfl; rfl; rfl; rfl; rfl
 | fail)
      all_goals exact endV [0, 1] rfl rfl rfl rfl rfl rfl
    · rw [show putB l a c n = ins l (bIx l a c) ⟨a, c, n⟩ from (sel_f hz).trans (by rw [hw])]
      repeat' (first
 | (intro h9; exfalso; first | contradiction | omega)
 | (with_reducible apply zds); exact tk; rfl; rfl; rfl; rfl; rfl
 | (with_reducible apply zd); rfl; exact tk; rfl
 | (with_reducible first | intro _ | apply wseq | apply zreg | apply thenQ_n | apply thenQ_r | apply thenQ_e | apply znil | apply wret | apply bodyQ_r | apply wblk | apply blkQ_n | apply blkQ_r | apply wskip | apply wexit)
 | apply wct rfl
 | apply wcf rfl
 | (with_reducible apply zne); rfl; exact tk; rfl; rfl; rfl; rfl
 | (with_reducible apply zlit (α := Bal) (e := 135)); rfl; exact tk; (iterate 13 rfl)
 | (with_reducible apply zcf); (iterate 10 rfl); exact slices_Clone_Bal (by omega); rfl; rfl; rfl; rfl; rfl
 | (with_reducible apply zcs); (iterate 10 rfl); exact impl_balAt (by assumption); exact fun _ => rfl; exact fun _ => rfl; rfl; rfl; rfl; rfl
 | (with_reducible apply zcw  [true,true]); (iterate 10 rfl); exact slices_Insert_Bal (by omega) (by omega); rfl; rfl; rfl; rfl
 | fail)
      all_goals exact endV [0, 3] rfl rfl rfl rfl rfl rfl
theorem flt_id {α : Type} {p : α → Prop} {l : List α} (h : ∀ x ∈ l, p x) : flt p l = l := List.filter_eq_self.2 fun x hx => dB_t (h x hx)
def neB (a c : Int) (y : Bal) : Prop := ¬ (y.Account = a ∧ y.Instr = c)
theorem neB_bef {a c : Int} {y : Bal} (h : bef y.Account y.Instr a c) : neB a c y := fun e => by unfold bef at h; omega
theorem pf_neB {l : List Bal} {a c : Int} : ∀ y ∈ pf l (bIx l a c), neB a c y := fun y hy => by
  obtain ⟨j, hj, rfl⟩ := mem_rd hy
  have hn := bIx_nn l a c
  rw [pf_len hn] at hj
  rw [rd_pf ⟨hj.1, hj.2⟩]
  exact neB_bef (bIx_lt hj.1 hj.2)
theorem pf_app {l : List Bal} {k i : Int} (h : 0 ≤ k ∧ k ≤ i) : pf l i = pf l k ++ (l.drop k.toNat).take (i - k).toNat := by
  unfold pf
  rw [show i.toNat = k.toNat + (i - k).toNat from by omega, List.take_add]
theorem wo_len {l : List Bal} {a c i : Int} (h : bIx l a c ≤ i) : bIx l a c ≤ ((flt (neB a c) (pf l i)).length : Int) := by
  have hn := bIx_nn l a c
  rw [pf_app ⟨hn.1, h⟩, flt_append, flt_id pf_neB, List.length_append]
  have := pf_len hn
  omega
theorem ins_app {α : Type} {l m : List α} {k : Int} {x : α} (h : k ≤ l.length) : ins (l ++ m) k x = ins l k x ++ m := by
  have h1 : k.toNat ≤ l.length := by omega
  unfold ins
  rw [List.take_append_of_le_length h1, List.drop_append_of_le_length h1]
  simp
theorem ins_pf {l m : List Bal} {k : Int} {x : Bal} (h : 0 ≤ k ∧ k ≤ l.length) : ins (pf l k ++ m) k x = pf l k ++ x :: m := by
  have h1 : (pf l k).length = k.toNat := by have := pf_len h; omega
  unfold ins
  rw [← h1, List.take_left, List.drop_left]
theorem flt_woB {l : List Bal} (hs : BSd l) (a c : Int) : flt (neB a c) l = woB l a c := by
  have hn := bIx_nn l a c
  by_cases hh : bHas l a c
  · rw [woB, sel_t hh]
    obtain ⟨h1, h2⟩ := bHas_ix hs hh
    have e : l = pf l (bIx l a c) ++ rd l (bIx l a c) :: l.drop ((bIx l a c).toNat + 1) := by
      have h3 : (bIx l a c).toNat < l.length := by omega
      have e2 : rd l (bIx l a c) = l[(bIx l a c).toNat] := by simp [rd, List.getD_eq_getElem?_getD, h3]
      unfold pf
      rw [e2, ← List.drop_eq_getElem_cons h3, List.take_append_drop]
    have hd : ∀ y ∈ l.drop ((bIx l a c).toNat + 1), neB a c y := fun y hy k => by
      obtain ⟨n, hm, rfl⟩ := List.getElem_of_mem hy
      rw [List.length_drop] at hm
      have hl := hs.lt (i := bIx l a c) (j := bIx l a c + 1 + n) hn.1 (by omega) (by omega)
      have e3 : rd l (bIx l a c + 1 + n) = (l.drop ((bIx l a c).toNat + 1))[n] := by
        rw [List.getElem_drop]
        have : (bIx l a c + 1 + (n : Int)).toNat = (bIx l a c).toNat + 1 + n := by omega
        simp [rd, this, List.getD_eq_getElem?_getD, show (bIx l a c).toNat + 1 + n < l.length from by omega]
      rw [e3, h2.1, h2.2, k.1, k.2] at hl
      unfold bef at hl
      omega
    have e4 : flt (neB a c) (rd l (bIx l a c) :: l.drop ((bIx l a c).toNat + 1)) = l.drop ((bIx l a c).toNat + 1) := by
      rw [show rd l (bIx l a c) :: l.drop ((bIx l a c).toNat + 1) = [rd l (bIx l a c)] ++ l.drop ((bIx l a c).toNat + 1) from rfl, flt_append, flt_n (fun k => k h2), flt_id hd]
      rfl
    conv => lhs; rw [e]
    rw [flt_append, flt_id pf_neB, e4]
    rfl
  · rw [woB, sel_f hh]
    exact flt_id (fun y hy k => hh ⟨y, hy, k⟩)
set_option maxHeartbeats 4000000 in
theorem spec_l4Put {l : List Bal} {a c n : Int} (hs : BSd l) (hl : l.length ≤ 4000000) : FC Tryz.prog 169 [.c (.row 0 0 l.length), I a, I c, I n] ([ro 135 l]) (.c (.row 1 0 (putB l a c n).length)) ([ro 135 l, ow 135 (putB l a c n)]) := by
  refine fent tk 68 [.tmp 8] Tryz.func169 (by kernel_rfl) rfl rfl rfl rfl rfl rfl rfl ?_
  have hK := bIx_nn l a c
  have hKa := bIx_at (l := l) (a := a) (c := c)
  by_cases hz : n = 0
  · rw [show putB l a c n = flt (neB a c) l from (sel_t hz).trans (flt_woB hs a c).symm]
    repeat' (first
 | (intro h9; exfalso; first | contradiction | omega)
 | (with_reducible apply zds); exact tk; rfl; rfl; rfl; rfl; rfl
 | (with_reducible apply zd); rfl; exact tk; rfl
 | (with_reducible first | intro _ | apply wseq | apply zreg | apply thenQ_n | apply thenQ_r | apply thenQ_e | apply znil | apply wret | apply bodyQ_r | apply wblk | apply blkQ_n | apply blkQ_r | apply wskip | apply wexit)
 | (with_reducible apply zcmp); rfl; exact tk; rfl; rfl; rfl
 | (with_reducible apply zlit (α := Bal) (e := 135)); rfl; exact tk; (iterate 13 rfl)
 | fail)
    refine wlp (X := Int × List Bal) [0, 1, 2, 10, 11] [0, 1, 2] (fun x => [(12, I x.1), (9, .c (.row 1 0 x.2.length))]) (fun x => [(1, ow 135 x.2)]) (fun x => (0 ≤ x.1 ∧ x.1 ≤ l.length) ∧ x.2 = flt (neB a c) (pf l x.1)) (fun x => (l.length - x.1).toNat) (0, []) ⟨⟨by dsimp only; omega, by dsimp only; omega⟩, rfl⟩ rfl rfl (fun _ => rfl) (fun _ => rfl) ⟨rfl, rfl, rfl, rfl, rfl, rfl, rfl, rfl⟩ (fun x hx => ?_)
    obtain ⟨i, xs⟩ := x
    obtain ⟨h0, h2⟩ := hx
    dsimp only at h0 h2 ⊢
    have hxl : xs.length ≤ 4000000 := by rw [h2]; have := flt_le (neB a c) (pf l i); have := pf_len h0; omega
    repeat' (first
 | (with_reducible apply zds); exact tk; rfl; rfl; rfl; rfl; rfl
 | (with_reducible apply zd); rfl; exact tk; rfl
 | (with_reducible first | intro _ | apply wseq | apply zreg | apply thenQ_n | apply thenQ_r | apply thenQ_e | apply znil | apply wret | apply bodyQ_r | apply wblk | apply blkQ_n | apply blkQ_r | apply wskip | apply wexit)
 | apply wct rfl
 | apply wcf rfl
 | (with_reducible apply blkQ_x rfl)
 | (with_reducible apply zcmp); rfl; exact tk; rfl; rfl; rfl
 | (with_reducible apply zne); rfl; exact tk; rfl; rfl; rfl; rfl
 | (with_reducible apply zar); rfl; rfl; rfl; rfl; (first | omega | ((try simp only [List.length_append, List.length_cons, List.length_nil, List.length_map]); (try dsimp only); omega)); rfl; rfl
 | (with_reducible apply zix); rfl; exact tk; (iterate 7 rfl); (first | omega | ((try simp only [List.length_append, List.length_cons, List.length_nil, List.length_map]); (try dsimp only); omega)); rfl; rfl
 | (with_reducible apply zle); rfl; exact tk; rfl; rfl; rfl; rfl; (first | omega | ((try simp only [List.length_append, List.length_cons, List.length_nil, List.length_map]); (try dsimp only); omega)); rfl; rfl; rfl; rfl
 | (with_reducible apply zlit (α := Bal) (e := 135)); rfl; exact tk; (iterate 13 rfl)
 | (with_reducible apply zap); rfl; exact tk; (iterate 10 rfl); (first | omega | ((try simp only [List.length_append, List.length_cons, List.length_nil, List.length_map]); (try dsimp only); omega)); rfl; rfl; rfl; rfl; rfl
 | fail)
    all_goals first
      | exact endR (i + 1, xs ++ [rd l i]) [0, 5, 2] ⟨rfl, rfl, rfl, rfl, rfl, rfl, rfl, rfl⟩ ⟨⟨by dsimp only; omega, by dsimp only; omega⟩, by dsimp only; rw [flt_succ ⟨h0.1, by assumption⟩, flt_y (p := neB a c) (fun k => by first | exact absurd k.1 (by assumption) | exact absurd k.2 (by assumption)), h2]⟩ (by first | omega | (dsimp only; omega))
      | exact endR (i + 1, xs) [0, 1, 2] ⟨rfl, rfl, rfl, rfl, rfl, rfl, rfl, rfl⟩ ⟨⟨by dsimp only; omega, by dsimp only; omega⟩, by dsimp only; rw [flt_succ ⟨h0.1, by assumption⟩, flt_n (p := neB a c) (fun k => k ⟨by assumption, by assumption⟩), List.append_nil, h2]⟩ (by first | omega | (dsimp only; omega))
      | (rw [show flt (neB a c) l = xs from by rw [h2, pf_all (by assumption)]]
         exact endV [0, 1] rfl rfl rfl rfl rfl rfl)
  · rw [show putB l a c n = ins (flt (neB a c) l) (bIx l a c) ⟨a, c, n⟩ from (sel_f hz).trans (by rw [flt_woB hs a c])]
    repeat' (first
 | (intro h9; exfalso; first | contradiction | omega)
 | (with_reducible apply zds); exact tk; rfl; rfl; rfl; rfl; rfl
 | (with_reducible apply zd); rfl; exact tk; rfl
 | (with_reducible first | intro _ | apply wseq | apply zreg | apply thenQ_n | apply thenQ_r | apply thenQ_e | apply znil | apply wret | apply bodyQ_r | apply wblk | apply blkQ_n | apply blkQ_r | apply wskip | apply wexit)
 | (with_reducible apply zcmp); rfl; exact tk; rfl; rfl; rfl
 | (with_reducible apply zlit (α := Bal) (e := 135)); rfl; exact tk; (iterate 13 rfl)
 | fail)
    refine wlp (X := Int × Bool × List Bal) [0, 1, 2, 11] [0, 1, 2] (fun x => [(12, I x.1), (10, B x.2.1), (9, .c (.row 1 0 x.2.2.length))]) (fun x => [(1, ow 135 x.2.2)]) (fun x => (0 ≤ x.1 ∧ x.1 ≤ l.length) ∧ (x.2.1 = false → x.1 ≤ bIx l a c ∧ x.2.2 = pf l x.1) ∧ (x.2.1 = true → bIx l a c < x.1 ∧ x.2.2 = ins (flt (neB a c) (pf l x.1)) (bIx l a c) ⟨a, c, n⟩)) (fun x => (l.length - x.1).toNat) (0, false, []) ⟨⟨by dsimp only; omega, by dsimp only; omega⟩, fun _ => ⟨hK.1, rfl⟩, fun h => by cases h⟩ rfl rfl (fun _ => rfl) (fun _ => rfl) ⟨rfl, rfl, rfl, rfl, rfl, rfl, rfl, rfl⟩ (fun x hx => ?_)
    obtain ⟨i, put, xs⟩ := x
    obtain ⟨h0, hf, ht⟩ := hx
    dsimp only at h0 hf ht ⊢
    have hpl := pf_len h0
    cases put
    · obtain ⟨h1, h2⟩ := hf rfl
      have hxl : xs.length ≤ 4000000 := by rw [h2]; omega
      clear hf ht
      have hlt : ¬ bef (rd l i).Account (rd l i).Instr a c → bIx l a c = i := fun hb => by
        by_cases hq : i < bIx l a c
        · exact absurd (bIx_lt h0.1 hq) hb
        · omega
      have hge : i < l.length → bef (rd l i).Account (rd l i).Instr a c → i ≠ bIx l a c := fun h hb e => by
        have := hKa (by omega)
        rw [← e] at this
        exact this hb
      repeat' (first
 | (with_reducible apply zds); exact tk; rfl; rfl; rfl; rfl; rfl
 | (with_reducible apply zd); rfl; exact tk; rfl
 | (with_reducible first | intro _ | apply wseq | apply zreg | apply thenQ_n | apply thenQ_r | apply thenQ_e | apply znil | apply wret | apply bodyQ_r | apply wblk | apply blkQ_n | apply blkQ_r | apply wskip | apply wexit)
 | apply wct rfl
 | apply wcf rfl
 | (with_reducible apply blkQ_x rfl)
 | (with_reducible apply zcmp); rfl; exact tk; rfl; rfl; rfl
 | (with_reducible apply zne); rfl; exact tk; rfl; rfl; rfl; rfl
 | (with_reducible apply zar); rfl; rfl; rfl; rfl; (first | omega | ((try simp only [List.length_append, List.length_cons, List.length_nil, List.length_map]); (try dsimp only); omega)); rfl; rfl
 | (with_reducible apply zix); rfl; exact tk; (iterate 7 rfl); (first | omega | ((try simp only [List.length_append, List.length_cons, List.length_nil, List.length_map]); (try dsimp only); omega)); rfl; rfl
 | (with_reducible apply zle); rfl; exact tk; rfl; rfl; rfl; rfl; (first | omega | ((try simp only [List.length_append, List.length_cons, List.length_nil, List.length_map]); (try dsimp only); omega)); rfl; rfl; rfl; rfl
 | (with_reducible apply zlit (α := Bal) (e := 135)); rfl; exact tk; (iterate 13 rfl)
 | (with_reducible apply zap); rfl; exact tk; (iterate 10 rfl); (first | omega | ((try simp only [List.length_append, List.length_cons, List.length_nil, List.length_map]); (try dsimp only); omega)); rfl; rfl; rfl; rfl; rfl
 | (with_reducible apply zcp); (iterate 10 rfl); exact spec_l4Before; rfl; rfl
 | fail)
      all_goals first
        | (have e := hlt (by assumption)
           exact endR (i + 1, true, xs ++ [⟨a, c, n⟩] ++ [rd l i]) [0, 7, 2] ⟨rfl, rfl, rfl, rfl, rfl, rfl, rfl, rfl⟩ ⟨⟨by dsimp only; omega, by dsimp only; omega⟩, fun h => (by cases h), fun _ => ⟨by dsimp only; omega, by dsimp only; rw [flt_succ ⟨h0.1, by assumption⟩, flt_y (p := neB a c) (fun k => by first | exact absurd k.1 (by assumption) | exact absurd k.2 (by assumption)), h2, ← e, flt_id pf_neB, ins_pf hK, List.append_assoc]; rfl⟩⟩ (by first | omega | (dsimp only; omega)))
        | (have e := hlt (by assumption)
           exact endR (i + 1, true, xs ++ [⟨a, c, n⟩]) [0, 5, 2] ⟨rfl, rfl, rfl, rfl, rfl, rfl, rfl, rfl⟩ ⟨⟨by dsimp only; omega, by dsimp only; omega⟩, fun h => (by cases h), fun _ => ⟨by dsimp only; omega, by dsimp only; rw [flt_succ ⟨h0.1, by assumption⟩, flt_n (p := neB a c) (fun k => k ⟨by assumption, by assumption⟩), h2, ← e, flt_id pf_neB, ins_pf hK]⟩⟩ (by first | omega | (dsimp only; omega)))
        | (have e := hge (by assumption) (by assumption)
           exact endR (i + 1, false, xs ++ [rd l i]) [0, 5, 2] ⟨rfl, rfl, rfl, rfl, rfl, rfl, rfl, rfl⟩ ⟨⟨by dsimp only; omega, by dsimp only; omega⟩, fun _ => ⟨by dsimp only; omega, by dsimp only; rw [h2, pf_succ ⟨h0.1, by assumption⟩]⟩, fun h => (by cases h)⟩ (by first | omega | (dsimp only; omega)))
        | (exfalso
           have q := neB_bef (by assumption : bef (rd l i).Account (rd l i).Instr a c)
           exact q ⟨by assumption, by assumption⟩)
        | (rw [show ins (flt (neB a c) l) (bIx l a c) ⟨a, c, n⟩ = xs ++ [⟨a, c, n⟩] from by
             have e : bIx l a c = l.length := by omega
             have e2 : pf l (bIx l a c) = l := pf_all (by omega)
             have e3 := pf_neB (l := l) (a := a) (c := c)
             rw [e2] at e3
             rw [flt_id e3, ins_end e, h2, pf_all (by assumption)]]
           exact endV [0, 4] rfl rfl rfl rfl rfl rfl)
    · obtain ⟨h1, h2⟩ := ht rfl
      have hfl := wo_len (l := l) (a := a) (c := c) (i := i) (by omega)
      have hxl : xs.length ≤ 4000001 := by rw [h2, ins_len ⟨hK.1, hfl⟩]; have := flt_le (neB a c) (pf l i); omega
      clear hf ht
      repeat' (first
 | (with_reducible apply zds); exact tk; rfl; rfl; rfl; rfl; rfl
 | (with_reducible apply zd); rfl; exact tk; rfl
 | (with_reducible first | intro _ | apply wseq | apply zreg | apply thenQ_n | apply thenQ_r | apply thenQ_e | apply znil | apply wret | apply bodyQ_r | apply wblk | apply blkQ_n | apply blkQ_r | apply wskip | apply wexit)
 | apply wct rfl
 | apply wcf rfl
 | (with_reducible apply blkQ_x rfl)
 | (with_reducible apply zcmp); rfl; exact tk; rfl; rfl; rfl
 | (with_reducible apply zne); rfl; exact tk; rfl; rfl; rfl; rfl
 | (with_reducible apply zar); rfl; rfl; rfl; rfl; (first | omega | ((try simp only [List.length_append, List.length_cons, List.length_nil, List.length_map]); (try dsimp only); omega)); rfl; rfl
 | (with_reducible apply zix); rfl; exact tk; (iterate 7 rfl); (first | omega | ((try simp only [List.length_append, List.length_cons, List.length_nil, List.length_map]); (try dsimp only); omega)); rfl; rfl
 | (with_reducible apply zle); rfl; exact tk; rfl; rfl; rfl; rfl; (first | omega | ((try simp only [List.length_append, List.length_cons, List.length_nil, List.length_map]); (try dsimp only); omega)); rfl; rfl; rfl; rfl
 | (with_reducible apply zlit (α := Bal) (e := 135)); rfl; exact tk; (iterate 13 rfl)
 | (with_reducible apply zap); rfl; exact tk; (iterate 10 rfl); (first | omega | ((try simp only [List.length_append, List.length_cons, List.length_nil, List.length_map]); (try dsimp only); omega)); rfl; rfl; rfl; rfl; rfl
 | fail)
      all_goals first
        | exact endR (i + 1, true, xs ++ [rd l i]) [0, 5, 2] ⟨rfl, rfl, rfl, rfl, rfl, rfl, rfl, rfl⟩ ⟨⟨by dsimp only; omega, by dsimp only; omega⟩, fun h => (by cases h), fun _ => ⟨by dsimp only; omega, by dsimp only; rw [flt_succ ⟨h0.1, by assumption⟩, flt_y (p := neB a c) (fun k => by first | exact absurd k.1 (by assumption) | exact absurd k.2 (by assumption)), ins_app hfl, h2]⟩⟩ (by first | omega | (dsimp only; omega))
        | exact endR (i + 1, true, xs) [0, 1, 2] ⟨rfl, rfl, rfl, rfl, rfl, rfl, rfl, rfl⟩ ⟨⟨by dsimp only; omega, by dsimp only; omega⟩, fun h => (by cases h), fun _ => ⟨by dsimp only; omega, by dsimp only; rw [flt_succ ⟨h0.1, by assumption⟩, flt_n (p := neB a c) (fun k => k ⟨by assumption, by assumption⟩), List.append_nil, h2]⟩⟩ (by first | omega | (dsimp only; omega))
        | (rw [show ins (flt (neB a c) l) (bIx l a c) ⟨a, c, n⟩ = xs from by rw [h2, pf_all (by assumption)]]
           exact endV [0, 1] rfl rfl rfl rfl rfl rfl)
end Go.Proofs.YtgehbhkfehmdkaaGreat.Sh
namespace Go.Proofs.YtgehbhkfehmdkaaGreat.Sh
open Go.RowKit
set_option linter.unusedVariables false
set_option linter.unusedSimpArgs false
def legF (a c n : Int) : Prop := isNo a ∧ isNo c ∧ amountOk n
def legsForm (g : List Leg) : Prop := g.length ≤ 160 ∧ ∀ x ∈ g, legF x.Account x.Instr x.Amount
def legB (c : Int) (x : Leg) : Int := if x.Instr = c then x.Amount else 0
def legsSum (g : List Leg) (c : Int) : Int := sumF (legB c) g
def LegsOk (g : List Leg) : Prop := legsForm g ∧ ∀ x ∈ g, legsSum g x.Instr = 0
theorem legB_y {c : Int} {x : Leg} (h : x.Instr = c) : legB c x = x.Amount := if_pos h
theorem legB_n {c : Int} {x : Leg} (h : ¬ x.Instr = c) : legB c x = 0 := if_neg h
theorem legB_bnd {g : List Leg} (h : legsForm g) (c : Int) : ∀ x ∈ g, -1000000000000000 ≤ legB c x ∧ legB c x ≤ 1000000000000000 := fun x hx => by
  have := (h.2 x hx).2.2
  unfold amountOk inP at this
  unfold legB
  split <;> omega
set_option maxHeartbeats 4000000 in
theorem impl_legsForm_1 {a c n : Int} : FC Tryz.prog 228 [.agg [.sc (.int .i64 a), .sc (.int .i64 c), .sc (.int .i64 n)]] ([]) (B (dB (¬ legF a c n))) ([]) := by
  refine fent tk 19 [.tmp 2] Tryz.func228 (by kernel_rfl) rfl rfl rfl rfl rfl rfl rfl ?_
  repeat' (first
 | (with_reducible apply zds); exact tk; rfl; rfl; rfl; rfl; rfl
 | (with_reducible first | intro _ | apply wseq | apply zreg | apply thenQ_n | apply thenQ_r | apply thenQ_e | apply znil | apply wret | apply bodyQ_r | apply wblk | apply blkQ_n | apply blkQ_r | apply wskip | apply wexit)
 | (with_reducible apply zcp); (iterate 10 rfl); (first | exact impl_isNo | exact impl_AmountOk); rfl; rfl
 | fail)
  all_goals first
    | exact endN [] rfl rfl rfl rfl rfl rfl (fun k => k ⟨by assumption, by assumption, by assumption⟩)
    | exact endY [] rfl rfl rfl rfl rfl rfl (fun k => by obtain ⟨k1, k2, k3⟩ := k; contradiction)
set_option maxHeartbeats 4000000 in
theorem slices_IndexFunc_Leg_lf {l : List Leg} : FC Tryz.prog 234 [.c (.row 0 0 l.length), .c (.fn 228 [])] ([ro 46 l]) (sel (∃ x ∈ l, ¬ legF x.Account x.Instr x.Amount) (I (fIx l (fun x => ¬ legF x.Account x.Instr x.Amount))) (I (-1))) (sel (∃ x ∈ l, ¬ legF x.Account x.Instr x.Amount) [ro 46 l] [ro 46 l]) := by
  refine fent tk 19 [.tmp 4] Tryz.func234 (by kernel_rfl) rfl rfl rfl rfl rfl rfl rfl ?_
  refine wlen l 0 rfl (fun hl => ?_)
  repeat' (first
 | (with_reducible apply zds); exact tk; rfl; rfl; rfl; rfl; rfl
 | (with_reducible apply zd); rfl; exact tk; rfl
 | (with_reducible first | intro _ | apply wseq | apply zreg | apply thenQ_n | apply thenQ_r | apply thenQ_e | apply znil | apply wret | apply bodyQ_r | apply wblk | apply blkQ_n | apply blkQ_r | apply wskip | apply wexit)
 | fail)
  refine wlp (X := Int) [0, 1, 7] [0] (fun i => [(8, I i)]) (fun _ => []) (fun i => 0 ≤ i ∧ i ≤ l.length ∧ ∀ j : Int, 0 ≤ j → j < i → ¬ (fun x => ¬ legF x.Account x.Instr x.Amount) (rd l j)) (fun i => (l.length - i).toNat) 0 ⟨by omega, by omega, fun j h0 h1 => by omega⟩ rfl rfl (fun _ => rfl) (fun _ => rfl) ⟨rfl, rfl, rfl, rfl, rfl, rfl, rfl, rfl⟩ (fun i hi => ?_)
  obtain ⟨h0, hi, hall⟩ := hi
  skip
  repeat' (first
 | (with_reducible apply zds); exact tk; rfl; rfl; rfl; rfl; rfl
 | (with_reducible apply zd); rfl; exact tk; rfl
 | (with_reducible apply zcp); (iterate 10 rfl); exact impl_legsForm_1; rfl; rfl
 | (with_reducible first | intro _ | apply wseq | apply zreg | apply thenQ_n | apply thenQ_r | apply thenQ_e | apply znil | apply wret | apply bodyQ_r | apply wblk | apply blkQ_n | apply blkQ_r | apply wskip | apply wexit)
 | apply wct rfl
 | apply wcf rfl
 | (with_reducible apply blkQ_x rfl)
 | (with_reducible apply zcmp); rfl; exact tk; rfl; rfl; rfl
 | (with_reducible apply zar); rfl; rfl; rfl; rfl; (first | omega | ((try simp only [List.length_append, List.length_cons, List.length_nil, List.length_map]); (try dsimp only); omega)); rfl; rfl
 | (with_reducible apply zix); rfl; exact tk; (iterate 7 rfl); (first | omega | ((try simp only [List.length_append, List.length_cons, List.length_nil, List.length_map]); (try dsimp only); omega)); rfl; rfl
 | (with_reducible apply zle); rfl; exact tk; rfl; rfl; rfl; rfl; (first | omega | ((try simp only [List.length_append, List.length_cons, List.length_nil, List.length_map]); (try dsimp only); omega)); rfl; rfl; rfl; rfl
 | fail)
  all_goals first
    | (refine endG (X' := I i) (hs' := [ro 46 l]) [0] rfl rfl rfl rfl rfl rfl ?_ ?_
       · rw [sel_t ⟨rd l i, rd_mem ⟨by omega, by omega⟩, by assumption⟩, fIx_eq ⟨by omega, by omega⟩ hall (by assumption)]
       · rw [sel_t ⟨rd l i, rd_mem ⟨by omega, by omega⟩, by assumption⟩])
    | exact endF (no_rd (by assumption) hall) [0] rfl rfl rfl rfl rfl rfl
    | exact endR (i + 1) [0] ⟨rfl, rfl, rfl, rfl, rfl, rfl, rfl, rfl⟩ ⟨by omega, by omega, all_step hall (by assumption)⟩ (by first | omega | (dsimp only; omega))
set_option maxHeartbeats 4000000 in
theorem slices_ContainsFunc_Leg_lf {l : List Leg} : FC Tryz.prog 122 [.c (.row 0 0 l.length), .c (.fn 228 [])] ([ro 46 l]) (B (dB (∃ x ∈ l, ¬ legF x.Account x.Instr x.Amount))) ([ro 46 l]) := by
  refine fent tk 9 [.tmp 4] Tryz.func122 (by kernel_rfl) rfl rfl rfl rfl rfl rfl rfl ?_
  have hn := fIx_nn l (fun x => ¬ legF x.Account x.Instr x.Amount)
  repeat' (first
 | (with_reducible apply zds); exact tk; rfl; rfl; rfl; rfl; rfl
 | (with_reducible apply zd); rfl; exact tk; rfl
 | (with_reducible first | intro _ | apply wseq | apply zreg | apply thenQ_n | apply thenQ_r | apply thenQ_e | apply znil | apply wret | apply bodyQ_r | apply wblk | apply blkQ_n | apply blkQ_r | apply wskip | apply wexit)
 | (with_reducible apply zcmp); rfl; exact tk; rfl; rfl; rfl
 | (with_reducible apply zcs); (iterate 10 rfl); (first | exact slices_IndexFunc_Leg_na | exact slices_IndexFunc_Leg_nz | exact slices_IndexFunc_Leg_lf); exact fun _ => rfl; exact fun _ => rfl; rfl; rfl; rfl; rfl
 | fail)
  all_goals first
    | exact endY [0] rfl rfl rfl rfl rfl rfl (by assumption)
    | exact endN [0] rfl rfl rfl rfl rfl rfl (by assumption)
    | (exfalso; omega)
set_option maxHeartbeats 4000000 in
theorem impl_legsForm {g : List Leg} : FC Tryz.prog 116 [.c (.row 0 0 g.length)] ([ro 46 g]) (B (dB (legsForm g))) ([ro 46 g]) := by
  refine fent tk 11 [.tmp 2] Tryz.func116 (by kernel_rfl) rfl rfl rfl rfl rfl rfl rfl ?_
  repeat' (first
 | (with_reducible apply zds); exact tk; rfl; rfl; rfl; rfl; rfl
 | (with_reducible apply zd); rfl; exact tk; rfl
 | (with_reducible first | intro _ | apply wseq | apply zreg | apply thenQ_n | apply thenQ_r | apply thenQ_e | apply znil | apply wret | apply bodyQ_r | apply wblk | apply blkQ_n | apply blkQ_r | apply wskip | apply wexit)
 | (with_reducible apply zcmp); rfl; exact tk; rfl; rfl; rfl
 | (with_reducible apply zcp); (iterate 10 rfl); (first | exact slices_ContainsFunc_Leg_na | exact slices_ContainsFunc_Leg_lf); rfl; rfl
 | fail)
  all_goals first
    | exact endY [0] rfl rfl rfl rfl rfl rfl ⟨by omega, fun x hx => Classical.byContradiction fun k => absurd (⟨x, hx, k⟩ : ∃ x ∈ g, ¬ legF x.Account x.Instr x.Amount) (by assumption)⟩
    | exact endN [0] rfl rfl rfl rfl rfl rfl (fun h => by have := h.1; omega)
    | exact endN [0] rfl rfl rfl rfl rfl rfl (fun h => by obtain ⟨x, hx, k⟩ : ∃ x ∈ g, ¬ legF x.Account x.Instr x.Amount := (by assumption); exact k (h.2 x hx))
set_option maxHeartbeats 4000000 in
theorem spec_l4LegsRight {g : List Leg} : FC Tryz.prog 304 [.c (.row 0 0 g.length)] ([ro 46 g]) (B (dB (legsForm g))) ([ro 46 g]) := by
  refine fent tk 38 [.tmp 2] Tryz.func304 (by kernel_rfl) rfl rfl rfl rfl rfl rfl rfl ?_
  repeat' (first
 | (with_reducible apply zds); exact tk; rfl; rfl; rfl; rfl; rfl
 | (with_reducible apply zd); rfl; exact tk; rfl
 | (with_reducible first | intro _ | apply wseq | apply zreg | apply thenQ_n | apply thenQ_r | apply thenQ_e | apply znil | apply wret | apply bodyQ_r | apply wblk | apply blkQ_n | apply blkQ_r | apply wskip | apply wexit)
 | apply wct rfl
 | apply wcf rfl
 | (with_reducible apply zcmp); rfl; exact tk; rfl; rfl; rfl
 | fail)
  rotate_left
  · refine wlp (X := Int) [0] [0] (fun i => [(3, I i)]) (fun _ => []) (fun i => 0 ≤ i ∧ i ≤ g.length ∧ ∀ j : Int, 0 ≤ j → j < i → legF (rd g j).Account (rd g j).Instr (rd g j).Amount) (fun i => (g.length - i).toNat) 0 ⟨by omega, by omega, fun j h0 h1 => by omega⟩ rfl rfl (fun _ => rfl) (fun _ => rfl) ⟨rfl, rfl, rfl, rfl, rfl, rfl, rfl, rfl⟩ (fun i hi => ?_)
    obtain ⟨h0, hi, hall⟩ := hi
    repeat' (first
 | (with_reducible apply zds); exact tk; rfl; rfl; rfl; rfl; rfl
 | (with_reducible apply zd); rfl; exact tk; rfl
 | (with_reducible first | intro _ | apply wseq | apply zreg | apply thenQ_n | apply thenQ_r | apply thenQ_e | apply znil | apply wret | apply bodyQ_r | apply wblk | apply blkQ_n | apply blkQ_r | apply wskip | apply wexit)
 | apply wct rfl
 | apply wcf rfl
 | (with_reducible apply blkQ_x rfl)
 | (with_reducible apply zcmp); rfl; exact tk; rfl; rfl; rfl
 | (with_reducible apply zar); rfl; rfl; rfl; rfl; (first | omega | ((try simp only [List.length_append, List.length_cons, List.length_nil, List.length_map]); (try dsimp only); omega)); rfl; rfl
 | (with_reducible apply zix); rfl; exact tk; (iterate 7 rfl); (first | omega | ((try simp only [List.length_append, List.length_cons, List.length_nil, List.length_map]); (try dsimp only); omega)); rfl; rfl
 | (with_reducible apply zle); rfl; exact tk; rfl; rfl; rfl; rfl; (first | omega | ((try simp only [List.length_append, List.length_cons, List.length_nil, List.length_map]); (try dsimp only); omega)); rfl; rfl; rfl; rfl
 | (with_reducible apply zcp); (iterate 10 rfl); (first | exact spec_l3No | exact spec_AmountOk); rfl; rfl
 | fail)
    all_goals first
      | exact endR (i + 1) [0] ⟨rfl, rfl, rfl, rfl, rfl, rfl, rfl, rfl⟩ ⟨by omega, by omega, all_step hall ⟨by assumption, by assumption, by assumption⟩⟩ (by first | omega | (dsimp only; omega))
      | exact endY [0] rfl rfl rfl rfl rfl rfl ⟨by omega, all_rd.1 fun j h1 h2 => hall j h1 (by omega)⟩
      | exact endN [0] rfl rfl rfl rfl rfl rfl (fun h => by obtain ⟨e1, e2, e3⟩ := h.2 _ (rd_mem (l := g) (i := i) ⟨h0, by assumption⟩); contradiction)
  all_goals exact endN [0] rfl rfl rfl rfl rfl rfl (fun h => by have := h.1; omega)
set_option maxHeartbeats 4000000 in
theorem impl_LegsOk {g : List Leg} : FC Tryz.prog 26 [.c (.row 0 0 g.length)] ([ro 46 g]) (B (dB (LegsOk g))) ([ro 46 g]) := by
  refine fent tk 36 [.tmp 2] Tryz.func26 (by kernel_rfl) rfl rfl rfl rfl rfl rfl rfl ?_
  repeat' (first
 | (with_reducible apply zds); exact tk; rfl; rfl; rfl; rfl; rfl
 | (with_reducible apply zd); rfl; exact tk; rfl
 | (with_reducible first | intro _ | apply wseq | apply zreg | apply thenQ_n | apply thenQ_r | apply thenQ_e | apply znil | apply wret | apply bodyQ_r | apply wblk | apply blkQ_n | apply blkQ_r | apply wskip | apply wexit)
 | apply wct rfl
 | apply wcf rfl
 | (with_reducible apply zcp); (iterate 10 rfl); exact impl_legsForm; rfl; rfl
 | fail)
  rotate_left
  · exact endN [0] rfl rfl rfl rfl rfl rfl (fun h => absurd h.1 (by assumption))
  rename_i hf
  have hl := hf.1
  refine wlp (X := Int) [0, 11, 12] [0] (fun i => [(13, I i)]) (fun _ => []) (fun i => 0 ≤ i ∧ i ≤ g.length ∧ ∀ j : Int, 0 ≤ j → j < i → legsSum g (rd g j).Instr = 0) (fun i => (g.length - i).toNat) 0 ⟨by omega, by omega, fun j h0 h1 => by omega⟩ rfl rfl (fun _ => rfl) (fun _ => rfl) ⟨rfl, rfl, rfl, rfl, rfl, rfl, rfl, rfl⟩ (fun i hi => ?_)
  obtain ⟨h0, hi, hall⟩ := hi
  repeat' (first
 | (with_reducible apply zds); exact tk; rfl; rfl; rfl; rfl; rfl
 | (with_reducible apply zd); rfl; exact tk; rfl
 | (with_reducible first | intro _ | apply wseq | apply zreg | apply thenQ_n | apply thenQ_r | apply thenQ_e | apply znil | apply wret | apply bodyQ_r | apply wblk | apply blkQ_n | apply blkQ_r | apply wskip | apply wexit)
 | apply wct rfl
 | apply wcf rfl
 | (with_reducible apply blkQ_x rfl)
 | (with_reducible apply zcmp); rfl; exact tk; rfl; rfl; rfl
 | (with_reducible apply zix); rfl; exact tk; (iterate 7 rfl); (first | omega | ((try simp only [List.length_append, List.length_cons, List.length_nil, List.length_map]); (try dsimp only); omega)); rfl; rfl
 | (with_reducible apply zle); rfl; exact tk; rfl; rfl; rfl; rfl; (first | omega | ((try simp only [List.length_append, List.length_cons, List.length_nil, List.length_map]); (try dsimp only); omega)); rfl; rfl; rfl; rfl
 | fail)
  rotate_left
  · exact endY [0] rfl rfl rfl rfl rfl rfl ⟨hf, all_rd.1 fun j h1 h2 => hall j h1 (by omega)⟩
  rename_i hil
  refine wlp (X := Int × Int) [0, 4, 11, 12, 13, 17, 18] [0, 1] (fun x => [(19, I x.1), (5, I x.2)]) (fun _ => []) (fun x => (0 ≤ x.1 ∧ x.1 ≤ g.length) ∧ x.2 = legsSum (pf g x.1) (rd g i).Instr) (fun x => (g.length - x.1).toNat) (0, 0) ⟨⟨by dsimp only; omega, by dsimp only; omega⟩, rfl⟩ rfl rfl (fun _ => rfl) (fun _ => rfl) ⟨rfl, rfl, rfl, rfl, rfl, rfl, rfl, rfl⟩ (fun x hx => ?_)
  obtain ⟨k, n⟩ := x
  obtain ⟨k0, hn⟩ := hx
  dsimp only at k0 hn ⊢
  have hb := sumF_bnd (legB_bnd hf (rd g i).Instr) k0
  rw [show sumF (legB (rd g i).Instr) (pf g k) = n from hn.symm] at hb
  have hs := fun h : k < g.length => sumF_succ (f := legB (rd g i).Instr) (l := g) (i := k) ⟨k0.1, h⟩
  have hb2 := fun h : k < g.length => (hf.2 _ (rd_mem (l := g) (i := k) ⟨k0.1, h⟩)).2.2
  unfold amountOk inP at hb2
  repeat' (first
 | (with_reducible apply zds); exact tk; rfl; rfl; rfl; rfl; rfl
 | (with_reducible apply zd); rfl; exact tk; rfl
 | (with_reducible apply zar); rfl; rfl; rfl; rfl; (have h1 := hb2 (by assumption); omega); rfl; rfl
 | (with_reducible first | intro _ | apply wseq | apply zreg | apply thenQ_n | apply thenQ_r | apply thenQ_e | apply znil | apply wret | apply bodyQ_r | apply wblk | apply blkQ_n | apply blkQ_r | apply wskip | apply wexit)
 | apply wct rfl
 | apply wcf rfl
 | (with_reducible apply blkQ_x rfl)
 | (with_reducible apply zcmp); rfl; exact tk; rfl; rfl; rfl
 | (with_reducible apply zne); rfl; exact tk; rfl; rfl; rfl; rfl
 | (with_reducible apply zar); rfl; rfl; rfl; rfl; (first | omega | ((try simp only [List.length_append, List.length_cons, List.length_nil, List.length_map]); (try dsimp only); omega)); rfl; rfl
 | (with_reducible apply zix); rfl; exact tk; (iterate 7 rfl); (first | omega | ((try simp only [List.length_append, List.length_cons, List.length_nil, List.length_map]); (try dsimp only); omega)); rfl; rfl
 | (with_reducible apply zle); rfl; exact tk; rfl; rfl; rfl; rfl; (first | omega | ((try simp only [List.length_append, List.length_cons, List.length_nil, List.length_map]); (try dsimp only); omega)); rfl; rfl; rfl; rfl
 | fail)
  all_goals first
    | (rename_i h e
       exact endR (k + 1, _) [0, 1] ⟨rfl, rfl, rfl, rfl, rfl, rfl, rfl, rfl⟩ ⟨⟨by dsimp only; omega, by dsimp only; omega⟩, by dsimp only; rw [legsSum, hs h, legB_y e, hn]; rfl⟩ (by first | omega | (dsimp only; omega)))
    | (rename_i h e
       exact endR (k + 1, _) [0, 1] ⟨rfl, rfl, rfl, rfl, rfl, rfl, rfl, rfl⟩ ⟨⟨by dsimp only; omega, by dsimp only; omega⟩, by dsimp only; rw [legsSum, hs h, legB_n e, hn, Int.add_zero]; rfl⟩ (by first | omega | (dsimp only; omega)))
    | (have e : n = legsSum g (rd g i).Instr := hn.trans (congrArg (fun x => legsSum x (rd g i).Instr) (pf_all (i := k) (by assumption)))
       first
       | exact endN [0] rfl rfl rfl rfl rfl rfl (fun h => absurd (e.trans (h.2 _ (rd_mem (l := g) (i := i) ⟨h0, hil⟩))) (by assumption))
       | exact endR (i + 1) [0] ⟨rfl, rfl, rfl, rfl, rfl, rfl, rfl, rfl⟩ ⟨by omega, by omega, all_step hall (e.symm.trans (by first | assumption | omega))⟩ (by first | omega | (dsimp only; omega)))
set_option maxHeartbeats 4000000 in
theorem spec_LegsOk {g : List Leg} : FC Tryz.prog 305 [.c (.row 0 0 g.length)] ([ro 46 g]) (B (dB (LegsOk g))) ([ro 46 g]) := by
  refine fent tk 41 [.tmp 2] Tryz.func305 (by kernel_rfl) rfl rfl rfl rfl rfl rfl rfl ?_
  repeat' (first
 | (with_reducible apply zd); rfl; exact tk; rfl
 | (with_reducible first | intro _ | apply wseq | apply zreg | apply thenQ_n | apply thenQ_r | apply thenQ_e | apply znil | apply wret | apply bodyQ_r | apply wblk | apply blkQ_n | apply blkQ_r | apply wskip | apply wexit)
 | apply wct rfl
 | apply wcf rfl
 | (with_reducible apply zcp); (iterate 10 rfl); exact spec_l4LegsRight; rfl; rfl
 | fail)
  rotate_left
  · exact endN [0] rfl rfl rfl rfl rfl rfl (fun h => absurd h.1 (by assumption))
  rename_i hf
  have hl := hf.1
  refine wlp (X := Int) [0] [0] (fun i => [(3, I i)]) (fun _ => []) (fun i => 0 ≤ i ∧ i ≤ g.length ∧ ∀ j : Int, 0 ≤ j → j < i → legsSum g (rd g j).Instr = 0) (fun i => (g.length - i).toNat) 0 ⟨by omega, by omega, fun j h0 h1 => by omega⟩ rfl rfl (fun _ => rfl) (fun _ => rfl) ⟨rfl, rfl, rfl, rfl, rfl, rfl, rfl, rfl⟩ (fun i hi => ?_)
  obtain ⟨h0, hi, hall⟩ := hi
  repeat' (first
 | (with_reducible apply zds); exact tk; rfl; rfl; rfl; rfl; rfl
 | (with_reducible apply zd); rfl; exact tk; rfl
 | (with_reducible first | intro _ | apply wseq | apply zreg | apply thenQ_n | apply thenQ_r | apply thenQ_e | apply znil | apply wret | apply bodyQ_r | apply wblk | apply blkQ_n | apply blkQ_r | apply wskip | apply wexit)
 | apply wct rfl
 | apply wcf rfl
 | (with_reducible apply blkQ_x rfl)
 | (with_reducible apply zcmp); rfl; exact tk; rfl; rfl; rfl
 | fail)
  rotate_left
  · exact endY [0] rfl rfl rfl rfl rfl rfl ⟨hf, all_rd.1 fun j h1 h2 => hall j h1 (by omega)⟩
  rename_i hil
  refine wlp (X := Int × Int) [0, 3] [0] (fun x => [(5, I x.1), (4, I x.2)]) (fun _ => []) (fun x => (0 ≤ x.1 ∧ x.1 ≤ g.length) ∧ x.2 = legsSum (pf g x.1) (rd g i).Instr) (fun x => (g.length - x.1).toNat) (0, 0) ⟨⟨by dsimp only; omega, by dsimp only; omega⟩, rfl⟩ rfl rfl (fun _ => rfl) (fun _ => rfl) ⟨rfl, rfl, rfl, rfl, rfl, rfl, rfl, rfl⟩ (fun x hx => ?_)
  obtain ⟨k, n⟩ := x
  obtain ⟨k0, hn⟩ := hx
  dsimp only at k0 hn ⊢
  have hb := sumF_bnd (legB_bnd hf (rd g i).Instr) k0
  rw [show sumF (legB (rd g i).Instr) (pf g k) = n from hn.symm] at hb
  have hs := fun h : k < g.length => sumF_succ (f := legB (rd g i).Instr) (l := g) (i := k) ⟨k0.1, h⟩
  have hb2 := fun h : k < g.length => (hf.2 _ (rd_mem (l := g) (i := k) ⟨k0.1, h⟩)).2.2
  unfold amountOk inP at hb2
  repeat' (first
 | (with_reducible apply zds); exact tk; rfl; rfl; rfl; rfl; rfl
 | (with_reducible apply zd); rfl; exact tk; rfl
 | (with_reducible apply zar); rfl; rfl; rfl; rfl; (have h1 := hb2 (by assumption); omega); rfl; rfl
 | (with_reducible first | intro _ | apply wseq | apply zreg | apply thenQ_n | apply thenQ_r | apply thenQ_e | apply znil | apply wret | apply bodyQ_r | apply wblk | apply blkQ_n | apply blkQ_r | apply wskip | apply wexit)
 | apply wct rfl
 | apply wcf rfl
 | (with_reducible apply blkQ_x rfl)
 | (with_reducible apply zcmp); rfl; exact tk; rfl; rfl; rfl
 | (with_reducible apply zne); rfl; exact tk; rfl; rfl; rfl; rfl
 | (with_reducible apply zar); rfl; rfl; rfl; rfl; (first | omega | ((try simp only [List.length_append, List.length_cons, List.length_nil, List.length_map]); (try dsimp only); omega)); rfl; rfl
 | (with_reducible apply zix); rfl; exact tk; (iterate 7 rfl); (first | omega | ((try simp only [List.length_append, List.length_cons, List.length_nil, List.length_map]); (try dsimp only); omega)); rfl; rfl
 | (with_reducible apply zle); rfl; exact tk; rfl; rfl; rfl; rfl; (first | omega | ((try simp only [List.length_append, List.length_cons, List.length_nil, List.length_map]); (try dsimp only); omega)); rfl; rfl; rfl; rfl
 | refine zdq (id := 10) rfl (by kernel_rfl) [(.p, 0), (.p, 1), (.p, 2), (.p, 3), (.p, 5), (.p, 6), (.p, 7), (.p, 8), (.t, 4), (.t, 9), (.p, 10)] [] (by kernel_rfl) rfl ?_
 | fail)
  all_goals first
    | (rename_i h e
       exact endR (k + 1, _) [0] ⟨rfl, rfl, rfl, rfl, rfl, rfl, rfl, rfl⟩ ⟨⟨by dsimp only; omega, by dsimp only; omega⟩, by dsimp only; rw [legsSum, hs h, legB_y e, hn]; rfl⟩ (by first | omega | (dsimp only; omega)))
    | (rename_i h e
       exact endR (k + 1, _) [0] ⟨rfl, rfl, rfl, rfl, rfl, rfl, rfl, rfl⟩ ⟨⟨by dsimp only; omega, by dsimp only; omega⟩, by dsimp only; rw [legsSum, hs h, legB_n e, hn, Int.add_zero]; rfl⟩ (by first | omega | (dsimp only; omega)))
    | (have e : n = legsSum g (rd g i).Instr := hn.trans (congrArg (fun x => legsSum x (rd g i).Instr) (pf_all (i := k) (by assumption)))
       first
       | exact endN [0] rfl rfl rfl rfl rfl rfl (fun h => absurd (e.trans (h.2 _ (rd_mem (l := g) (i := i) ⟨h0, hil⟩))) (by assumption))
       | exact endR (i + 1) [0] ⟨rfl, rfl, rfl, rfl, rfl, rfl, rfl, rfl⟩ ⟨by omega, by omega, all_step hall (e.symm.trans (by first | assumption | omega))⟩ (by first | omega | (dsimp only; omega)))
set_option maxHeartbeats 4000000 in
theorem spec_AddIn {a b : Int} (ha : amountOk a) (hb : amountOk b) : FC Tryz.prog 306 [I a, I b] ([]) (sel (amountOk (a + b)) (.tup [I (a + b), B true]) (.tup [I 0, B false])) (sel (amountOk (a + b)) [] []) := by
  refine fent tk 18 [.tmp 4, .tmp 5] Tryz.func306 (by kernel_rfl) rfl rfl rfl rfl rfl rfl rfl ?_
  have ha2 := ha
  have hb2 := hb
  unfold amountOk inP at ha2 hb2
  repeat' (first
 | (with_reducible apply zds); exact tk; rfl; rfl; rfl; rfl; rfl
 | (with_reducible apply zd); rfl; exact tk; rfl
 | (with_reducible first | intro _ | apply wseq | apply zreg | apply thenQ_n | apply thenQ_r | apply thenQ_e | apply znil | apply wret | apply bodyQ_r | apply wblk | apply blkQ_n | apply blkQ_r | apply wskip | apply wexit)
 | (with_reducible apply zar); rfl; rfl; rfl; rfl; (first | omega | ((try simp only [List.length_append, List.length_cons, List.length_nil, List.length_map]); (try dsimp only); omega)); rfl; rfl
 | (with_reducible apply zcp); (iterate 10 rfl); exact spec_AmountOk; rfl; rfl
 | (with_reducible apply zc); (iterate 10 rfl); (first | exact spec_l1Told | exact spec_l1Told_n); exact fun _ => rfl; rfl; rfl; rfl
 | (with_reducible apply zcs); (iterate 10 rfl); exact spec_l1Told_y; exact fun _ => rfl; exact fun _ => rfl; rfl; rfl; rfl; rfl
 | fail)
  all_goals first
    | (exfalso; contradiction)
    | exact endT (by assumption) [] rfl rfl rfl rfl rfl rfl
    | exact endF (by assumption) [] rfl rfl rfl rfl rfl rfl
end Go.Proofs.YtgehbhkfehmdkaaGreat.Sh
