/- What is laid into balances. No condition. -/
import Derived.Test.YtnlajjoheegbiaaGreatShBo
namespace Go.Proofs.YtnlajjoheegbiaaGreat.Sh
open Go.RowKit
set_option linter.unusedVariables false
set_option linter.unusedSimpArgs false
/-- Without one, with one. -/
noncomputable def woB (l : List Bal) (a c : Int) : List Bal := sel (bHas l a c) (del l (bIx l a c)) l
noncomputable def putB (l : List Bal) (a c n : Int) : List Bal := sel (n = 0) (woB l a c) (ins (woB l a c) (bIx l a c) ⟨a, c, n⟩)
set_option maxHeartbeats 4000000 in
theorem impl_withBal {l : List Bal} {a c n : Int} (hs : BSd l) (hl : l.length ≤ 4000000) : FC Tryz.prog 235 [.c (.row 0 0 l.length), I a, I c, I n] ([ro 97 l]) (.c (.row 1 0 (putB l a c n).length)) ([ro 97 l, ow 97 (putB l a c n)]) := by
  refine fent tk 38 [.tmp 8] Tryz.func235 (by kernel_rfl) rfl rfl rfl rfl rfl rfl rfl ?_
  have hn := bIx_nn l a c
  have hlt := fun h : bHas l a c => (bHas_ix hs h).1
  by_cases hh : bHas l a c
  · have h1 := hlt hh
    have h2 := del_len (l := l) (i := bIx l a c) ⟨hn.1, h1⟩
    have hw : woB l a c = del l (bIx l a c) := sel_t hh
    by_cases hz : n = 0
    · rw [show putB l a c n = del l (bIx l a c) from (sel_t hz).trans hw]
      repeat' (first
        | (intro h9; exfalso; first | contradiction | omega)
        | (with_reducible apply zds); exact tk; rfl; rfl; rfl; rfl; rfl
        | (with_reducible apply zd); rfl; exact tk; rfl
        | (with_reducible first | intro _ | apply wseq | apply zreg | apply thenQ_n | apply thenQ_r | apply thenQ_e | apply znil | apply wret | apply bodyQ_r | apply wblk | apply blkQ_n | apply blkQ_r | apply wskip | apply wexit)
        | apply wct rfl
        | apply wcf rfl
        | (with_reducible apply zne); rfl; exact tk; rfl; rfl; rfl; rfl
        | (with_reducible apply zar); rfl; rfl; rfl; rfl; (first | omega | ((try simp only [List.length_append, List.length_cons, List.length_nil, List.length_map]); (try dsimp only); omega)); rfl; rfl
        | (with_reducible apply zlit (α := Bal) (e := 97)); rfl; exact tk; rfl; rfl; rfl; rfl; rfl; rfl; rfl; rfl; rfl; rfl; rfl; rfl; rfl
        | (with_reducible apply zcf); rfl; rfl; rfl; rfl; rfl; rfl; rfl; rfl; rfl; rfl; exact slices_Clone_Bal (by omega); rfl; rfl; rfl; rfl; rfl
        | (with_reducible apply zcs); rfl; rfl; rfl; rfl; rfl; rfl; rfl; rfl; rfl; rfl; exact impl_balAt (by assumption); exact fun _ => rfl; exact fun _ => rfl; rfl; rfl; rfl; rfl
        | (with_reducible apply zcw  [true]); rfl; rfl; rfl; rfl; rfl; rfl; rfl; rfl; rfl; rfl; exact slices_Delete_Bal (by omega) (by omega); rfl; rfl; rfl; rfl
        | (with_reducible apply zcw  [true,true]); rfl; rfl; rfl; rfl; rfl; rfl; rfl; rfl; rfl; rfl; exact slices_Insert_Bal (by omega) (by omega); rfl; rfl; rfl; rfl
        | fail)
      all_goals exact endV [0, 1] rfl rfl rfl rfl rfl rfl
    · rw [show putB l a c n = ins (del l (bIx l a c)) (bIx l a c) ⟨a, c, n⟩ from (sel_f hz).trans (by rw [hw])]
      repeat' (first
        | (intro h9; exfalso; first | contradiction | omega)
        | (with_reducible apply zds); exact tk; rfl; rfl; rfl; rfl; rfl
        | (with_reducible apply zd); rfl; exact tk; rfl
        | (with_reducible first | intro _ | apply wseq | apply zreg | apply thenQ_n | apply thenQ_r | apply thenQ_e | apply znil | apply wret | apply bodyQ_r | apply wblk | apply blkQ_n | apply blkQ_r | apply wskip | apply wexit)
        | apply wct rfl
        | apply wcf rfl
        | (with_reducible apply zne); rfl; exact tk; rfl; rfl; rfl; rfl
        | (with_reducible apply zar); rfl; rfl; rfl; rfl; (first | omega | ((try simp only [List.length_append, List.length_cons, List.length_nil, List.length_map]); (try dsimp only); omega)); rfl; rfl
        | (with_reducible apply zlit (α := Bal) (e := 97)); rfl; exact tk; rfl; rfl; rfl; rfl; rfl; rfl; rfl; rfl; rfl; rfl; rfl; rfl; rfl
        | (with_reducible apply zcf); rfl; rfl; rfl; rfl; rfl; rfl; rfl; rfl; rfl; rfl; exact slices_Clone_Bal (by omega); rfl; rfl; rfl; rfl; rfl
        | (with_reducible apply zcs); rfl; rfl; rfl; rfl; rfl; rfl; rfl; rfl; rfl; rfl; exact impl_balAt (by assumption); exact fun _ => rfl; exact fun _ => rfl; rfl; rfl; rfl; rfl
        | (with_reducible apply zcw  [true]); rfl; rfl; rfl; rfl; rfl; rfl; rfl; rfl; rfl; rfl; exact slices_Delete_Bal (by omega) (by omega); rfl; rfl; rfl; rfl
        | (with_reducible apply zcw  [true,true]); rfl; rfl; rfl; rfl; rfl; rfl; rfl; rfl; rfl; rfl; exact slices_Insert_Bal (by omega) (by omega); rfl; rfl; rfl; rfl
        | fail)
      all_goals exact endV [0, 3] rfl rfl rfl rfl rfl rfl
  · have hw : woB l a c = l := sel_f hh
    by_cases hz : n = 0
    · rw [show putB l a c n = l from (sel_t hz).trans hw]
      repeat' (first
        | (intro h9; exfalso; first | contradiction | omega)
        | (with_reducible apply zds); exact tk; rfl; rfl; rfl; rfl; rfl
        | (with_reducible apply zd); rfl; exact tk; rfl
        | (with_reducible first | intro _ | apply wseq | apply zreg | apply thenQ_n | apply thenQ_r | apply thenQ_e | apply znil | apply wret | apply bodyQ_r | apply wblk | apply blkQ_n | apply blkQ_r | apply wskip | apply wexit)
        | apply wct rfl
        | apply wcf rfl
        | (with_reducible apply zne); rfl; exact tk; rfl; rfl; rfl; rfl
        | (with_reducible apply zar); rfl; rfl; rfl; rfl; (first | omega | ((try simp only [List.length_append, List.length_cons, List.length_nil, List.length_map]); (try dsimp only); omega)); rfl; rfl
        | (with_reducible apply zlit (α := Bal) (e := 97)); rfl; exact tk; rfl; rfl; rfl; rfl; rfl; rfl; rfl; rfl; rfl; rfl; rfl; rfl; rfl
        | (with_reducible apply zcf); rfl; rfl; rfl; rfl; rfl; rfl; rfl; rfl; rfl; rfl; exact slices_Clone_Bal (by omega); rfl; rfl; rfl; rfl; rfl
        | (with_reducible apply zcs); rfl; rfl; rfl; rfl; rfl; rfl; rfl; rfl; rfl; rfl; exact impl_balAt (by assumption); exact fun _ => rfl; exact fun _ => rfl; rfl; rfl; rfl; rfl
        | (with_reducible apply zcw  [true]); rfl; rfl; rfl; rfl; rfl; rfl; rfl; rfl; rfl; rfl; exact slices_Delete_Bal (by omega) (by omega); rfl; rfl; rfl; rfl
        | (with_reducible apply zcw  [true,true]); rfl; rfl; rfl; rfl; rfl; rfl; rfl; rfl; rfl; rfl; exact slices_Insert_Bal (by omega) (by omega); rfl; rfl; rfl; rfl
        | fail)
      all_goals exact endV [0, 1] rfl rfl rfl rfl rfl rfl
    · rw [show putB l a c n = ins l (bIx l a c) ⟨a, c, n⟩ from (sel_f hz).trans (by rw [hw])]
      repeat' (first
        | (intro h9; exfalso; first | contradiction | omega)
        | (with_reducible apply zds); exact tk; rfl; rfl; rfl; rfl; rfl
        | (with_reducible apply zd); rfl; exact tk; rfl
        | (with_reducible first | intro _ | apply wseq | apply zreg | apply thenQ_n | apply thenQ_r | apply thenQ_e | apply znil | apply wret | apply bodyQ_r | apply wblk | apply blkQ_n | apply blkQ_r | apply wskip | apply wexit)
        | apply wct rfl
        | apply wcf rfl
        | (with_reducible apply zne); rfl; exact tk; rfl; rfl; rfl; rfl
        | (with_reducible apply zar); rfl; rfl; rfl; rfl; (first | omega | ((try simp only [List.length_append, List.length_cons, List.length_nil, List.length_map]); (try dsimp only); omega)); rfl; rfl
        | (with_reducible apply zlit (α := Bal) (e := 97)); rfl; exact tk; rfl; rfl; rfl; rfl; rfl; rfl; rfl; rfl; rfl; rfl; rfl; rfl; rfl
        | (with_reducible apply zcf); rfl; rfl; rfl; rfl; rfl; rfl; rfl; rfl; rfl; rfl; exact slices_Clone_Bal (by omega); rfl; rfl; rfl; rfl; rfl
        | (with_reducible apply zcs); rfl; rfl; rfl; rfl; rfl; rfl; rfl; rfl; rfl; rfl; exact impl_balAt (by assumption); exact fun _ => rfl; exact fun _ => rfl; rfl; rfl; rfl; rfl
        | (with_reducible apply zcw  [true]); rfl; rfl; rfl; rfl; rfl; rfl; rfl; rfl; rfl; rfl; exact slices_Delete_Bal (by omega) (by omega); rfl; rfl; rfl; rfl
        | (with_reducible apply zcw  [true,true]); rfl; rfl; rfl; rfl; rfl; rfl; rfl; rfl; rfl; rfl; exact slices_Insert_Bal (by omega) (by omega); rfl; rfl; rfl; rfl
        | fail)
      all_goals exact endV [0, 3] rfl rfl rfl rfl rfl rfl
theorem flt_id {α : Type} {p : α → Prop} {l : List α} (h : ∀ x ∈ l, p x) : flt p l = l := List.filter_eq_self.2 fun x hx => dB_t (h x hx)
def neB (a c : Int) (y : Bal) : Prop := ¬ (y.Account = a ∧ y.Instr = c)
theorem neB_bef {a c : Int} {y : Bal} (h : bef y.Account y.Instr a c) : neB a c y := fun e => by unfold bef at h; omega
theorem pf_neB {l : List Bal} {a c : Int} : ∀ y ∈ pf l (bIx l a c), neB a c y := fun y hy => by
  obtain ⟨j, hj, rfl⟩ := mem_rd hy
  have hn := bIx_nn l a c
  rw [pf_len hn] at hj
  rw [rd_pf ⟨hj.1, hj.2⟩]
  exact neB_bef (bIx_lt hj.1 hj.2)
theorem pf_app {l : List Bal} {k i : Int} (h : 0 ≤ k ∧ k ≤ i) : pf l i = pf l k ++ (l.drop k.toNat).take (i - k).toNat := by
  unfold pf
  rw [show i.toNat = k.toNat + (i - k).toNat from by omega, List.take_add]
theorem wo_len {l : List Bal} {a c i : Int} (h : bIx l a c ≤ i) : bIx l a c ≤ ((flt (neB a c) (pf l i)).length : Int) := by
  have hn := bIx_nn l a c
  rw [pf_app ⟨hn.1, h⟩, flt_append, flt_id pf_neB, List.length_append]
  have := pf_len hn
  omega
theorem ins_app {α : Type} {l m : List α} {k : Int} {x : α} (h : k ≤ l.length) : ins (l ++ m) k x = ins l k x ++ m := by
  have h1 : k.toNat ≤ l.length := by omega
  unfold ins
  rw [List.take_append_of_le_length h1, List.drop_append_of_le_length h1]
  simp
theorem ins_pf {l m : List Bal} {k : Int} {x : Bal} (h : 0 ≤ k ∧ k ≤ l.length) : ins (pf l k ++ m) k x = pf l k ++ x :: m := by
  have h1 : (pf l k).length = k.toNat := by have := pf_len h; omega
  unfold ins
  rw [← h1, List.take_left, List.drop_left]
theorem flt_woB {l : List Bal} (hs : BSd l) (a c : Int) : flt (neB a c) l = woB l a c := by
  have hn := bIx_nn l a c
  by_cases hh : bHas l a c
  · rw [woB, sel_t hh]
    obtain ⟨h1, h2⟩ := bHas_ix hs hh
    have e : l = pf l (bIx l a c) ++ rd l (bIx l a c) :: l.drop ((bIx l a c).toNat + 1) := by
      have h3 : (bIx l a c).toNat < l.length := by omega
      have e2 : rd l (bIx l a c) = l[(bIx l a c).toNat] := by simp [rd, List.getD_eq_getElem?_getD, h3]
      unfold pf
      rw [e2, ← List.drop_eq_getElem_cons h3, List.take_append_drop]
    have hd : ∀ y ∈ l.drop ((bIx l a c).toNat + 1), neB a c y := fun y hy k => by
      obtain ⟨n, hm, rfl⟩ := List.getElem_of_mem hy
      rw [List.length_drop] at hm
      have hl := hs.lt (i := bIx l a c) (j := bIx l a c + 1 + n) hn.1 (by omega) (by omega)
      have e3 : rd l (bIx l a c + 1 + n) = (l.drop ((bIx l a c).toNat + 1))[n] := by
        rw [List.getElem_drop]
        have : (bIx l a c + 1 + (n : Int)).toNat = (bIx l a c).toNat + 1 + n := by omega
        simp [rd, this, List.getD_eq_getElem?_getD, show (bIx l a c).toNat + 1 + n < l.length from by omega]
      rw [e3, h2.1, h2.2, k.1, k.2] at hl
      unfold bef at hl
      omega
    have e4 : flt (neB a c) (rd l (bIx l a c) :: l.drop ((bIx l a c).toNat + 1)) = l.drop ((bIx l a c).toNat + 1) := by
      rw [show rd l (bIx l a c) :: l.drop ((bIx l a c).toNat + 1) = [rd l (bIx l a c)] ++ l.drop ((bIx l a c).toNat + 1) from rfl, flt_append, flt_n (fun k => k h2), flt_id hd]
      rfl
    conv => lhs; rw [e]
    rw [flt_append, flt_id pf_neB, e4]
    rfl
  · rw [woB, sel_f hh]
    exact flt_id (fun y hy k => hh ⟨y, hy, k⟩)
set_option maxHeartbeats 4000000 in
theorem spec_l4Put {l : List Bal} {a c n : Int} (hs : BSd l) (hl : l.length ≤ 4000000) : FC Tryz.prog 79 [.c (.row 0 0 l.length), I a, I c, I n] ([ro 97 l]) (.c (.row 1 0 (putB l a c n).length)) ([ro 97 l, ow 97 (putB l a c n)]) := by
  refine fent tk 68 [.tmp 8] Tryz.func79 (by kernel_rfl) rfl rfl rfl rfl rfl rfl rfl ?_
  have hK := bIx_nn l a c
  have hKa := bIx_at (l := l) (a := a) (c := c)
  by_cases hz : n = 0
  · rw [show putB l a c n = flt (neB a c) l from (sel_t hz).trans (flt_woB hs a c).symm]
    repeat' (first
      | (intro h9; exfalso; first | contradiction | omega)
      | (with_reducible apply zds); exact tk; rfl; rfl; rfl; rfl; rfl
      | (with_reducible apply zd); rfl; exact tk; rfl
      | (with_reducible first | intro _ | apply wseq | apply zreg | apply thenQ_n | apply thenQ_r | apply thenQ_e | apply znil | apply wret | apply bodyQ_r | apply wblk | apply blkQ_n | apply blkQ_r | apply wskip | apply wexit)
      | apply wct rfl
      | apply wcf rfl
      | (with_reducible apply blkQ_x rfl)
      | (with_reducible apply blkQ_y rfl)
      | (with_reducible apply zcmp); rfl; exact tk; rfl; rfl; rfl
      | (with_reducible apply zeq); rfl; exact tk; rfl; rfl; rfl; rfl
      | (with_reducible apply zne); rfl; exact tk; rfl; rfl; rfl; rfl
      | (with_reducible apply zar); rfl; rfl; rfl; rfl; (first | omega | ((try simp only [List.length_append, List.length_cons, List.length_nil, List.length_map]); (try dsimp only); omega)); rfl; rfl
      | (with_reducible apply zix); rfl; exact tk; rfl; rfl; rfl; rfl; rfl; rfl; rfl; (first | omega | ((try simp only [List.length_append, List.length_cons, List.length_nil, List.length_map]); (try dsimp only); omega)); rfl; rfl
      | (with_reducible apply zle); rfl; exact tk; rfl; rfl; rfl; rfl; (first | omega | ((try simp only [List.length_append, List.length_cons, List.length_nil, List.length_map]); (try dsimp only); omega)); rfl; rfl; rfl; rfl
      | (with_reducible apply zse); rfl; exact tk; rfl; rfl; rfl; rfl; rfl; rfl; (first | omega | ((try simp only [List.length_append, List.length_cons, List.length_nil, List.length_map]); (try dsimp only); omega)); rfl; rfl; rfl; rfl; rfl
      | (with_reducible apply zlit (α := Bal) (e := 97)); rfl; exact tk; rfl; rfl; rfl; rfl; rfl; rfl; rfl; rfl; rfl; rfl; rfl; rfl; rfl
      | (with_reducible apply zap); rfl; exact tk; rfl; rfl; rfl; rfl; rfl; rfl; rfl; rfl; rfl; rfl; (first | omega | ((try simp only [List.length_append, List.length_cons, List.length_nil, List.length_map]); (try dsimp only); omega)); rfl; rfl; rfl; rfl; rfl
      | (with_reducible apply zcp); rfl; rfl; rfl; rfl; rfl; rfl; rfl; rfl; rfl; rfl; exact spec_l4Before; rfl; rfl
      | fail)
    refine wlp (X := Int × List Bal) [0, 1, 2, 10, 11] [0, 1, 2] (fun x => [(12, I x.1), (9, .c (.row 1 0 x.2.length))]) (fun x => [(1, ow 97 x.2)]) (fun x => (0 ≤ x.1 ∧ x.1 ≤ l.length) ∧ x.2 = flt (neB a c) (pf l x.1)) (fun x => (l.length - x.1).toNat) (0, []) ⟨⟨by dsimp only; omega, by dsimp only; omega⟩, rfl⟩ rfl rfl (fun _ => rfl) (fun _ => rfl) ⟨rfl, rfl, rfl, rfl, rfl, rfl, rfl, rfl⟩ (fun x hx => ?_)
    obtain ⟨i, xs⟩ := x
    obtain ⟨h0, h2⟩ := hx
    dsimp only at h0 h2 ⊢
    have hxl : xs.length ≤ 4000000 := by rw [h2]; have := flt_le (neB a c) (pf l i); have := pf_len h0; omega
    repeat' (first
      | (intro h9; exfalso; first | contradiction | omega)
      | (with_reducible apply zds); exact tk; rfl; rfl; rfl; rfl; rfl
      | (with_reducible apply zd); rfl; exact tk; rfl
      | (with_reducible first | intro _ | apply wseq | apply zreg | apply thenQ_n | apply thenQ_r | apply thenQ_e | apply znil | apply wret | apply bodyQ_r | apply wblk | apply blkQ_n | apply blkQ_r | apply wskip | apply wexit)
      | apply wct rfl
      | apply wcf rfl
      | (with_reducible apply blkQ_x rfl)
      | (with_reducible apply blkQ_y rfl)
      | (with_reducible apply zcmp); rfl; exact tk; rfl; rfl; rfl
      | (with_reducible apply zeq); rfl; exact tk; rfl; rfl; rfl; rfl
      | (with_reducible apply zne); rfl; exact tk; rfl; rfl; rfl; rfl
      | (with_reducible apply zar); rfl; rfl; rfl; rfl; (first | omega | ((try simp only [List.length_append, List.length_cons, List.length_nil, List.length_map]); (try dsimp only); omega)); rfl; rfl
      | (with_reducible apply zix); rfl; exact tk; rfl; rfl; rfl; rfl; rfl; rfl; rfl; (first | omega | ((try simp only [List.length_append, List.length_cons, List.length_nil, List.length_map]); (try dsimp only); omega)); rfl; rfl
      | (with_reducible apply zle); rfl; exact tk; rfl; rfl; rfl; rfl; (first | omega | ((try simp only [List.length_append, List.length_cons, List.length_nil, List.length_map]); (try dsimp only); omega)); rfl; rfl; rfl; rfl
      | (with_reducible apply zse); rfl; exact tk; rfl; rfl; rfl; rfl; rfl; rfl; (first | omega | ((try simp only [List.length_append, List.length_cons, List.length_nil, List.length_map]); (try dsimp only); omega)); rfl; rfl; rfl; rfl; rfl
      | (with_reducible apply zlit (α := Bal) (e := 97)); rfl; exact tk; rfl; rfl; rfl; rfl; rfl; rfl; rfl; rfl; rfl; rfl; rfl; rfl; rfl
      | (with_reducible apply zap); rfl; exact tk; rfl; rfl; rfl; rfl; rfl; rfl; rfl; rfl; rfl; rfl; (first | omega | ((try simp only [List.length_append, List.length_cons, List.length_nil, List.length_map]); (try dsimp only); omega)); rfl; rfl; rfl; rfl; rfl
      | (with_reducible apply zcp); rfl; rfl; rfl; rfl; rfl; rfl; rfl; rfl; rfl; rfl; exact spec_l4Before; rfl; rfl
      | fail)
    all_goals first
      | exact endR (i + 1, xs ++ [rd l i]) [0, 5, 2] ⟨rfl, rfl, rfl, rfl, rfl, rfl, rfl, rfl⟩ ⟨⟨by dsimp only; omega, by dsimp only; omega⟩, by dsimp only; rw [flt_succ ⟨h0.1, by assumption⟩, flt_y (p := neB a c) (fun k => by first | exact absurd k.1 (by assumption) | exact absurd k.2 (by assumption)), h2]⟩ (by first | omega | (dsimp only; omega))
      | exact endR (i + 1, xs) [0, 1, 2] ⟨rfl, rfl, rfl, rfl, rfl, rfl, rfl, rfl⟩ ⟨⟨by dsimp only; omega, by dsimp only; omega⟩, by dsimp only; rw [flt_succ ⟨h0.1, by assumption⟩, flt_n (p := neB a c) (fun k => k ⟨by assumption, by assumption⟩), List.append_nil, h2]⟩ (by first | omega | (dsimp only; omega))
      | (rw [show flt (neB a c) l = xs from by rw [h2, pf_all (by assumption)]]
         exact endV [0, 1] rfl rfl rfl rfl rfl rfl)
  · rw [show putB l a c n = ins (flt (neB a c) l) (bIx l a c) ⟨a, c, n⟩ from (sel_f hz).trans (by rw [flt_woB hs a c])]
    repeat' (first
      | (intro h9; exfalso; first | contradiction | omega)
      | (with_reducible apply zds); exact tk; rfl; rfl; rfl; rfl; rfl
      | (with_reducible apply zd); rfl; exact tk; rfl
      | (with_reducible first | intro _ | apply wseq | apply zreg | apply thenQ_n | apply thenQ_r | apply thenQ_e | apply znil | apply wret | apply bodyQ_r | apply wblk | apply blkQ_n | apply blkQ_r | apply wskip | apply wexit)
      | apply wct rfl
      | apply wcf rfl
      | (with_reducible apply blkQ_x rfl)
      | (with_reducible apply blkQ_y rfl)
      | (with_reducible apply zcmp); rfl; exact tk; rfl; rfl; rfl
      | (with_reducible apply zeq); rfl; exact tk; rfl; rfl; rfl; rfl
      | (with_reducible apply zne); rfl; exact tk; rfl; rfl; rfl; rfl
      | (with_reducible apply zar); rfl; rfl; rfl; rfl; (first | omega | ((try simp only [List.length_append, List.length_cons, List.length_nil, List.length_map]); (try dsimp only); omega)); rfl; rfl
      | (with_reducible apply zix); rfl; exact tk; rfl; rfl; rfl; rfl; rfl; rfl; rfl; (first | omega | ((try simp only [List.length_append, List.length_cons, List.length_nil, List.length_map]); (try dsimp only); omega)); rfl; rfl
      | (with_reducible apply zle); rfl; exact tk; rfl; rfl; rfl; rfl; (first | omega | ((try simp only [List.length_append, List.length_cons, List.length_nil, List.length_map]); (try dsimp only); omega)); rfl; rfl; rfl; rfl
      | (with_reducible apply zse); rfl; exact tk; rfl; rfl; rfl; rfl; rfl; rfl; (first | omega | ((try simp only [List.length_append, List.length_cons, List.length_nil, List.length_map]); (try dsimp only); omega)); rfl; rfl; rfl; rfl; rfl
      | (with_reducible apply zlit (α := Bal) (e := 97)); rfl; exact tk; rfl; rfl; rfl; rfl; rfl; rfl; rfl; rfl; rfl; rfl; rfl; rfl; rfl
      | (with_reducible apply zap); rfl; exact tk; rfl; rfl; rfl; rfl; rfl; rfl; rfl; rfl; rfl; rfl; (first | omega | ((try simp only [List.length_append, List.length_cons, List.length_nil, List.length_map]); (try dsimp only); omega)); rfl; rfl; rfl; rfl; rfl
      | (with_reducible apply zcp); rfl; rfl; rfl; rfl; rfl; rfl; rfl; rfl; rfl; rfl; exact spec_l4Before; rfl; rfl
      | fail)
    refine wlp (X := Int × Bool × List Bal) [0, 1, 2, 11] [0, 1, 2] (fun x => [(12, I x.1), (10, B x.2.1), (9, .c (.row 1 0 x.2.2.length))]) (fun x => [(1, ow 97 x.2.2)]) (fun x => (0 ≤ x.1 ∧ x.1 ≤ l.length) ∧ (x.2.1 = false → x.1 ≤ bIx l a c ∧ x.2.2 = pf l x.1) ∧ (x.2.1 = true → bIx l a c < x.1 ∧ x.2.2 = ins (flt (neB a c) (pf l x.1)) (bIx l a c) ⟨a, c, n⟩)) (fun x => (l.length - x.1).toNat) (0, false, []) ⟨⟨by dsimp only; omega, by dsimp only; omega⟩, fun _ => ⟨hK.1, rfl⟩, fun h => by cases h⟩ rfl rfl (fun _ => rfl) (fun _ => rfl) ⟨rfl, rfl, rfl, rfl, rfl, rfl, rfl, rfl⟩ (fun x hx => ?_)
    obtain ⟨i, put, xs⟩ := x
    obtain ⟨h0, hf, ht⟩ := hx
    dsimp only at h0 hf ht ⊢
    have hpl := pf_len h0
    cases put
    · obtain ⟨h1, h2⟩ := hf rfl
      have hxl : xs.length ≤ 4000000 := by rw [h2]; omega
      clear hf ht
      have hlt : ¬ bef (rd l i).Account (rd l i).Instr a c → bIx l a c = i := fun hb => by
        by_cases hq : i < bIx l a c
        · exact absurd (bIx_lt h0.1 hq) hb
        · omega
      have hge : i < l.length → bef (rd l i).Account (rd l i).Instr a c → i ≠ bIx l a c := fun h hb e => by
        have := hKa (by omega)
        rw [← e] at this
        exact this hb
      repeat' (first
        | (intro h9; exfalso; first | contradiction | omega)
        | (with_reducible apply zds); exact tk; rfl; rfl; rfl; rfl; rfl
        | (with_reducible apply zd); rfl; exact tk; rfl
        | (with_reducible first | intro _ | apply wseq | apply zreg | apply thenQ_n | apply thenQ_r | apply thenQ_e | apply znil | apply wret | apply bodyQ_r | apply wblk | apply blkQ_n | apply blkQ_r | apply wskip | apply wexit)
        | apply wct rfl
        | apply wcf rfl
        | (with_reducible apply blkQ_x rfl)
        | (with_reducible apply blkQ_y rfl)
        | (with_reducible apply zcmp); rfl; exact tk; rfl; rfl; rfl
        | (with_reducible apply zeq); rfl; exact tk; rfl; rfl; rfl; rfl
        | (with_reducible apply zne); rfl; exact tk; rfl; rfl; rfl; rfl
        | (with_reducible apply zar); rfl; rfl; rfl; rfl; (first | omega | ((try simp only [List.length_append, List.length_cons, List.length_nil, List.length_map]); (try dsimp only); omega)); rfl; rfl
        | (with_reducible apply zix); rfl; exact tk; rfl; rfl; rfl; rfl; rfl; rfl; rfl; (first | omega | ((try simp only [List.length_append, List.length_cons, List.length_nil, List.length_map]); (try dsimp only); omega)); rfl; rfl
        | (with_reducible apply zle); rfl; exact tk; rfl; rfl; rfl; rfl; (first | omega | ((try simp only [List.length_append, List.length_cons, List.length_nil, List.length_map]); (try dsimp only); omega)); rfl; rfl; rfl; rfl
        | (with_reducible apply zse); rfl; exact tk; rfl; rfl; rfl; rfl; rfl; rfl; (first | omega | ((try simp only [List.length_append, List.length_cons, List.length_nil, List.length_map]); (try dsimp only); omega)); rfl; rfl; rfl; rfl; rfl
        | (with_reducible apply zlit (α := Bal) (e := 97)); rfl; exact tk; rfl; rfl; rfl; rfl; rfl; rfl; rfl; rfl; rfl; rfl; rfl; rfl; rfl
        | (with_reducible apply zap); rfl; exact tk; rfl; rfl; rfl; rfl; rfl; rfl; rfl; rfl; rfl; rfl; (first | omega | ((try simp only [List.length_append, List.length_cons, List.length_nil, List.length_map]); (try dsimp only); omega)); rfl; rfl; rfl; rfl; rfl
        | (with_reducible apply zcp); rfl; rfl; rfl; rfl; rfl; rfl; rfl; rfl; rfl; rfl; exact spec_l4Before; rfl; rfl
        | fail)
      all_goals first
        | (have e := hlt (by assumption)
           exact endR (i + 1, true, xs ++ [⟨a, c, n⟩] ++ [rd l i]) [0, 7, 2] ⟨rfl, rfl, rfl, rfl, rfl, rfl, rfl, rfl⟩ ⟨⟨by dsimp only; omega, by dsimp only; omega⟩, fun h => (by cases h), fun _ => ⟨by dsimp only; omega, by dsimp only; rw [flt_succ ⟨h0.1, by assumption⟩, flt_y (p := neB a c) (fun k => by first | exact absurd k.1 (by assumption) | exact absurd k.2 (by assumption)), h2, ← e, flt_id pf_neB, ins_pf hK, List.append_assoc]; rfl⟩⟩ (by first | omega | (dsimp only; omega)))
        | (have e := hlt (by assumption)
           exact endR (i + 1, true, xs ++ [⟨a, c, n⟩]) [0, 5, 2] ⟨rfl, rfl, rfl, rfl, rfl, rfl, rfl, rfl⟩ ⟨⟨by dsimp only; omega, by dsimp only; omega⟩, fun h => (by cases h), fun _ => ⟨by dsimp only; omega, by dsimp only; rw [flt_succ ⟨h0.1, by assumption⟩, flt_n (p := neB a c) (fun k => k ⟨by assumption, by assumption⟩), h2, ← e, flt_id pf_neB, ins_pf hK]⟩⟩ (by first | omega | (dsimp only; omega)))
        | (have e := hge (by assumption) (by assumption)
           exact endR (i + 1, false, xs ++ [rd l i]) [0, 5, 2] ⟨rfl, rfl, rfl, rfl, rfl, rfl, rfl, rfl⟩ ⟨⟨by dsimp only; omega, by dsimp only; omega⟩, fun _ => ⟨by dsimp only; omega, by dsimp only; rw [h2, pf_succ ⟨h0.1, by assumption⟩]⟩, fun h => (by cases h)⟩ (by first | omega | (dsimp only; omega)))
        | (exfalso
           have q := neB_bef (by assumption : bef (rd l i).Account (rd l i).Instr a c)
           exact q ⟨by assumption, by assumption⟩)
        | (rw [show ins (flt (neB a c) l) (bIx l a c) ⟨a, c, n⟩ = xs ++ [⟨a, c, n⟩] from by
             have e : bIx l a c = l.length := by omega
             have e2 : pf l (bIx l a c) = l := pf_all (by omega)
             have e3 := pf_neB (l := l) (a := a) (c := c)
             rw [e2] at e3
             rw [flt_id e3, ins_end e, h2, pf_all (by assumption)]]
           exact endV [0, 4] rfl rfl rfl rfl rfl rfl)
    · obtain ⟨h1, h2⟩ := ht rfl
      have hfl := wo_len (l := l) (a := a) (c := c) (i := i) (by omega)
      have hxl : xs.length ≤ 4000001 := by rw [h2, ins_len ⟨hK.1, hfl⟩]; have := flt_le (neB a c) (pf l i); omega
      clear hf ht
      repeat' (first
        | (intro h9; exfalso; first | contradiction | omega)
        | (with_reducible apply zds); exact tk; rfl; rfl; rfl; rfl; rfl
        | (with_reducible apply zd); rfl; exact tk; rfl
        | (with_reducible first | intro _ | apply wseq | apply zreg | apply thenQ_n | apply thenQ_r | apply thenQ_e | apply znil | apply wret | apply bodyQ_r | apply wblk | apply blkQ_n | apply blkQ_r | apply wskip | apply wexit)
        | apply wct rfl
        | apply wcf rfl
        | (with_reducible apply blkQ_x rfl)
        | (with_reducible apply blkQ_y rfl)
        | (with_reducible apply zcmp); rfl; exact tk; rfl; rfl; rfl
        | (with_reducible apply zeq); rfl; exact tk; rfl; rfl; rfl; rfl
        | (with_reducible apply zne); rfl; exact tk; rfl; rfl; rfl; rfl
        | (with_reducible apply zar); rfl; rfl; rfl; rfl; (first | omega | ((try simp only [List.length_append, List.length_cons, List.length_nil, List.length_map]); (try dsimp only); omega)); rfl; rfl
        | (with_reducible apply zix); rfl; exact tk; rfl; rfl; rfl; rfl; rfl; rfl; rfl; (first | omega | ((try simp only [List.length_append, List.length_cons, List.length_nil, List.length_map]); (try dsimp only); omega)); rfl; rfl
        | (with_reducible apply zle); rfl; exact tk; rfl; rfl; rfl; rfl; (first | omega | ((try simp only [List.length_append, List.length_cons, List.length_nil, List.length_map]); (try dsimp only); omega)); rfl; rfl; rfl; rfl
        | (with_reducible apply zse); rfl; exact tk; rfl; rfl; rfl; rfl; rfl; rfl; (first | omega | ((try simp only [List.length_append, List.length_cons, List.length_nil, List.length_map]); (try dsimp only); omega)); rfl; rfl; rfl; rfl; rfl
        | (with_reducible apply zlit (α := Bal) (e := 97)); rfl; exact tk; rfl; rfl; rfl; rfl; rfl; rfl; rfl; rfl; rfl; rfl; rfl; rfl; rfl
        | (with_reducible apply zap); rfl; exact tk; rfl; rfl; rfl; rfl; rfl; rfl; rfl; rfl; rfl; rfl; (first | omega | ((try simp only [List.length_append, List.length_cons, List.length_nil, List.length_map]); (try dsimp only); omega)); rfl; rfl; rfl; rfl; rfl
        | (with_reducible apply zcp); rfl; rfl; rfl; rfl; rfl; rfl; rfl; rfl; rfl; rfl; exact spec_l4Before; rfl; rfl
        | fail)
      all_goals first
        | exact endR (i + 1, true, xs ++ [rd l i]) [0, 5, 2] ⟨rfl, rfl, rfl, rfl, rfl, rfl, rfl, rfl⟩ ⟨⟨by dsimp only; omega, by dsimp only; omega⟩, fun h => (by cases h), fun _ => ⟨by dsimp only; omega, by dsimp only; rw [flt_succ ⟨h0.1, by assumption⟩, flt_y (p := neB a c) (fun k => by first | exact absurd k.1 (by assumption) | exact absurd k.2 (by assumption)), ins_app hfl, h2]⟩⟩ (by first | omega | (dsimp only; omega))
        | exact endR (i + 1, true, xs) [0, 1, 2] ⟨rfl, rfl, rfl, rfl, rfl, rfl, rfl, rfl⟩ ⟨⟨by dsimp only; omega, by dsimp only; omega⟩, fun h => (by cases h), fun _ => ⟨by dsimp only; omega, by dsimp only; rw [flt_succ ⟨h0.1, by assumption⟩, flt_n (p := neB a c) (fun k => k ⟨by assumption, by assumption⟩), List.append_nil, h2]⟩⟩ (by first | omega | (dsimp only; omega))
        | (rw [show ins (flt (neB a c) l) (bIx l a c) ⟨a, c, n⟩ = xs from by rw [h2, pf_all (by assumption)]]
           exact endV [0, 1] rfl rfl rfl rfl rfl rfl)
end Go.Proofs.YtnlajjoheegbiaaGreat.Sh
