/- The order of shares, and shares: the reference. No condition. -/
import Derived.Test.YtgehbhkfehmdkaaGreatKSpShWe
import Derived.Test.YtgehbhkfehmdkaaGreatKSpShSm
namespace Go.Proofs.YtgehbhkfehmdkaaGreat.Sh
open Go.RowKit
set_option linter.unusedVariables false
set_option linter.unusedSimpArgs false
theorem ordS_nil (g : Int → Int) : ordS g 0 = [] := List.length_eq_zero_iff.1 (ordS_len g 0)
theorem mkl_succ {α : Type} {f : Int → α} {i : Int} (h : 0 ≤ i) : mkl (i + 1).toNat f = mkl i.toNat f ++ [f i] := by
  rw [show (i + 1).toNat = i.toNat + 1 from by omega]
  unfold mkl
  rw [List.range_succ, List.map_append]
  show _ ++ [f (i.toNat : Int)] = _
  rw [Int.toNat_of_nonneg h]
theorem rd_appl {u v : List Int} {p : Int} (h : 0 ≤ p ∧ p < u.length) : rd (u ++ v) p = rd u p := by
  unfold rd
  rw [List.getD_eq_getElem?_getD, List.getD_eq_getElem?_getD, List.getElem?_append_left (by omega)]
theorem ins_sub {u : List Int} {k x : Int} (h : 0 ≤ k ∧ k ≤ u.length) : [] ++ sub u 0 k ++ [x] ++ sub u k u.length = ins u k x := by
  unfold sub ins
  rw [List.nil_append, Int.toNat_natCast, List.take_length]
  simp
set_option maxHeartbeats 4000000 in
theorem spec_ShareOrder {t : Int} {ws : List Int} (h : shareable t ws) : FC Tryz.prog 244 [I t, .c (.row 0 0 ws.length)] ([ro 3 ws]) (.c (.row 1 0 (shOrd t ws).length)) ([ro 3 ws, ow 3 (shOrd t ws)]) := by
  refine fent tk 75 [.tmp 4] Tryz.func244 (by kernel_rfl) rfl rfl rfl rfl rfl rfl rfl ?_
  have hw := h.1
  have ht := h.2
  have hln : (1 : Int) ≤ ws.length ∧ (ws.length : Int) ≤ 40 := h.1.1
  repeat' (first
 | (intro h9; exfalso; first | contradiction | omega)
 | (with_reducible apply zds); exact tk; rfl; rfl; rfl; rfl; rfl
 | (with_reducible apply zd); rfl; exact tk; rfl
 | (with_reducible first | intro _ | apply wseq | apply zreg | apply thenQ_n | apply thenQ_r | apply thenQ_e | apply znil | apply wret | apply bodyQ_r | apply wblk | apply blkQ_n | apply blkQ_r | apply wskip | apply wexit)
 | apply wcf rfl
 | (with_reducible apply zlit (α := Int) (e := 3)); rfl; exact tk; (iterate 13 rfl)
 | (with_reducible apply zcp); (iterate 10 rfl); (first | exact spec_WeightsOk | exact spec_l1Some); rfl; rfl
 | fail)
  refine wlp (X := Int × List Int × List Int) [0, 1] [0, 1, 2] (fun x => [(7, I x.1), (5, .c (.row 1 0 x.2.1.length)), (6, .c (.row 2 0 x.2.2.length))]) (fun x => [(1, ow 3 x.2.1), (2, ow 3 x.2.2)]) (fun x => (0 ≤ x.1 ∧ x.1 ≤ ws.length) ∧ x.2.1 = ordS (shG t ws) x.1.toNat ∧ x.2.2 = mkl x.1.toNat (shG t ws)) (fun x => (ws.length - x.1).toNat) (0, [], []) ⟨by dsimp only; omega, (ordS_nil _).symm, rfl⟩ rfl rfl (fun _ => rfl) (fun _ => rfl) ⟨rfl, rfl, rfl, rfl, rfl, rfl, rfl, rfl⟩ (fun x hx => ?_)
  obtain ⟨i, u, v⟩ := x
  obtain ⟨h0, hu, hv⟩ := hx
  dsimp only at h0 hu hv ⊢
  by_cases hil : i < ws.length
  rotate_left
  ·
    repeat' (first
 | (intro h9; exfalso; first | contradiction | omega)
 | (with_reducible apply zds); exact tk; rfl; rfl; rfl; rfl; rfl
 | (with_reducible first | intro _ | apply wseq | apply zreg | apply thenQ_n | apply thenQ_r | apply thenQ_e | apply znil | apply wret | apply bodyQ_r | apply wblk | apply blkQ_n | apply blkQ_r | apply wskip | apply wexit)
 | apply wcf rfl
 | (with_reducible apply blkQ_x rfl)
 | (with_reducible apply zcmp); rfl; exact tk; rfl; rfl; rfl
 | fail)
    all_goals
      rw [show u = shOrd t ws from by rw [hu, shOrd, show i.toNat = ws.length from by omega]]
      exact endV [0, 1] rfl rfl rfl rfl rfl rfl
  have hul : (u.length : Int) = i := by rw [hu, ordS_len]; omega
  have hvl : (v.length : Int) = i := by rw [hv, mkl_len]; omega
  have hv2 : v ++ [t * rd ws i % sumF id ws] = mkl (i + 1).toNat (shG t ws) := by rw [mkl_succ h0.1, ← hv]; rfl
  have hrng := fun (p : Int) (h1 : 0 ≤ p) (h2 : p < i) => (by rw [hu]; have := ordS_rng (g := shG t ws) (n := i.toNat) (i := p) ⟨h1, by omega⟩; omega : 0 ≤ rd u p ∧ rd u p < i)
  have hrd := fun (p : Int) (h1 : 0 ≤ p) (h2 : p < i) => (by rw [rd_appl (by have := hrng p h1 h2; omega), hv, rd_mkl (by have := hrng p h1 h2; omega)] : rd (v ++ [t * rd ws i % sumF id ws]) (rd u p) = shG t ws (rd u p))
  repeat' (first
 | (intro h9; exfalso; first | contradiction | omega)
 | (with_reducible apply zds); exact tk; rfl; rfl; rfl; rfl; rfl
 | (with_reducible apply zd); rfl; exact tk; rfl
 | (with_reducible first | intro _ | apply wseq | apply zreg | apply thenQ_n | apply thenQ_r | apply thenQ_e | apply znil | apply wret | apply bodyQ_r | apply wblk | apply blkQ_n | apply blkQ_r | apply wskip | apply wexit)
 | apply wct rfl
 | (with_reducible apply zcmp); rfl; exact tk; rfl; rfl; rfl
 | (with_reducible apply zlit (α := Int) (e := 3)); rfl; exact tk; (iterate 13 rfl)
 | (with_reducible apply zap); rfl; exact tk; (iterate 10 rfl); (first | omega | ((try simp only [List.length_append, List.length_cons, List.length_nil, List.length_map]); (try dsimp only); omega)); rfl; rfl; rfl; rfl; rfl
 | (with_reducible apply zc); (iterate 10 rfl); exact spec_ShareQuota (by assumption) (by omega); exact fun _ => rfl; rfl; rfl; rfl
 | fail)
  refine wlp (X := Int) [0, 1, 5, 7, 9] [0, 1, 4] (fun k => [(11, I k), (6, .c (.row 2 0 (v ++ [t * rd ws i % sumF id ws]).length))]) (fun _ => []) (fun k => (0 ≤ k ∧ k ≤ i) ∧ ∀ p : Int, k ≤ p → p < i → shG t ws (rd u p) < t * rd ws i % sumF id ws) (fun k => k.toNat) u.length ⟨⟨by omega, by omega⟩, fun p h1 h2 => by omega⟩ rfl rfl (fun _ => rfl) (fun _ => rfl) ⟨rfl, rfl, rfl, rfl, rfl, rfl, rfl, rfl⟩ (fun k hk => ?_)
  obtain ⟨k0, hlow⟩ := hk
  have hr1 := fun (h1 : 0 < k) => hrng (k - 1) (by omega) (by omega)
  have hr2 := fun (h1 : 0 < k) => hrd (k - 1) (by omega) (by omega)
  have hs1 := sub_len (l := u) (a := 0) (b := k) ⟨by omega, by omega, by omega⟩
  have hs2 := sub_len (l := u) (a := k) (b := u.length) ⟨by omega, by omega, by omega⟩
  have e : (i.toNat : Int) = i := by omega
  have hins := fun (hq : k = 0 ∨ ¬ rd (v ++ [t * rd ws i % sumF id ws]) (rd u (k - 1)) < t * rd ws i % sumF id ws) => (by
    have := ordS_succ (g := shG t ws) (n := i.toNat) (k := k) ⟨k0.1, by omega⟩ (by
      rcases hq with q | q
      · exact .inl q
      · by_cases hk : k = 0
        · exact .inl hk
        · right
          rw [e, ← hu, ← hr2 (by omega)]
          exact q) (by rw [e, ← hu]; exact hlow)
    rw [← hu, e, ← show (i + 1).toNat = i.toNat + 1 from by omega] at this
    rw [ins_sub (by omega)]
    exact this : [] ++ sub u 0 k ++ [i] ++ sub u k u.length = ordS (shG t ws) (i + 1).toNat)
  repeat' (first
 | (with_reducible apply zds); exact tk; rfl; rfl; rfl; rfl; rfl
 | (with_reducible apply zd); rfl; exact tk; rfl
 | (with_reducible first | intro _ | apply wseq | apply zreg | apply thenQ_n | apply thenQ_r | apply thenQ_e | apply znil | apply wret | apply bodyQ_r | apply wblk | apply blkQ_n | apply blkQ_r | apply wskip | apply wexit)
 | apply wct rfl
 | apply wcf rfl
 | (with_reducible apply blkQ_x rfl)
 | (with_reducible apply zcmp); rfl; exact tk; rfl; rfl; rfl
 | (with_reducible apply zar); rfl; rfl; rfl; rfl; (first | omega | ((try simp only [List.length_append, List.length_cons, List.length_nil, List.length_map]); (try dsimp only); omega)); rfl; rfl
 | (with_reducible apply zix); rfl; exact tk; (iterate 7 rfl); (first | omega | ((try simp only [List.length_append, List.length_cons, List.length_nil, List.length_map]); (try dsimp only); omega)); rfl; rfl
 | (with_reducible apply zle); rfl; exact tk; rfl; rfl; rfl; rfl; (first | omega | ((try simp only [List.length_append, List.length_cons, List.length_nil, List.length_map]); (try dsimp only); omega)); rfl; rfl; rfl; rfl
 | (with_reducible apply zsl); rfl; exact tk; (iterate 8 rfl); (first | omega | ((try simp only [List.length_append, List.length_cons, List.length_nil, List.length_map]); (try dsimp only); omega)); rfl; rfl; rfl; rfl; rfl
 | (with_reducible apply zlit (α := Int) (e := 3)); rfl; exact tk; (iterate 13 rfl)
 | (with_reducible apply zap); rfl; exact tk; (iterate 10 rfl); (first | omega | ((try simp only [List.length_append, List.length_cons, List.length_nil, List.length_map]); (try dsimp only); omega)); rfl; rfl; rfl; rfl; rfl
 | fail)
  all_goals first
    | exact endR (k - 1) [0, 1, 2] ⟨rfl, rfl, rfl, rfl, rfl, rfl, rfl, rfl⟩ ⟨by omega, fun p h1 h2 => by
        by_cases hp : p = k - 1
        · rw [hp, ← hr2 (by omega)]; assumption
        · exact hlow p (by omega) h2⟩ (by first | omega | (dsimp only; omega))
    | exact endR (i + 1, [] ++ sub u 0 k ++ [i] ++ sub u k u.length, v ++ [t * rd ws i % sumF id ws]) [0, 9, 2] ⟨rfl, rfl, rfl, rfl, rfl, rfl, rfl, rfl⟩ ⟨by dsimp only; omega, hins (by first | exact .inl (by omega) | exact .inr (by assumption)), hv2⟩ (by first | omega | (dsimp only; omega))
    | trace_state
end Go.Proofs.YtgehbhkfehmdkaaGreat.Sh
namespace Go.Proofs.YtgehbhkfehmdkaaGreat.Sh
open Go.RowKit
set_option linter.unusedVariables false
set_option linter.unusedSimpArgs false
def Up (l : List Int) (a b : Int) : Prop := ∀ i j : Int, a ≤ i → i < j → j < b → rd l i < rd l j
theorem Up.ds {l : List Int} {a b : Int} (h : Up l a b) : DS l a b := fun i j h0 h1 h2 => by have := h i j h0 h1 h2; omega
theorem Up.sub {l : List Int} {a b a2 b2 : Int} (h : Up l a b) (h0 : a ≤ a2) (h1 : b2 ≤ b) : Up l a2 b2 := fun i j k0 k1 k2 => h i j (by omega) k1 (by omega)
theorem Up.ok {g : Int → Int} {l : List Int} {a b : Int} (h : Up l a b) (h0 : 0 ≤ a) (hb : b ≤ l.length) : Mv l (stb g l a b) a b ∧ RS g (stb g l a b) a b := stb_ok (so_ex h0 hb h.ds)
theorem Up.mv {l u : List Int} {a b c : Int} (h : Up l a c) (hm : Mv l u a b) (h0 : 0 ≤ a ∧ a ≤ b) : Up u b c := fun i j k0 k1 k2 => by
  rw [hm.out i (by omega) (by omega), hm.out j (by omega) (by omega)]
  exact h i j (by omega) k1 k2
theorem stb_nil {g : Int → Int} {l : List Int} {a b : Int} (h0 : 0 ≤ a) (hb : b ≤ l.length) (h : b ≤ a + 1) : stb g l a b = l := (stb_eq h0 hb (.refl _ _ _) (fun i j k0 k1 k2 => by omega)).symm
theorem two_sm {g : Int → Int} {l : List Int} {c n : Int} (h : Up l 0 n) (hc : 0 ≤ c ∧ c ≤ n) (hn : n ≤ l.length) : SM g (stb g (stb g l 0 c) c n) 0 c n ∧ Mv l (stb g (stb g l 0 c) c n) 0 n := by
  obtain ⟨m1, r1⟩ := (h.sub (Int.le_refl 0) hc.2).ok (g := g) (Int.le_refl 0) (by omega)
  have hl1 := m1.len
  have u1 : Up (stb g l 0 c) c n := h.mv m1 ⟨Int.le_refl 0, hc.1⟩
  obtain ⟨m2, r2⟩ := u1.ok (g := g) hc.1 (by rw [hl1]; exact hn)
  refine ⟨⟨⟨Int.le_refl 0, hc.1, hc.2, by rw [m2.len, hl1]; exact hn⟩, fun i j k0 k1 k2 => ?_, r2, fun i j k0 k1 k2 k3 => ?_⟩, (m1.wide (Int.le_refl 0) (Int.le_refl 0) hc.2).trans (m2.wide (Int.le_refl 0) hc.1 (Int.le_refl n))⟩
  · rw [m2.out i k0 (by omega), m2.out j (by omega) (by omega)]
    exact r1 i j k0 k1 k2
  · rw [m2.out i k0 (by omega)]
    obtain ⟨p, hp, e1⟩ := m1.to i k0 k1
    obtain ⟨q, hq, e2⟩ := m2.to j k2 k3
    rw [e1, e2, m1.out q (by omega) (by omega)]
    exact h p q hp.1 (by omega) hq.2
theorem two_fin {g : Int → Int} {l : List Int} {c n : Int} (h : Up l 0 n) (hc : 0 ≤ c ∧ c ≤ n) (hn : n ≤ l.length) : stb g (stb g (stb g l 0 c) c n) 0 n = stb g l 0 n := by
  obtain ⟨h1, h2⟩ := two_sm (g := g) h hc hn
  obtain ⟨m3, r3⟩ := stb_ok h1.ex
  exact stb_eq (Int.le_refl 0) hn (h2.trans m3) r3
set_option maxHeartbeats 4000000 in
theorem slices_stableCmpFunc_int {l ov : List Int} {z : Nat} {n : Int} (hz : l.length = z) (hn : n = l.length ∧ l.length ≤ 40) (hr : Rng l ov.length) (hs : Up l 0 n) : FC Tryz.prog 330 [.c (.row 0 0 z), I n, .c (.fn 302 [(1, 0, 0)])] ([ow 3 l, vO 2 ov.length, ro 3 ov]) (.tup []) ([ow 3 (stb (rd ov) l 0 n), vO 2 ov.length, ro 3 ov]) := by
  refine fent tk 63 [] Tryz.func330 (by kernel_rfl) rfl rfl rfl rfl rfl rfl rfl ?_
  repeat' (first
 | (with_reducible apply zds); exact tk; rfl; rfl; rfl; rfl; rfl
 | (with_reducible apply zd); rfl; exact tk; rfl
 | (with_reducible first | intro _ | apply wseq | apply zreg | apply thenQ_n | apply thenQ_r | apply thenQ_e | apply znil | apply wret | apply bodyQ_r | apply wblk | apply blkQ_n | apply blkQ_r | apply wskip | apply wexit)
 | fail)
  refine wlp (X := Int × Int × List Int) [0, 1, 2, 6] [0, 1, 2] (fun x => [(7, I x.1), (8, I x.2.1)]) (fun x => [(0, ow 3 x.2.2)]) (fun x => x = (0, 20, l) ∨ (20 ≤ n ∧ x = (20, 40, stb (rd ov) l 0 20)) ∨ (n = 40 ∧ x = (40, 60, stb (rd ov) (stb (rd ov) l 0 20) 20 40))) (fun x => (60 - x.1).toNat) (0, 20, l) (.inl rfl) rfl rfl (fun _ => rfl) (fun _ => rfl) ⟨rfl, rfl, rfl, rfl, rfl, rfl, rfl, rfl⟩ (fun x hx => ?_)
  obtain ⟨a, b, u⟩ := x
  have hfa : (0 ≤ a ∧ b = a + 20 ∧ a ≤ 40 ∧ a ≤ n) ∧ u.length = l.length ∧ Rng u ov.length ∧ Up u a n := by
    rcases hx with h | ⟨h0, h⟩ | ⟨h0, h⟩
    · cases h
      exact ⟨by omega, rfl, hr, hs⟩
    · cases h
      obtain ⟨m1, r1⟩ := (hs.sub (Int.le_refl 0) h0).ok (g := rd ov) (Int.le_refl 0) (by omega)
      exact ⟨by omega, m1.len, hr.mv m1 (Int.le_refl 0) (by omega), hs.mv m1 ⟨Int.le_refl 0, by omega⟩⟩
    · cases h
      obtain ⟨h1, h2⟩ := two_sm (g := rd ov) (c := 20) hs (by omega) (by omega)
      rw [h0] at h1 h2
      exact ⟨by omega, h2.len, hr.mv h2 (Int.le_refl 0) (by omega), fun i j k0 k1 k2 => by omega⟩
  obtain ⟨fa, ful, fur, fup⟩ := hfa
  dsimp only at hx ⊢
  by_cases hbn : b ≤ n
  ·
    have fub := fup.sub (Int.le_refl a) hbn
    have hnx : (b, b + 20, stb (rd ov) u a b) = (0, 20, l) ∨ (20 ≤ n ∧ (b, b + 20, stb (rd ov) u a b) = (20, 40, stb (rd ov) l 0 20)) ∨ (n = 40 ∧ (b, b + 20, stb (rd ov) u a b) = (40, 60, stb (rd ov) (stb (rd ov) l 0 20) 20 40)) := by
      rcases hx with h | ⟨h0, h⟩ | ⟨h0, h⟩
      · cases h
        exact .inr (.inl ⟨hbn, rfl⟩)
      · cases h
        exact .inr (.inr ⟨by omega, rfl⟩)
      · cases h
        omega
    repeat' (first
 | (intro h9; exfalso; first | contradiction | omega)
 | (with_reducible apply zds); exact tk; rfl; rfl; rfl; rfl; rfl
 | (with_reducible apply zd); rfl; exact tk; rfl
 | (with_reducible first | intro _ | apply wseq | apply zreg | apply thenQ_n | apply thenQ_r | apply thenQ_e | apply znil | apply wret | apply bodyQ_r | apply wblk | apply blkQ_n | apply blkQ_r | apply wskip | apply wexit)
 | apply wct rfl
 | (with_reducible apply zcmp); rfl; exact tk; rfl; rfl; rfl
 | (with_reducible apply zar); rfl; rfl; rfl; rfl; (first | omega | ((try simp only [List.length_append, List.length_cons, List.length_nil, List.length_map]); (try dsimp only); omega)); rfl; rfl
 | (with_reducible apply zcw  [true,false,false]); (iterate 10 rfl); (first | exact slices_insertionSortCmpFunc_int (by omega) (by omega) (by omega) (by assumption) (by assumption) | exact slices_symMergeCmpFunc_int_r ih (by omega) (by assumption) (by assumption) (by omega)); rfl; rfl; rfl; rfl
 | fail)
    all_goals first
      | exact endR (b, b + 20, stb (rd ov) u a b) [0, 1, 2] ⟨rfl, rfl, rfl, rfl, rfl, rfl, rfl, rfl⟩ hnx (by first | omega | (dsimp only; omega))
      | (exfalso; omega)
      | trace_state
  have hv : (n ≤ 20 → stb (rd ov) u a n = stb (rd ov) l 0 n) ∧ (20 < n → stb (rd ov) u a n = stb (rd ov) (stb (rd ov) l 0 20) 20 n) := by
    rcases hx with h | ⟨h0, h⟩ | ⟨h0, h⟩
    · cases h
      exact ⟨fun _ => rfl, fun k => by omega⟩
    · cases h
      refine ⟨fun k => ?_, fun _ => rfl⟩
      rw [stb_nil (by omega) (by omega) (by omega), show n = 20 from by omega]
    · cases h
      refine ⟨fun k => by omega, fun _ => ?_⟩
      rw [stb_nil (by omega) (by omega) (by omega), h0]
  obtain ⟨fm, _⟩ := fup.ok (g := rd ov) fa.1 (by omega)
  have fvl := fm.len
  have fvr := fur.mv fm fa.1 (by omega)
  repeat' (first
 | (intro h9; exfalso; first | contradiction | omega)
 | (with_reducible apply zds); exact tk; rfl; rfl; rfl; rfl; rfl
 | (with_reducible first | intro _ | apply wseq | apply zreg | apply thenQ_n | apply thenQ_r | apply thenQ_e | apply znil | apply wret | apply bodyQ_r | apply wblk | apply blkQ_n | apply blkQ_r | apply wskip | apply wexit)
 | apply wcf rfl
 | (with_reducible apply blkQ_x rfl)
 | (with_reducible apply zcmp); rfl; exact tk; rfl; rfl; rfl
 | (with_reducible apply zcw  [true,false,false]); (iterate 10 rfl); (first | exact slices_insertionSortCmpFunc_int (by omega) (by omega) (by omega) (by assumption) (by assumption) | exact slices_symMergeCmpFunc_int_r ih (by omega) (by assumption) (by assumption) (by omega)); rfl; rfl; rfl; rfl
 | fail)
  all_goals first | (exfalso; omega) | skip
  generalize hV : stb (rd ov) u a n = v at *
  refine wlp (X := Int × List Int) [0, 1, 2] [0, 1, 2] (fun x => [(6, I x.1)]) (fun x => [(0, ow 3 x.2)]) (fun x => x = (20, v) ∨ x = (40, stb (rd ov) l 0 n)) (fun x => (40 - x.1).toNat) (20, v) (.inl rfl) rfl rfl (fun _ => rfl) (fun _ => rfl) ⟨rfl, rfl, rfl, rfl, rfl, rfl, rfl, rfl⟩ (fun x hx => ?_)
  obtain ⟨bs, w⟩ := x
  dsimp only at hx ⊢
  by_cases hbs : bs < n
  rotate_left
  ·
    have hw : w = stb (rd ov) l 0 n := by
      rcases hx with h | h
      · cases h
        exact hv.1 (by omega)
      · cases h
        rfl
    repeat' (first
 | (intro h9; exfalso; first | contradiction | omega)
 | (with_reducible apply zds); exact tk; rfl; rfl; rfl; rfl; rfl
 | (with_reducible first | intro _ | apply wseq | apply zreg | apply thenQ_n | apply thenQ_r | apply thenQ_e | apply znil | apply wret | apply bodyQ_r | apply wblk | apply blkQ_n | apply blkQ_r | apply wskip | apply wexit)
 | apply wcf rfl
 | (with_reducible apply blkQ_x rfl)
 | (with_reducible apply zcmp); rfl; exact tk; rfl; rfl; rfl
 | fail)
    all_goals
      rw [hw]
      exact endV [0, 1, 2] rfl rfl rfl rfl rfl rfl
  have hfw : bs = 20 ∧ SM (rd ov) w 0 20 n ∧ w.length = l.length ∧ Rng w ov.length ∧ stb (rd ov) w 0 n = stb (rd ov) l 0 n := by
    rcases hx with h | h
    · cases h
      have e := hv.2 hbs
      obtain ⟨h1, h2⟩ := two_sm (g := rd ov) (c := 20) hs (by omega) (by omega)
      rw [e]
      exact ⟨rfl, h1, h2.len, hr.mv h2 (Int.le_refl 0) (by omega), two_fin hs (by omega) (by omega)⟩
    · cases h
      omega
  obtain ⟨rfl, hsm, hwl, hwr, hwf⟩ := hfw
  repeat' (first
 | (intro h9; exfalso; first | contradiction | omega)
 | (with_reducible apply zds); exact tk; rfl; rfl; rfl; rfl; rfl
 | (with_reducible apply zd); rfl; exact tk; rfl
 | (with_reducible first | intro _ | apply wseq | apply zreg | apply thenQ_n | apply thenQ_r | apply thenQ_e | apply znil | apply wret | apply bodyQ_r | apply wblk | apply blkQ_n | apply blkQ_r | apply wskip | apply wexit)
 | apply wct rfl
 | (with_reducible apply zcmp); rfl; exact tk; rfl; rfl; rfl
 | (with_reducible apply zar); rfl; rfl; rfl; rfl; (first | omega | ((try simp only [List.length_append, List.length_cons, List.length_nil, List.length_map]); (try dsimp only); omega)); rfl; rfl
 | fail)
  all_goals first | (exfalso; omega) | skip
  refine wlp (X := Int × Int × List Int) [0, 1, 2, 6] [0, 1, 2] (fun x => [(7, I x.1), (8, I x.2.1)]) (fun x => [(0, ow 3 x.2.2)]) (fun x => x = (0, 40, w) ∨ (n = 40 ∧ x = (40, 80, stb (rd ov) w 0 40))) (fun x => (40 - x.1).toNat) (0, 40, w) (.inl rfl) rfl rfl (fun _ => rfl) (fun _ => rfl) ⟨rfl, rfl, rfl, rfl, rfl, rfl, rfl, rfl⟩ (fun x hx2 => ?_)
  obtain ⟨a2, b2, w2⟩ := x
  dsimp only at hx2 ⊢
  by_cases hb2 : b2 ≤ n
  ·
    have hq : (a2 = 0 ∧ b2 = 40 ∧ n = 40) ∧ w2 = w := by
      rcases hx2 with h | ⟨h0, h⟩
      · cases h
        exact ⟨by omega, rfl⟩
      · cases h
        omega
    obtain ⟨⟨q1, q2, q3⟩, rfl⟩ := hq
    have hs2 : SM (rd ov) w2 a2 (a2 + 20) b2 := by rw [q1, q2, ← q3]; exact hsm
    have hnx : (b2, b2 + 2 * 20, stb (rd ov) w2 a2 b2) = (0, 40, w2) ∨ (n = 40 ∧ (b2, b2 + 2 * 20, stb (rd ov) w2 a2 b2) = (40, 80, stb (rd ov) w2 0 40)) := .inr ⟨q3, by rw [q1, q2]; rfl⟩
    repeat' (first
 | (intro h9; exfalso; first | contradiction | omega)
 | (with_reducible apply zds); exact tk; rfl; rfl; rfl; rfl; rfl
 | (with_reducible apply zd); rfl; exact tk; rfl
 | (with_reducible first | intro _ | apply wseq | apply zreg | apply thenQ_n | apply thenQ_r | apply thenQ_e | apply znil | apply wret | apply bodyQ_r | apply wblk | apply blkQ_n | apply blkQ_r | apply wskip | apply wexit)
 | apply wct rfl
 | (with_reducible apply zcmp); rfl; exact tk; rfl; rfl; rfl
 | (with_reducible apply zar); rfl; rfl; rfl; rfl; (first | omega | ((try simp only [List.length_append, List.length_cons, List.length_nil, List.length_map]); (try dsimp only); omega)); rfl; rfl
 | (with_reducible apply zcw [true,false,false]); (iterate 10 rfl); (first | exact slices_symMerge (by omega) (by assumption) (by assumption) (by omega) (by omega) | exact ih (by omega) (by assumption) (by assumption) (by omega) (by omega)); rfl; rfl; rfl; rfl
 | fail)
    all_goals first
      | exact endR (b2, b2 + 2 * 20, stb (rd ov) w2 a2 b2) [0, 1, 2] ⟨rfl, rfl, rfl, rfl, rfl, rfl, rfl, rfl⟩ hnx (by first | omega | (dsimp only; omega))
      | (exfalso; omega)
      | trace_state
  by_cases ha2 : a2 = 0
  ·
    have hq : b2 = 40 ∧ w2 = w := by
      rcases hx2 with h | ⟨h0, h⟩
      · cases h
        exact ⟨rfl, rfl⟩
      · cases h
        omega
    obtain ⟨q2, rfl⟩ := hq
    have hs2 : SM (rd ov) w2 a2 (a2 + 20) n := by rw [ha2]; exact hsm
    have hf : stb (rd ov) w2 a2 n = stb (rd ov) l 0 n := by rw [ha2]; exact hwf
    repeat' (first
 | (intro h9; exfalso; first | contradiction | omega)
 | (with_reducible apply zds); exact tk; rfl; rfl; rfl; rfl; rfl
 | (with_reducible apply zd); rfl; exact tk; rfl
 | (with_reducible first | intro _ | apply wseq | apply zreg | apply thenQ_n | apply thenQ_r | apply thenQ_e | apply znil | apply wret | apply bodyQ_r | apply wblk | apply blkQ_n | apply blkQ_r | apply wskip | apply wexit)
 | apply wct rfl
 | apply wcf rfl
 | (with_reducible apply blkQ_x rfl)
 | (with_reducible apply zcmp); rfl; exact tk; rfl; rfl; rfl
 | (with_reducible apply zar); rfl; rfl; rfl; rfl; (first | omega | ((try simp only [List.length_append, List.length_cons, List.length_nil, List.length_map]); (try dsimp only); omega)); rfl; rfl
 | (with_reducible apply zcw [true,false,false]); (iterate 10 rfl); (first | exact slices_symMerge (by omega) (by assumption) (by assumption) (by omega) (by omega) | exact ih (by omega) (by assumption) (by assumption) (by omega) (by omega)); rfl; rfl; rfl; rfl
 | fail)
    all_goals first
      | (rw [hf]
         exact endR (40, stb (rd ov) l 0 n) [0, 1, 2] ⟨rfl, rfl, rfl, rfl, rfl, rfl, rfl, rfl⟩ (.inr rfl) (by first | omega | (dsimp only; omega)))
      | (exfalso; omega)
      | trace_state
  ·
    have hq : a2 = 40 ∧ n = 40 ∧ w2 = stb (rd ov) l 0 n := by
      rcases hx2 with h | ⟨h0, h⟩
      · cases h
        omega
      · cases h
        exact ⟨rfl, h0, by rw [← hwf, h0]⟩
    obtain ⟨q1, q2, q3⟩ := hq
    repeat' (first
 | (intro h9; exfalso; first | contradiction | omega)
 | (with_reducible apply zds); exact tk; rfl; rfl; rfl; rfl; rfl
 | (with_reducible apply zd); rfl; exact tk; rfl
 | (with_reducible first | intro _ | apply wseq | apply zreg | apply thenQ_n | apply thenQ_r | apply thenQ_e | apply znil | apply wret | apply bodyQ_r | apply wblk | apply blkQ_n | apply blkQ_r | apply wskip | apply wexit)
 | apply wcf rfl
 | (with_reducible apply blkQ_x rfl)
 | (with_reducible apply zcmp); rfl; exact tk; rfl; rfl; rfl
 | (with_reducible apply zar); rfl; rfl; rfl; rfl; (first | omega | ((try simp only [List.length_append, List.length_cons, List.length_nil, List.length_map]); (try dsimp only); omega)); rfl; rfl
 | fail)
    all_goals first
      | (rw [q3]
         exact endR (40, stb (rd ov) l 0 n) [0, 1, 2] ⟨rfl, rfl, rfl, rfl, rfl, rfl, rfl, rfl⟩ (.inr rfl) (by first | omega | (dsimp only; omega)))
      | (exfalso; omega)
      | trace_state
end Go.Proofs.YtgehbhkfehmdkaaGreat.Sh
namespace Go.Proofs.YtgehbhkfehmdkaaGreat.Sh
open Go.RowKit
set_option linter.unusedVariables false
set_option linter.unusedSimpArgs false
set_option maxHeartbeats 4000000 in
theorem slices_SortStableFunc_int {l ov : List Int} {z : Nat} (hz : l.length = z) (hn : l.length ≤ 40) (hr : Rng l ov.length) (hs : Up l 0 z) : FC Tryz.prog 301 [.c (.row 0 0 z), .c (.fn 302 [(1, 0, 0)])] ([ow 3 l, vO 2 ov.length, ro 3 ov]) (.tup []) ([ow 3 (stb (rd ov) l 0 z), vO 2 ov.length, ro 3 ov]) := by
  refine fent tk 9 [] Tryz.func301 (by kernel_rfl) rfl rfl rfl rfl rfl rfl rfl ?_
  repeat' (first
 | (with_reducible apply zds); exact tk; rfl; rfl; rfl; rfl; rfl
 | (with_reducible first | intro _ | apply wseq | apply zreg | apply thenQ_n | apply thenQ_r | apply thenQ_e | apply znil | apply wret | apply bodyQ_r | apply wblk | apply blkQ_n | apply blkQ_r | apply wskip | apply wexit)
 | (with_reducible apply zcw  [true,false,false]); (iterate 10 rfl); exact slices_stableCmpFunc_int (by omega) (by omega) (by assumption) (by assumption); rfl; rfl; rfl; rfl
 | fail)
  all_goals first
    | exact endV [0, 1, 2] rfl rfl rfl rfl rfl rfl
    | trace_state
theorem iota_up (n : Nat) : Up (iota n) 0 n := fun i j h0 h1 h2 => by rw [rd_iota ⟨h0, by omega⟩, rd_iota ⟨by omega, h2⟩]; exact h1
theorem iota_suc {i : Int} (h : 0 ≤ i) : iota i.toNat ++ [i] = iota (i + 1).toNat := (mkl_succ (f := fun i => i) h).symm
theorem iota_rng (n : Nat) {k : Nat} (h : n ≤ k) : Rng (iota n) k := fun i h0 h1 => by
  rw [iota_len] at h1
  rw [rd_iota ⟨h0, h1⟩]
  omega
theorem ord_done {t : Int} {ws : List Int} : stb (rd (mkl ws.length (shG t ws))) (iota ws.length) 0 ws.length = shOrd t ws := by
  have hl := iota_len ws.length
  obtain ⟨h1, h2⟩ := (iota_up ws.length).ok (g := rd (mkl ws.length (shG t ws))) (Int.le_refl 0) (by omega)
  rw [ordS_eq h1 h2, shOrd]
  exact ordS_congr fun i h0 h1 => rd_mkl ⟨h0, h1⟩
set_option maxHeartbeats 4000000 in
theorem impl_ShareOrder {t : Int} {ws : List Int} (h : shareable t ws) : FC Tryz.prog 240 [I t, .c (.row 0 0 ws.length)] ([ro 3 ws]) (.c (.row 1 0 (shOrd t ws).length)) ([ro 3 ws, ow 3 (shOrd t ws)]) := by
  refine fent tk 43 [.tmp 4] Tryz.func240 (by kernel_rfl) rfl rfl rfl rfl rfl rfl rfl ?_
  have hw := h.1
  have ht := h.2
  have hln : (1 : Int) ≤ ws.length ∧ (ws.length : Int) ≤ 40 := h.1.1
  repeat' (first
 | (intro h9; exfalso; first | contradiction | omega)
 | (with_reducible apply zds); exact tk; rfl; rfl; rfl; rfl; rfl
 | (with_reducible apply zd); rfl; exact tk; rfl
 | (with_reducible first | intro _ | apply wseq | apply zreg | apply thenQ_n | apply thenQ_r | apply thenQ_e | apply znil | apply wret | apply bodyQ_r | apply wblk | apply blkQ_n | apply blkQ_r | apply wskip | apply wexit)
 | apply wcf rfl
 | (with_reducible apply zlit (α := Int) (e := 3)); rfl; exact tk; (iterate 13 rfl)
 | (with_reducible apply zcp); (iterate 10 rfl); exact impl_shareable; rfl; rfl
 | fail)
  refine wlp (X := Int × List Int × List Int) [0, 1, 6, 18] [0, 1, 2, 3] (fun x => [(19, I x.1), (5, .c (.row 1 0 x.2.1.length))]) (fun x => [(1, ow 3 x.2.1), (2, ow 3 x.2.2), (3, some ⟨true, 37, 1, .mx [.row 2 0 x.2.2.length]⟩)]) (fun x => (0 ≤ x.1 ∧ x.1 ≤ ws.length) ∧ x.2.1 = iota x.1.toNat ∧ x.2.2 = mkl x.1.toNat (shG t ws)) (fun x => (ws.length - x.1).toNat) (0, [], []) ⟨by dsimp only; omega, rfl, rfl⟩ rfl rfl (fun _ => rfl) (fun _ => rfl) ⟨rfl, rfl, rfl, rfl, rfl, rfl, rfl, rfl⟩ (fun x hx => ?_)
  obtain ⟨i, u, v⟩ := x
  obtain ⟨h0, hu, hv⟩ := hx
  dsimp only at h0 hu hv ⊢
  have hul : (u.length : Int) = i := by rw [hu, iota_len]; omega
  have hvl : (v.length : Int) = i := by rw [hv, mkl_len]; omega
  by_cases hil : i < ws.length
  ·
    have hu2 : u ++ [i] = iota (i + 1).toNat := by rw [hu]; exact iota_suc h0.1
    have hv2 : v ++ [t * rd ws i % sumF id ws] = mkl (i + 1).toNat (shG t ws) := by rw [mkl_succ h0.1, ← hv]; rfl
    repeat' (first
 | (intro h9; exfalso; first | contradiction | omega)
 | (with_reducible apply zds); exact tk; rfl; rfl; rfl; rfl; rfl
 | (with_reducible apply zd); rfl; exact tk; rfl
 | (with_reducible first | intro _ | apply wseq | apply zreg | apply thenQ_n | apply thenQ_r | apply thenQ_e | apply znil | apply wret | apply bodyQ_r | apply wblk | apply blkQ_n | apply blkQ_r | apply wskip | apply wexit)
 | apply wct rfl
 | (with_reducible apply zcmp); rfl; exact tk; rfl; rfl; rfl
 | (with_reducible apply zar); rfl; rfl; rfl; rfl; (first | omega | ((try simp only [List.length_append, List.length_cons, List.length_nil, List.length_map]); (try dsimp only); omega)); rfl; rfl
 | (with_reducible apply zlit (α := Int) (e := 3)); rfl; exact tk; (iterate 13 rfl)
 | (with_reducible apply zap); rfl; exact tk; (iterate 10 rfl); (first | omega | ((try simp only [List.length_append, List.length_cons, List.length_nil, List.length_map]); (try dsimp only); omega)); rfl; rfl; rfl; rfl; rfl
 | (with_reducible apply zc); (iterate 10 rfl); exact impl_ShareQuota (by assumption) (by omega); exact fun _ => rfl; rfl; rfl; rfl
 | fail)
    all_goals first
      | exact endR (i + 1, u ++ [i], v ++ [t * rd ws i % sumF id ws]) [0, 5, 7, 3] ⟨rfl, rfl, rfl, rfl, rfl, rfl, rfl, rfl⟩ ⟨by dsimp only; omega, hu2, hv2⟩ (by first | omega | (dsimp only; omega))
      | trace_state
  have e : i.toNat = ws.length := by omega
  have hur : Rng u v.length := by rw [hu]; exact iota_rng _ (by omega)
  have huu : Up u 0 u.length := by rw [hu, iota_len]; exact iota_up _
  have hf : stb (rd v) u 0 u.length = shOrd t ws := by rw [show (u.length : Int) = ws.length from by omega, hu, hv, e]; exact ord_done
  have hfl : (shOrd t ws).length = u.length := by rw [shOrd_len]; omega
  repeat' (first
 | (intro h9; exfalso; first | contradiction | omega)
 | (with_reducible apply zds); exact tk; rfl; rfl; rfl; rfl; rfl
 | (with_reducible first | intro _ | apply wseq | apply zreg | apply thenQ_n | apply thenQ_r | apply thenQ_e | apply znil | apply wret | apply bodyQ_r | apply wblk | apply blkQ_n | apply blkQ_r | apply wskip | apply wexit)
 | apply wcf rfl
 | (with_reducible apply blkQ_x rfl)
 | (with_reducible apply zcmp); rfl; exact tk; rfl; rfl; rfl
 | (with_reducible apply zcw  [true,false,false]); (iterate 10 rfl); exact slices_SortStableFunc_int (by omega) (by omega) (by assumption) (by assumption); rfl; rfl; rfl; rfl
 | fail)
  all_goals first
    | (rw [hf, ← hfl]
       exact endV [0, 1] rfl rfl rfl rfl rfl rfl)
    | trace_state
end Go.Proofs.YtgehbhkfehmdkaaGreat.Sh
namespace Go.Proofs.YtgehbhkfehmdkaaGreat.Sh
open Go.RowKit
set_option linter.unusedVariables false
set_option linter.unusedSimpArgs false
theorem rd_map {l : List Int} {f : Int → Int} {i : Int} (h : 0 ≤ i ∧ i < l.length) : rd (l.map f) i = f (rd l i) := by
  unfold rd
  rw [List.getD_eq_getElem?_getD, List.getD_eq_getElem?_getD, List.getElem?_map, List.getElem?_eq_getElem (by omega : i.toNat < l.length)]
  rfl
theorem shQs_rd {t i : Int} {ws : List Int} (h : shareable t ws) (hi : 0 ≤ i ∧ i < ws.length) : 0 ≤ rd (shQs t ws) i ∧ rd (shQs t ws) i ≤ 1000000000000000 := by
  rw [shQs, rd_map hi]
  have h1 := h.q (rd_mem hi)
  have h2 := h.2.2
  show 0 ≤ t * rd ws i / sumF id ws ∧ t * rd ws i / sumF id ws ≤ _
  omega
theorem shQs_bd {t : Int} {ws : List Int} (h : shareable t ws) : ∀ x ∈ shQs t ws, inP x 0 1000000000000000 := fun x hx => by
  obtain ⟨j, hj, rfl⟩ := mem_rd hx
  rw [shQs_len] at hj
  exact shQs_rd h hj
theorem shQs_succ {t i : Int} {ws : List Int} (hi : 0 ≤ i ∧ i < ws.length) : pf (shQs t ws) (i + 1) = pf (shQs t ws) i ++ [t * rd ws i / sumF id ws] := by
  rw [pf_succ (by rw [shQs_len]; exact hi), shQs, rd_map hi]
  rfl
noncomputable def incd (t : Int) (ws : List Int) (k : Int) : List Int := (pf (shOrd t ws) k).foldl inc (shQs t ws)
theorem incd_len (t : Int) (ws : List Int) (k : Int) : (incd t ws k).length = ws.length := by rw [incd, incs_len, shQs_len]
theorem incd_succ {t : Int} {ws : List Int} {k : Int} (h : 0 ≤ k ∧ k < ws.length) : incd t ws (k + 1) = upd (incd t ws k) (rd (shOrd t ws) k) (rd (incd t ws k) (rd (shOrd t ws) k) + 1) := incs_succ (by rw [shOrd_len]; exact h)
theorem shOrd_rng {t : Int} {ws : List Int} {k : Int} (h : 0 ≤ k ∧ k < ws.length) : 0 ≤ rd (shOrd t ws) k ∧ rd (shOrd t ws) k < ws.length := ordS_rng h
theorem incd_bd {t : Int} {ws : List Int} (h : shareable t ws) : ∀ k : Nat, (k : Int) ≤ ws.length → ∀ j : Int, 0 ≤ j → j < ws.length → 0 ≤ rd (incd t ws k) j ∧ rd (incd t ws k) j ≤ 1000000000000000 + k
  | 0, _, j, h0, h1 => by
    have := shQs_rd h ⟨h0, h1⟩
    show 0 ≤ rd (shQs t ws) j ∧ rd (shQs t ws) j ≤ _
    omega
  | k + 1, hk, j, h0, h1 => by
    have ih := incd_bd h k (by omega)
    have hr := shOrd_rng (t := t) (ws := ws) (k := k) ⟨by omega, by omega⟩
    have i1 := ih _ hr.1 hr.2
    have i2 := ih j h0 h1
    have e : ((k + 1 : Nat) : Int) = (k : Int) + 1 := by omega
    rw [e, incd_succ ⟨by omega, by omega⟩]
    by_cases c : j = rd (shOrd t ws) k
    · rw [c, rd_upd_s (by rw [incd_len]; exact hr)]
      omega
    · rw [rd_upd_o hr.1 h0 c]
      omega
set_option maxHeartbeats 4000000 in
theorem spec_Shares {t : Int} {ws : List Int} (h : shareable t ws) : FC Tryz.prog 135 [I t, .c (.row 0 0 ws.length)] ([ro 3 ws]) (.tup [.c (.row 1 0 (shs t ws).length), B true]) ([ro 3 ws, ow 3 (shs t ws)]) := by
  refine fent tk 69 [.tmp 4, .tmp 5] Tryz.func135 (by kernel_rfl) rfl rfl rfl rfl rfl rfl rfl ?_
  have hw := h.1
  have ht := h.2
  have hln : (1 : Int) ≤ ws.length ∧ (ws.length : Int) ≤ 40 := h.1.1
  have htb : 0 ≤ t ∧ t ≤ 1000000000000000 := h.2
  repeat' (first
 | (intro h9; exfalso; first | contradiction | omega)
 | (with_reducible apply zds); exact tk; rfl; rfl; rfl; rfl; rfl
 | (with_reducible apply zd); rfl; exact tk; rfl
 | (with_reducible first | intro _ | apply wseq | apply zreg | apply thenQ_n | apply thenQ_r | apply thenQ_e | apply znil | apply wret | apply bodyQ_r | apply wblk | apply blkQ_n | apply blkQ_r | apply wskip | apply wexit)
 | apply wcf rfl
 | (with_reducible apply zlit (α := Int) (e := 3)); rfl; exact tk; (iterate 13 rfl)
 | (with_reducible apply zcp); (iterate 10 rfl); (first | exact spec_WeightsOk | exact spec_l1Some); rfl; rfl
 | fail)
  refine wlp (X := Int × List Int × Int) [0, 1] [0, 1] (fun x => [(8, I x.1), (6, .c (.row 1 0 x.2.1.length)), (7, I x.2.2)]) (fun x => [(1, ow 3 x.2.1)]) (fun x => (0 ≤ x.1 ∧ x.1 ≤ ws.length) ∧ x.2.1 = pf (shQs t ws) x.1 ∧ x.2.2 = t - sumF id (pf (shQs t ws) x.1)) (fun x => (ws.length - x.1).toNat) (0, [], t) ⟨by dsimp only; omega, rfl, by show t = t - 0; omega⟩ rfl rfl (fun _ => rfl) (fun _ => rfl) ⟨rfl, rfl, rfl, rfl, rfl, rfl, rfl, rfl⟩ (fun x hx => ?_)
  obtain ⟨i, u, n⟩ := x
  obtain ⟨h0, hu, hn⟩ := hx
  dsimp only at h0 hu hn ⊢
  have hul : (u.length : Int) = i := by rw [hu]; exact pf_len (by rw [shQs_len]; exact h0)
  have hbd := ws_bd (shQs_bd h) (i := i) (by rw [shQs_len]; exact h0)
  by_cases hil : i < ws.length
  ·
    have hq := h.q (rd_mem ⟨h0.1, hil⟩)
    have hu2 : u ++ [t * rd ws i / sumF id ws] = pf (shQs t ws) (i + 1) := by rw [shQs_succ ⟨h0.1, hil⟩, hu]
    have hn2 : n - t * rd ws i / sumF id ws = t - sumF id (pf (shQs t ws) (i + 1)) := by
      rw [shQs_succ ⟨h0.1, hil⟩, sumF_append, sumF_one, hn]
      simp only [id]
      omega
    repeat' (first
 | (intro h9; exfalso; first | contradiction | omega)
 | (with_reducible apply zds); exact tk; rfl; rfl; rfl; rfl; rfl
 | (with_reducible apply zd); rfl; exact tk; rfl
 | (with_reducible first | intro _ | apply wseq | apply zreg | apply thenQ_n | apply thenQ_r | apply thenQ_e | apply znil | apply wret | apply bodyQ_r | apply wblk | apply blkQ_n | apply blkQ_r | apply wskip | apply wexit)
 | apply wct rfl
 | (with_reducible apply zcmp); rfl; exact tk; rfl; rfl; rfl
 | (with_reducible apply zar); rfl; rfl; rfl; rfl; (first | omega | ((try simp only [List.length_append, List.length_cons, List.length_nil, List.length_map]); (try dsimp only); omega)); rfl; rfl
 | (with_reducible apply zlit (α := Int) (e := 3)); rfl; exact tk; (iterate 13 rfl)
 | (with_reducible apply zap); rfl; exact tk; (iterate 10 rfl); (first | omega | ((try simp only [List.length_append, List.length_cons, List.length_nil, List.length_map]); (try dsimp only); omega)); rfl; rfl; rfl; rfl; rfl
 | (with_reducible apply zc); (iterate 10 rfl); exact spec_ShareQuota (by assumption) (by omega); exact fun _ => rfl; rfl; rfl; rfl
 | fail)
    all_goals first
      | exact endR (i + 1, u ++ [t * rd ws i / sumF id ws], n - t * rd ws i / sumF id ws) [0, 3] ⟨rfl, rfl, rfl, rfl, rfl, rfl, rfl, rfl⟩ ⟨by dsimp only; omega, hu2, hn2⟩ (by first | omega | (dsimp only; omega))
      | trace_state
  have hpa : pf (shQs t ws) i = shQs t ws := pf_all (by rw [shQs_len]; exact hil)
  rw [hpa] at hu hn
  have hn' : n = shMore t ws := hn
  have hmo := h.more
  have hol := shOrd_len t ws
  repeat' (first
 | (intro h9; exfalso; first | contradiction | omega)
 | (with_reducible apply zds); exact tk; rfl; rfl; rfl; rfl; rfl
 | (with_reducible apply zd); rfl; exact tk; rfl
 | (with_reducible first | intro _ | apply wseq | apply zreg | apply thenQ_n | apply thenQ_r | apply thenQ_e | apply znil | apply wret | apply bodyQ_r | apply wblk | apply blkQ_n | apply blkQ_r | apply wskip | apply wexit)
 | apply wcf rfl
 | (with_reducible apply blkQ_x rfl)
 | (with_reducible apply zcmp); rfl; exact tk; rfl; rfl; rfl
 | (with_reducible apply zcf); (iterate 10 rfl); exact spec_ShareOrder (by assumption); rfl; rfl; rfl; rfl; rfl
 | fail)
  subst hu
  subst hn'
  refine wlp (X := Int) [7, 12] [0, 1, 2] (fun k => [(13, I k), (6, .c (.row 1 0 (incd t ws k).length))]) (fun k => [(1, ow 3 (incd t ws k))]) (fun k => 0 ≤ k ∧ k ≤ shMore t ws) (fun k => (shMore t ws - k).toNat) 0 ⟨by omega, by omega⟩ rfl rfl (fun _ => rfl) (fun _ => rfl) ⟨rfl, rfl, rfl, rfl, rfl, rfl, rfl, rfl⟩ (fun k k0 => ?_)
  have hil2 := incd_len t ws k
  by_cases hk : k < shMore t ws
  ·
    have hr := shOrd_rng (t := t) (ws := ws) (k := k) ⟨k0.1, by omega⟩
    have hb := incd_bd h k.toNat (by omega) _ hr.1 hr.2
    rw [show ((k.toNat : Nat) : Int) = k from by omega] at hb
    have hU := (incd_succ (t := t) (ws := ws) ⟨k0.1, by omega⟩ : incd t ws (k + 1) = _).symm
    have hL : (incd t ws k).length = (incd t ws (k + 1)).length := by rw [incd_len, incd_len]
    repeat' (first
 | (intro h9; exfalso; first | contradiction | omega)
 | (with_reducible apply zds); exact tk; rfl; rfl; rfl; rfl; rfl
 | (with_reducible apply zd); rfl; exact tk; rfl
 | (with_reducible first | intro _ | apply wseq | apply zreg | apply thenQ_n | apply thenQ_r | apply thenQ_e | apply znil | apply wret | apply bodyQ_r | apply wblk | apply blkQ_n | apply blkQ_r | apply wskip | apply wexit)
 | apply wct rfl
 | (with_reducible apply zcmp); rfl; exact tk; rfl; rfl; rfl
 | (with_reducible apply zar); rfl; rfl; rfl; rfl; (first | omega | ((try simp only [List.length_append, List.length_cons, List.length_nil, List.length_map]); (try dsimp only); omega)); rfl; rfl
 | (with_reducible apply zix); rfl; exact tk; (iterate 7 rfl); (first | omega | ((try simp only [List.length_append, List.length_cons, List.length_nil, List.length_map]); (try dsimp only); omega)); rfl; rfl
 | (with_reducible apply zle); rfl; exact tk; rfl; rfl; rfl; rfl; (first | omega | ((try simp only [List.length_append, List.length_cons, List.length_nil, List.length_map]); (try dsimp only); omega)); rfl; rfl; rfl; rfl
 | (with_reducible apply zse); rfl; exact tk; (iterate 6 rfl); (first | omega | ((try simp only [List.length_append, List.length_cons, List.length_nil, List.length_map]); (try dsimp only); omega)); rfl; rfl; rfl; rfl; rfl
 | refine zdq (id := 15) rfl (by kernel_rfl) [(.p, 0), (.p, 1), (.p, 2), (.p, 3), (.p, 5), (.p, 6), (.p, 7), (.p, 8), (.t, 4), (.t, 9), (.p, 10), (.t, 11), (.p, 12), (.p, 13), (.l, 14)] [14] (by kernel_rfl) rfl ?_
 | fail)
    all_goals first
      | (rw [hU, hL]
         exact endR (k + 1) [0, 1, 2] ⟨rfl, rfl, rfl, rfl, rfl, rfl, rfl, rfl⟩ ⟨by omega, by omega⟩ (by first | omega | (dsimp only; omega)))
      | trace_state
  ·
    obtain rfl : k = shMore t ws := by omega
    repeat' (first
 | (intro h9; exfalso; first | contradiction | omega)
 | (with_reducible apply zds); exact tk; rfl; rfl; rfl; rfl; rfl
 | (with_reducible first | intro _ | apply wseq | apply zreg | apply thenQ_n | apply thenQ_r | apply thenQ_e | apply znil | apply wret | apply bodyQ_r | apply wblk | apply blkQ_n | apply blkQ_r | apply wskip | apply wexit)
 | apply wcf rfl
 | (with_reducible apply blkQ_x rfl)
 | (with_reducible apply zcmp); rfl; exact tk; rfl; rfl; rfl
 | fail)
    all_goals first
      | exact endV [0, 1] rfl rfl rfl rfl rfl rfl
      | trace_state
end Go.Proofs.YtgehbhkfehmdkaaGreat.Sh
