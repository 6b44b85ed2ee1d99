/- Two sorted parts made one in place. No condition. -/
import Derived.Test.YtgehbhkfehmdkaaGreatKSpShWe
namespace Go.Proofs.YtgehbhkfehmdkaaGreat.Sh
open Go.RowKit
set_option linter.unusedVariables false
set_option linter.unusedSimpArgs false
theorem half {x : Int} : x.fdiv (2 ^ min (Int.toNat 1) IntKind.u64.bits) = x / 2 := by
  have e : (2 : Int) ^ min (Int.toNat 1) IntKind.u64.bits = 2 := rfl
  rw [e, fdiv_pos (by decide)]
set_option maxHeartbeats 4000000 in
theorem slices_symMergeCmpFunc_int_r {l ov : List Int} {z k : Nat} {a m b : Int} (ih : ∀ {l : List Int} {a m b : Int}, l.length = z → SM (rd ov) l a m b → Rng l ov.length → (b - a).toNat < k → a < m ∧ m < b → FC Tryz.prog 340 [.c (.row 0 0 z), I a, I m, I b, .c (.fn 302 [(1, 0, 0)])] ([ow 3 l, vO 2 ov.length, ro 3 ov]) (.tup []) ([ow 3 (stb (rd ov) l a b), vO 2 ov.length, ro 3 ov])) (hz : l.length = z) (hs : SM (rd ov) l a m b) (hr : Rng l ov.length) (hl : l.length ≤ 1000) (hk : (b - a).toNat ≤ k) (hp : a < m ∧ m < b) : FC Tryz.prog 340 [.c (.row 0 0 z), I a, I m, I b, .c (.fn 302 [(1, 0, 0)])] ([ow 3 l, vO 2 ov.length, ro 3 ov]) (.tup []) ([ow 3 (stb (rd ov) l a b), vO 2 ov.length, ro 3 ov]) := by
  refine fent tk 220 [] Tryz.func340 (by kernel_rfl) rfl rfl rfl rfl rfl rfl rfl ?_
  have hbn := hs.bnd
  by_cases hm1 : m - a = 1
  ·
    repeat' (first
 | (with_reducible apply zds); exact tk; rfl; rfl; rfl; rfl; rfl
 | (with_reducible apply zd); rfl; exact tk; rfl
 | (with_reducible first | intro _ | apply wseq | apply zreg | apply thenQ_n | apply thenQ_r | apply thenQ_e | apply znil | apply wret | apply bodyQ_r | apply wblk | apply blkQ_n | apply blkQ_r | apply wskip | apply wexit)
 | apply wct rfl
 | apply wcf rfl
 | (with_reducible apply zcmp); rfl; exact tk; rfl; rfl; rfl
 | (with_reducible apply zar); rfl; rfl; rfl; rfl; (first | omega | ((try simp only [List.length_append, List.length_cons, List.length_nil, List.length_map]); (try dsimp only); omega)); rfl; rfl
 | (with_reducible apply zsh); rfl; rfl; rfl; rfl; omega; rfl; rfl
 | (with_reducible apply zcv); rfl; exact tk; (iterate 6 rfl)
 | fail)
    all_goals first | (exfalso; omega) | skip
    refine wlp (X := Int × Int) [0, 1, 4] [0, 1, 2] (fun x => [(10, I x.1), (11, I x.2)]) (fun _ => []) (fun x => (m ≤ x.1 ∧ x.1 ≤ x.2 ∧ x.2 ≤ b) ∧ (∀ c : Int, m ≤ c → c < x.1 → so (rd ov) (rd l c) (rd l a)) ∧ ∀ c : Int, x.2 ≤ c → c < b → so (rd ov) (rd l a) (rd l c)) (fun x => (x.2 - x.1).toNat) (m, b) ⟨by dsimp only; omega, fun c c0 c1 => by dsimp only at c1; omega, fun c c0 c1 => by dsimp only at c0; omega⟩ rfl rfl (fun _ => rfl) (fun _ => rfl) ⟨rfl, rfl, rfl, rfl, rfl, rfl, rfl, rfl⟩ (fun x hx => ?_)
    obtain ⟨i, j⟩ := x
    obtain ⟨hij, hA, hB⟩ := hx
    dsimp only at hij hA hB ⊢
    by_cases hlt : i < j
    ·
      have hh : i ≤ (i + j) / 2 ∧ (i + j) / 2 < j := by omega
      have hr1 := hr a (by omega) (by omega)
      have hr2 := hr ((i + j) / 2) (by omega) (by omega)
      have hcr := hs.cr a ((i + j) / 2) (by omega) (by omega) (by omega) (by omega)
      have hpk : 0 ≤ pick (rd ov (rd l ((i + j) / 2)) < rd ov (rd l a)) 1 0 := pick_01
      have hup := fun (q : rd ov (rd l ((i + j) / 2)) > rd ov (rd l a)) => (⟨by omega, fun c c0 c1 => by
          by_cases e : c = (i + j) / 2
          · rw [e]; exact (so_hi hcr).2 q
          · exact so_tr (hs.r2 c ((i + j) / 2) c0 (by omega) (by omega)) ((so_hi hcr).2 q), hB⟩ : (m ≤ (i + j) / 2 + 1 ∧ (i + j) / 2 + 1 ≤ j ∧ j ≤ b) ∧ (∀ c : Int, m ≤ c → c < (i + j) / 2 + 1 → so (rd ov) (rd l c) (rd l a)) ∧ ∀ c : Int, j ≤ c → c < b → so (rd ov) (rd l a) (rd l c))
      have hdn := fun (q : ¬ rd ov (rd l ((i + j) / 2)) > rd ov (rd l a)) => (⟨by omega, hA, fun c c0 c1 => by
          by_cases e : c = (i + j) / 2
          · rw [e]; exact (so_lo hcr).2 q
          · exact so_tr ((so_lo hcr).2 q) (hs.r2 ((i + j) / 2) c (by omega) (by omega) c1)⟩ : (m ≤ i ∧ i ≤ (i + j) / 2 ∧ (i + j) / 2 ≤ b) ∧ (∀ c : Int, m ≤ c → c < i → so (rd ov) (rd l c) (rd l a)) ∧ ∀ c : Int, (i + j) / 2 ≤ c → c < b → so (rd ov) (rd l a) (rd l c))
      repeat' (first
 | (with_reducible apply zds); exact tk; rfl; rfl; rfl; rfl; rfl
 | (with_reducible apply zd); rfl; exact tk; rfl
 | (with_reducible apply zsw); rfl; rfl; rfl; rfl; omega; exact half; rfl; rfl
 | (with_reducible apply zcv); rfl; exact tk; rfl; rfl; rfl; (first | exact wU (by omega) | exact wI (by omega)); rfl; rfl
 | (with_reducible apply zcs); (iterate 10 rfl); exact impl_ShareOrder_1 (by omega) (by omega); exact fun _ => rfl; exact fun _ => rfl; rfl; rfl; rfl; rfl
 | (with_reducible apply zix); rfl; exact tk; (iterate 7 rfl); (first | omega | (simp only [upd_len]; omega)); rfl; rfl
 | (with_reducible apply zle); rfl; exact tk; rfl; rfl; rfl; rfl; (first | omega | (simp only [upd_len]; omega)); rfl; rfl; rfl; rfl
 | (with_reducible first | intro _ | apply wseq | apply zreg | apply thenQ_n | apply thenQ_r | apply thenQ_e | apply znil | apply wret | apply bodyQ_r | apply wblk | apply blkQ_n | apply blkQ_r | apply wskip | apply wexit)
 | apply wct rfl
 | apply wcf rfl
 | (with_reducible apply blkQ_x rfl)
 | (with_reducible apply zcmp); rfl; exact tk; rfl; rfl; rfl
 | (with_reducible apply zar); rfl; rfl; rfl; rfl; (first | omega | ((try simp only [List.length_append, List.length_cons, List.length_nil, List.length_map]); (try dsimp only); omega)); rfl; rfl
 | refine zdq (id := 5) rfl (by kernel_rfl) [(.p, 0), (.p, 1), (.p, 2), (.p, 3), (.p, 5), (.p, 6), (.p, 7), (.t, 4), (.t, 8), (.o, 9), (.p, 10)] [] (by kernel_rfl) rfl ?_
 | fail)
      all_goals first
        | exact endR ((i + j) / 2 + 1, j) [0, 1, 2] ⟨rfl, rfl, rfl, rfl, rfl, rfl, rfl, rfl⟩ (hup (by assumption)) (by first | omega | (dsimp only; omega))
        | exact endR (i, (i + j) / 2) [0, 1, 2] ⟨rfl, rfl, rfl, rfl, rfl, rfl, rfl, rfl⟩ (hdn (by assumption)) (by first | omega | (dsimp only; omega))
        | (exfalso; omega)
        | trace_state
    obtain rfl : i = j := by omega
    obtain ⟨f1, f2⟩ := hs.one (by omega) ⟨by omega, hij.2.2⟩ hA hB
    have hfin := stb_eq hbn.1 hbn.2.2.2 f1 f2
    repeat' (first
 | (with_reducible apply zds); exact tk; rfl; rfl; rfl; rfl; rfl
 | (with_reducible apply zd); rfl; exact tk; rfl
 | (with_reducible apply zsw); rfl; rfl; rfl; rfl; omega; exact half; rfl; rfl
 | (with_reducible apply zcv); rfl; exact tk; rfl; rfl; rfl; (first | exact wU (by omega) | exact wI (by omega)); rfl; rfl
 | (with_reducible apply zcs); (iterate 10 rfl); exact impl_ShareOrder_1 (by omega) (by omega); exact fun _ => rfl; exact fun _ => rfl; rfl; rfl; rfl; rfl
 | (with_reducible apply zix); rfl; exact tk; (iterate 7 rfl); (first | omega | (simp only [upd_len]; omega)); rfl; rfl
 | (with_reducible apply zle); rfl; exact tk; rfl; rfl; rfl; rfl; (first | omega | (simp only [upd_len]; omega)); rfl; rfl; rfl; rfl
 | (with_reducible first | intro _ | apply wseq | apply zreg | apply thenQ_n | apply thenQ_r | apply thenQ_e | apply znil | apply wret | apply bodyQ_r | apply wblk | apply blkQ_n | apply blkQ_r | apply wskip | apply wexit)
 | apply wct rfl
 | apply wcf rfl
 | (with_reducible apply blkQ_x rfl)
 | (with_reducible apply zcmp); rfl; exact tk; rfl; rfl; rfl
 | (with_reducible apply zar); rfl; rfl; rfl; rfl; (first | omega | ((try simp only [List.length_append, List.length_cons, List.length_nil, List.length_map]); (try dsimp only); omega)); rfl; rfl
 | refine zdq (id := 5) rfl (by kernel_rfl) [(.p, 0), (.p, 1), (.p, 2), (.p, 3), (.p, 5), (.p, 6), (.p, 7), (.t, 4), (.t, 8), (.o, 9), (.p, 10)] [] (by kernel_rfl) rfl ?_
 | fail)
    all_goals first | (exfalso; omega) | skip
    refine wlp (X := Int) [0, 10] [0, 1, 2] (fun k => [(13, I k)]) (fun k => [(0, ow 3 (rot l a m (k + 1)))]) (fun k => a ≤ k ∧ k ≤ i - 1) (fun k => (i - 1 - k).toNat) a ⟨by omega, by omega⟩ rfl rfl (fun _ => rfl) (fun _ => rfl) (by rw [rot_no (.inr (by omega))]; exact ⟨rfl, rfl, rfl, rfl, rfl, rfl, rfl, rfl⟩) (fun k hk => ?_)
    have hml := rot_len (l := l) (a := a) (m := m) (b := k + 1)
    by_cases hki : k < i - 1
    ·
      have hst : upd (upd (rot l a m (k + 1)) k (rd (rot l a m (k + 1)) (k + 1))) (k + 1) (rd (rot l a m (k + 1)) k) = rot l a m (k + 1 + 1) := by
        rw [show m = a + 1 from by omega]
        exact rot_up ⟨by omega, hk.1, by omega⟩
      repeat' (first
 | (with_reducible apply zds); exact tk; rfl; rfl; rfl; rfl; rfl
 | (with_reducible apply zd); rfl; exact tk; rfl
 | (with_reducible apply zix); rfl; exact tk; (iterate 7 rfl); (first | omega | (simp only [upd_len]; omega)); rfl; rfl
 | (with_reducible apply zle); rfl; exact tk; rfl; rfl; rfl; rfl; (first | omega | (simp only [upd_len]; omega)); rfl; rfl; rfl; rfl
 | (with_reducible apply zse); rfl; exact tk; (iterate 6 rfl); (first | omega | (simp only [upd_len]; omega)); rfl; rfl; rfl; rfl; rfl
 | (with_reducible first | intro _ | apply wseq | apply zreg | apply thenQ_n | apply thenQ_r | apply thenQ_e | apply znil | apply wret | apply bodyQ_r | apply wblk | apply blkQ_n | apply blkQ_r | apply wskip | apply wexit)
 | apply wct rfl
 | apply wcf rfl
 | (with_reducible apply blkQ_x rfl)
 | (with_reducible apply zcmp); rfl; exact tk; rfl; rfl; rfl
 | (with_reducible apply zar); rfl; rfl; rfl; rfl; (first | omega | ((try simp only [List.length_append, List.length_cons, List.length_nil, List.length_map]); (try dsimp only); omega)); rfl; rfl
 | refine zdq (id := 11) rfl (by kernel_rfl) [(.p, 0), (.p, 1), (.p, 2), (.p, 3), (.p, 4), (.p, 5), (.p, 6), (.p, 7), (.p, 8), (.p, 10), (.p, 11), (.p, 12), (.t, 9), (.t, 13), (.p, 14), (.l, 15), (.p, 16), (.l, 17)] [15, 17] (by kernel_rfl) rfl ?_
 | fail)
      all_goals first
        | (rw [hst]
           exact endR (k + 1) [0, 1, 2] ⟨rfl, rfl, rfl, rfl, rfl, rfl, rfl, rfl⟩ ⟨by omega, by omega⟩ (by first | omega | (dsimp only; omega)))
        | (exfalso; omega)
        | trace_state
    ·
      repeat' (first
 | (with_reducible apply zds); exact tk; rfl; rfl; rfl; rfl; rfl
 | (with_reducible apply zd); rfl; exact tk; rfl
 | (with_reducible apply zix); rfl; exact tk; (iterate 7 rfl); (first | omega | (simp only [upd_len]; omega)); rfl; rfl
 | (with_reducible apply zle); rfl; exact tk; rfl; rfl; rfl; rfl; (first | omega | (simp only [upd_len]; omega)); rfl; rfl; rfl; rfl
 | (with_reducible apply zse); rfl; exact tk; (iterate 6 rfl); (first | omega | (simp only [upd_len]; omega)); rfl; rfl; rfl; rfl; rfl
 | (with_reducible first | intro _ | apply wseq | apply zreg | apply thenQ_n | apply thenQ_r | apply thenQ_e | apply znil | apply wret | apply bodyQ_r | apply wblk | apply blkQ_n | apply blkQ_r | apply wskip | apply wexit)
 | apply wct rfl
 | apply wcf rfl
 | (with_reducible apply blkQ_x rfl)
 | (with_reducible apply zcmp); rfl; exact tk; rfl; rfl; rfl
 | (with_reducible apply zar); rfl; rfl; rfl; rfl; (first | omega | ((try simp only [List.length_append, List.length_cons, List.length_nil, List.length_map]); (try dsimp only); omega)); rfl; rfl
 | refine zdq (id := 11) rfl (by kernel_rfl) [(.p, 0), (.p, 1), (.p, 2), (.p, 3), (.p, 4), (.p, 5), (.p, 6), (.p, 7), (.p, 8), (.p, 10), (.p, 11), (.p, 12), (.t, 9), (.t, 13), (.p, 14), (.l, 15), (.p, 16), (.l, 17)] [15, 17] (by kernel_rfl) rfl ?_
 | fail)
      all_goals first
        | (rw [show k + 1 = i from by omega, hfin]
           exact endV [0, 1, 2] rfl rfl rfl rfl rfl rfl)
        | (exfalso; omega)
        | trace_state
  by_cases hb1 : b - m = 1
  ·
    repeat' (first
 | (with_reducible apply zds); exact tk; rfl; rfl; rfl; rfl; rfl
 | (with_reducible apply zd); rfl; exact tk; rfl
 | (with_reducible first | intro _ | apply wseq | apply zreg | apply thenQ_n | apply thenQ_r | apply thenQ_e | apply znil | apply wret | apply bodyQ_r | apply wblk | apply blkQ_n | apply blkQ_r | apply wskip | apply wexit)
 | apply wct rfl
 | apply wcf rfl
 | (with_reducible apply zcmp); rfl; exact tk; rfl; rfl; rfl
 | (with_reducible apply zar); rfl; rfl; rfl; rfl; (first | omega | ((try simp only [List.length_append, List.length_cons, List.length_nil, List.length_map]); (try dsimp only); omega)); rfl; rfl
 | (with_reducible apply zsh); rfl; rfl; rfl; rfl; omega; rfl; rfl
 | (with_reducible apply zcv); rfl; exact tk; (iterate 6 rfl)
 | fail)
    all_goals first | (exfalso; omega) | skip
    refine wlp (X := Int × Int) [0, 2, 4] [0, 1, 2] (fun x => [(14, I x.1), (15, I x.2)]) (fun _ => []) (fun x => (a ≤ x.1 ∧ x.1 ≤ x.2 ∧ x.2 ≤ m) ∧ (∀ c : Int, a ≤ c → c < x.1 → so (rd ov) (rd l c) (rd l m)) ∧ ∀ c : Int, x.2 ≤ c → c < m → so (rd ov) (rd l m) (rd l c)) (fun x => (x.2 - x.1).toNat) (a, m) ⟨by dsimp only; omega, fun c c0 c1 => by dsimp only at c1; omega, fun c c0 c1 => by dsimp only at c0; omega⟩ rfl rfl (fun _ => rfl) (fun _ => rfl) ⟨rfl, rfl, rfl, rfl, rfl, rfl, rfl, rfl⟩ (fun x hx => ?_)
    obtain ⟨i, j⟩ := x
    obtain ⟨hij, hA, hB⟩ := hx
    dsimp only at hij hA hB ⊢
    by_cases hlt : i < j
    ·
      have hh : i ≤ (i + j) / 2 ∧ (i + j) / 2 < j := by omega
      have hr1 := hr m (by omega) (by omega)
      have hr2 := hr ((i + j) / 2) (by omega) (by omega)
      have hcr := hs.cr ((i + j) / 2) m (by omega) (by omega) (by omega) (by omega)
      have hpk : 0 ≤ pick (rd ov (rd l m) < rd ov (rd l ((i + j) / 2))) 1 0 := pick_01
      have hup := fun (q : ¬ rd ov (rd l m) > rd ov (rd l ((i + j) / 2))) => (⟨by omega, fun c c0 c1 => by
          by_cases e : c = (i + j) / 2
          · rw [e]; exact (so_lo hcr).2 q
          · exact so_tr (hs.r1 c ((i + j) / 2) c0 (by omega) (by omega)) ((so_lo hcr).2 q), hB⟩ : (a ≤ (i + j) / 2 + 1 ∧ (i + j) / 2 + 1 ≤ j ∧ j ≤ m) ∧ (∀ c : Int, a ≤ c → c < (i + j) / 2 + 1 → so (rd ov) (rd l c) (rd l m)) ∧ ∀ c : Int, j ≤ c → c < m → so (rd ov) (rd l m) (rd l c))
      have hdn := fun (q : rd ov (rd l m) > rd ov (rd l ((i + j) / 2))) => (⟨by omega, hA, fun c c0 c1 => by
          by_cases e : c = (i + j) / 2
          · rw [e]; exact (so_hi hcr).2 q
          · exact so_tr ((so_hi hcr).2 q) (hs.r1 ((i + j) / 2) c (by omega) (by omega) c1)⟩ : (a ≤ i ∧ i ≤ (i + j) / 2 ∧ (i + j) / 2 ≤ m) ∧ (∀ c : Int, a ≤ c → c < i → so (rd ov) (rd l c) (rd l m)) ∧ ∀ c : Int, (i + j) / 2 ≤ c → c < m → so (rd ov) (rd l m) (rd l c))
      repeat' (first
 | (with_reducible apply zds); exact tk; rfl; rfl; rfl; rfl; rfl
 | (with_reducible apply zd); rfl; exact tk; rfl
 | (with_reducible apply zsw); rfl; rfl; rfl; rfl; omega; exact half; rfl; rfl
 | (with_reducible apply zcv); rfl; exact tk; rfl; rfl; rfl; (first | exact wU (by omega) | exact wI (by omega)); rfl; rfl
 | (with_reducible apply zcs); (iterate 10 rfl); exact impl_ShareOrder_1 (by omega) (by omega); exact fun _ => rfl; exact fun _ => rfl; rfl; rfl; rfl; rfl
 | (with_reducible apply zix); rfl; exact tk; (iterate 7 rfl); (first | omega | (simp only [upd_len]; omega)); rfl; rfl
 | (with_reducible apply zle); rfl; exact tk; rfl; rfl; rfl; rfl; (first | omega | (simp only [upd_len]; omega)); rfl; rfl; rfl; rfl
 | (with_reducible first | intro _ | apply wseq | apply zreg | apply thenQ_n | apply thenQ_r | apply thenQ_e | apply znil | apply wret | apply bodyQ_r | apply wblk | apply blkQ_n | apply blkQ_r | apply wskip | apply wexit)
 | apply wct rfl
 | apply wcf rfl
 | (with_reducible apply blkQ_x rfl)
 | (with_reducible apply zcmp); rfl; exact tk; rfl; rfl; rfl
 | (with_reducible apply zar); rfl; rfl; rfl; rfl; (first | omega | ((try simp only [List.length_append, List.length_cons, List.length_nil, List.length_map]); (try dsimp only); omega)); rfl; rfl
 | refine zdq (id := 17) rfl (by kernel_rfl) [(.p, 0), (.p, 1), (.p, 2), (.p, 3), (.p, 5), (.p, 6), (.p, 7), (.t, 4), (.t, 8), (.o, 9), (.p, 10), (.p, 11)] [] (by kernel_rfl) rfl ?_
 | fail)
      all_goals first
        | exact endR ((i + j) / 2 + 1, j) [0, 1, 2] ⟨rfl, rfl, rfl, rfl, rfl, rfl, rfl, rfl⟩ (hup (by assumption)) (by first | omega | (dsimp only; omega))
        | exact endR (i, (i + j) / 2) [0, 1, 2] ⟨rfl, rfl, rfl, rfl, rfl, rfl, rfl, rfl⟩ (hdn (by assumption)) (by first | omega | (dsimp only; omega))
        | (exfalso; omega)
        | trace_state
    obtain rfl : i = j := by omega
    obtain ⟨f1, f2⟩ := hs.last (by omega) ⟨hij.1, hij.2.2⟩ hA hB
    have hfin := stb_eq hbn.1 hbn.2.2.2 f1 f2
    repeat' (first
 | (with_reducible apply zds); exact tk; rfl; rfl; rfl; rfl; rfl
 | (with_reducible apply zd); rfl; exact tk; rfl
 | (with_reducible apply zsw); rfl; rfl; rfl; rfl; omega; exact half; rfl; rfl
 | (with_reducible apply zcv); rfl; exact tk; rfl; rfl; rfl; (first | exact wU (by omega) | exact wI (by omega)); rfl; rfl
 | (with_reducible apply zcs); (iterate 10 rfl); exact impl_ShareOrder_1 (by omega) (by omega); exact fun _ => rfl; exact fun _ => rfl; rfl; rfl; rfl; rfl
 | (with_reducible apply zix); rfl; exact tk; (iterate 7 rfl); (first | omega | (simp only [upd_len]; omega)); rfl; rfl
 | (with_reducible apply zle); rfl; exact tk; rfl; rfl; rfl; rfl; (first | omega | (simp only [upd_len]; omega)); rfl; rfl; rfl; rfl
 | (with_reducible first | intro _ | apply wseq | apply zreg | apply thenQ_n | apply thenQ_r | apply thenQ_e | apply znil | apply wret | apply bodyQ_r | apply wblk | apply blkQ_n | apply blkQ_r | apply wskip | apply wexit)
 | apply wct rfl
 | apply wcf rfl
 | (with_reducible apply blkQ_x rfl)
 | (with_reducible apply zcmp); rfl; exact tk; rfl; rfl; rfl
 | (with_reducible apply zar); rfl; rfl; rfl; rfl; (first | omega | ((try simp only [List.length_append, List.length_cons, List.length_nil, List.length_map]); (try dsimp only); omega)); rfl; rfl
 | refine zdq (id := 17) rfl (by kernel_rfl) [(.p, 0), (.p, 1), (.p, 2), (.p, 3), (.p, 5), (.p, 6), (.p, 7), (.t, 4), (.t, 8), (.o, 9), (.p, 10), (.p, 11)] [] (by kernel_rfl) rfl ?_
 | fail)
    all_goals first | (exfalso; omega) | skip
    refine wlp (X := Int) [0, 14] [0, 1, 2] (fun k => [(17, I k)]) (fun k => [(0, ow 3 (rot l k m (m + 1)))]) (fun k => i ≤ k ∧ k ≤ m) (fun k => (k - i).toNat) m ⟨by omega, by omega⟩ rfl rfl (fun _ => rfl) (fun _ => rfl) (by rw [rot_no (.inl rfl)]; exact ⟨rfl, rfl, rfl, rfl, rfl, rfl, rfl, rfl⟩) (fun k hk => ?_)
    have hml := rot_len (l := l) (a := k) (m := m) (b := m + 1)
    by_cases hki : i < k
    ·
      have hst : upd (upd (rot l k m (m + 1)) k (rd (rot l k m (m + 1)) (k - 1))) (k - 1) (rd (rot l k m (m + 1)) k) = rot l (k - 1) m (m + 1) := rot_down ⟨by omega, hk.2, by omega⟩
      repeat' (first
 | (with_reducible apply zds); exact tk; rfl; rfl; rfl; rfl; rfl
 | (with_reducible apply zd); rfl; exact tk; rfl
 | (with_reducible apply zix); rfl; exact tk; (iterate 7 rfl); (first | omega | (simp only [upd_len]; omega)); rfl; rfl
 | (with_reducible apply zle); rfl; exact tk; rfl; rfl; rfl; rfl; (first | omega | (simp only [upd_len]; omega)); rfl; rfl; rfl; rfl
 | (with_reducible apply zse); rfl; exact tk; (iterate 6 rfl); (first | omega | (simp only [upd_len]; omega)); rfl; rfl; rfl; rfl; rfl
 | (with_reducible first | intro _ | apply wseq | apply zreg | apply thenQ_n | apply thenQ_r | apply thenQ_e | apply znil | apply wret | apply bodyQ_r | apply wblk | apply blkQ_n | apply blkQ_r | apply wskip | apply wexit)
 | apply wct rfl
 | apply wcf rfl
 | (with_reducible apply blkQ_x rfl)
 | (with_reducible apply zcmp); rfl; exact tk; rfl; rfl; rfl
 | (with_reducible apply zar); rfl; rfl; rfl; rfl; (first | omega | ((try simp only [List.length_append, List.length_cons, List.length_nil, List.length_map]); (try dsimp only); omega)); rfl; rfl
 | refine zdq (id := 23) rfl (by kernel_rfl) [(.p, 0), (.p, 1), (.p, 2), (.p, 3), (.p, 4), (.p, 5), (.p, 6), (.p, 7), (.p, 8), (.p, 10), (.p, 11), (.p, 12), (.t, 9), (.t, 13), (.p, 14), (.l, 15), (.p, 16), (.l, 17)] [15, 17] (by kernel_rfl) rfl ?_
 | fail)
      all_goals first
        | (rw [hst]
           exact endR (k - 1) [0, 1, 2] ⟨rfl, rfl, rfl, rfl, rfl, rfl, rfl, rfl⟩ ⟨by omega, by omega⟩ (by first | omega | (dsimp only; omega)))
        | (exfalso; omega)
        | trace_state
    ·
      repeat' (first
 | (with_reducible apply zds); exact tk; rfl; rfl; rfl; rfl; rfl
 | (with_reducible apply zd); rfl; exact tk; rfl
 | (with_reducible apply zix); rfl; exact tk; (iterate 7 rfl); (first | omega | (simp only [upd_len]; omega)); rfl; rfl
 | (with_reducible apply zle); rfl; exact tk; rfl; rfl; rfl; rfl; (first | omega | (simp only [upd_len]; omega)); rfl; rfl; rfl; rfl
 | (with_reducible apply zse); rfl; exact tk; (iterate 6 rfl); (first | omega | (simp only [upd_len]; omega)); rfl; rfl; rfl; rfl; rfl
 | (with_reducible first | intro _ | apply wseq | apply zreg | apply thenQ_n | apply thenQ_r | apply thenQ_e | apply znil | apply wret | apply bodyQ_r | apply wblk | apply blkQ_n | apply blkQ_r | apply wskip | apply wexit)
 | apply wct rfl
 | apply wcf rfl
 | (with_reducible apply blkQ_x rfl)
 | (with_reducible apply zcmp); rfl; exact tk; rfl; rfl; rfl
 | (with_reducible apply zar); rfl; rfl; rfl; rfl; (first | omega | ((try simp only [List.length_append, List.length_cons, List.length_nil, List.length_map]); (try dsimp only); omega)); rfl; rfl
 | refine zdq (id := 23) rfl (by kernel_rfl) [(.p, 0), (.p, 1), (.p, 2), (.p, 3), (.p, 4), (.p, 5), (.p, 6), (.p, 7), (.p, 8), (.p, 10), (.p, 11), (.p, 12), (.t, 9), (.t, 13), (.p, 14), (.l, 15), (.p, 16), (.l, 17)] [15, 17] (by kernel_rfl) rfl ?_
 | fail)
      all_goals first
        | (rw [show k = i from by omega, show m + 1 = b from by omega, hfin]
           exact endV [0, 1, 2] rfl rfl rfl rfl rfl rfl)
        | (exfalso; omega)
        | trace_state
  by_cases hmm : m > (a + b) / 2
  ·
    repeat' (first
 | (with_reducible apply zds); exact tk; rfl; rfl; rfl; rfl; rfl
 | (with_reducible apply zd); rfl; exact tk; rfl
 | (with_reducible apply zsw); rfl; rfl; rfl; rfl; omega; exact half; rfl; rfl
 | (with_reducible apply zcv); rfl; exact tk; rfl; rfl; rfl; (first | exact wU (by omega) | exact wI (by omega)); rfl; rfl
 | (with_reducible first | intro _ | apply wseq | apply zreg | apply thenQ_n | apply thenQ_r | apply thenQ_e | apply znil | apply wret | apply bodyQ_r | apply wblk | apply blkQ_n | apply blkQ_r | apply wskip | apply wexit)
 | apply wct rfl
 | apply wcf rfl
 | (with_reducible apply zcmp); rfl; exact tk; rfl; rfl; rfl
 | (with_reducible apply zar); rfl; rfl; rfl; rfl; (first | omega | ((try simp only [List.length_append, List.length_cons, List.length_nil, List.length_map]); (try dsimp only); omega)); rfl; rfl
 | fail)
    all_goals first | (exfalso; omega) | skip
    refine wlp (X := Int × Int) [0, 1, 2, 3, 4, 18, 19, 22] [0, 1, 2] (fun x => [(20, I x.1), (21, I x.2)]) (fun _ => []) (fun x => (((a + b) / 2 + m - b) ≤ x.1 ∧ x.1 ≤ x.2 ∧ x.2 ≤ ((a + b) / 2)) ∧ (x.1 = ((a + b) / 2 + m - b) ∨ so (rd ov) (rd l (x.1 - 1)) (rd l ((a + b) / 2 + m - x.1))) ∧ (x.2 = ((a + b) / 2) ∨ so (rd ov) (rd l ((a + b) / 2 + m - x.2 - 1)) (rd l x.2))) (fun x => (x.2 - x.1).toNat) (((a + b) / 2 + m - b), ((a + b) / 2)) ⟨by dsimp only; omega, .inl rfl, .inl rfl⟩ rfl rfl (fun _ => rfl) (fun _ => rfl) ⟨rfl, rfl, rfl, rfl, rfl, rfl, rfl, rfl⟩ (fun x hx => ?_)
    obtain ⟨s, r⟩ := x
    obtain ⟨hij, hA, hB⟩ := hx
    dsimp only at hij hA hB ⊢
    by_cases hlt : s < r
    ·
      have hh : s ≤ (s + r) / 2 ∧ (s + r) / 2 < r := by omega
      have hr1 := hr ((s + r) / 2) (by omega) (by omega)
      have hr2 := hr ((a + b) / 2 + m - 1 - (s + r) / 2) (by omega) (by omega)
      have hcr := hs.cr ((s + r) / 2) ((a + b) / 2 + m - 1 - (s + r) / 2) (by omega) (by omega) (by omega) (by omega)
      have hpk : 0 ≤ pick (rd ov (rd l ((a + b) / 2 + m - 1 - (s + r) / 2)) < rd ov (rd l ((s + r) / 2))) 1 0 := pick_01
      have hup := fun (q : ¬ rd ov (rd l ((a + b) / 2 + m - 1 - (s + r) / 2)) > rd ov (rd l ((s + r) / 2))) => (⟨by omega, .inr (by
          rw [show (s + r) / 2 + 1 - 1 = (s + r) / 2 from by omega, show (a + b) / 2 + m - ((s + r) / 2 + 1) = (a + b) / 2 + m - 1 - (s + r) / 2 from by omega]
          exact (so_lo hcr).2 q), hB⟩ : (((a + b) / 2 + m - b) ≤ (s + r) / 2 + 1 ∧ (s + r) / 2 + 1 ≤ r ∧ r ≤ ((a + b) / 2)) ∧ ((s + r) / 2 + 1 = ((a + b) / 2 + m - b) ∨ so (rd ov) (rd l ((s + r) / 2 + 1 - 1)) (rd l ((a + b) / 2 + m - ((s + r) / 2 + 1)))) ∧ (r = ((a + b) / 2) ∨ so (rd ov) (rd l ((a + b) / 2 + m - r - 1)) (rd l r)))
      have hdn := fun (q : rd ov (rd l ((a + b) / 2 + m - 1 - (s + r) / 2)) > rd ov (rd l ((s + r) / 2))) => (⟨by omega, hA, .inr (by
          rw [show (a + b) / 2 + m - (s + r) / 2 - 1 = (a + b) / 2 + m - 1 - (s + r) / 2 from by omega]
          exact (so_hi hcr).2 q)⟩ : (((a + b) / 2 + m - b) ≤ s ∧ s ≤ (s + r) / 2 ∧ (s + r) / 2 ≤ ((a + b) / 2)) ∧ (s = ((a + b) / 2 + m - b) ∨ so (rd ov) (rd l (s - 1)) (rd l ((a + b) / 2 + m - s))) ∧ ((s + r) / 2 = ((a + b) / 2) ∨ so (rd ov) (rd l ((a + b) / 2 + m - (s + r) / 2 - 1)) (rd l ((s + r) / 2))))
      repeat' (first
 | (with_reducible apply zds); exact tk; rfl; rfl; rfl; rfl; rfl
 | (with_reducible apply zd); rfl; exact tk; rfl
 | (with_reducible apply zsw); rfl; rfl; rfl; rfl; omega; exact half; rfl; rfl
 | (with_reducible apply zcv); rfl; exact tk; rfl; rfl; rfl; (first | exact wU (by omega) | exact wI (by omega)); rfl; rfl
 | (with_reducible apply zcs); (iterate 10 rfl); exact impl_ShareOrder_1 (by omega) (by omega); exact fun _ => rfl; exact fun _ => rfl; rfl; rfl; rfl; rfl
 | (with_reducible apply zix); rfl; exact tk; (iterate 7 rfl); (first | omega | (simp only [upd_len]; omega)); rfl; rfl
 | (with_reducible apply zle); rfl; exact tk; rfl; rfl; rfl; rfl; (first | omega | (simp only [upd_len]; omega)); rfl; rfl; rfl; rfl
 | (with_reducible first | intro _ | apply wseq | apply zreg | apply thenQ_n | apply thenQ_r | apply thenQ_e | apply znil | apply wret | apply bodyQ_r | apply wblk | apply blkQ_n | apply blkQ_r | apply wskip | apply wexit)
 | apply wct rfl
 | apply wcf rfl
 | (with_reducible apply blkQ_x rfl)
 | (with_reducible apply zcmp); rfl; exact tk; rfl; rfl; rfl
 | (with_reducible apply zar); rfl; rfl; rfl; rfl; (first | omega | ((try simp only [List.length_append, List.length_cons, List.length_nil, List.length_map]); (try dsimp only); omega)); rfl; rfl
 | refine zdq (id := 35) rfl (by kernel_rfl) [(.p, 0), (.p, 1), (.p, 2), (.p, 3), (.p, 4), (.p, 5), (.p, 7), (.p, 8), (.p, 9), (.t, 6), (.t, 10), (.o, 11), (.p, 12), (.p, 13)] [] (by kernel_rfl) rfl ?_
 | (with_reducible apply zcw  [true,false,false]); (iterate 10 rfl); (first | exact slices_rotateCmpFunc_int (by omega) (by omega) (by omega) | exact slices_symMergeCmpFunc_int_r ih (by omega) (by assumption) (by assumption) (by omega)); rfl; rfl; rfl; rfl
 | fail)
      all_goals first
        | exact endR ((s + r) / 2 + 1, r) [0, 1, 2] ⟨rfl, rfl, rfl, rfl, rfl, rfl, rfl, rfl⟩ (hup (by assumption)) (by first | omega | (dsimp only; omega))
        | exact endR (s, (s + r) / 2) [0, 1, 2] ⟨rfl, rfl, rfl, rfl, rfl, rfl, rfl, rfl⟩ (hdn (by assumption)) (by first | omega | (dsimp only; omega))
        | (exfalso; omega)
        | trace_state
    obtain rfl : s = r := by omega
    have hSR : SR (rd ov) l a m b s ((a + b) / 2 + m - s) ((a + b) / 2) := ⟨hs, by omega, by rcases hA with h | h <;> first | exact .inr (.inr h) | (by_cases hq : s = a <;> first | exact .inl hq | exact .inr (.inl (by omega))), by rcases hB with h | h <;> first | exact .inr (.inr h) | (by_cases hq : s = m <;> first | exact .inl hq | exact .inr (.inl (by omega)))⟩
    have hlo := hSR.low
    have hhi := hSR.high
    have hm1 := hSR.mv
    have hr1 := hr.mv hm1 hbn.1 hbn.2.2.2
    obtain ⟨g1, g2⟩ := stb_ok hlo.ex
    have hr2 := hr1.mv g1 hbn.1 (by rw [rot_len]; omega)
    have hh2 := hhi.mv g1 hbn.1
    obtain ⟨g3, g4⟩ := stb_ok hh2.ex
    obtain ⟨f1, f2⟩ := hSR.both g1 g2 g3 g4
    have hfin := stb_eq hbn.1 hbn.2.2.2 f1 f2
    have e1 := rot_len (l := l) (a := s) (m := m) (b := (a + b) / 2 + m - s)
    have e2 := g1.len
    have e3 := g3.len
    have hE1 := fun (q : ¬ (s < m ∧ m < (a + b) / 2 + m - s)) => (rot_no (by omega) : rot l s m ((a + b) / 2 + m - s) = l)
    have hE2 := fun (q : ¬ (a < s ∧ s < (a + b) / 2)) => (stb_eq hbn.1 (by rw [e1]; omega) (.refl _ _ _) (hlo.triv (by omega))).symm
    have hE3 := fun (q : ¬ ((a + b) / 2 < (a + b) / 2 + m - s ∧ (a + b) / 2 + m - s < b)) => (stb_eq (by omega) (by rw [e2, e1]; omega) (.refl _ _ _) (hh2.triv (by omega))).symm
    by_cases c1 : s < m ∧ m < (a + b) / 2 + m - s
    rotate_left
    · have q1 := hE1 c1
      rw [q1] at hlo hhi hr1 hr2 hh2 hfin e1 e2 e3 hE2 hE3
      repeat' (first
 | (with_reducible apply zds); exact tk; rfl; rfl; rfl; rfl; rfl
 | (with_reducible apply zd); rfl; exact tk; rfl
 | (with_reducible apply zsw); rfl; rfl; rfl; rfl; omega; exact half; rfl; rfl
 | (with_reducible apply zcv); rfl; exact tk; rfl; rfl; rfl; (first | exact wU (by omega) | exact wI (by omega)); rfl; rfl
 | (with_reducible apply zcs); (iterate 10 rfl); exact impl_ShareOrder_1 (by omega) (by omega); exact fun _ => rfl; exact fun _ => rfl; rfl; rfl; rfl; rfl
 | (with_reducible apply zix); rfl; exact tk; (iterate 7 rfl); (first | omega | (simp only [upd_len]; omega)); rfl; rfl
 | (with_reducible apply zle); rfl; exact tk; rfl; rfl; rfl; rfl; (first | omega | (simp only [upd_len]; omega)); rfl; rfl; rfl; rfl
 | (with_reducible first | intro _ | apply wseq | apply zreg | apply thenQ_n | apply thenQ_r | apply thenQ_e | apply znil | apply wret | apply bodyQ_r | apply wblk | apply blkQ_n | apply blkQ_r | apply wskip | apply wexit)
 | apply wct rfl
 | apply wcf rfl
 | (with_reducible apply blkQ_x rfl)
 | (with_reducible apply zcmp); rfl; exact tk; rfl; rfl; rfl
 | (with_reducible apply zar); rfl; rfl; rfl; rfl; (first | omega | ((try simp only [List.length_append, List.length_cons, List.length_nil, List.length_map]); (try dsimp only); omega)); rfl; rfl
 | refine zdq (id := 35) rfl (by kernel_rfl) [(.p, 0), (.p, 1), (.p, 2), (.p, 3), (.p, 4), (.p, 5), (.p, 7), (.p, 8), (.p, 9), (.t, 6), (.t, 10), (.o, 11), (.p, 12), (.p, 13)] [] (by kernel_rfl) rfl ?_
 | (with_reducible apply zcw  [true,false,false]); (iterate 10 rfl); (first | exact slices_rotateCmpFunc_int (by omega) (by omega) (by omega) | exact slices_symMergeCmpFunc_int_r ih (by omega) (by assumption) (by assumption) (by omega)); rfl; rfl; rfl; rfl
 | (with_reducible apply zcw [true,false,false]); (iterate 10 rfl); (first | exact ih (by omega) (by assumption) (by assumption) (by omega) (by omega) | exact slices_symMerge (by omega) (by assumption) (by assumption) (by omega) (by omega)); rfl; rfl; rfl; rfl
 | fail)
      all_goals first
        | (exfalso; omega)
        | (first
           | (rw [hfin]
              exact endV [0, 1, 2] rfl rfl rfl rfl rfl rfl)
           | (have q := hE2 (by omega)
              rw [q] at hfin
              rw [hfin]
              exact endV [0, 1, 2] rfl rfl rfl rfl rfl rfl)
           | (have q := hE3 (by omega)
              rw [q] at hfin
              rw [hfin]
              exact endV [0, 1, 2] rfl rfl rfl rfl rfl rfl)
           | (have q := hE3 (by omega)
              have q2 := hE2 (by omega)
              rw [q, q2] at hfin
              rw [← hfin]
              exact endV [0, 1, 2] rfl rfl rfl rfl rfl rfl))
        | trace_state
    ·
      repeat' (first
 | (with_reducible apply zds); exact tk; rfl; rfl; rfl; rfl; rfl
 | (with_reducible apply zd); rfl; exact tk; rfl
 | (with_reducible apply zsw); rfl; rfl; rfl; rfl; omega; exact half; rfl; rfl
 | (with_reducible apply zcv); rfl; exact tk; rfl; rfl; rfl; (first | exact wU (by omega) | exact wI (by omega)); rfl; rfl
 | (with_reducible apply zcs); (iterate 10 rfl); exact impl_ShareOrder_1 (by omega) (by omega); exact fun _ => rfl; exact fun _ => rfl; rfl; rfl; rfl; rfl
 | (with_reducible apply zix); rfl; exact tk; (iterate 7 rfl); (first | omega | (simp only [upd_len]; omega)); rfl; rfl
 | (with_reducible apply zle); rfl; exact tk; rfl; rfl; rfl; rfl; (first | omega | (simp only [upd_len]; omega)); rfl; rfl; rfl; rfl
 | (with_reducible first | intro _ | apply wseq | apply zreg | apply thenQ_n | apply thenQ_r | apply thenQ_e | apply znil | apply wret | apply bodyQ_r | apply wblk | apply blkQ_n | apply blkQ_r | apply wskip | apply wexit)
 | apply wct rfl
 | apply wcf rfl
 | (with_reducible apply blkQ_x rfl)
 | (with_reducible apply zcmp); rfl; exact tk; rfl; rfl; rfl
 | (with_reducible apply zar); rfl; rfl; rfl; rfl; (first | omega | ((try simp only [List.length_append, List.length_cons, List.length_nil, List.length_map]); (try dsimp only); omega)); rfl; rfl
 | refine zdq (id := 35) rfl (by kernel_rfl) [(.p, 0), (.p, 1), (.p, 2), (.p, 3), (.p, 4), (.p, 5), (.p, 7), (.p, 8), (.p, 9), (.t, 6), (.t, 10), (.o, 11), (.p, 12), (.p, 13)] [] (by kernel_rfl) rfl ?_
 | (with_reducible apply zcw  [true,false,false]); (iterate 10 rfl); (first | exact slices_rotateCmpFunc_int (by omega) (by omega) (by omega) | exact slices_symMergeCmpFunc_int_r ih (by omega) (by assumption) (by assumption) (by omega)); rfl; rfl; rfl; rfl
 | (with_reducible apply zcw [true,false,false]); (iterate 10 rfl); (first | exact ih (by omega) (by assumption) (by assumption) (by omega) (by omega) | exact slices_symMerge (by omega) (by assumption) (by assumption) (by omega) (by omega)); rfl; rfl; rfl; rfl
 | fail)
      all_goals first
        | (exfalso; omega)
        | (first
           | (rw [hfin]
              exact endV [0, 1, 2] rfl rfl rfl rfl rfl rfl)
           | (have q := hE2 (by omega)
              rw [q] at hfin
              rw [hfin]
              exact endV [0, 1, 2] rfl rfl rfl rfl rfl rfl)
           | (have q := hE3 (by omega)
              rw [q] at hfin
              rw [hfin]
              exact endV [0, 1, 2] rfl rfl rfl rfl rfl rfl)
           | (have q := hE3 (by omega)
              have q2 := hE2 (by omega)
              rw [q, q2] at hfin
              rw [← hfin]
              exact endV [0, 1, 2] rfl rfl rfl rfl rfl rfl))
        | trace_state
  ·
    repeat' (first
 | (with_reducible apply zds); exact tk; rfl; rfl; rfl; rfl; rfl
 | (with_reducible apply zd); rfl; exact tk; rfl
 | (with_reducible apply zsw); rfl; rfl; rfl; rfl; omega; exact half; rfl; rfl
 | (with_reducible apply zcv); rfl; exact tk; rfl; rfl; rfl; (first | exact wU (by omega) | exact wI (by omega)); rfl; rfl
 | (with_reducible first | intro _ | apply wseq | apply zreg | apply thenQ_n | apply thenQ_r | apply thenQ_e | apply znil | apply wret | apply bodyQ_r | apply wblk | apply blkQ_n | apply blkQ_r | apply wskip | apply wexit)
 | apply wct rfl
 | apply wcf rfl
 | (with_reducible apply zcmp); rfl; exact tk; rfl; rfl; rfl
 | (with_reducible apply zar); rfl; rfl; rfl; rfl; (first | omega | ((try simp only [List.length_append, List.length_cons, List.length_nil, List.length_map]); (try dsimp only); omega)); rfl; rfl
 | fail)
    all_goals first | (exfalso; omega) | skip
    refine wlp (X := Int × Int) [0, 1, 2, 3, 4, 18, 19, 22] [0, 1, 2] (fun x => [(20, I x.1), (21, I x.2)]) (fun _ => []) (fun x => (a ≤ x.1 ∧ x.1 ≤ x.2 ∧ x.2 ≤ m) ∧ (x.1 = a ∨ so (rd ov) (rd l (x.1 - 1)) (rd l ((a + b) / 2 + m - x.1))) ∧ (x.2 = m ∨ so (rd ov) (rd l ((a + b) / 2 + m - x.2 - 1)) (rd l x.2))) (fun x => (x.2 - x.1).toNat) (a, m) ⟨by dsimp only; omega, .inl rfl, .inl rfl⟩ rfl rfl (fun _ => rfl) (fun _ => rfl) ⟨rfl, rfl, rfl, rfl, rfl, rfl, rfl, rfl⟩ (fun x hx => ?_)
    obtain ⟨s, r⟩ := x
    obtain ⟨hij, hA, hB⟩ := hx
    dsimp only at hij hA hB ⊢
    by_cases hlt : s < r
    ·
      have hh : s ≤ (s + r) / 2 ∧ (s + r) / 2 < r := by omega
      have hr1 := hr ((s + r) / 2) (by omega) (by omega)
      have hr2 := hr ((a + b) / 2 + m - 1 - (s + r) / 2) (by omega) (by omega)
      have hcr := hs.cr ((s + r) / 2) ((a + b) / 2 + m - 1 - (s + r) / 2) (by omega) (by omega) (by omega) (by omega)
      have hpk : 0 ≤ pick (rd ov (rd l ((a + b) / 2 + m - 1 - (s + r) / 2)) < rd ov (rd l ((s + r) / 2))) 1 0 := pick_01
      have hup := fun (q : ¬ rd ov (rd l ((a + b) / 2 + m - 1 - (s + r) / 2)) > rd ov (rd l ((s + r) / 2))) => (⟨by omega, .inr (by
          rw [show (s + r) / 2 + 1 - 1 = (s + r) / 2 from by omega, show (a + b) / 2 + m - ((s + r) / 2 + 1) = (a + b) / 2 + m - 1 - (s + r) / 2 from by omega]
          exact (so_lo hcr).2 q), hB⟩ : (a ≤ (s + r) / 2 + 1 ∧ (s + r) / 2 + 1 ≤ r ∧ r ≤ m) ∧ ((s + r) / 2 + 1 = a ∨ so (rd ov) (rd l ((s + r) / 2 + 1 - 1)) (rd l ((a + b) / 2 + m - ((s + r) / 2 + 1)))) ∧ (r = m ∨ so (rd ov) (rd l ((a + b) / 2 + m - r - 1)) (rd l r)))
      have hdn := fun (q : rd ov (rd l ((a + b) / 2 + m - 1 - (s + r) / 2)) > rd ov (rd l ((s + r) / 2))) => (⟨by omega, hA, .inr (by
          rw [show (a + b) / 2 + m - (s + r) / 2 - 1 = (a + b) / 2 + m - 1 - (s + r) / 2 from by omega]
          exact (so_hi hcr).2 q)⟩ : (a ≤ s ∧ s ≤ (s + r) / 2 ∧ (s + r) / 2 ≤ m) ∧ (s = a ∨ so (rd ov) (rd l (s - 1)) (rd l ((a + b) / 2 + m - s))) ∧ ((s + r) / 2 = m ∨ so (rd ov) (rd l ((a + b) / 2 + m - (s + r) / 2 - 1)) (rd l ((s + r) / 2))))
      repeat' (first
 | (with_reducible apply zds); exact tk; rfl; rfl; rfl; rfl; rfl
 | (with_reducible apply zd); rfl; exact tk; rfl
 | (with_reducible apply zsw); rfl; rfl; rfl; rfl; omega; exact half; rfl; rfl
 | (with_reducible apply zcv); rfl; exact tk; rfl; rfl; rfl; (first | exact wU (by omega) | exact wI (by omega)); rfl; rfl
 | (with_reducible apply zcs); (iterate 10 rfl); exact impl_ShareOrder_1 (by omega) (by omega); exact fun _ => rfl; exact fun _ => rfl; rfl; rfl; rfl; rfl
 | (with_reducible apply zix); rfl; exact tk; (iterate 7 rfl); (first | omega | (simp only [upd_len]; omega)); rfl; rfl
 | (with_reducible apply zle); rfl; exact tk; rfl; rfl; rfl; rfl; (first | omega | (simp only [upd_len]; omega)); rfl; rfl; rfl; rfl
 | (with_reducible first | intro _ | apply wseq | apply zreg | apply thenQ_n | apply thenQ_r | apply thenQ_e | apply znil | apply wret | apply bodyQ_r | apply wblk | apply blkQ_n | apply blkQ_r | apply wskip | apply wexit)
 | apply wct rfl
 | apply wcf rfl
 | (with_reducible apply blkQ_x rfl)
 | (with_reducible apply zcmp); rfl; exact tk; rfl; rfl; rfl
 | (with_reducible apply zar); rfl; rfl; rfl; rfl; (first | omega | ((try simp only [List.length_append, List.length_cons, List.length_nil, List.length_map]); (try dsimp only); omega)); rfl; rfl
 | refine zdq (id := 35) rfl (by kernel_rfl) [(.p, 0), (.p, 1), (.p, 2), (.p, 3), (.p, 4), (.p, 5), (.p, 7), (.p, 8), (.p, 9), (.t, 6), (.t, 10), (.o, 11), (.p, 12), (.p, 13)] [] (by kernel_rfl) rfl ?_
 | (with_reducible apply zcw  [true,false,false]); (iterate 10 rfl); (first | exact slices_rotateCmpFunc_int (by omega) (by omega) (by omega) | exact slices_symMergeCmpFunc_int_r ih (by omega) (by assumption) (by assumption) (by omega)); rfl; rfl; rfl; rfl
 | fail)
      all_goals first
        | exact endR ((s + r) / 2 + 1, r) [0, 1, 2] ⟨rfl, rfl, rfl, rfl, rfl, rfl, rfl, rfl⟩ (hup (by assumption)) (by first | omega | (dsimp only; omega))
        | exact endR (s, (s + r) / 2) [0, 1, 2] ⟨rfl, rfl, rfl, rfl, rfl, rfl, rfl, rfl⟩ (hdn (by assumption)) (by first | omega | (dsimp only; omega))
        | (exfalso; omega)
        | trace_state
    obtain rfl : s = r := by omega
    have hSR : SR (rd ov) l a m b s ((a + b) / 2 + m - s) ((a + b) / 2) := ⟨hs, by omega, by rcases hA with h | h <;> first | exact .inr (.inr h) | (by_cases hq : s = a <;> first | exact .inl hq | exact .inr (.inl (by omega))), by rcases hB with h | h <;> first | exact .inr (.inr h) | (by_cases hq : s = m <;> first | exact .inl hq | exact .inr (.inl (by omega)))⟩
    have hlo := hSR.low
    have hhi := hSR.high
    have hm1 := hSR.mv
    have hr1 := hr.mv hm1 hbn.1 hbn.2.2.2
    obtain ⟨g1, g2⟩ := stb_ok hlo.ex
    have hr2 := hr1.mv g1 hbn.1 (by rw [rot_len]; omega)
    have hh2 := hhi.mv g1 hbn.1
    obtain ⟨g3, g4⟩ := stb_ok hh2.ex
    obtain ⟨f1, f2⟩ := hSR.both g1 g2 g3 g4
    have hfin := stb_eq hbn.1 hbn.2.2.2 f1 f2
    have e1 := rot_len (l := l) (a := s) (m := m) (b := (a + b) / 2 + m - s)
    have e2 := g1.len
    have e3 := g3.len
    have hE1 := fun (q : ¬ (s < m ∧ m < (a + b) / 2 + m - s)) => (rot_no (by omega) : rot l s m ((a + b) / 2 + m - s) = l)
    have hE2 := fun (q : ¬ (a < s ∧ s < (a + b) / 2)) => (stb_eq hbn.1 (by rw [e1]; omega) (.refl _ _ _) (hlo.triv (by omega))).symm
    have hE3 := fun (q : ¬ ((a + b) / 2 < (a + b) / 2 + m - s ∧ (a + b) / 2 + m - s < b)) => (stb_eq (by omega) (by rw [e2, e1]; omega) (.refl _ _ _) (hh2.triv (by omega))).symm
    by_cases c1 : s < m ∧ m < (a + b) / 2 + m - s
    rotate_left
    · have q1 := hE1 c1
      rw [q1] at hlo hhi hr1 hr2 hh2 hfin e1 e2 e3 hE2 hE3
      repeat' (first
 | (with_reducible apply zds); exact tk; rfl; rfl; rfl; rfl; rfl
 | (with_reducible apply zd); rfl; exact tk; rfl
 | (with_reducible apply zsw); rfl; rfl; rfl; rfl; omega; exact half; rfl; rfl
 | (with_reducible apply zcv); rfl; exact tk; rfl; rfl; rfl; (first | exact wU (by omega) | exact wI (by omega)); rfl; rfl
 | (with_reducible apply zcs); (iterate 10 rfl); exact impl_ShareOrder_1 (by omega) (by omega); exact fun _ => rfl; exact fun _ => rfl; rfl; rfl; rfl; rfl
 | (with_reducible apply zix); rfl; exact tk; (iterate 7 rfl); (first | omega | (simp only [upd_len]; omega)); rfl; rfl
 | (with_reducible apply zle); rfl; exact tk; rfl; rfl; rfl; rfl; (first | omega | (simp only [upd_len]; omega)); rfl; rfl; rfl; rfl
 | (with_reducible first | intro _ | apply wseq | apply zreg | apply thenQ_n | apply thenQ_r | apply thenQ_e | apply znil | apply wret | apply bodyQ_r | apply wblk | apply blkQ_n | apply blkQ_r | apply wskip | apply wexit)
 | apply wct rfl
 | apply wcf rfl
 | (with_reducible apply blkQ_x rfl)
 | (with_reducible apply zcmp); rfl; exact tk; rfl; rfl; rfl
 | (with_reducible apply zar); rfl; rfl; rfl; rfl; (first | omega | ((try simp only [List.length_append, List.length_cons, List.length_nil, List.length_map]); (try dsimp only); omega)); rfl; rfl
 | refine zdq (id := 35) rfl (by kernel_rfl) [(.p, 0), (.p, 1), (.p, 2), (.p, 3), (.p, 4), (.p, 5), (.p, 7), (.p, 8), (.p, 9), (.t, 6), (.t, 10), (.o, 11), (.p, 12), (.p, 13)] [] (by kernel_rfl) rfl ?_
 | (with_reducible apply zcw  [true,false,false]); (iterate 10 rfl); (first | exact slices_rotateCmpFunc_int (by omega) (by omega) (by omega) | exact slices_symMergeCmpFunc_int_r ih (by omega) (by assumption) (by assumption) (by omega)); rfl; rfl; rfl; rfl
 | (with_reducible apply zcw [true,false,false]); (iterate 10 rfl); (first | exact ih (by omega) (by assumption) (by assumption) (by omega) (by omega) | exact slices_symMerge (by omega) (by assumption) (by assumption) (by omega) (by omega)); rfl; rfl; rfl; rfl
 | fail)
      all_goals first
        | (exfalso; omega)
        | (first
           | (rw [hfin]
              exact endV [0, 1, 2] rfl rfl rfl rfl rfl rfl)
           | (have q := hE2 (by omega)
              rw [q] at hfin
              rw [hfin]
              exact endV [0, 1, 2] rfl rfl rfl rfl rfl rfl)
           | (have q := hE3 (by omega)
              rw [q] at hfin
              rw [hfin]
              exact endV [0, 1, 2] rfl rfl rfl rfl rfl rfl)
           | (have q := hE3 (by omega)
              have q2 := hE2 (by omega)
              rw [q, q2] at hfin
              rw [← hfin]
              exact endV [0, 1, 2] rfl rfl rfl rfl rfl rfl))
        | trace_state
    ·
      repeat' (first
 | (with_reducible apply zds); exact tk; rfl; rfl; rfl; rfl; rfl
 | (with_reducible apply zd); rfl; exact tk; rfl
 | (with_reducible apply zsw); rfl; rfl; rfl; rfl; omega; exact half; rfl; rfl
 | (with_reducible apply zcv); rfl; exact tk; rfl; rfl; rfl; (first | exact wU (by omega) | exact wI (by omega)); rfl; rfl
 | (with_reducible apply zcs); (iterate 10 rfl); exact impl_ShareOrder_1 (by omega) (by omega); exact fun _ => rfl; exact fun _ => rfl; rfl; rfl; rfl; rfl
 | (with_reducible apply zix); rfl; exact tk; (iterate 7 rfl); (first | omega | (simp only [upd_len]; omega)); rfl; rfl
 | (with_reducible apply zle); rfl; exact tk; rfl; rfl; rfl; rfl; (first | omega | (simp only [upd_len]; omega)); rfl; rfl; rfl; rfl
 | (with_reducible first | intro _ | apply wseq | apply zreg | apply thenQ_n | apply thenQ_r | apply thenQ_e | apply znil | apply wret | apply bodyQ_r | apply wblk | apply blkQ_n | apply blkQ_r | apply wskip | apply wexit)
 | apply wct rfl
 | apply wcf rfl
 | (with_reducible apply blkQ_x rfl)
 | (with_reducible apply zcmp); rfl; exact tk; rfl; rfl; rfl
 | (with_reducible apply zar); rfl; rfl; rfl; rfl; (first | omega | ((try simp only [List.length_append, List.length_cons, List.length_nil, List.length_map]); (try dsimp only); omega)); rfl; rfl
 | refine zdq (id := 35) rfl (by kernel_rfl) [(.p, 0), (.p, 1), (.p, 2), (.p, 3), (.p, 4), (.p, 5), (.p, 7), (.p, 8), (.p, 9), (.t, 6), (.t, 10), (.o, 11), (.p, 12), (.p, 13)] [] (by kernel_rfl) rfl ?_
 | (with_reducible apply zcw  [true,false,false]); (iterate 10 rfl); (first | exact slices_rotateCmpFunc_int (by omega) (by omega) (by omega) | exact slices_symMergeCmpFunc_int_r ih (by omega) (by assumption) (by assumption) (by omega)); rfl; rfl; rfl; rfl
 | (with_reducible apply zcw [true,false,false]); (iterate 10 rfl); (first | exact ih (by omega) (by assumption) (by assumption) (by omega) (by omega) | exact slices_symMerge (by omega) (by assumption) (by assumption) (by omega) (by omega)); rfl; rfl; rfl; rfl
 | fail)
      all_goals first
        | (exfalso; omega)
        | (first
           | (rw [hfin]
              exact endV [0, 1, 2] rfl rfl rfl rfl rfl rfl)
           | (have q := hE2 (by omega)
              rw [q] at hfin
              rw [hfin]
              exact endV [0, 1, 2] rfl rfl rfl rfl rfl rfl)
           | (have q := hE3 (by omega)
              rw [q] at hfin
              rw [hfin]
              exact endV [0, 1, 2] rfl rfl rfl rfl rfl rfl)
           | (have q := hE3 (by omega)
              have q2 := hE2 (by omega)
              rw [q, q2] at hfin
              rw [← hfin]
              exact endV [0, 1, 2] rfl rfl rfl rfl rfl rfl))
        | trace_state
theorem symMerge_all {ov : List Int} {z : Nat} (h0 : z ≤ 1000) : ∀ (k : Nat) {l : List Int} {a m b : Int}, l.length = z → SM (rd ov) l a m b → Rng l ov.length → (b - a).toNat < k → a < m ∧ m < b → FC Tryz.prog 340 [.c (.row 0 0 z), I a, I m, I b, .c (.fn 302 [(1, 0, 0)])] ([ow 3 l, vO 2 ov.length, ro 3 ov]) (.tup []) ([ow 3 (stb (rd ov) l a b), vO 2 ov.length, ro 3 ov])
  | 0, _, _, _, _, _, _, _, h, _ => absurd h (Nat.not_lt_zero _)
  | k + 1, l, a, m, b, h1, h2, h3, h4, h5 => slices_symMergeCmpFunc_int_r (k := (b - a).toNat) (fun q1 q2 q3 q4 q5 => symMerge_all h0 k q1 q2 q3 (by omega) q5) h1 h2 h3 (by omega) (Nat.le_refl _) h5
theorem slices_symMerge {l ov : List Int} {z : Nat} {a m b : Int} (hz : l.length = z) (hs : SM (rd ov) l a m b) (hr : Rng l ov.length) (hl : l.length ≤ 1000) (hp : a < m ∧ m < b) : FC Tryz.prog 340 [.c (.row 0 0 z), I a, I m, I b, .c (.fn 302 [(1, 0, 0)])] ([ow 3 l, vO 2 ov.length, ro 3 ov]) (.tup []) ([ow 3 (stb (rd ov) l a b), vO 2 ov.length, ro 3 ov]) := symMerge_all (by omega) _ hz hs hr (Nat.lt_succ_self _) hp
end Go.Proofs.YtgehbhkfehmdkaaGreat.Sh
