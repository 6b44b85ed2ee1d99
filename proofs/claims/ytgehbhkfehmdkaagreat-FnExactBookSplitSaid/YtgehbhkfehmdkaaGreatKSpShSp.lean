/- The legs of a split. No condition. -/
import Derived.Test.YtgehbhkfehmdkaaGreatKSpShPv
namespace Go.Proofs.YtgehbhkfehmdkaaGreat.Sh
open Go.RowKit
set_option linter.unusedVariables false
set_option linter.unusedSimpArgs false
def spL (pa : Int) (who was is : List Int) (i : Int) : List Leg := mkl i.toNat (fun k => ⟨rd who k, pa, rd is k - rd was k⟩)
def spG (was is : List Int) (i : Int) : Int := sumF id (pf is i) - sumF id (pf was i)
theorem spL_len {pa i : Int} {who was is : List Int} (h : 0 ≤ i) : ((spL pa who was is i).length : Int) = i := by rw [spL, mkl_len]; omega
theorem spL_succ {pa i : Int} {who was is : List Int} (h : 0 ≤ i) : spL pa who was is (i + 1) = spL pa who was is i ++ [⟨rd who i, pa, rd is i - rd was i⟩] := mkl_succ h
theorem spG_succ {was is : List Int} {i : Int} (h : 0 ≤ i ∧ i < was.length) (h2 : i < is.length) : spG was is (i + 1) = spG was is i + (rd is i - rd was i) := by
  unfold spG
  rw [sumF_succ ⟨h.1, h2⟩, sumF_succ h]
  simp only [id]
  omega
theorem spG_bd {was is : List Int} {i : Int} (h1 : ∀ x ∈ was, inP x 0 1000000000000000) (h2 : ∀ x ∈ is, inP x 0 1000000000000000) (h : 0 ≤ i ∧ i ≤ was.length ∧ i ≤ is.length) : -2000000000000000 * i ≤ spG was is i ∧ spG was is i ≤ 2000000000000000 * i := by
  have e1 := ws_bd h1 (i := i) ⟨h.1, h.2.1⟩
  have e2 := ws_bd h2 (i := i) ⟨h.1, h.2.2⟩
  unfold spG
  omega
abbrev splL (pa iss : Int) (who was is : List Int) : List Leg := spL pa who was is who.length ++ [⟨iss, pa, -spG was is who.length⟩]
set_option maxHeartbeats 4000000 in
theorem impl_splitLegs {pa iss : Int} {who was is : List Int} (hw : ∀ x ∈ was, inP x 0 1000000000000000) (hi : ∀ x ∈ is, inP x 0 1000000000000000) (hl : was.length = who.length ∧ is.length = who.length ∧ who.length ≤ 100) : FC Tryz.prog 131 [I pa, I iss, .c (.row 0 0 who.length), .c (.row 1 0 was.length), .c (.row 2 0 is.length)] ([ro 3 who, ro 3 was, ro 3 is]) (.c (.row 3 0 (splL pa iss who was is).length)) ([ro 3 who, ro 3 was, ro 3 is, ow 46 (splL pa iss who was is)]) := by
  refine fent tk 58 [.tmp 10] Tryz.func131 (by kernel_rfl) rfl rfl rfl rfl rfl rfl rfl ?_
  repeat' (first
 | (with_reducible apply zds); exact tk; rfl; rfl; rfl; rfl; rfl
 | (with_reducible apply zd); rfl; exact tk; rfl
 | (with_reducible first | intro _ | apply wseq | apply zreg | apply thenQ_n | apply thenQ_r | apply thenQ_e | apply znil | apply wret | apply bodyQ_r | apply wblk | apply blkQ_n | apply blkQ_r | apply wskip | apply wexit)
 | (with_reducible apply zlit (α := Leg) (e := 46)); rfl; exact tk; (iterate 13 rfl)
 | fail)
  refine wlp (X := Int × List Leg × Int) [0, 1, 3, 4, 16, 17] [0, 1, 2, 3] (fun x => [(18, I x.1), (11, .c (.row 3 0 x.2.1.length)), (12, I x.2.2)]) (fun x => [(3, ow 46 x.2.1)]) (fun x => (0 ≤ x.1 ∧ x.1 ≤ who.length) ∧ x.2.1 = spL pa who was is x.1 ∧ x.2.2 = spG was is x.1) (fun x => (who.length - x.1).toNat) (0, [], 0) ⟨by dsimp only; omega, rfl, rfl⟩ rfl rfl (fun _ => rfl) (fun _ => rfl) ⟨rfl, rfl, rfl, rfl, rfl, rfl, rfl, rfl⟩ (fun x hx => ?_)
  obtain ⟨i, u, n⟩ := x
  obtain ⟨h0, hu, hn⟩ := hx
  dsimp only at h0 hu hn ⊢
  have hul := spL_len (pa := pa) (who := who) (was := was) (is := is) h0.1
  rw [← hu] at hul
  have hbd := spG_bd hw hi (i := i) ⟨h0.1, by omega, by omega⟩
  rw [← hn] at hbd
  by_cases hil : i < who.length
  ·
    have b1 : 0 ≤ rd was i ∧ rd was i ≤ 1000000000000000 := hw _ (rd_mem ⟨h0.1, by omega⟩)
    have b2 : 0 ≤ rd is i ∧ rd is i ≤ 1000000000000000 := hi _ (rd_mem ⟨h0.1, by omega⟩)
    have hu2 : u ++ [⟨rd who i, pa, rd is i - rd was i⟩] = spL pa who was is (i + 1) := by rw [spL_succ h0.1, hu]
    have hn2 : n + (rd is i - rd was i) = spG was is (i + 1) := by rw [spG_succ ⟨h0.1, by omega⟩ (by omega), hn]
    repeat' (first
 | (intro h9; exfalso; first | contradiction | omega)
 | (with_reducible apply zds); exact tk; rfl; rfl; rfl; rfl; rfl
 | (with_reducible apply zd); rfl; exact tk; rfl
 | (with_reducible first | intro _ | apply wseq | apply zreg | apply thenQ_n | apply thenQ_r | apply thenQ_e | apply znil | apply wret | apply bodyQ_r | apply wblk | apply blkQ_n | apply blkQ_r | apply wskip | apply wexit)
 | apply wct rfl
 | (with_reducible apply zcmp); rfl; exact tk; rfl; rfl; rfl
 | (with_reducible apply zar); rfl; rfl; rfl; rfl; (first | omega | ((try simp only [List.length_append, List.length_cons, List.length_nil, List.length_map]); (try dsimp only); omega)); rfl; rfl
 | (with_reducible apply zix); rfl; exact tk; (iterate 7 rfl); (first | omega | ((try simp only [List.length_append, List.length_cons, List.length_nil, List.length_map]); (try dsimp only); omega)); rfl; rfl
 | (with_reducible apply zle); rfl; exact tk; rfl; rfl; rfl; rfl; (first | omega | ((try simp only [List.length_append, List.length_cons, List.length_nil, List.length_map]); (try dsimp only); omega)); rfl; rfl; rfl; rfl
 | (with_reducible apply zlit (α := Leg) (e := 46)); rfl; exact tk; (iterate 13 rfl)
 | (with_reducible apply zap); rfl; exact tk; (iterate 10 rfl); (first | omega | ((try simp only [List.length_append, List.length_cons, List.length_nil, List.length_map]); (try dsimp only); omega)); rfl; rfl; rfl; rfl; rfl
 | refine zdq (id := 6) rfl (by kernel_rfl) [(.p, 0), (.p, 1), (.p, 2), (.p, 3), (.p, 4), (.p, 5), (.p, 7), (.p, 8), (.p, 9), (.t, 6), (.t, 10), (.p, 11), (.p, 12), (.o, 13), (.l, 14), (.p, 15)] [14] (by kernel_rfl) rfl ?_
 | refine zdq (id := 7) rfl (by kernel_rfl) [(.p, 0), (.p, 1), (.p, 2), (.p, 3), (.p, 5), (.p, 6), (.p, 7), (.t, 4), (.t, 8), (.p, 9), (.p, 10), (.p, 11)] [] (by kernel_rfl) rfl ?_
 | fail)
    all_goals first
      | exact endR (i + 1, u ++ [⟨rd who i, pa, rd is i - rd was i⟩], n + (rd is i - rd was i)) [0, 1, 2, 5] ⟨rfl, rfl, rfl, rfl, rfl, rfl, rfl, rfl⟩ ⟨by dsimp only; omega, hu2, hn2⟩ (by first | omega | (dsimp only; omega))
      | (exfalso; omega)
      | trace_state
  have ei : i = (who.length : Int) := by omega
  rw [ei] at hu hn
  subst hu
  subst hn
  repeat' (first
 | (intro h9; exfalso; first | contradiction | omega)
 | (with_reducible apply zds); exact tk; rfl; rfl; rfl; rfl; rfl
 | (with_reducible apply zd); rfl; exact tk; rfl
 | (with_reducible apply zneg); rfl; rfl; omega; rfl; rfl
 | (with_reducible first | intro _ | apply wseq | apply zreg | apply thenQ_n | apply thenQ_r | apply thenQ_e | apply znil | apply wret | apply bodyQ_r | apply wblk | apply blkQ_n | apply blkQ_r | apply wskip | apply wexit)
 | apply wcf rfl
 | (with_reducible apply blkQ_x rfl)
 | (with_reducible apply zcmp); rfl; exact tk; rfl; rfl; rfl
 | (with_reducible apply zlit (α := Leg) (e := 46)); rfl; exact tk; (iterate 13 rfl)
 | (with_reducible apply zap); rfl; exact tk; (iterate 10 rfl); (first | omega | ((try simp only [List.length_append, List.length_cons, List.length_nil, List.length_map]); (try dsimp only); omega)); rfl; rfl; rfl; rfl; rfl
 | fail)
  all_goals first
    | exact endV [0, 1, 2, 5] rfl rfl rfl rfl rfl rfl
    | (exfalso; omega)
    | trace_state
end Go.Proofs.YtgehbhkfehmdkaaGreat.Sh
