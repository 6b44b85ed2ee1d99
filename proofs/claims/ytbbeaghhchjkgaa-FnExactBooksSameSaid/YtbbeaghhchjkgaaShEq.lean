/- slices.Equal at the program's things. No condition. -/
import Derived.Test.YtbbeaghhchjkgaaShB1
import Derived.Test.YtbbeaghhchjkgaaShM
namespace Go.Proofs.Ytbbeaghhchjkgaa.Sh
open Go.RowKit
set_option linter.unusedVariables false
set_option maxHeartbeats 4000000 in
theorem slices_Equal_Account {l m : List Account} : FC Try.prog 77 [.c (.row 0 0 l.length), .c (.row 1 0 m.length)] ([ro 91 l, ro 91 m]) (B (dB (l = m))) ([ro 91 l, ro 91 m]) := by
  refine fent tk 26 [.tmp 4] Try.func77 (by kernel_rfl) rfl rfl rfl rfl rfl rfl rfl ?_
  refine wlen l 0 rfl (fun hl => ?_)
  repeat' (first
    | (with_reducible apply zd); rfl; exact tk; rfl
    | (with_reducible first | intro _ | apply wseq | apply zreg | apply thenQ_n | apply thenQ_r | apply thenQ_e | apply znil | apply wret | apply bodyQ_r | apply wblk | apply blkQ_n | apply blkQ_r | apply wskip | apply wexit)
    | apply wct rfl
    | apply wcf rfl
    | (with_reducible apply blkQ_x rfl)
    | (with_reducible apply blkQ_y rfl)
    | (with_reducible apply zcmp); rfl; exact tk; rfl; rfl; rfl
    | (with_reducible apply zne); rfl; exact tk; rfl; rfl; rfl; rfl
    | (with_reducible apply zar); rfl; rfl; rfl; rfl; omega; rfl; rfl
    | (with_reducible apply zix); rfl; exact tk; rfl; rfl; rfl; rfl; rfl; rfl; rfl; omega; rfl; rfl
    | (with_reducible apply zle); rfl; exact tk; rfl; rfl; rfl; rfl; omega; rfl; rfl; rfl; rfl
    | refine zdraw (id := 6) (by kernel_rfl) [(.p, 0), (.p, 1), (.p, 2), (.p, 4), (.p, 5), (.p, 6), (.t, 3), (.t, 7), (.p, 8)] [] (by kernel_rfl) rfl ?_)
  · rename_i hne
    exact endN [0, 1] rfl rfl rfl rfl rfl rfl (fun e => hne (by rw [e]))
  · rename_i hlen
    refine wloop (X := Int) (fun i => 0 ≤ i ∧ i ≤ l.length ∧ ∀ j : Int, 0 ≤ j → j < i → rd l j = rd m j) (fun i => ⟨26, 2, [(0, .c (.row 0 0 l.length)), (1, .c (.row 1 0 m.length)), (12, I l.length), (13, I i)], [ro 91 l, ro 91 m]⟩) (fun i => (l.length - i).toNat) 0 [0, 1] ⟨by omega, by omega, fun j h0 h1 => by omega⟩ ⟨rfl, rfl, rfl, rfl, rfl, rfl, rfl, rfl⟩ (fun i hi => ?_)
    obtain ⟨h0, hi, hall⟩ := hi
    repeat' (first
      | (with_reducible apply zd); rfl; exact tk; rfl
      | (with_reducible first | intro _ | apply wseq | apply zreg | apply thenQ_n | apply thenQ_r | apply thenQ_e | apply znil | apply wret | apply bodyQ_r | apply wblk | apply blkQ_n | apply blkQ_r | apply wskip | apply wexit)
      | (with_reducible apply zsn); exact aeq_Account; rfl; rfl; rfl; rfl; rfl
      | apply wct rfl
      | apply wcf rfl
      | (with_reducible apply blkQ_x rfl)
      | (with_reducible apply blkQ_y rfl)
      | (with_reducible apply zcmp); rfl; exact tk; rfl; rfl; rfl
      | (with_reducible apply zne); rfl; exact tk; rfl; rfl; rfl; rfl
      | (with_reducible apply zar); rfl; rfl; rfl; rfl; omega; rfl; rfl
      | (with_reducible apply zix); rfl; exact tk; rfl; rfl; rfl; rfl; rfl; rfl; rfl; omega; rfl; rfl
      | (with_reducible apply zle); rfl; exact tk; rfl; rfl; rfl; rfl; omega; rfl; rfl; rfl; rfl
      | refine zdraw (id := 6) (by kernel_rfl) [(.p, 0), (.p, 1), (.p, 2), (.p, 4), (.p, 5), (.p, 6), (.t, 3), (.t, 7), (.p, 8)] [] (by kernel_rfl) rfl ?_)
    all_goals first
      | exact endY [0, 1] rfl rfl rfl rfl rfl rfl (ext_rd (by omega) (fun j h1 h2 => hall j h1 (by omega)))
      | exact endN [0, 1] rfl rfl rfl rfl rfl rfl (fun e => by subst e; simp_all)
      | exact ⟨i + 1, [0, 1], ⟨by omega, by omega, all_step hall (by assumption)⟩, by dsimp only; omega, rfl, rfl, rfl, rfl, rfl, rfl, rfl, rfl⟩
set_option maxHeartbeats 4000000 in
theorem slices_Equal_Instr {l m : List Instr} : FC Try.prog 78 [.c (.row 0 0 l.length), .c (.row 1 0 m.length)] ([ro 92 l, ro 92 m]) (B (dB (l = m))) ([ro 92 l, ro 92 m]) := by
  refine fent tk 26 [.tmp 4] Try.func78 (by kernel_rfl) rfl rfl rfl rfl rfl rfl rfl ?_
  refine wlen l 0 rfl (fun hl => ?_)
  repeat' (first
    | (with_reducible apply zd); rfl; exact tk; rfl
    | (with_reducible first | intro _ | apply wseq | apply zreg | apply thenQ_n | apply thenQ_r | apply thenQ_e | apply znil | apply wret | apply bodyQ_r | apply wblk | apply blkQ_n | apply blkQ_r | apply wskip | apply wexit)
    | apply wct rfl
    | apply wcf rfl
    | (with_reducible apply blkQ_x rfl)
    | (with_reducible apply blkQ_y rfl)
    | (with_reducible apply zcmp); rfl; exact tk; rfl; rfl; rfl
    | (with_reducible apply zne); rfl; exact tk; rfl; rfl; rfl; rfl
    | (with_reducible apply zar); rfl; rfl; rfl; rfl; omega; rfl; rfl
    | (with_reducible apply zix); rfl; exact tk; rfl; rfl; rfl; rfl; rfl; rfl; rfl; omega; rfl; rfl
    | (with_reducible apply zle); rfl; exact tk; rfl; rfl; rfl; rfl; omega; rfl; rfl; rfl; rfl
    | refine zdraw (id := 6) (by kernel_rfl) [(.p, 0), (.p, 1), (.p, 2), (.p, 4), (.p, 5), (.p, 6), (.t, 3), (.t, 7), (.p, 8)] [] (by kernel_rfl) rfl ?_)
  · rename_i hne
    exact endN [0, 1] rfl rfl rfl rfl rfl rfl (fun e => hne (by rw [e]))
  · rename_i hlen
    refine wloop (X := Int) (fun i => 0 ≤ i ∧ i ≤ l.length ∧ ∀ j : Int, 0 ≤ j → j < i → rd l j = rd m j) (fun i => ⟨26, 2, [(0, .c (.row 0 0 l.length)), (1, .c (.row 1 0 m.length)), (12, I l.length), (13, I i)], [ro 92 l, ro 92 m]⟩) (fun i => (l.length - i).toNat) 0 [0, 1] ⟨by omega, by omega, fun j h0 h1 => by omega⟩ ⟨rfl, rfl, rfl, rfl, rfl, rfl, rfl, rfl⟩ (fun i hi => ?_)
    obtain ⟨h0, hi, hall⟩ := hi
    repeat' (first
      | (with_reducible apply zd); rfl; exact tk; rfl
      | (with_reducible first | intro _ | apply wseq | apply zreg | apply thenQ_n | apply thenQ_r | apply thenQ_e | apply znil | apply wret | apply bodyQ_r | apply wblk | apply blkQ_n | apply blkQ_r | apply wskip | apply wexit)
      | (with_reducible apply zsn); exact aeq_Instr; rfl; rfl; rfl; rfl; rfl
      | apply wct rfl
      | apply wcf rfl
      | (with_reducible apply blkQ_x rfl)
      | (with_reducible apply blkQ_y rfl)
      | (with_reducible apply zcmp); rfl; exact tk; rfl; rfl; rfl
      | (with_reducible apply zne); rfl; exact tk; rfl; rfl; rfl; rfl
      | (with_reducible apply zar); rfl; rfl; rfl; rfl; omega; rfl; rfl
      | (with_reducible apply zix); rfl; exact tk; rfl; rfl; rfl; rfl; rfl; rfl; rfl; omega; rfl; rfl
      | (with_reducible apply zle); rfl; exact tk; rfl; rfl; rfl; rfl; omega; rfl; rfl; rfl; rfl
      | refine zdraw (id := 6) (by kernel_rfl) [(.p, 0), (.p, 1), (.p, 2), (.p, 4), (.p, 5), (.p, 6), (.t, 3), (.t, 7), (.p, 8)] [] (by kernel_rfl) rfl ?_)
    all_goals first
      | exact endY [0, 1] rfl rfl rfl rfl rfl rfl (ext_rd (by omega) (fun j h1 h2 => hall j h1 (by omega)))
      | exact endN [0, 1] rfl rfl rfl rfl rfl rfl (fun e => by subst e; simp_all)
      | exact ⟨i + 1, [0, 1], ⟨by omega, by omega, all_step hall (by assumption)⟩, by dsimp only; omega, rfl, rfl, rfl, rfl, rfl, rfl, rfl, rfl⟩
set_option maxHeartbeats 4000000 in
theorem slices_Equal_Bal {l m : List Bal} : FC Try.prog 79 [.c (.row 0 0 l.length), .c (.row 1 0 m.length)] ([ro 94 l, ro 94 m]) (B (dB (l = m))) ([ro 94 l, ro 94 m]) := by
  refine fent tk 26 [.tmp 4] Try.func79 (by kernel_rfl) rfl rfl rfl rfl rfl rfl rfl ?_
  refine wlen l 0 rfl (fun hl => ?_)
  repeat' (first
    | (with_reducible apply zd); rfl; exact tk; rfl
    | (with_reducible first | intro _ | apply wseq | apply zreg | apply thenQ_n | apply thenQ_r | apply thenQ_e | apply znil | apply wret | apply bodyQ_r | apply wblk | apply blkQ_n | apply blkQ_r | apply wskip | apply wexit)
    | apply wct rfl
    | apply wcf rfl
    | (with_reducible apply blkQ_x rfl)
    | (with_reducible apply blkQ_y rfl)
    | (with_reducible apply zcmp); rfl; exact tk; rfl; rfl; rfl
    | (with_reducible apply zne); rfl; exact tk; rfl; rfl; rfl; rfl
    | (with_reducible apply zar); rfl; rfl; rfl; rfl; omega; rfl; rfl
    | (with_reducible apply zix); rfl; exact tk; rfl; rfl; rfl; rfl; rfl; rfl; rfl; omega; rfl; rfl
    | (with_reducible apply zle); rfl; exact tk; rfl; rfl; rfl; rfl; omega; rfl; rfl; rfl; rfl
    | refine zdraw (id := 6) (by kernel_rfl) [(.p, 0), (.p, 1), (.p, 2), (.p, 4), (.p, 5), (.p, 6), (.t, 3), (.t, 7), (.p, 8)] [] (by kernel_rfl) rfl ?_)
  · rename_i hne
    exact endN [0, 1] rfl rfl rfl rfl rfl rfl (fun e => hne (by rw [e]))
  · rename_i hlen
    refine wloop (X := Int) (fun i => 0 ≤ i ∧ i ≤ l.length ∧ ∀ j : Int, 0 ≤ j → j < i → rd l j = rd m j) (fun i => ⟨26, 2, [(0, .c (.row 0 0 l.length)), (1, .c (.row 1 0 m.length)), (12, I l.length), (13, I i)], [ro 94 l, ro 94 m]⟩) (fun i => (l.length - i).toNat) 0 [0, 1] ⟨by omega, by omega, fun j h0 h1 => by omega⟩ ⟨rfl, rfl, rfl, rfl, rfl, rfl, rfl, rfl⟩ (fun i hi => ?_)
    obtain ⟨h0, hi, hall⟩ := hi
    repeat' (first
      | (with_reducible apply zd); rfl; exact tk; rfl
      | (with_reducible first | intro _ | apply wseq | apply zreg | apply thenQ_n | apply thenQ_r | apply thenQ_e | apply znil | apply wret | apply bodyQ_r | apply wblk | apply blkQ_n | apply blkQ_r | apply wskip | apply wexit)
      | (with_reducible apply zsn); exact aeq_Bal; rfl; rfl; rfl; rfl; rfl
      | apply wct rfl
      | apply wcf rfl
      | (with_reducible apply blkQ_x rfl)
      | (with_reducible apply blkQ_y rfl)
      | (with_reducible apply zcmp); rfl; exact tk; rfl; rfl; rfl
      | (with_reducible apply zne); rfl; exact tk; rfl; rfl; rfl; rfl
      | (with_reducible apply zar); rfl; rfl; rfl; rfl; omega; rfl; rfl
      | (with_reducible apply zix); rfl; exact tk; rfl; rfl; rfl; rfl; rfl; rfl; rfl; omega; rfl; rfl
      | (with_reducible apply zle); rfl; exact tk; rfl; rfl; rfl; rfl; omega; rfl; rfl; rfl; rfl
      | refine zdraw (id := 6) (by kernel_rfl) [(.p, 0), (.p, 1), (.p, 2), (.p, 4), (.p, 5), (.p, 6), (.t, 3), (.t, 7), (.p, 8)] [] (by kernel_rfl) rfl ?_)
    all_goals first
      | exact endY [0, 1] rfl rfl rfl rfl rfl rfl (ext_rd (by omega) (fun j h1 h2 => hall j h1 (by omega)))
      | exact endN [0, 1] rfl rfl rfl rfl rfl rfl (fun e => by subst e; simp_all)
      | exact ⟨i + 1, [0, 1], ⟨by omega, by omega, all_step hall (by assumption)⟩, by dsimp only; omega, rfl, rfl, rfl, rfl, rfl, rfl, rfl, rfl⟩
set_option maxHeartbeats 4000000 in
theorem slices_Equal_Lot {l m : List Lot} : FC Try.prog 80 [.c (.row 0 0 l.length), .c (.row 1 0 m.length)] ([ro 96 l, ro 96 m]) (B (dB (l = m))) ([ro 96 l, ro 96 m]) := by
  refine fent tk 26 [.tmp 4] Try.func80 (by kernel_rfl) rfl rfl rfl rfl rfl rfl rfl ?_
  refine wlen l 0 rfl (fun hl => ?_)
  repeat' (first
    | (with_reducible apply zd); rfl; exact tk; rfl
    | (with_reducible first | intro _ | apply wseq | apply zreg | apply thenQ_n | apply thenQ_r | apply thenQ_e | apply znil | apply wret | apply bodyQ_r | apply wblk | apply blkQ_n | apply blkQ_r | apply wskip | apply wexit)
    | apply wct rfl
    | apply wcf rfl
    | (with_reducible apply blkQ_x rfl)
    | (with_reducible apply blkQ_y rfl)
    | (with_reducible apply zcmp); rfl; exact tk; rfl; rfl; rfl
    | (with_reducible apply zne); rfl; exact tk; rfl; rfl; rfl; rfl
    | (with_reducible apply zar); rfl; rfl; rfl; rfl; omega; rfl; rfl
    | (with_reducible apply zix); rfl; exact tk; rfl; rfl; rfl; rfl; rfl; rfl; rfl; omega; rfl; rfl
    | (with_reducible apply zle); rfl; exact tk; rfl; rfl; rfl; rfl; omega; rfl; rfl; rfl; rfl
    | refine zdraw (id := 6) (by kernel_rfl) [(.p, 0), (.p, 1), (.p, 2), (.p, 4), (.p, 5), (.p, 6), (.t, 3), (.t, 7), (.p, 8)] [] (by kernel_rfl) rfl ?_)
  · rename_i hne
    exact endN [0, 1] rfl rfl rfl rfl rfl rfl (fun e => hne (by rw [e]))
  · rename_i hlen
    refine wloop (X := Int) (fun i => 0 ≤ i ∧ i ≤ l.length ∧ ∀ j : Int, 0 ≤ j → j < i → rd l j = rd m j) (fun i => ⟨26, 2, [(0, .c (.row 0 0 l.length)), (1, .c (.row 1 0 m.length)), (12, I l.length), (13, I i)], [ro 96 l, ro 96 m]⟩) (fun i => (l.length - i).toNat) 0 [0, 1] ⟨by omega, by omega, fun j h0 h1 => by omega⟩ ⟨rfl, rfl, rfl, rfl, rfl, rfl, rfl, rfl⟩ (fun i hi => ?_)
    obtain ⟨h0, hi, hall⟩ := hi
    repeat' (first
      | (with_reducible apply zd); rfl; exact tk; rfl
      | (with_reducible first | intro _ | apply wseq | apply zreg | apply thenQ_n | apply thenQ_r | apply thenQ_e | apply znil | apply wret | apply bodyQ_r | apply wblk | apply blkQ_n | apply blkQ_r | apply wskip | apply wexit)
      | (with_reducible apply zsn); exact aeq_Lot; rfl; rfl; rfl; rfl; rfl
      | apply wct rfl
      | apply wcf rfl
      | (with_reducible apply blkQ_x rfl)
      | (with_reducible apply blkQ_y rfl)
      | (with_reducible apply zcmp); rfl; exact tk; rfl; rfl; rfl
      | (with_reducible apply zne); rfl; exact tk; rfl; rfl; rfl; rfl
      | (with_reducible apply zar); rfl; rfl; rfl; rfl; omega; rfl; rfl
      | (with_reducible apply zix); rfl; exact tk; rfl; rfl; rfl; rfl; rfl; rfl; rfl; omega; rfl; rfl
      | (with_reducible apply zle); rfl; exact tk; rfl; rfl; rfl; rfl; omega; rfl; rfl; rfl; rfl
      | refine zdraw (id := 6) (by kernel_rfl) [(.p, 0), (.p, 1), (.p, 2), (.p, 4), (.p, 5), (.p, 6), (.t, 3), (.t, 7), (.p, 8)] [] (by kernel_rfl) rfl ?_)
    all_goals first
      | exact endY [0, 1] rfl rfl rfl rfl rfl rfl (ext_rd (by omega) (fun j h1 h2 => hall j h1 (by omega)))
      | exact endN [0, 1] rfl rfl rfl rfl rfl rfl (fun e => by subst e; simp_all)
      | exact ⟨i + 1, [0, 1], ⟨by omega, by omega, all_step hall (by assumption)⟩, by dsimp only; omega, rfl, rfl, rfl, rfl, rfl, rfl, rfl, rfl⟩
set_option maxHeartbeats 4000000 in
theorem slices_Equal_Trade {l m : List Trade} : FC Try.prog 81 [.c (.row 0 0 l.length), .c (.row 1 0 m.length)] ([ro 98 l, ro 98 m]) (B (dB (l = m))) ([ro 98 l, ro 98 m]) := by
  refine fent tk 26 [.tmp 4] Try.func81 (by kernel_rfl) rfl rfl rfl rfl rfl rfl rfl ?_
  refine wlen l 0 rfl (fun hl => ?_)
  repeat' (first
    | (with_reducible apply zd); rfl; exact tk; rfl
    | (with_reducible first | intro _ | apply wseq | apply zreg | apply thenQ_n | apply thenQ_r | apply thenQ_e | apply znil | apply wret | apply bodyQ_r | apply wblk | apply blkQ_n | apply blkQ_r | apply wskip | apply wexit)
    | apply wct rfl
    | apply wcf rfl
    | (with_reducible apply blkQ_x rfl)
    | (with_reducible apply blkQ_y rfl)
    | (with_reducible apply zcmp); rfl; exact tk; rfl; rfl; rfl
    | (with_reducible apply zne); rfl; exact tk; rfl; rfl; rfl; rfl
    | (with_reducible apply zar); rfl; rfl; rfl; rfl; omega; rfl; rfl
    | (with_reducible apply zix); rfl; exact tk; rfl; rfl; rfl; rfl; rfl; rfl; rfl; omega; rfl; rfl
    | (with_reducible apply zle); rfl; exact tk; rfl; rfl; rfl; rfl; omega; rfl; rfl; rfl; rfl
    | refine zdraw (id := 6) (by kernel_rfl) [(.p, 0), (.p, 1), (.p, 2), (.p, 4), (.p, 5), (.p, 6), (.t, 3), (.t, 7), (.p, 8)] [] (by kernel_rfl) rfl ?_)
  · rename_i hne
    exact endN [0, 1] rfl rfl rfl rfl rfl rfl (fun e => hne (by rw [e]))
  · rename_i hlen
    refine wloop (X := Int) (fun i => 0 ≤ i ∧ i ≤ l.length ∧ ∀ j : Int, 0 ≤ j → j < i → rd l j = rd m j) (fun i => ⟨26, 2, [(0, .c (.row 0 0 l.length)), (1, .c (.row 1 0 m.length)), (12, I l.length), (13, I i)], [ro 98 l, ro 98 m]⟩) (fun i => (l.length - i).toNat) 0 [0, 1] ⟨by omega, by omega, fun j h0 h1 => by omega⟩ ⟨rfl, rfl, rfl, rfl, rfl, rfl, rfl, rfl⟩ (fun i hi => ?_)
    obtain ⟨h0, hi, hall⟩ := hi
    repeat' (first
      | (with_reducible apply zd); rfl; exact tk; rfl
      | (with_reducible first | intro _ | apply wseq | apply zreg | apply thenQ_n | apply thenQ_r | apply thenQ_e | apply znil | apply wret | apply bodyQ_r | apply wblk | apply blkQ_n | apply blkQ_r | apply wskip | apply wexit)
      | (with_reducible apply zsn); exact aeq_Trade; rfl; rfl; rfl; rfl; rfl
      | apply wct rfl
      | apply wcf rfl
      | (with_reducible apply blkQ_x rfl)
      | (with_reducible apply blkQ_y rfl)
      | (with_reducible apply zcmp); rfl; exact tk; rfl; rfl; rfl
      | (with_reducible apply zne); rfl; exact tk; rfl; rfl; rfl; rfl
      | (with_reducible apply zar); rfl; rfl; rfl; rfl; omega; rfl; rfl
      | (with_reducible apply zix); rfl; exact tk; rfl; rfl; rfl; rfl; rfl; rfl; rfl; omega; rfl; rfl
      | (with_reducible apply zle); rfl; exact tk; rfl; rfl; rfl; rfl; omega; rfl; rfl; rfl; rfl
      | refine zdraw (id := 6) (by kernel_rfl) [(.p, 0), (.p, 1), (.p, 2), (.p, 4), (.p, 5), (.p, 6), (.t, 3), (.t, 7), (.p, 8)] [] (by kernel_rfl) rfl ?_)
    all_goals first
      | exact endY [0, 1] rfl rfl rfl rfl rfl rfl (ext_rd (by omega) (fun j h1 h2 => hall j h1 (by omega)))
      | exact endN [0, 1] rfl rfl rfl rfl rfl rfl (fun e => by subst e; simp_all)
      | exact ⟨i + 1, [0, 1], ⟨by omega, by omega, all_step hall (by assumption)⟩, by dsimp only; omega, rfl, rfl, rfl, rfl, rfl, rfl, rfl, rfl⟩
end Go.Proofs.Ytbbeaghhchjkgaa.Sh
