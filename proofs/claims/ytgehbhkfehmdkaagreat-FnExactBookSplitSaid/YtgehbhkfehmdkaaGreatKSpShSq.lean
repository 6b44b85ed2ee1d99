/- A paper's pieces made more or fewer: both sides. No condition. -/
import Derived.Test.YtgehbhkfehmdkaaGreatKSpShSc
import Derived.Test.YtgehbhkfehmdkaaGreatKSpShSp
import Derived.Test.YtgehbhkfehmdkaaGreatKSpShMw
namespace Go.Proofs.YtgehbhkfehmdkaaGreat.Sh
open Go.RowKit
set_option linter.unusedVariables false
set_option linter.unusedSimpArgs false
theorem spG_end {was is : List Int} {n : Int} (h1 : was.length = n) (h2 : is.length = n) : spG was is n = sumF id is - sumF id was := by
  unfold spG
  rw [pf_all (by omega), pf_all (by omega)]
theorem spL_sum {pa c : Int} {who was is : List Int} : ∀ k : Nat, (k : Int) ≤ was.length → (k : Int) ≤ is.length → sumF (legB c) (spL pa who was is k) = if pa = c then spG was is k else 0
  | 0, _, _ => by show (0 : Int) = if pa = c then (0 : Int) else 0; split <;> rfl
  | k + 1, hk, hk2 => by
    have ih := spL_sum (pa := pa) (c := c) (who := who) (was := was) (is := is) k (by omega) (by omega)
    have e : ((k + 1 : Nat) : Int) = (k : Int) + 1 := by omega
    rw [e, spL_succ (by omega), sumF_append, sumF_one, ih, spG_succ ⟨by omega, by omega⟩ (by omega)]
    unfold legB
    dsimp only
    split <;> omega
theorem mem_spL {pa i : Int} {who was is : List Int} {x : Leg} (h0 : 0 ≤ i) (h : x ∈ spL pa who was is i) : ∃ k : Int, (0 ≤ k ∧ k < i) ∧ x = ⟨rd who k, pa, rd is k - rd was k⟩ := by
  obtain ⟨k, hk, rfl⟩ := mem_rd h
  rw [spL_len h0] at hk
  exact ⟨k, hk, rd_mkl (by omega)⟩
theorem splL_ok {pa iss : Int} {who was is : List Int} (hp : isNo pa) (hc : isNo iss) (hw : ∀ x ∈ who, isNo x) (hl : was.length = who.length ∧ is.length = who.length) (h40 : who.length ≤ 40) (h1 : ∀ x ∈ was, inP x 0 1000000000000000) (h2 : ∀ x ∈ is, inP x 0 1000000000000000) (s1 : 0 ≤ sumF id was ∧ sumF id was ≤ 1000000000000000) (s2 : 0 ≤ sumF id is ∧ sumF id is ≤ 1000000000000000) : LegsOk (splL pa iss who was is) := by
  have hlen := spL_len (pa := pa) (who := who) (was := was) (is := is) (i := who.length) (by omega)
  have hg := spG_end (was := was) (is := is) (n := who.length) (by omega) (by omega)
  refine ⟨⟨by show (spL pa who was is who.length ++ [_]).length ≤ 160; rw [List.length_append, List.length_cons, List.length_nil]; omega, fun x hx => ?_⟩, fun x hx => ?_⟩
  · rcases List.mem_append.1 hx with hx | hx
    · obtain ⟨k, hk, rfl⟩ := mem_spL (by omega) hx
      have b1 : 0 ≤ rd was k ∧ rd was k ≤ 1000000000000000 := h1 _ (rd_mem (l := was) (i := k) (by omega))
      have b2 : 0 ≤ rd is k ∧ rd is k ≤ 1000000000000000 := h2 _ (rd_mem (l := is) (i := k) (by omega))
      exact ⟨hw _ (rd_mem hk), hp, by show -1000000000000000 ≤ rd is k - rd was k ∧ rd is k - rd was k ≤ 1000000000000000; omega⟩
    · rcases List.mem_singleton.1 hx with rfl
      exact ⟨hc, hp, by show -1000000000000000 ≤ -spG was is who.length ∧ -spG was is who.length ≤ 1000000000000000; omega⟩
  · have e := spL_sum (pa := pa) (c := x.Instr) (who := who) (was := was) (is := is) who.length (by omega) (by omega)
    rw [legsSum, sumF_append, sumF_one, e]
    unfold legB
    dsimp only
    split <;> omega
noncomputable def bookSplit (b : Books) (pa n d iss : Int) : Books × Int × Int :=
  sel (¬ (BooksOk b ∧ isNo pa ∧ isNo iss ∧ inP n 1 1000000 ∧ inP d 1 1000000)) (⟨[], [], [], [], [], 0⟩, 0, 1)
  (sel (insKind b.Instrs pa = 0 ∨ accKind b.Accounts iss = 0) (b, 0, 3)
  (sel (insKind b.Instrs pa ≠ 2 ∨ accKind b.Accounts iss ≠ 2) (b, 0, 4)
  (sel (¬ HeldOk b pa) (b, 0, 8)
  (sel (¬ 0 < ((who b.Accounts b.Bals pa).length : Int)) (b, 0, 5)
  (sel (¬ mdOk (sumF id (much b.Accounts b.Bals pa)) n d) (b, 0, 8)
  (sel (¬ (poR b (splL pa iss (who b.Accounts b.Bals pa) (much b.Accounts b.Bals pa) (shs (sumF id (much b.Accounts b.Bals pa) * n / d) (much b.Accounts b.Bals pa)))).2 = 0) (b, 0, pCode (poR b (splL pa iss (who b.Accounts b.Bals pa) (much b.Accounts b.Bals pa) (shs (sumF id (much b.Accounts b.Bals pa) * n / d) (much b.Accounts b.Bals pa)))).2)
  (sel (¬ (scN b.Lots pa (who b.Accounts b.Bals pa) (shs (sumF id (much b.Accounts b.Bals pa) * n / d) (much b.Accounts b.Bals pa)) ((who b.Accounts b.Bals pa).length : Int).toNat).2 = 0) (b, 0, 7)
  (⟨b.Accounts, b.Instrs, (poR b (splL pa iss (who b.Accounts b.Bals pa) (much b.Accounts b.Bals pa) (shs (sumF id (much b.Accounts b.Bals pa) * n / d) (much b.Accounts b.Bals pa)))).1, (scN b.Lots pa (who b.Accounts b.Bals pa) (shs (sumF id (much b.Accounts b.Bals pa) * n / d) (much b.Accounts b.Bals pa)) ((who b.Accounts b.Bals pa).length : Int).toNat).1, b.Trades, b.Lot⟩, (sumF id (much b.Accounts b.Bals pa) * n / d), 0))))))))
theorem bookSplit_0 {b : Books} {pa n d iss : Int}  (c0 : ¬ (BooksOk b ∧ isNo pa ∧ isNo iss ∧ inP n 1 1000000 ∧ inP d 1 1000000)) : bookSplit b pa n d iss = (⟨[], [], [], [], [], 0⟩, 0, 1) := by
  rw [bookSplit, sel_t c0]
theorem bookSplit_1 {b : Books} {pa n d iss : Int} (c0 : ¬ (¬ (BooksOk b ∧ isNo pa ∧ isNo iss ∧ inP n 1 1000000 ∧ inP d 1 1000000))) (c1 : insKind b.Instrs pa = 0 ∨ accKind b.Accounts iss = 0) : bookSplit b pa n d iss = (b, 0, 3) := by
  rw [bookSplit, sel_f c0, sel_t c1]
theorem bookSplit_2 {b : Books} {pa n d iss : Int} (c0 : ¬ (¬ (BooksOk b ∧ isNo pa ∧ isNo iss ∧ inP n 1 1000000 ∧ inP d 1 1000000))) (c1 : ¬ (insKind b.Instrs pa = 0 ∨ accKind b.Accounts iss = 0)) (c2 : insKind b.Instrs pa ≠ 2 ∨ accKind b.Accounts iss ≠ 2) : bookSplit b pa n d iss = (b, 0, 4) := by
  rw [bookSplit, sel_f c0, sel_f c1, sel_t c2]
theorem bookSplit_3 {b : Books} {pa n d iss : Int} (c0 : ¬ (¬ (BooksOk b ∧ isNo pa ∧ isNo iss ∧ inP n 1 1000000 ∧ inP d 1 1000000))) (c1 : ¬ (insKind b.Instrs pa = 0 ∨ accKind b.Accounts iss = 0)) (c2 : ¬ (insKind b.Instrs pa ≠ 2 ∨ accKind b.Accounts iss ≠ 2)) (c3 : ¬ HeldOk b pa) : bookSplit b pa n d iss = (b, 0, 8) := by
  rw [bookSplit, sel_f c0, sel_f c1, sel_f c2, sel_t c3]
theorem bookSplit_4 {b : Books} {pa n d iss : Int} (c0 : ¬ (¬ (BooksOk b ∧ isNo pa ∧ isNo iss ∧ inP n 1 1000000 ∧ inP d 1 1000000))) (c1 : ¬ (insKind b.Instrs pa = 0 ∨ accKind b.Accounts iss = 0)) (c2 : ¬ (insKind b.Instrs pa ≠ 2 ∨ accKind b.Accounts iss ≠ 2)) (c3 : ¬ (¬ HeldOk b pa)) (c4 : ¬ 0 < ((who b.Accounts b.Bals pa).length : Int)) : bookSplit b pa n d iss = (b, 0, 5) := by
  rw [bookSplit, sel_f c0, sel_f c1, sel_f c2, sel_f c3, sel_t c4]
theorem bookSplit_5 {b : Books} {pa n d iss : Int} (c0 : ¬ (¬ (BooksOk b ∧ isNo pa ∧ isNo iss ∧ inP n 1 1000000 ∧ inP d 1 1000000))) (c1 : ¬ (insKind b.Instrs pa = 0 ∨ accKind b.Accounts iss = 0)) (c2 : ¬ (insKind b.Instrs pa ≠ 2 ∨ accKind b.Accounts iss ≠ 2)) (c3 : ¬ (¬ HeldOk b pa)) (c4 : ¬ (¬ 0 < ((who b.Accounts b.Bals pa).length : Int))) (c5 : ¬ mdOk (sumF id (much b.Accounts b.Bals pa)) n d) : bookSplit b pa n d iss = (b, 0, 8) := by
  rw [bookSplit, sel_f c0, sel_f c1, sel_f c2, sel_f c3, sel_f c4, sel_t c5]
theorem bookSplit_6 {b : Books} {pa n d iss : Int} (c0 : ¬ (¬ (BooksOk b ∧ isNo pa ∧ isNo iss ∧ inP n 1 1000000 ∧ inP d 1 1000000))) (c1 : ¬ (insKind b.Instrs pa = 0 ∨ accKind b.Accounts iss = 0)) (c2 : ¬ (insKind b.Instrs pa ≠ 2 ∨ accKind b.Accounts iss ≠ 2)) (c3 : ¬ (¬ HeldOk b pa)) (c4 : ¬ (¬ 0 < ((who b.Accounts b.Bals pa).length : Int))) (c5 : ¬ (¬ mdOk (sumF id (much b.Accounts b.Bals pa)) n d)) (c6 : ¬ (poR b (splL pa iss (who b.Accounts b.Bals pa) (much b.Accounts b.Bals pa) (shs (sumF id (much b.Accounts b.Bals pa) * n / d) (much b.Accounts b.Bals pa)))).2 = 0) : bookSplit b pa n d iss = (b, 0, pCode (poR b (splL pa iss (who b.Accounts b.Bals pa) (much b.Accounts b.Bals pa) (shs (sumF id (much b.Accounts b.Bals pa) * n / d) (much b.Accounts b.Bals pa)))).2) := by
  rw [bookSplit, sel_f c0, sel_f c1, sel_f c2, sel_f c3, sel_f c4, sel_f c5, sel_t c6]
theorem bookSplit_7 {b : Books} {pa n d iss : Int} (c0 : ¬ (¬ (BooksOk b ∧ isNo pa ∧ isNo iss ∧ inP n 1 1000000 ∧ inP d 1 1000000))) (c1 : ¬ (insKind b.Instrs pa = 0 ∨ accKind b.Accounts iss = 0)) (c2 : ¬ (insKind b.Instrs pa ≠ 2 ∨ accKind b.Accounts iss ≠ 2)) (c3 : ¬ (¬ HeldOk b pa)) (c4 : ¬ (¬ 0 < ((who b.Accounts b.Bals pa).length : Int))) (c5 : ¬ (¬ mdOk (sumF id (much b.Accounts b.Bals pa)) n d)) (c6 : ¬ (¬ (poR b (splL pa iss (who b.Accounts b.Bals pa) (much b.Accounts b.Bals pa) (shs (sumF id (much b.Accounts b.Bals pa) * n / d) (much b.Accounts b.Bals pa)))).2 = 0)) (c7 : ¬ (scN b.Lots pa (who b.Accounts b.Bals pa) (shs (sumF id (much b.Accounts b.Bals pa) * n / d) (much b.Accounts b.Bals pa)) ((who b.Accounts b.Bals pa).length : Int).toNat).2 = 0) : bookSplit b pa n d iss = (b, 0, 7) := by
  rw [bookSplit, sel_f c0, sel_f c1, sel_f c2, sel_f c3, sel_f c4, sel_f c5, sel_f c6, sel_t c7]
theorem bookSplit_8 {b : Books} {pa n d iss : Int} (c0 : ¬ (¬ (BooksOk b ∧ isNo pa ∧ isNo iss ∧ inP n 1 1000000 ∧ inP d 1 1000000))) (c1 : ¬ (insKind b.Instrs pa = 0 ∨ accKind b.Accounts iss = 0)) (c2 : ¬ (insKind b.Instrs pa ≠ 2 ∨ accKind b.Accounts iss ≠ 2)) (c3 : ¬ (¬ HeldOk b pa)) (c4 : ¬ (¬ 0 < ((who b.Accounts b.Bals pa).length : Int))) (c5 : ¬ (¬ mdOk (sumF id (much b.Accounts b.Bals pa)) n d)) (c6 : ¬ (¬ (poR b (splL pa iss (who b.Accounts b.Bals pa) (much b.Accounts b.Bals pa) (shs (sumF id (much b.Accounts b.Bals pa) * n / d) (much b.Accounts b.Bals pa)))).2 = 0)) (c7 : ¬ (¬ (scN b.Lots pa (who b.Accounts b.Bals pa) (shs (sumF id (much b.Accounts b.Bals pa) * n / d) (much b.Accounts b.Bals pa)) ((who b.Accounts b.Bals pa).length : Int).toNat).2 = 0)) : bookSplit b pa n d iss = (⟨b.Accounts, b.Instrs, (poR b (splL pa iss (who b.Accounts b.Bals pa) (much b.Accounts b.Bals pa) (shs (sumF id (much b.Accounts b.Bals pa) * n / d) (much b.Accounts b.Bals pa)))).1, (scN b.Lots pa (who b.Accounts b.Bals pa) (shs (sumF id (much b.Accounts b.Bals pa) * n / d) (much b.Accounts b.Bals pa)) ((who b.Accounts b.Bals pa).length : Int).toNat).1, b.Trades, b.Lot⟩, (sumF id (much b.Accounts b.Bals pa) * n / d), 0) := by
  rw [bookSplit, sel_f c0, sel_f c1, sel_f c2, sel_f c3, sel_f c4, sel_f c5, sel_f c6, sel_f c7]
set_option maxHeartbeats 4000000 in
theorem impl_BookSplit {ba : List Account} {bi : List Instr} {bb : List Bal} {bl : List Lot} {bt : List Trade} {bn : Int} {pa n d iss : Int} : FC Tryz.prog 30 [bkV 0 ⟨ba, bi, bb, bl, bt, bn⟩, I pa, I n, I d, I iss] (bkR ⟨ba, bi, bb, bl, bt, bn⟩) (.tup [bkE 5 (bookSplit ⟨ba, bi, bb, bl, bt, bn⟩ pa n d iss).1, I (bookSplit ⟨ba, bi, bb, bl, bt, bn⟩ pa n d iss).2.1, I (bookSplit ⟨ba, bi, bb, bl, bt, bn⟩ pa n d iss).2.2]) (bkR ⟨ba, bi, bb, bl, bt, bn⟩ ++ bkW (bookSplit ⟨ba, bi, bb, bl, bt, bn⟩ pa n d iss).1) := by
  refine fent tk 121 [.cell 10 _, .tmp 11, .tmp 12] Tryz.func30 (by kernel_rfl) rfl rfl rfl rfl rfl rfl rfl ?_
  by_cases hok : BooksOk ⟨ba, bi, bb, bl, bt, bn⟩
  rotate_left
  ·
    rw [bookSplit_0 (b := ⟨ba, bi, bb, bl, bt, bn⟩) (fun h => hok h.1)]
    repeat' (first
 | (intro h9; exfalso; first | contradiction | omega)
 | (with_reducible apply znilC (d := 44) 0 42 2); rfl; rfl; rfl; rfl; rfl
 | (with_reducible apply znilC (d := 44) 1 74 2); rfl; rfl; rfl; rfl; rfl
 | (with_reducible apply znilC (d := 44) 2 135 3); rfl; rfl; rfl; rfl; rfl
 | (with_reducible apply znilC (d := 44) 3 137 5); rfl; rfl; rfl; rfl; rfl
 | (with_reducible apply znilC (d := 44) 4 103 8); rfl; rfl; rfl; rfl; rfl
 | (with_reducible apply zd); rfl; exact tk; rfl
 | (with_reducible first | intro _ | apply wseq | apply zreg | apply thenQ_n | apply thenQ_r | apply thenQ_e | apply znil | apply wret | apply bodyQ_r | apply wblk | apply blkQ_n | apply blkQ_r | apply wskip | apply wexit)
 | apply wct rfl
 | (with_reducible apply zcp); (iterate 10 rfl); (first | exact impl_BooksOk | exact impl_nosOk | exact impl_in | exact impl_Books_isInstr); rfl; rfl
 | fail)
    all_goals first | exact endV [0, 1, 2, 3, 4, 7, 8, 9, 10, 11] rfl rfl rfl rfl rfl rfl | exact endV [0, 1, 2, 3, 4, 8, 9, 10, 11, 12] rfl rfl rfl rfl rfl rfl | trace_state
  by_cases hta : isNo pa ∧ isNo iss ∧ inP n 1 1000000 ∧ inP d 1 1000000
  rotate_left
  ·
    rw [bookSplit_0 (b := ⟨ba, bi, bb, bl, bt, bn⟩) (fun h => hta h.2)]
    repeat' (first
 | (intro h9; exfalso; first | contradiction | omega)
 | (intro h9; refine absurd ⟨?_, ?_, ?_, ?_⟩ hta; exact (show ∀ x ∈ [pa, iss], isNo x by assumption) _ (.head _); exact (show ∀ x ∈ [pa, iss], isNo x by assumption) _ (.tail _ (.head _)); assumption; assumption)
 | (with_reducible apply znilC (d := 44) 0 42 2); rfl; rfl; rfl; rfl; rfl
 | (with_reducible apply znilC (d := 44) 1 74 2); rfl; rfl; rfl; rfl; rfl
 | (with_reducible apply znilC (d := 44) 2 135 3); rfl; rfl; rfl; rfl; rfl
 | (with_reducible apply znilC (d := 44) 3 137 5); rfl; rfl; rfl; rfl; rfl
 | (with_reducible apply znilC (d := 44) 4 103 8); rfl; rfl; rfl; rfl; rfl
 | (with_reducible apply zd); rfl; exact tk; rfl
 | (with_reducible first | intro _ | apply wseq | apply zreg | apply thenQ_n | apply thenQ_r | apply thenQ_e | apply znil | apply wret | apply bodyQ_r | apply wblk | apply blkQ_n | apply blkQ_r | apply wskip | apply wexit)
 | apply wct rfl
 | (with_reducible apply zlit (α := Int) (e := 3)); rfl; exact tk; (iterate 13 rfl)
 | (with_reducible apply zcp); (iterate 10 rfl); (first | exact impl_BooksOk | exact impl_nosOk | exact impl_in | exact impl_Books_isInstr); rfl; rfl
 | fail)
    all_goals first | exact endV [0, 1, 2, 3, 4, 7, 8, 9, 10, 11] rfl rfl rfl rfl rfl rfl | exact endV [0, 1, 2, 3, 4, 8, 9, 10, 11, 12] rfl rfl rfl rfl rfl rfl | trace_state
  have hA := hok.acc
  have hI := hok.ins
  have hal := hA.2
  obtain ⟨k1, k2, k3, k4⟩ := id hta
  have hno : ∀ x ∈ [pa, iss], isNo x := fun x hx => by simp only [List.mem_cons, List.not_mem_nil, or_false] at hx; rcases hx with rfl | rfl <;> assumption
  dsimp only at hA hI hal
  have c0 : ¬ ¬ (BooksOk ⟨ba, bi, bb, bl, bt, bn⟩ ∧ isNo pa ∧ isNo iss ∧ inP n 1 1000000 ∧ inP d 1 1000000) := fun k => k ⟨hok, hta⟩
  by_cases hh : HeldOk ⟨ba, bi, bb, bl, bt, bn⟩ pa ∧ 0 < ((who ba bb pa).length : Int)
  rotate_left
  ·
    have hnn : ([] : List Int).length = 0 := rfl
    repeat' (first
 | (intro h9; exfalso; first | contradiction | omega)
 | (with_reducible apply zds); exact tk; rfl; rfl; rfl; rfl; rfl
 | (with_reducible apply zd); rfl; exact tk; rfl
 | (with_reducible first | intro _ | apply wseq | apply zreg | apply thenQ_n | apply thenQ_r | apply thenQ_e | apply znil | apply wret | apply bodyQ_r | apply wblk | apply blkQ_n | apply blkQ_r | apply wskip | apply wexit)
 | apply wct rfl
 | apply wcf rfl
 | (with_reducible apply zeq); rfl; exact tk; rfl; rfl; rfl; rfl
 | (with_reducible apply zne); rfl; exact tk; rfl; rfl; rfl; rfl
 | (with_reducible apply zlit (α := Int) (e := 3)); rfl; exact tk; (iterate 13 rfl)
 | (with_reducible apply zcp); (iterate 10 rfl); (first | exact impl_BooksOk | exact impl_nosOk | exact impl_in | exact impl_Books_isInstr); rfl; rfl
 | (with_reducible apply zcf); (iterate 10 rfl); (first | exact impl_cloneBooks (by first | assumption | exact BooksOk.midB (by assumption)) | exact impl_Shares (by assumption) | exact impl_splitLegs (by assumption) (by assumption) (by omega)); rfl; rfl; rfl; rfl; rfl
 | (with_reducible apply zcsf); (iterate 10 rfl); exact impl_Held; (iterate 8 rfl)
 | (with_reducible apply zc); (iterate 10 rfl); (first | exact impl_Books_kind | exact impl_Books_instr | exact impl_MulDiv_ok (by first | assumption | omega) | exact impl_MulDiv_no (by assumption)); exact fun _ => rfl; rfl; rfl; rfl
 | (with_reducible apply zcs); (iterate 10 rfl); exact impl_MulDiv; exact fun _ => rfl; exact fun _ => rfl; rfl; rfl; rfl; rfl
 | fail)
    all_goals first | (exfalso; exact hh ⟨by assumption, by omega⟩) | skip
    all_goals first
      | (rw [bookSplit_1 (b := ⟨ba, bi, bb, bl, bt, bn⟩) c0 (by dsimp only; omega)]
         exact endV [0, 1, 2, 3, 4, 8, 9, 10, 11, 12] rfl rfl rfl rfl rfl rfl)
      | (rw [bookSplit_2 (b := ⟨ba, bi, bb, bl, bt, bn⟩) c0 (by dsimp only; omega) (by dsimp only; omega)]
         exact endV [0, 1, 2, 3, 4, 8, 9, 10, 11, 12] rfl rfl rfl rfl rfl rfl)
      | (rw [bookSplit_3 (b := ⟨ba, bi, bb, bl, bt, bn⟩) c0 (by dsimp only; omega) (by dsimp only; omega) (by assumption)]
         exact endV [0, 1, 2, 3, 4, 8, 9, 10, 11, 12] rfl rfl rfl rfl rfl rfl)
      | (rw [bookSplit_4 (b := ⟨ba, bi, bb, bl, bt, bn⟩) c0 (by dsimp only; omega) (by dsimp only; omega) (fun k => k (by assumption)) (by dsimp only; omega)]
         exact endV [0, 1, 2, 3, 4, 8, 9, 10, 11, 12] rfl rfl rfl rfl rfl rfl)
      | trace_state
  obtain ⟨hhe, hwl⟩ := hh
  by_cases hmd : mdOk (sumF id (much ba bb pa)) n d
  rotate_left
  ·
    repeat' (first
 | (intro h9; exfalso; first | contradiction | omega)
 | (with_reducible apply zds); exact tk; rfl; rfl; rfl; rfl; rfl
 | (with_reducible apply zd); rfl; exact tk; rfl
 | (with_reducible first | intro _ | apply wseq | apply zreg | apply thenQ_n | apply thenQ_r | apply thenQ_e | apply znil | apply wret | apply bodyQ_r | apply wblk | apply blkQ_n | apply blkQ_r | apply wskip | apply wexit)
 | apply wct rfl
 | apply wcf rfl
 | (with_reducible apply zeq); rfl; exact tk; rfl; rfl; rfl; rfl
 | (with_reducible apply zne); rfl; exact tk; rfl; rfl; rfl; rfl
 | (with_reducible apply zlit (α := Int) (e := 3)); rfl; exact tk; (iterate 13 rfl)
 | (with_reducible apply zcp); (iterate 10 rfl); (first | exact impl_BooksOk | exact impl_nosOk | exact impl_in | exact impl_Books_isInstr); rfl; rfl
 | (with_reducible apply zcf); (iterate 10 rfl); (first | exact impl_cloneBooks (by first | assumption | exact BooksOk.midB (by assumption)) | exact impl_Shares (by assumption) | exact impl_splitLegs (by assumption) (by assumption) (by omega)); rfl; rfl; rfl; rfl; rfl
 | (with_reducible apply zcsf); (iterate 10 rfl); exact impl_Held; (iterate 8 rfl)
 | (with_reducible apply zc); (iterate 10 rfl); (first | exact impl_Books_kind | exact impl_Books_instr | exact impl_MulDiv_ok (by first | assumption | omega) | exact impl_MulDiv_no (by assumption)); exact fun _ => rfl; rfl; rfl; rfl
 | fail)
    all_goals first
      | (rw [bookSplit_1 (b := ⟨ba, bi, bb, bl, bt, bn⟩) c0 (by dsimp only; omega)]
         exact endV [0, 1, 2, 3, 4, 8, 9, 10, 11, 12] rfl rfl rfl rfl rfl rfl)
      | (rw [bookSplit_2 (b := ⟨ba, bi, bb, bl, bt, bn⟩) c0 (by dsimp only; omega) (by dsimp only; omega)]
         exact endV [0, 1, 2, 3, 4, 8, 9, 10, 11, 12] rfl rfl rfl rfl rfl rfl)
      | (rw [bookSplit_5 (b := ⟨ba, bi, bb, bl, bt, bn⟩) c0 (by dsimp only; omega) (by dsimp only; omega) (fun k => k hhe) (fun k => k hwl) hmd]
         exact endV [0, 1, 2, 3, 4, 8, 9, 10, 11, 12] rfl rfl rfl rfl rfl rfl)
      | (exfalso; omega)
      | trace_state
  have hall : 0 ≤ sumF id (much ba bb pa) * n / d ∧ sumF id (much ba bb pa) * n / d ≤ 1000000000000000 := ⟨Int.ediv_nonneg (md_ab (mdIn hmd).1 (mdIn hmd).2.1).1 (by have := (mdIn hmd).2.2; omega), hmd.2.2.2⟩
  have hsh := held_sh (t := sumF id (much ba bb pa) * n / d) hhe hwl hall
  dsimp only at hsh
  have hwn := who_no (bb := bb) (p := pa) hA
  have hwm := much_len ba bb pa
  have hsl := shs_len (sumF id (much ba bb pa) * n / d) (much ba bb pa)
  have hwb := who_len ba bb pa
  have hsb := shs_le hsh
  have hwx : ∀ x ∈ much ba bb pa, inP x 0 1000000000000000 := hsh.1.2.1
  have hix : ∀ x ∈ shs (sumF id (much ba bb pa) * n / d) (much ba bb pa), inP x 0 1000000000000000 := fun x hx => ⟨(hsb x hx).1, Int.le_trans (hsb x hx).2 hall.2⟩
  have hpn := pC_ne (pN ba bb (splL pa iss (who ba bb pa) (much ba bb pa) (shs (sumF id (much ba bb pa) * n / d) (much ba bb pa))))
  have hlx : (shs (sumF id (much ba bb pa) * n / d) (much ba bb pa)).length = (who ba bb pa).length ∧ 0 < (who ba bb pa).length ∧ (who ba bb pa).length ≤ 100 := by omega
  have hs1 : sumF id (shs (sumF id (much ba bb pa) * n / d) (much ba bb pa)) = (sumF id (much ba bb pa) * n / d) := shs_sum hsh
  have ham := hhe.2
  unfold amountOk inP at ham
  dsimp only at ham
  have hmn : 0 ≤ sumF id (much ba bb pa) := (mdIn hmd).1.1
  have hlg := splL_ok (pa := pa) (iss := iss) (who := (who ba bb pa)) (was := (much ba bb pa)) (is := (shs (sumF id (much ba bb pa) * n / d) (much ba bb pa))) k1 k2 hwn (by omega) (by omega) hwx hix ⟨hmn, ham.2⟩ (by rw [hs1]; exact hall)
  have hpc := poR_code hok hlg
  have hge := spG_end (was := (much ba bb pa)) (is := (shs (sumF id (much ba bb pa) * n / d) (much ba bb pa))) (n := (who ba bb pa).length) (by omega) (by omega)
  rw [hs1] at hge
  have c4 : ¬ ¬ HeldOk (⟨ba, bi, bb, bl, bt, bn⟩ : Books) pa := fun k => k hhe
  have c5 : ¬ ¬ 0 < ((who (⟨ba, bi, bb, bl, bt, bn⟩ : Books).Accounts (⟨ba, bi, bb, bl, bt, bn⟩ : Books).Bals pa).length : Int) := fun k => k hwl
  have c6 : ¬ ¬ mdOk (sumF id (much (⟨ba, bi, bb, bl, bt, bn⟩ : Books).Accounts (⟨ba, bi, bb, bl, bt, bn⟩ : Books).Bals pa)) n d := fun k => k hmd
  repeat' (first
 | (intro h9; exfalso; first | contradiction | omega)
 | (with_reducible apply zds); exact tk; rfl; rfl; rfl; rfl; rfl
 | (with_reducible apply zd); rfl; exact tk; rfl
 | (with_reducible first | intro _ | apply wseq | apply zreg | apply thenQ_n | apply thenQ_r | apply thenQ_e | apply znil | apply wret | apply bodyQ_r | apply wblk | apply blkQ_n | apply blkQ_r | apply wskip | apply wexit)
 | apply wct rfl
 | apply wcf rfl
 | (with_reducible apply zeq); rfl; exact tk; rfl; rfl; rfl; rfl
 | (with_reducible apply zne); rfl; exact tk; rfl; rfl; rfl; rfl
 | (with_reducible apply zlit (α := Int) (e := 3)); rfl; exact tk; (iterate 13 rfl)
 | (with_reducible apply zcp); (iterate 10 rfl); (first | exact impl_BooksOk | exact impl_nosOk | exact impl_in | exact impl_Books_isInstr); rfl; rfl
 | (with_reducible apply zcf); (iterate 10 rfl); (first | exact impl_cloneBooks (by first | assumption | exact BooksOk.midB (by assumption)) | exact impl_Shares (by assumption) | exact impl_splitLegs (by assumption) (by assumption) (by omega)); rfl; rfl; rfl; rfl; rfl
 | (with_reducible apply zcsf); (iterate 10 rfl); exact impl_Held; (iterate 8 rfl)
 | (with_reducible apply zc); (iterate 10 rfl); (first | exact impl_Books_kind | exact impl_Books_instr | exact impl_MulDiv_ok (by first | assumption | omega) | exact impl_MulDiv_no (by assumption)); exact fun _ => rfl; rfl; rfl; rfl
 | (with_reducible apply zcwp  [true,true,true,true,true,true,true]); (iterate 10 rfl); exact impl_Books_post (by omega); (iterate 6 rfl)
 | (with_reducible apply zcwp  [true,false,false,true,true,true,false,true]); (iterate 10 rfl); exact impl_Books_scaled (by omega); (iterate 6 rfl)
 | fail)
  all_goals first
    | (rw [bookSplit_1 (b := ⟨ba, bi, bb, bl, bt, bn⟩) c0 (by dsimp only; omega)]
       exact endV [0, 1, 2, 3, 4, 8, 9, 10, 11, 12] rfl rfl rfl rfl rfl rfl)
    | (rw [bookSplit_2 (b := ⟨ba, bi, bb, bl, bt, bn⟩) c0 (by dsimp only; omega) (by dsimp only; omega)]
       exact endV [0, 1, 2, 3, 4, 8, 9, 10, 11, 12] rfl rfl rfl rfl rfl rfl)
    | (have c7 : ¬ pN ba bb (splL pa iss (who ba bb pa) (much ba bb pa) (shs (sumF id (much ba bb pa) * n / d) (much ba bb pa))) = 0 := by assumption
       rw [bookSplit_6 (b := ⟨ba, bi, bb, bl, bt, bn⟩) c0 (by dsimp only; omega) (by dsimp only; omega) c4 c5 c6 c7]
       exact endV [0, 1, 2, 3, 4, 18, 19, 20, 21, 22] rfl rfl rfl rfl rfl rfl)
    | (have c7 : pN ba bb (splL pa iss (who ba bb pa) (much ba bb pa) (shs (sumF id (much ba bb pa) * n / d) (much ba bb pa))) = 0 := by assumption
       have c8 : ¬ (scN bl pa (who ba bb pa) (shs (sumF id (much ba bb pa) * n / d) (much ba bb pa)) ((who ba bb pa).length : Int).toNat).2 = 0 := by assumption
       rw [bookSplit_7 (b := ⟨ba, bi, bb, bl, bt, bn⟩) c0 (by dsimp only; omega) (by dsimp only; omega) c4 c5 c6 (fun k => k c7) c8]
       exact endV [0, 1, 2, 3, 4, 19, 20, 21, 22, 23] rfl rfl rfl rfl rfl rfl)
    | (have c7 : pN ba bb (splL pa iss (who ba bb pa) (much ba bb pa) (shs (sumF id (much ba bb pa) * n / d) (much ba bb pa))) = 0 := by assumption
       have c8 : (scN bl pa (who ba bb pa) (shs (sumF id (much ba bb pa) * n / d) (much ba bb pa)) ((who ba bb pa).length : Int).toNat).2 = 0 := by assumption
       rw [bookSplit_8 (b := ⟨ba, bi, bb, bl, bt, bn⟩) c0 (by dsimp only; omega) (by dsimp only; omega) c4 c5 c6 (fun k => k c7) (fun k => k c8)]
       exact endV [0, 1, 2, 3, 4, 8, 9, 18, 19, 12] rfl rfl rfl rfl rfl rfl)
    | (exfalso; omega)
    | trace_state
set_option maxHeartbeats 4000000 in
theorem spec_BookSplit {ba : List Account} {bi : List Instr} {bb : List Bal} {bl : List Lot} {bt : List Trade} {bn : Int} {pa n d iss : Int} : FC Tryz.prog 31 [bkV 0 ⟨ba, bi, bb, bl, bt, bn⟩, I pa, I n, I d, I iss] (bkR ⟨ba, bi, bb, bl, bt, bn⟩) (.tup [bkE 5 (bookSplit ⟨ba, bi, bb, bl, bt, bn⟩ pa n d iss).1, I (bookSplit ⟨ba, bi, bb, bl, bt, bn⟩ pa n d iss).2.1, I (bookSplit ⟨ba, bi, bb, bl, bt, bn⟩ pa n d iss).2.2]) (bkR ⟨ba, bi, bb, bl, bt, bn⟩ ++ bkW (bookSplit ⟨ba, bi, bb, bl, bt, bn⟩ pa n d iss).1) := by
  refine fent tk 195 [.cell 10 _, .tmp 11, .tmp 12] Tryz.func31 (by kernel_rfl) rfl rfl rfl rfl rfl rfl rfl ?_
  by_cases hok : BooksOk ⟨ba, bi, bb, bl, bt, bn⟩
  rotate_left
  ·
    rw [bookSplit_0 (b := ⟨ba, bi, bb, bl, bt, bn⟩) (fun h => hok h.1)]
    repeat' (first
 | (intro h9; exfalso; first | contradiction | omega)
 | (with_reducible apply znilC (d := 54) 0 42 2); rfl; rfl; rfl; rfl; rfl
 | (with_reducible apply znilC (d := 54) 1 74 2); rfl; rfl; rfl; rfl; rfl
 | (with_reducible apply znilC (d := 54) 2 135 3); rfl; rfl; rfl; rfl; rfl
 | (with_reducible apply znilC (d := 54) 3 137 5); rfl; rfl; rfl; rfl; rfl
 | (with_reducible apply znilC (d := 54) 4 103 8); rfl; rfl; rfl; rfl; rfl
 | (with_reducible apply zd); rfl; exact tk; rfl
 | (with_reducible first | intro _ | apply wseq | apply zreg | apply thenQ_n | apply thenQ_r | apply thenQ_e | apply znil | apply wret | apply bodyQ_r | apply wblk | apply blkQ_n | apply blkQ_r | apply wskip | apply wexit)
 | apply wct rfl
 | (with_reducible apply zcp); (iterate 10 rfl); (first | exact spec_BooksOk | exact spec_l3No | exact spec_l1In); rfl; rfl
 | fail)
    all_goals first | exact endV [0, 1, 2, 3, 4, 7, 8, 9, 10, 11] rfl rfl rfl rfl rfl rfl | exact endV [0, 1, 2, 3, 4, 8, 9, 10, 11, 12] rfl rfl rfl rfl rfl rfl | trace_state
  by_cases hta : isNo pa ∧ isNo iss ∧ inP n 1 1000000 ∧ inP d 1 1000000
  rotate_left
  ·
    rw [bookSplit_0 (b := ⟨ba, bi, bb, bl, bt, bn⟩) (fun h => hta h.2)]
    repeat' (first
 | (intro h9; exfalso; first | contradiction | omega)
 | (intro h9; exact absurd ⟨by assumption, by assumption, by assumption, by assumption⟩ hta)
 | (with_reducible apply znilC (d := 54) 0 42 2); rfl; rfl; rfl; rfl; rfl
 | (with_reducible apply znilC (d := 54) 1 74 2); rfl; rfl; rfl; rfl; rfl
 | (with_reducible apply znilC (d := 54) 2 135 3); rfl; rfl; rfl; rfl; rfl
 | (with_reducible apply znilC (d := 54) 3 137 5); rfl; rfl; rfl; rfl; rfl
 | (with_reducible apply znilC (d := 54) 4 103 8); rfl; rfl; rfl; rfl; rfl
 | (with_reducible apply zd); rfl; exact tk; rfl
 | (with_reducible first | intro _ | apply wseq | apply zreg | apply thenQ_n | apply thenQ_r | apply thenQ_e | apply znil | apply wret | apply bodyQ_r | apply wblk | apply blkQ_n | apply blkQ_r | apply wskip | apply wexit)
 | apply wct rfl
 | (with_reducible apply zcp); (iterate 10 rfl); (first | exact spec_BooksOk | exact spec_l3No | exact spec_l1In); rfl; rfl
 | fail)
    all_goals first | exact endV [0, 1, 2, 3, 4, 7, 8, 9, 10, 11] rfl rfl rfl rfl rfl rfl | exact endV [0, 1, 2, 3, 4, 8, 9, 10, 11, 12] rfl rfl rfl rfl rfl rfl | trace_state
  have hA := hok.acc
  have hI := hok.ins
  have hal := hA.2
  obtain ⟨k1, k2, k3, k4⟩ := id hta
  have hno : ∀ x ∈ [pa, iss], isNo x := fun x hx => by simp only [List.mem_cons, List.not_mem_nil, or_false] at hx; rcases hx with rfl | rfl <;> assumption
  dsimp only at hA hI hal
  have c0 : ¬ ¬ (BooksOk ⟨ba, bi, bb, bl, bt, bn⟩ ∧ isNo pa ∧ isNo iss ∧ inP n 1 1000000 ∧ inP d 1 1000000) := fun k => k ⟨hok, hta⟩
  by_cases hh : HeldOk ⟨ba, bi, bb, bl, bt, bn⟩ pa ∧ 0 < ((who ba bb pa).length : Int)
  rotate_left
  ·
    have hnn : ([] : List Int).length = 0 := rfl
    repeat' (first
 | (intro h9; exfalso; first | contradiction | omega)
 | (with_reducible apply zds); exact tk; rfl; rfl; rfl; rfl; rfl
 | (with_reducible apply zd); rfl; exact tk; rfl
 | (with_reducible first | intro _ | apply wseq | apply zreg | apply thenQ_n | apply thenQ_r | apply thenQ_e | apply znil | apply wret | apply bodyQ_r | apply wblk | apply blkQ_n | apply blkQ_r | apply wskip | apply wexit)
 | apply wct rfl
 | apply wcf rfl
 | (with_reducible apply zcmp); rfl; exact tk; rfl; rfl; rfl
 | (with_reducible apply zne); rfl; exact tk; rfl; rfl; rfl; rfl
 | refine zdq (id := 3) rfl (by kernel_rfl) [(.p, 0), (.p, 2), (.p, 4), (.p, 6), (.t, 1), (.t, 5), (.o, 3), (.o, 7), (.p, 8), (.p, 9)] [] (by kernel_rfl) rfl ?_
 | (with_reducible apply zcp); (iterate 10 rfl); (first | exact spec_BooksOk | exact spec_l3No | exact spec_l1In); rfl; rfl
 | (with_reducible apply zcq); (iterate 10 rfl); (first | exact spec_AccountKind | exact spec_InstrKind); rfl; rfl
 | (with_reducible apply zcsf); (iterate 10 rfl); exact spec_Held; (iterate 8 rfl)
 | (with_reducible apply zcf); (iterate 10 rfl); (first | exact spec_l6Copy (by first | assumption | exact BooksOk.midB (by assumption)) | exact spec_Shares (by assumption) | exact spec_LotsScale); rfl; rfl; rfl; rfl; rfl
 | (with_reducible apply zcs); (iterate 10 rfl); exact spec_MulDiv; exact fun _ => rfl; exact fun _ => rfl; rfl; rfl; rfl; rfl
 | fail)
    all_goals first | (exfalso; exact hh ⟨by assumption, by omega⟩) | skip
    all_goals first
      | (rw [bookSplit_1 (b := ⟨ba, bi, bb, bl, bt, bn⟩) c0 (by dsimp only; omega)]
         exact endV [0, 1, 2, 3, 4, 9, 10, 11, 12, 13] rfl rfl rfl rfl rfl rfl)
      | (rw [bookSplit_2 (b := ⟨ba, bi, bb, bl, bt, bn⟩) c0 (by dsimp only; omega) (by dsimp only; omega)]
         exact endV [0, 1, 2, 3, 4, 9, 10, 11, 12, 13] rfl rfl rfl rfl rfl rfl)
      | (rw [bookSplit_3 (b := ⟨ba, bi, bb, bl, bt, bn⟩) c0 (by dsimp only; omega) (by dsimp only; omega) (by assumption)]
         exact endV [0, 1, 2, 3, 4, 9, 10, 11, 12, 13] rfl rfl rfl rfl rfl rfl)
      | (rw [bookSplit_4 (b := ⟨ba, bi, bb, bl, bt, bn⟩) c0 (by dsimp only; omega) (by dsimp only; omega) (fun k => k (by assumption)) (by dsimp only; omega)]
         exact endV [0, 1, 2, 3, 4, 9, 10, 11, 12, 13] rfl rfl rfl rfl rfl rfl)
      | trace_state
  obtain ⟨hhe, hwl⟩ := hh
  by_cases hmd : mdOk (sumF id (much ba bb pa)) n d
  rotate_left
  ·
    repeat' (first
 | (intro h9; exfalso; first | contradiction | omega)
 | (with_reducible apply zds); exact tk; rfl; rfl; rfl; rfl; rfl
 | (with_reducible apply zd); rfl; exact tk; rfl
 | (with_reducible first | intro _ | apply wseq | apply zreg | apply thenQ_n | apply thenQ_r | apply thenQ_e | apply znil | apply wret | apply bodyQ_r | apply wblk | apply blkQ_n | apply blkQ_r | apply wskip | apply wexit)
 | apply wct rfl
 | apply wcf rfl
 | (with_reducible apply zcmp); rfl; exact tk; rfl; rfl; rfl
 | (with_reducible apply zne); rfl; exact tk; rfl; rfl; rfl; rfl
 | refine zdq (id := 3) rfl (by kernel_rfl) [(.p, 0), (.p, 2), (.p, 4), (.p, 6), (.t, 1), (.t, 5), (.o, 3), (.o, 7), (.p, 8), (.p, 9)] [] (by kernel_rfl) rfl ?_
 | (with_reducible apply zcp); (iterate 10 rfl); (first | exact spec_BooksOk | exact spec_l3No | exact spec_l1In); rfl; rfl
 | (with_reducible apply zcq); (iterate 10 rfl); (first | exact spec_AccountKind | exact spec_InstrKind); rfl; rfl
 | (with_reducible apply zc); (iterate 10 rfl); (first | exact spec_AccountKind_ok (by assumption) | exact spec_InstrKind_ok (by assumption) | exact spec_MulDiv_ok (by first | assumption | omega) | exact spec_MulDiv_no (by assumption)); exact fun _ => rfl; rfl; rfl; rfl
 | (with_reducible apply zcsf); (iterate 10 rfl); exact spec_Held; (iterate 8 rfl)
 | (with_reducible apply zcf); (iterate 10 rfl); (first | exact spec_l6Copy (by first | assumption | exact BooksOk.midB (by assumption)) | exact spec_Shares (by assumption) | exact spec_LotsScale); rfl; rfl; rfl; rfl; rfl
 | fail)
    all_goals first
      | (rw [bookSplit_1 (b := ⟨ba, bi, bb, bl, bt, bn⟩) c0 (by dsimp only; omega)]
         exact endV [0, 1, 2, 3, 4, 9, 10, 11, 12, 13] rfl rfl rfl rfl rfl rfl)
      | (rw [bookSplit_2 (b := ⟨ba, bi, bb, bl, bt, bn⟩) c0 (by dsimp only; omega) (by dsimp only; omega)]
         exact endV [0, 1, 2, 3, 4, 9, 10, 11, 12, 13] rfl rfl rfl rfl rfl rfl)
      | (rw [bookSplit_5 (b := ⟨ba, bi, bb, bl, bt, bn⟩) c0 (by dsimp only; omega) (by dsimp only; omega) (fun k => k hhe) (fun k => k hwl) hmd]
         exact endV [0, 1, 2, 3, 4, 9, 10, 11, 12, 13] rfl rfl rfl rfl rfl rfl)
      | (exfalso; omega)
      | trace_state
  have hall : 0 ≤ sumF id (much ba bb pa) * n / d ∧ sumF id (much ba bb pa) * n / d ≤ 1000000000000000 := ⟨Int.ediv_nonneg (md_ab (mdIn hmd).1 (mdIn hmd).2.1).1 (by have := (mdIn hmd).2.2; omega), hmd.2.2.2⟩
  have hsh := held_sh (t := sumF id (much ba bb pa) * n / d) hhe hwl hall
  dsimp only at hsh
  have hwn := who_no (bb := bb) (p := pa) hA
  have hwm := much_len ba bb pa
  have hsl := shs_len (sumF id (much ba bb pa) * n / d) (much ba bb pa)
  have hwb := who_len ba bb pa
  have hsb := shs_le hsh
  have hwx : ∀ x ∈ much ba bb pa, inP x 0 1000000000000000 := hsh.1.2.1
  have hix : ∀ x ∈ shs (sumF id (much ba bb pa) * n / d) (much ba bb pa), inP x 0 1000000000000000 := fun x hx => ⟨(hsb x hx).1, Int.le_trans (hsb x hx).2 hall.2⟩
  have hpn := pC_ne (pN ba bb (splL pa iss (who ba bb pa) (much ba bb pa) (shs (sumF id (much ba bb pa) * n / d) (much ba bb pa))))
  have hlx : (shs (sumF id (much ba bb pa) * n / d) (much ba bb pa)).length = (who ba bb pa).length ∧ 0 < (who ba bb pa).length ∧ (who ba bb pa).length ≤ 100 := by omega
  have hs1 : sumF id (shs (sumF id (much ba bb pa) * n / d) (much ba bb pa)) = (sumF id (much ba bb pa) * n / d) := shs_sum hsh
  have ham := hhe.2
  unfold amountOk inP at ham
  dsimp only at ham
  have hmn : 0 ≤ sumF id (much ba bb pa) := (mdIn hmd).1.1
  have hlg := splL_ok (pa := pa) (iss := iss) (who := (who ba bb pa)) (was := (much ba bb pa)) (is := (shs (sumF id (much ba bb pa) * n / d) (much ba bb pa))) k1 k2 hwn (by omega) (by omega) hwx hix ⟨hmn, ham.2⟩ (by rw [hs1]; exact hall)
  have hpc := poR_code hok hlg
  have hge := spG_end (was := (much ba bb pa)) (is := (shs (sumF id (much ba bb pa) * n / d) (much ba bb pa))) (n := (who ba bb pa).length) (by omega) (by omega)
  rw [hs1] at hge
  have c4 : ¬ ¬ HeldOk (⟨ba, bi, bb, bl, bt, bn⟩ : Books) pa := fun k => k hhe
  have c5 : ¬ ¬ 0 < ((who (⟨ba, bi, bb, bl, bt, bn⟩ : Books).Accounts (⟨ba, bi, bb, bl, bt, bn⟩ : Books).Bals pa).length : Int) := fun k => k hwl
  have c6 : ¬ ¬ mdOk (sumF id (much (⟨ba, bi, bb, bl, bt, bn⟩ : Books).Accounts (⟨ba, bi, bb, bl, bt, bn⟩ : Books).Bals pa)) n d := fun k => k hmd
  repeat' (first
 | (intro h9; exfalso; first | contradiction | omega)
 | (with_reducible apply zds); exact tk; rfl; rfl; rfl; rfl; rfl
 | (with_reducible apply zd); rfl; exact tk; rfl
 | (with_reducible first | intro _ | apply wseq | apply zreg | apply thenQ_n | apply thenQ_r | apply thenQ_e | apply znil | apply wret | apply bodyQ_r | apply wblk | apply blkQ_n | apply blkQ_r | apply wskip | apply wexit)
 | apply wct rfl
 | apply wcf rfl
 | (with_reducible apply zcmp); rfl; exact tk; rfl; rfl; rfl
 | (with_reducible apply zne); rfl; exact tk; rfl; rfl; rfl; rfl
 | (with_reducible apply zlit (α := Leg) (e := 46)); rfl; exact tk; (iterate 13 rfl)
 | refine zdq (id := 3) rfl (by kernel_rfl) [(.p, 0), (.p, 2), (.p, 4), (.p, 6), (.t, 1), (.t, 5), (.o, 3), (.o, 7), (.p, 8), (.p, 9)] [] (by kernel_rfl) rfl ?_
 | (with_reducible apply zcp); (iterate 10 rfl); (first | exact spec_BooksOk | exact spec_l3No | exact spec_l1In); rfl; rfl
 | (with_reducible apply zcq); (iterate 10 rfl); (first | exact spec_AccountKind | exact spec_InstrKind); rfl; rfl
 | (with_reducible apply zc); (iterate 10 rfl); (first | exact spec_AccountKind_ok (by assumption) | exact spec_InstrKind_ok (by assumption) | exact spec_MulDiv_ok (by first | assumption | omega) | exact spec_MulDiv_no (by assumption)); exact fun _ => rfl; rfl; rfl; rfl
 | (with_reducible apply zcsf); (iterate 10 rfl); exact spec_Held; (iterate 8 rfl)
 | (with_reducible apply zcf); (iterate 10 rfl); (first | exact spec_l6Copy (by first | assumption | exact BooksOk.midB (by assumption)) | exact spec_Shares (by assumption) | exact spec_LotsScale); rfl; rfl; rfl; rfl; rfl
 | fail)
  all_goals first
    | (rw [bookSplit_1 (b := ⟨ba, bi, bb, bl, bt, bn⟩) c0 (by dsimp only; omega)]
       exact endV [0, 1, 2, 3, 4, 9, 10, 11, 12, 13] rfl rfl rfl rfl rfl rfl)
    | (rw [bookSplit_2 (b := ⟨ba, bi, bb, bl, bt, bn⟩) c0 (by dsimp only; omega) (by dsimp only; omega)]
       exact endV [0, 1, 2, 3, 4, 9, 10, 11, 12, 13] rfl rfl rfl rfl rfl rfl)
    | (exfalso; first | contradiction | omega)
    | skip
  have c1 : ¬ (insKind (⟨ba, bi, bb, bl, bt, bn⟩ : Books).Instrs pa = 0 ∨ accKind (⟨ba, bi, bb, bl, bt, bn⟩ : Books).Accounts iss = 0) := by dsimp only; omega
  have c2 : ¬ (insKind (⟨ba, bi, bb, bl, bt, bn⟩ : Books).Instrs pa ≠ 2 ∨ accKind (⟨ba, bi, bb, bl, bt, bn⟩ : Books).Accounts iss ≠ 2) := by dsimp only; omega
  refine wlp (X := Int × List Leg) [1, 4, 5, 10, 15, 16, 17, 19, 22] [0, 1, 2, 3, 4, 5, 6, 7, 8, 9, 10] (fun x => [(25, I x.1), (24, .c (.row 10 0 x.2.length))]) (fun x => [(10, ow 46 x.2)]) (fun x => (0 ≤ x.1 ∧ x.1 ≤ (who ba bb pa).length) ∧ x.2 = spL pa (who ba bb pa) (much ba bb pa) (shs (sumF id (much ba bb pa) * n / d) (much ba bb pa)) x.1) (fun x => ((who ba bb pa).length - x.1).toNat) (0, []) ⟨by dsimp only; omega, rfl⟩ rfl rfl (fun _ => rfl) (fun _ => rfl) ⟨rfl, rfl, rfl, rfl, rfl, rfl, rfl, rfl⟩ (fun x hx => ?_)
  obtain ⟨i, u⟩ := x
  obtain ⟨h0, hu⟩ := hx
  dsimp only at h0 hu ⊢
  have hpl := spL_len (pa := pa) (who := (who ba bb pa)) (was := (much ba bb pa)) (is := (shs (sumF id (much ba bb pa) * n / d) (much ba bb pa))) h0.1
  have hul : (u.length : Int) = i := by rw [hu]; exact hpl
  by_cases hil : i < (who ba bb pa).length
  ·
    have b1 : 0 ≤ rd (much ba bb pa) i ∧ rd (much ba bb pa) i ≤ 1000000000000000 := hwx _ (rd_mem ⟨h0.1, by omega⟩)
    have b2 : 0 ≤ rd (shs (sumF id (much ba bb pa) * n / d) (much ba bb pa)) i ∧ rd (shs (sumF id (much ba bb pa) * n / d) (much ba bb pa)) i ≤ 1000000000000000 := hix _ (rd_mem ⟨h0.1, by omega⟩)
    have hu2 : u ++ [⟨rd (who ba bb pa) i, pa, rd (shs (sumF id (much ba bb pa) * n / d) (much ba bb pa)) i - rd (much ba bb pa) i⟩] = spL pa (who ba bb pa) (much ba bb pa) (shs (sumF id (much ba bb pa) * n / d) (much ba bb pa)) (i + 1) := by rw [spL_succ h0.1, hu]
    repeat' (first
 | (intro h9; exfalso; first | contradiction | omega)
 | (with_reducible apply zds); exact tk; rfl; rfl; rfl; rfl; rfl
 | (with_reducible apply zd); rfl; exact tk; rfl
 | (with_reducible first | intro _ | apply wseq | apply zreg | apply thenQ_n | apply thenQ_r | apply thenQ_e | apply znil | apply wret | apply bodyQ_r | apply wblk | apply blkQ_n | apply blkQ_r | apply wskip | apply wexit)
 | apply wct rfl
 | (with_reducible apply zcmp); rfl; exact tk; rfl; rfl; rfl
 | (with_reducible apply zar); rfl; rfl; rfl; rfl; (first | omega | ((try simp only [List.length_append, List.length_cons, List.length_nil, List.length_map]); (try dsimp only); omega)); rfl; rfl
 | (with_reducible apply zix); rfl; exact tk; (iterate 7 rfl); (first | omega | ((try simp only [List.length_append, List.length_cons, List.length_nil, List.length_map]); (try dsimp only); omega)); rfl; rfl
 | (with_reducible apply zle); rfl; exact tk; rfl; rfl; rfl; rfl; (first | omega | ((try simp only [List.length_append, List.length_cons, List.length_nil, List.length_map]); (try dsimp only); omega)); rfl; rfl; rfl; rfl
 | (with_reducible apply zlit (α := Leg) (e := 46)); rfl; exact tk; (iterate 13 rfl)
 | (with_reducible apply zap); rfl; exact tk; (iterate 10 rfl); (first | omega | ((try simp only [List.length_append, List.length_cons, List.length_nil, List.length_map]); (try dsimp only); omega)); rfl; rfl; rfl; rfl; rfl
 | refine zdq (id := 21) rfl (by kernel_rfl) [(.p, 0), (.p, 1), (.p, 2), (.p, 3), (.p, 5), (.p, 6), (.p, 7), (.p, 8), (.p, 10), (.p, 11), (.p, 12), (.t, 4), (.t, 9), (.t, 13), (.p, 14), (.p, 15), (.o, 16), (.l, 17), (.p, 18)] [17] (by kernel_rfl) rfl ?_
 | fail)
    all_goals first
      | exact endR (i + 1, u ++ [⟨rd (who ba bb pa) i, pa, rd (shs (sumF id (much ba bb pa) * n / d) (much ba bb pa)) i - rd (much ba bb pa) i⟩]) [0, 1, 2, 3, 4, 5, 6, 7, 8, 9, 12] ⟨rfl, rfl, rfl, rfl, rfl, rfl, rfl, rfl⟩ ⟨by dsimp only; omega, hu2⟩ (by first | omega | (dsimp only; omega))
      | (exfalso; omega)
      | trace_state
  have hug : u ++ [⟨iss, pa, sumF id (much ba bb pa) - (sumF id (much ba bb pa) * n / d)⟩] = (splL pa iss (who ba bb pa) (much ba bb pa) (shs (sumF id (much ba bb pa) * n / d) (much ba bb pa))) := by
    rw [hu, show i = ((who ba bb pa).length : Int) from by omega, show sumF id (much ba bb pa) - (sumF id (much ba bb pa) * n / d) = -spG (much ba bb pa) (shs (sumF id (much ba bb pa) * n / d) (much ba bb pa)) (who ba bb pa).length from by omega]
  have hll : (u ++ [(⟨iss, pa, sumF id (much ba bb pa) - (sumF id (much ba bb pa) * n / d)⟩ : Leg)]).length ≤ 160 := by rw [hug]; exact hlg.1.1
  have hsn := sC_ne (pN ba bb (splL pa iss (who ba bb pa) (much ba bb pa) (shs (sumF id (much ba bb pa) * n / d) (much ba bb pa))))
  rw [show (pN ba bb (splL pa iss (who ba bb pa) (much ba bb pa) (shs (sumF id (much ba bb pa) * n / d) (much ba bb pa)))) = pN ba bb (u ++ [⟨iss, pa, sumF id (much ba bb pa) - (sumF id (much ba bb pa) * n / d)⟩]) from by rw [hug]] at hsn
  repeat' (first
 | (intro h9; exfalso; first | contradiction | omega)
 | (with_reducible apply zds); exact tk; rfl; rfl; rfl; rfl; rfl
 | (with_reducible apply zd); rfl; exact tk; rfl
 | (with_reducible first | intro _ | apply wseq | apply zreg | apply thenQ_n | apply thenQ_r | apply thenQ_e | apply znil | apply wret | apply bodyQ_r | apply wblk | apply blkQ_n | apply blkQ_r | apply wskip | apply wexit)
 | apply wcf rfl
 | (with_reducible apply blkQ_x rfl)
 | (with_reducible apply zcmp); rfl; exact tk; rfl; rfl; rfl
 | (with_reducible apply zar); rfl; rfl; rfl; rfl; (first | omega | ((try simp only [List.length_append, List.length_cons, List.length_nil, List.length_map]); (try dsimp only); omega)); rfl; rfl
 | (with_reducible apply zlit (α := Leg) (e := 46)); rfl; exact tk; (iterate 13 rfl)
 | (with_reducible apply zap); rfl; exact tk; (iterate 10 rfl); (first | omega | ((try simp only [List.length_append, List.length_cons, List.length_nil, List.length_map]); (try dsimp only); omega)); rfl; rfl; rfl; rfl; rfl
 | (with_reducible apply zcf); (iterate 10 rfl); (first | exact spec_l6Copy (by first | assumption | exact BooksOk.midB (by assumption)) | exact spec_Shares (by assumption) | exact spec_LotsScale); rfl; rfl; rfl; rfl; rfl
 | (with_reducible apply zcwp  [true,true,true,true,true,false]); (iterate 10 rfl); exact spec_l6Post (by omega); (iterate 6 rfl)
 | fail)
  rotate_left
  ·
    have hne : ¬ pN ba bb (u ++ [⟨iss, pa, sumF id (much ba bb pa) - (sumF id (much ba bb pa) * n / d)⟩]) = 0 := by assumption
    refine wlp (X := Unit) [1, 5, 10, 15, 19, 22, 26, 27, 28] [0, 1, 2, 3, 4, 5, 6, 7, 8, 9, 10, 11, 12, 13, 14, 15, 16, 17, 18] (fun _ => []) (fun _ => []) (fun _ => True) (fun _ => 0) () trivial rfl rfl (fun _ => rfl) (fun _ => rfl) ⟨rfl, rfl, rfl, rfl, rfl, rfl, rfl, rfl⟩ (fun x hx => ?_)
    repeat' (first
 | (intro h9; exfalso; first | contradiction | omega)
 | (with_reducible apply zds); exact tk; rfl; rfl; rfl; rfl; rfl
 | (with_reducible apply zd); rfl; exact tk; rfl
 | (with_reducible first | intro _ | apply wseq | apply zreg | apply thenQ_n | apply thenQ_r | apply thenQ_e | apply znil | apply wret | apply bodyQ_r | apply wblk | apply blkQ_n | apply blkQ_r | apply wskip | apply wexit)
 | apply wct rfl
 | apply wcf rfl
 | (with_reducible apply blkQ_x rfl)
 | (with_reducible apply zcmp); rfl; exact tk; rfl; rfl; rfl
 | (with_reducible apply zne); rfl; exact tk; rfl; rfl; rfl; rfl
 | (with_reducible apply zcf); (iterate 10 rfl); (first | exact spec_l6Copy (by first | assumption | exact BooksOk.midB (by assumption)) | exact spec_Shares (by assumption) | exact spec_LotsScale); rfl; rfl; rfl; rfl; rfl
 | fail)
    all_goals first
      | (exfalso; omega)
      | (rw [hug] at hne ⊢
         rw [bookSplit_6 (b := ⟨ba, bi, bb, bl, bt, bn⟩) c0 c1 c2 c4 c5 c6 hne, ← sC_pC hpc]
         exact endV [0, 1, 2, 3, 4, 19, 20, 21, 22, 23] rfl rfl rfl rfl rfl rfl)
      | trace_state
  have hze : pN ba bb (u ++ [⟨iss, pa, sumF id (much ba bb pa) - (sumF id (much ba bb pa) * n / d)⟩]) = 0 := by assumption
  rw [hug] at hze ⊢
  have c7 : ¬ ¬ pN ba bb (splL pa iss (who ba bb pa) (much ba bb pa) (shs (sumF id (much ba bb pa) * n / d) (much ba bb pa))) = 0 := fun k => k hze
  refine wloop (X := Option (Int × List Lot × Int)) (fun x => match x with | none => True | some y => (1 ≤ y.1 ∧ y.1 ≤ (who ba bb pa).length) ∧ ((y.2.2 = 0 ∧ scN bl pa (who ba bb pa) (shs (sumF id (much ba bb pa) * n / d) (much ba bb pa)) y.1.toNat = (y.2.1, 0)) ∨ (y.2.2 = 7 ∧ ¬ (scN bl pa (who ba bb pa) (shs (sumF id (much ba bb pa) * n / d) (much ba bb pa)) ((who ba bb pa).length : Int).toNat).2 = 0))) (fun x => match x with | none => ⟨195, 5, [(1, I pa), (5, .c (.ptr 5 0 0)), (10, .c (.ptr 6 0 0)), (15, .c (.row 7 0 (who ba bb pa).length)), (19, I (sumF id (much ba bb pa) * n / d)), (22, .c (.row 8 0 (shs (sumF id (much ba bb pa) * n / d) (much ba bb pa)).length)), (26, .c (.ptr 14 0 0)), (27, I 0), (28, I 0)], [ro 42 ba, ro 74 bi, ro 135 bb, ro 137 bl, ro 103 bt, some ⟨true, 30, 6, .mx [.row 0 0 ba.length, .row 1 0 bi.length, .row 2 0 bb.length, .row 3 0 bl.length, .row 4 0 bt.length, .sc (.int .i64 bn)]⟩, some ⟨true, 30, 6, .mx [.sc (.slice none 0 0), .sc (.slice none 0 0), .sc (.slice none 0 0), .sc (.slice none 0 0), .sc (.slice none 0 0), .sc (.int .i64 0)]⟩, ow 3 (who ba bb pa), ow 3 (shs (sumF id (much ba bb pa) * n / d) (much ba bb pa)), ow 42 ba, ow 74 bi, ow 135 (pL ba bb (splL pa iss (who ba bb pa) (much ba bb pa) (shs (sumF id (much ba bb pa) * n / d) (much ba bb pa)))), ow 137 bl, ow 103 bt, some ⟨true, 30, 6, .mx [.row 9 0 ba.length, .row 10 0 bi.length, .row 11 0 (pL ba bb (splL pa iss (who ba bb pa) (much ba bb pa) (shs (sumF id (much ba bb pa) * n / d) (much ba bb pa)))).length, .row 12 0 bl.length, .row 13 0 bt.length, .sc (.int .i64 bn)]⟩]⟩ | some y => ⟨195, 5, [(1, I pa), (5, .c (.ptr 5 0 0)), (10, .c (.ptr 6 0 0)), (15, .c (.row 7 0 (who ba bb pa).length)), (19, I (sumF id (much ba bb pa) * n / d)), (22, .c (.row 8 0 (shs (sumF id (much ba bb pa) * n / d) (much ba bb pa)).length)), (26, .c (.ptr 14 0 0)), (27, I y.2.2), (28, I y.1)], [ro 42 ba, ro 74 bi, ro 135 bb, ro 137 bl, ro 103 bt, some ⟨true, 30, 6, .mx [.row 0 0 ba.length, .row 1 0 bi.length, .row 2 0 bb.length, .row 3 0 bl.length, .row 4 0 bt.length, .sc (.int .i64 bn)]⟩, some ⟨true, 30, 6, .mx [.sc (.slice none 0 0), .sc (.slice none 0 0), .sc (.slice none 0 0), .sc (.slice none 0 0), .sc (.slice none 0 0), .sc (.int .i64 0)]⟩, ow 3 (who ba bb pa), ow 3 (shs (sumF id (much ba bb pa) * n / d) (much ba bb pa)), ow 42 ba, ow 74 bi, ow 135 (pL ba bb (splL pa iss (who ba bb pa) (much ba bb pa) (shs (sumF id (much ba bb pa) * n / d) (much ba bb pa)))), ow 137 bl, ow 103 bt, some ⟨true, 30, 6, .mx [.row 9 0 ba.length, .row 10 0 bi.length, .row 11 0 (pL ba bb (splL pa iss (who ba bb pa) (much ba bb pa) (shs (sumF id (much ba bb pa) * n / d) (much ba bb pa)))).length, .row 15 0 y.2.1.length, .row 13 0 bt.length, .sc (.int .i64 bn)]⟩, ow 137 y.2.1]⟩) (fun x => match x with | none => (who ba bb pa).length + 1 | some y => ((who ba bb pa).length - y.1).toNat) none [0, 1, 2, 3, 4, 5, 6, 7, 9, 13, 14, 18, 16, 17, 19] trivial ⟨rfl, rfl, rfl, rfl, rfl, rfl, rfl, rfl⟩ (fun x hx => ?_)
  cases x with
  | none =>
    dsimp only
    have hS : scN bl pa (who ba bb pa) (shs (sumF id (much ba bb pa) * n / d) (much ba bb pa)) (0 : Int).toNat = (bl, 0) := rfl
    by_cases hc : (lotScale bl (rd (who ba bb pa) 0) pa (rd (shs (sumF id (much ba bb pa) * n / d) (much ba bb pa)) 0)).2 = 0
    ·
      have hS2 := scN_y (Int.le_refl 0) hS hc
      repeat' (first
 | (intro h9; exfalso; first | contradiction | omega)
 | (with_reducible apply zds); exact tk; rfl; rfl; rfl; rfl; rfl
 | (with_reducible apply zd); rfl; exact tk; rfl
 | (with_reducible first | intro _ | apply wseq | apply zreg | apply thenQ_n | apply thenQ_r | apply thenQ_e | apply znil | apply wret | apply bodyQ_r | apply wblk | apply blkQ_n | apply blkQ_r | apply wskip | apply wexit)
 | apply wct rfl
 | apply wcf rfl
 | (with_reducible apply zcmp); rfl; exact tk; rfl; rfl; rfl
 | (with_reducible apply zne); rfl; exact tk; rfl; rfl; rfl; rfl
 | (with_reducible apply zar); rfl; rfl; rfl; rfl; (first | omega | ((try simp only [List.length_append, List.length_cons, List.length_nil, List.length_map]); (try dsimp only); omega)); rfl; rfl
 | (with_reducible apply zix); rfl; exact tk; (iterate 7 rfl); (first | omega | ((try simp only [List.length_append, List.length_cons, List.length_nil, List.length_map]); (try dsimp only); omega)); rfl; rfl
 | (with_reducible apply zle); rfl; exact tk; rfl; rfl; rfl; rfl; (first | omega | ((try simp only [List.length_append, List.length_cons, List.length_nil, List.length_map]); (try dsimp only); omega)); rfl; rfl; rfl; rfl
 | refine zdq (id := 27) rfl (by kernel_rfl) [(.p, 0), (.p, 2), (.p, 3), (.p, 4), (.p, 6), (.p, 7), (.p, 8), (.p, 9), (.t, 1), (.t, 5), (.t, 10), (.o, 11), (.p, 12), (.p, 13), (.p, 14), (.p, 15), (.p, 16)] [] (by kernel_rfl) rfl ?_
 | (with_reducible apply zcf); (iterate 10 rfl); (first | exact spec_l6Copy (by first | assumption | exact BooksOk.midB (by assumption)) | exact spec_Shares (by assumption) | exact spec_LotsScale); rfl; rfl; rfl; rfl; rfl
 | fail)
      all_goals first
        | exact endR (some (0 + 1, (lotScale bl (rd (who ba bb pa) 0) pa (rd (shs (sumF id (much ba bb pa) * n / d) (much ba bb pa)) 0)).1, 0)) [0, 1, 2, 3, 4, 5, 6, 7, 8, 9, 10, 11, 12, 13, 14, 15] ⟨rfl, rfl, rfl, rfl, rfl, rfl, rfl, rfl⟩ ⟨by dsimp only; omega, .inl ⟨rfl, hS2⟩⟩ (by first | omega | (dsimp only; omega))
        | (exfalso; omega)
        | trace_state
    ·
      have hS2 := scN_n (n := (who ba bb pa).length) ⟨Int.le_refl 0, by omega⟩ hS hc
      repeat' (first
 | (intro h9; exfalso; first | contradiction | omega)
 | (with_reducible apply zds); exact tk; rfl; rfl; rfl; rfl; rfl
 | (with_reducible apply zd); rfl; exact tk; rfl
 | (with_reducible first | intro _ | apply wseq | apply zreg | apply thenQ_n | apply thenQ_r | apply thenQ_e | apply znil | apply wret | apply bodyQ_r | apply wblk | apply blkQ_n | apply blkQ_r | apply wskip | apply wexit)
 | apply wct rfl
 | (with_reducible apply zcmp); rfl; exact tk; rfl; rfl; rfl
 | (with_reducible apply zne); rfl; exact tk; rfl; rfl; rfl; rfl
 | (with_reducible apply zar); rfl; rfl; rfl; rfl; (first | omega | ((try simp only [List.length_append, List.length_cons, List.length_nil, List.length_map]); (try dsimp only); omega)); rfl; rfl
 | (with_reducible apply zix); rfl; exact tk; (iterate 7 rfl); (first | omega | ((try simp only [List.length_append, List.length_cons, List.length_nil, List.length_map]); (try dsimp only); omega)); rfl; rfl
 | (with_reducible apply zle); rfl; exact tk; rfl; rfl; rfl; rfl; (first | omega | ((try simp only [List.length_append, List.length_cons, List.length_nil, List.length_map]); (try dsimp only); omega)); rfl; rfl; rfl; rfl
 | refine zdq (id := 27) rfl (by kernel_rfl) [(.p, 0), (.p, 2), (.p, 3), (.p, 4), (.p, 6), (.p, 7), (.p, 8), (.p, 9), (.t, 1), (.t, 5), (.t, 10), (.o, 11), (.p, 12), (.p, 13), (.p, 14), (.p, 15), (.p, 16)] [] (by kernel_rfl) rfl ?_
 | (with_reducible apply zcf); (iterate 10 rfl); (first | exact spec_l6Copy (by first | assumption | exact BooksOk.midB (by assumption)) | exact spec_Shares (by assumption) | exact spec_LotsScale); rfl; rfl; rfl; rfl; rfl
 | fail)
      all_goals first
        | exact endR (some (0 + 1, (lotScale bl (rd (who ba bb pa) 0) pa (rd (shs (sumF id (much ba bb pa) * n / d) (much ba bb pa)) 0)).1, 7)) [0, 1, 2, 3, 4, 5, 6, 7, 8, 9, 10, 11, 12, 13, 14, 15] ⟨rfl, rfl, rfl, rfl, rfl, rfl, rfl, rfl⟩ ⟨by dsimp only; omega, .inr ⟨rfl, hS2⟩⟩ (by first | omega | (dsimp only; omega))
        | (exfalso; omega)
        | trace_state
  | some y =>
    obtain ⟨j, L, cc⟩ := y
    obtain ⟨j0, hj⟩ := hx
    dsimp only at j0 hj ⊢
    rcases hj with ⟨rfl, hS⟩ | ⟨rfl, hbad⟩
    ·
      by_cases hjl : j < (who ba bb pa).length
      ·
        by_cases hc : (lotScale L (rd (who ba bb pa) j) pa (rd (shs (sumF id (much ba bb pa) * n / d) (much ba bb pa)) j)).2 = 0
        ·
          have hS2 := scN_y (by omega) hS hc
          repeat' (first
 | (intro h9; exfalso; first | contradiction | omega)
 | (with_reducible apply zds); exact tk; rfl; rfl; rfl; rfl; rfl
 | (with_reducible apply zd); rfl; exact tk; rfl
 | (with_reducible first | intro _ | apply wseq | apply zreg | apply thenQ_n | apply thenQ_r | apply thenQ_e | apply znil | apply wret | apply bodyQ_r | apply wblk | apply blkQ_n | apply blkQ_r | apply wskip | apply wexit)
 | apply wct rfl
 | apply wcf rfl
 | (with_reducible apply zcmp); rfl; exact tk; rfl; rfl; rfl
 | (with_reducible apply zne); rfl; exact tk; rfl; rfl; rfl; rfl
 | (with_reducible apply zar); rfl; rfl; rfl; rfl; (first | omega | ((try simp only [List.length_append, List.length_cons, List.length_nil, List.length_map]); (try dsimp only); omega)); rfl; rfl
 | (with_reducible apply zix); rfl; exact tk; (iterate 7 rfl); (first | omega | ((try simp only [List.length_append, List.length_cons, List.length_nil, List.length_map]); (try dsimp only); omega)); rfl; rfl
 | (with_reducible apply zle); rfl; exact tk; rfl; rfl; rfl; rfl; (first | omega | ((try simp only [List.length_append, List.length_cons, List.length_nil, List.length_map]); (try dsimp only); omega)); rfl; rfl; rfl; rfl
 | refine zdq (id := 27) rfl (by kernel_rfl) [(.p, 0), (.p, 2), (.p, 3), (.p, 4), (.p, 6), (.p, 7), (.p, 8), (.p, 9), (.t, 1), (.t, 5), (.t, 10), (.o, 11), (.p, 12), (.p, 13), (.p, 14), (.p, 15), (.p, 16)] [] (by kernel_rfl) rfl ?_
 | (with_reducible apply zcf); (iterate 10 rfl); (first | exact spec_l6Copy (by first | assumption | exact BooksOk.midB (by assumption)) | exact spec_Shares (by assumption) | exact spec_LotsScale); rfl; rfl; rfl; rfl; rfl
 | fail)
          all_goals first
            | exact endR (some (j + 1, (lotScale L (rd (who ba bb pa) j) pa (rd (shs (sumF id (much ba bb pa) * n / d) (much ba bb pa)) j)).1, 0)) [0, 1, 2, 3, 4, 5, 6, 7, 8, 9, 10, 11, 12, 13, 14, 16] ⟨rfl, rfl, rfl, rfl, rfl, rfl, rfl, rfl⟩ ⟨by dsimp only; omega, .inl ⟨rfl, hS2⟩⟩ (by first | omega | (dsimp only; omega))
            | (exfalso; omega)
            | trace_state
        ·
          have hS2 := scN_n (n := (who ba bb pa).length) ⟨by omega, hjl⟩ hS hc
          repeat' (first
 | (intro h9; exfalso; first | contradiction | omega)
 | (with_reducible apply zds); exact tk; rfl; rfl; rfl; rfl; rfl
 | (with_reducible apply zd); rfl; exact tk; rfl
 | (with_reducible first | intro _ | apply wseq | apply zreg | apply thenQ_n | apply thenQ_r | apply thenQ_e | apply znil | apply wret | apply bodyQ_r | apply wblk | apply blkQ_n | apply blkQ_r | apply wskip | apply wexit)
 | apply wct rfl
 | (with_reducible apply zcmp); rfl; exact tk; rfl; rfl; rfl
 | (with_reducible apply zne); rfl; exact tk; rfl; rfl; rfl; rfl
 | (with_reducible apply zar); rfl; rfl; rfl; rfl; (first | omega | ((try simp only [List.length_append, List.length_cons, List.length_nil, List.length_map]); (try dsimp only); omega)); rfl; rfl
 | (with_reducible apply zix); rfl; exact tk; (iterate 7 rfl); (first | omega | ((try simp only [List.length_append, List.length_cons, List.length_nil, List.length_map]); (try dsimp only); omega)); rfl; rfl
 | (with_reducible apply zle); rfl; exact tk; rfl; rfl; rfl; rfl; (first | omega | ((try simp only [List.length_append, List.length_cons, List.length_nil, List.length_map]); (try dsimp only); omega)); rfl; rfl; rfl; rfl
 | refine zdq (id := 27) rfl (by kernel_rfl) [(.p, 0), (.p, 2), (.p, 3), (.p, 4), (.p, 6), (.p, 7), (.p, 8), (.p, 9), (.t, 1), (.t, 5), (.t, 10), (.o, 11), (.p, 12), (.p, 13), (.p, 14), (.p, 15), (.p, 16)] [] (by kernel_rfl) rfl ?_
 | (with_reducible apply zcf); (iterate 10 rfl); (first | exact spec_l6Copy (by first | assumption | exact BooksOk.midB (by assumption)) | exact spec_Shares (by assumption) | exact spec_LotsScale); rfl; rfl; rfl; rfl; rfl
 | fail)
          all_goals first
            | exact endR (some (j + 1, (lotScale L (rd (who ba bb pa) j) pa (rd (shs (sumF id (much ba bb pa) * n / d) (much ba bb pa)) j)).1, 7)) [0, 1, 2, 3, 4, 5, 6, 7, 8, 9, 10, 11, 12, 13, 14, 16] ⟨rfl, rfl, rfl, rfl, rfl, rfl, rfl, rfl⟩ ⟨by dsimp only; omega, .inr ⟨rfl, hS2⟩⟩ (by first | omega | (dsimp only; omega))
            | (exfalso; omega)
            | trace_state
      ·
        have ej : j = ((who ba bb pa).length : Int) := by omega
        subst ej
        have hz : (scN bl pa (who ba bb pa) (shs (sumF id (much ba bb pa) * n / d) (much ba bb pa)) ((who ba bb pa).length : Int).toNat).2 = 0 := by rw [hS]
        rw [bookSplit_8 (b := ⟨ba, bi, bb, bl, bt, bn⟩) c0 c1 c2 c4 c5 c6 c7 (fun k => k hz)]
        repeat' (first
 | (intro h9; exfalso; first | contradiction | omega)
 | (with_reducible apply zds); exact tk; rfl; rfl; rfl; rfl; rfl
 | (with_reducible apply zd); rfl; exact tk; rfl
 | (with_reducible first | intro _ | apply wseq | apply zreg | apply thenQ_n | apply thenQ_r | apply thenQ_e | apply znil | apply wret | apply bodyQ_r | apply wblk | apply blkQ_n | apply blkQ_r | apply wskip | apply wexit)
 | apply wcf rfl
 | (with_reducible apply blkQ_x rfl)
 | (with_reducible apply zcmp); rfl; exact tk; rfl; rfl; rfl
 | (with_reducible apply zne); rfl; exact tk; rfl; rfl; rfl; rfl
 | fail)
        all_goals first
          | (rw [show L = (scN bl pa (who ba bb pa) (shs (sumF id (much ba bb pa) * n / d) (much ba bb pa)) ((who ba bb pa).length : Int).toNat).1 from by rw [hS]]
             exact endV [0, 1, 2, 3, 4, 9, 10, 11, 15, 13] rfl rfl rfl rfl rfl rfl)
          | (exfalso; omega)
          | trace_state
    ·
      rw [bookSplit_7 (b := ⟨ba, bi, bb, bl, bt, bn⟩) c0 c1 c2 c4 c5 c6 c7 hbad]
      repeat' (first
 | (intro h9; exfalso; first | contradiction | omega)
 | (with_reducible apply zds); exact tk; rfl; rfl; rfl; rfl; rfl
 | (with_reducible apply zd); rfl; exact tk; rfl
 | (with_reducible first | intro _ | apply wseq | apply zreg | apply thenQ_n | apply thenQ_r | apply thenQ_e | apply znil | apply wret | apply bodyQ_r | apply wblk | apply blkQ_n | apply blkQ_r | apply wskip | apply wexit)
 | apply wct rfl
 | apply wcf rfl
 | (with_reducible apply blkQ_x rfl)
 | (with_reducible apply zcmp); rfl; exact tk; rfl; rfl; rfl
 | (with_reducible apply zne); rfl; exact tk; rfl; rfl; rfl; rfl
 | (with_reducible apply zcf); (iterate 10 rfl); (first | exact spec_l6Copy (by first | assumption | exact BooksOk.midB (by assumption)) | exact spec_Shares (by assumption) | exact spec_LotsScale); rfl; rfl; rfl; rfl; rfl
 | fail)
      all_goals first
        | exact endV [0, 1, 2, 3, 4, 16, 17, 18, 19, 20] rfl rfl rfl rfl rfl rfl
        | (exfalso; omega)
        | trace_state
end Go.Proofs.YtgehbhkfehmdkaaGreat.Sh
