/- What is paid: legs. No condition. -/
import Derived.Test.YtnlajjoheegbiaaGreatKPyShSw
import Derived.Test.YtnlajjoheegbiaaGreatKPyShPn
import Derived.Test.YtnlajjoheegbiaaGreatKPyShPq
import Derived.Test.YtnlajjoheegbiaaGreatKPyShMw
namespace Go.Proofs.YtnlajjoheegbiaaGreat.Sh
open Go.RowKit
set_option linter.unusedVariables false
set_option linter.unusedSimpArgs false
theorem set_sum : ∀ (l : List Int) (k : Nat) (x : Int), k < l.length → sumF id (l.set k x) = sumF id l - l.getD k 0 + x
  | [], _, _, h => absurd h (Nat.not_lt_zero _)
  | a :: l, 0, x, _ => by
    rw [List.set_cons_zero, sumF_cons, sumF_cons, List.getD_cons_zero]
    simp only [id]
    omega
  | a :: l, k + 1, x, h => by
    have ih := set_sum l k x (by simpa using h)
    rw [List.set_cons_succ, sumF_cons, sumF_cons, List.getD_cons_succ, ih]
    simp only [id]
    omega
theorem rd_nat {l : List Int} {i : Int} (h : 0 ≤ i ∧ i < l.length) : rd l i = l.getD i.toNat 0 := by
  unfold rd
  rw [List.getD_eq_getElem?_getD, List.getD_eq_getElem?_getD, List.getElem?_eq_getElem (by omega : i.toNat < l.length)]
  rfl
theorem inc_sum {o : List Int} {i : Int} (h : 0 ≤ i ∧ i < o.length) : sumF id (inc o i) = sumF id o + 1 := by
  unfold inc upd
  rw [set_sum _ _ _ (by omega), rd_nat h]
  omega
theorem incd_sum {t : Int} {ws : List Int} : ∀ k : Nat, (k : Int) ≤ ws.length → sumF id (incd t ws k) = sumF id (shQs t ws) + k
  | 0, _ => by show sumF id (shQs t ws) = _; omega
  | k + 1, hk => by
    have ih := incd_sum (t := t) (ws := ws) k (by omega)
    have hr := shOrd_rng (t := t) (ws := ws) (k := k) ⟨by omega, by omega⟩
    have e : ((k + 1 : Nat) : Int) = (k : Int) + 1 := by omega
    have e2 : incd t ws ((k : Int) + 1) = inc (incd t ws k) (rd (shOrd t ws) k) := incd_succ ⟨by omega, by omega⟩
    rw [e, e2, inc_sum (by rw [incd_len]; exact hr), ih]
    omega
theorem shs_sum {t : Int} {ws : List Int} (h : shareable t ws) : sumF id (shs t ws) = t := by
  have hm := h.more
  have e := incd_sum (t := t) (ws := ws) (shMore t ws).toNat (by omega)
  rw [show (((shMore t ws).toNat : Nat) : Int) = shMore t ws from by omega] at e
  have e2 : incd t ws (shMore t ws) = shs t ws := rfl
  rw [e2] at e
  have e3 : shMore t ws = t - sumF id (shQs t ws) := rfl
  omega
theorem shs_nn {t : Int} {ws : List Int} (h : shareable t ws) : ∀ x ∈ shs t ws, 0 ≤ x := fun x hx => by
  obtain ⟨j, hj, rfl⟩ := mem_rd hx
  rw [shs_len] at hj
  have hm := h.more
  have := incd_bd h (shMore t ws).toNat (by omega) j hj.1 hj.2
  rw [show (((shMore t ws).toNat : Nat) : Int) = shMore t ws from by omega] at this
  exact this.1
theorem shs_le {t : Int} {ws : List Int} (h : shareable t ws) : ∀ x ∈ shs t ws, 0 ≤ x ∧ x ≤ t := fun x hx => ⟨shs_nn h x hx, by have := sumF_mem (shs_nn h) hx; rw [shs_sum h] at this; exact this⟩
def pyL (cash : Int) (who sh : List Int) (i : Int) : List Leg := mkl i.toNat (fun k => ⟨rd who k, cash, rd sh k⟩)
theorem pyL_len {cash i : Int} {who sh : List Int} (h : 0 ≤ i) : ((pyL cash who sh i).length : Int) = i := by rw [pyL, mkl_len]; omega
theorem pyL_succ {cash i : Int} {who sh : List Int} (h : 0 ≤ i) : pyL cash who sh (i + 1) = pyL cash who sh i ++ [⟨rd who i, cash, rd sh i⟩] := mkl_succ h
theorem pyL_sum {cash c : Int} {who sh : List Int} : ∀ k : Nat, (k : Int) ≤ sh.length → sumF (legB c) (pyL cash who sh k) = if cash = c then sumF id (pf sh k) else 0
  | 0, _ => by show (0 : Int) = if cash = c then (0 : Int) else 0; split <;> rfl
  | k + 1, hk => by
    have ih := pyL_sum (cash := cash) (c := c) (who := who) (sh := sh) k (by omega)
    have e : ((k + 1 : Nat) : Int) = (k : Int) + 1 := by omega
    rw [e, pyL_succ (by omega), sumF_append, sumF_one, ih, sumF_succ ⟨by omega, by omega⟩]
    unfold legB
    simp only [id]
    split <;> omega
theorem mem_pyL {cash i : Int} {who sh : List Int} {x : Leg} (h0 : 0 ≤ i) (h : x ∈ pyL cash who sh i) : ∃ k : Int, (0 ≤ k ∧ k < i) ∧ x = ⟨rd who k, cash, rd sh k⟩ := by
  obtain ⟨k, hk, rfl⟩ := mem_rd h
  rw [pyL_len h0] at hk
  exact ⟨k, hk, rd_mkl (by omega)⟩
abbrev payL (payer cash t : Int) (who sh : List Int) : List Leg := ⟨payer, cash, -t⟩ :: pyL cash who sh who.length
theorem payL_ok {payer cash t : Int} {who sh : List Int} (hp : isNo payer) (hc : isNo cash) (ht : 0 ≤ t ∧ t ≤ 1000000000000000) (hw : ∀ x ∈ who, isNo x) (hl : sh.length = who.length) (h40 : who.length ≤ 40) (hs : ∀ x ∈ sh, 0 ≤ x ∧ x ≤ t) (hsum : sumF id sh = t) : LegsOk (payL payer cash t who sh) := by
  have hlen := pyL_len (cash := cash) (who := who) (sh := sh) (i := who.length) (by omega)
  refine ⟨⟨by show (pyL cash who sh who.length).length + 1 ≤ 160; omega, fun x hx => ?_⟩, fun x hx => ?_⟩
  · rcases List.mem_cons.1 hx with rfl | hx
    · exact ⟨hp, hc, by show -1000000000000000 ≤ -t ∧ -t ≤ 1000000000000000; omega⟩
    · obtain ⟨k, hk, rfl⟩ := mem_pyL (by omega) hx
      have h2 := hs _ (rd_mem (l := sh) (i := k) (by omega))
      exact ⟨hw _ (rd_mem hk), hc, by show -1000000000000000 ≤ rd sh k ∧ rd sh k ≤ 1000000000000000; omega⟩
  · have e := pyL_sum (cash := cash) (c := x.Instr) (who := who) (sh := sh) who.length (by omega)
    rw [pf_all (by omega), hsum] at e
    rw [legsSum, sumF_cons, e]
    unfold legB
    dsimp only
    split <;> omega
theorem who_no {ba : List Account} {bb : List Bal} {p : Int} (ha : AccountsOk ba) : ∀ x ∈ who ba bb p, isNo x := fun x hx => by
  unfold who at hx
  obtain ⟨a, h1, rfl⟩ := List.mem_map.1 hx
  obtain ⟨i, hi, rfl⟩ := mem_rd (flt_mem.1 h1).1
  exact (ha.1 i hi.1 hi.2).1
theorem held_sh {b : Books} {p t : Int} (h : HeldOk b p) (hw : 0 < ((who b.Accounts b.Bals p).length : Int)) (ht : inP t 0 1000000000000000) : shareable t (much b.Accounts b.Bals p) := by
  have hr := much_rng (ba := b.Accounts) (p := p) h.1.bals
  have hl := much_len b.Accounts b.Bals p
  have h1 := who_len b.Accounts b.Bals p
  have h2 := h.1.acc.2
  have hm : rd (much b.Accounts b.Bals p) 0 ∈ much b.Accounts b.Bals p := rd_mem ⟨Int.le_refl 0, by omega⟩
  have h3 := (hr _ hm).1
  have h4 := sumF_mem (fun x hx => Int.le_of_lt (hr x hx).1) hm
  have h5 := h.2
  unfold amountOk inP at h5
  exact ⟨⟨⟨by omega, by omega⟩, fun x hx => ⟨Int.le_of_lt (hr x hx).1, (hr x hx).2⟩, ⟨by omega, h5.2⟩⟩, ht⟩
end Go.Proofs.YtnlajjoheegbiaaGreat.Sh
namespace Go.Proofs.YtnlajjoheegbiaaGreat.Sh
open Go.RowKit
set_option linter.unusedVariables false
set_option linter.unusedSimpArgs false
noncomputable def bookPay (b : Books) (pa ca py t : Int) : Books × Int × Int :=
  sel (¬ (BooksOk b ∧ isNo pa ∧ isNo ca ∧ isNo py ∧ inP t 0 1000000000000000)) (⟨[], [], [], [], [], 0⟩, 0, 1)
  (sel (insKind b.Instrs pa = 0 ∨ insKind b.Instrs ca = 0 ∨ accKind b.Accounts py = 0) (b, 0, 3)
  (sel (insKind b.Instrs pa ≠ 2 ∨ insKind b.Instrs ca ≠ 1 ∨ accKind b.Accounts py ≠ 2) (b, 0, 4)
  (sel (¬ HeldOk b pa) (b, 0, 8)
  (sel (¬ 0 < ((who b.Accounts b.Bals pa).length : Int)) (b, 0, 5)
  (sel (¬ (poR b (payL py ca t (who b.Accounts b.Bals pa) (shs t (much b.Accounts b.Bals pa)))).2 = 0) (b, 0, pCode (poR b (payL py ca t (who b.Accounts b.Bals pa) (shs t (much b.Accounts b.Bals pa)))).2)
  (⟨b.Accounts, b.Instrs, (poR b (payL py ca t (who b.Accounts b.Bals pa) (shs t (much b.Accounts b.Bals pa)))).1, b.Lots, b.Trades, b.Lot⟩, ((who b.Accounts b.Bals pa).length : Int), 0))))))
theorem bookPay_0 {b : Books} {pa ca py t : Int}  (c0 : ¬ (BooksOk b ∧ isNo pa ∧ isNo ca ∧ isNo py ∧ inP t 0 1000000000000000)) : bookPay b pa ca py t = (⟨[], [], [], [], [], 0⟩, 0, 1) := by
  rw [bookPay, sel_t c0]
theorem bookPay_1 {b : Books} {pa ca py t : Int} (c0 : ¬ (¬ (BooksOk b ∧ isNo pa ∧ isNo ca ∧ isNo py ∧ inP t 0 1000000000000000))) (c1 : insKind b.Instrs pa = 0 ∨ insKind b.Instrs ca = 0 ∨ accKind b.Accounts py = 0) : bookPay b pa ca py t = (b, 0, 3) := by
  rw [bookPay, sel_f c0, sel_t c1]
theorem bookPay_2 {b : Books} {pa ca py t : Int} (c0 : ¬ (¬ (BooksOk b ∧ isNo pa ∧ isNo ca ∧ isNo py ∧ inP t 0 1000000000000000))) (c1 : ¬ (insKind b.Instrs pa = 0 ∨ insKind b.Instrs ca = 0 ∨ accKind b.Accounts py = 0)) (c2 : insKind b.Instrs pa ≠ 2 ∨ insKind b.Instrs ca ≠ 1 ∨ accKind b.Accounts py ≠ 2) : bookPay b pa ca py t = (b, 0, 4) := by
  rw [bookPay, sel_f c0, sel_f c1, sel_t c2]
theorem bookPay_3 {b : Books} {pa ca py t : Int} (c0 : ¬ (¬ (BooksOk b ∧ isNo pa ∧ isNo ca ∧ isNo py ∧ inP t 0 1000000000000000))) (c1 : ¬ (insKind b.Instrs pa = 0 ∨ insKind b.Instrs ca = 0 ∨ accKind b.Accounts py = 0)) (c2 : ¬ (insKind b.Instrs pa ≠ 2 ∨ insKind b.Instrs ca ≠ 1 ∨ accKind b.Accounts py ≠ 2)) (c3 : ¬ HeldOk b pa) : bookPay b pa ca py t = (b, 0, 8) := by
  rw [bookPay, sel_f c0, sel_f c1, sel_f c2, sel_t c3]
theorem bookPay_4 {b : Books} {pa ca py t : Int} (c0 : ¬ (¬ (BooksOk b ∧ isNo pa ∧ isNo ca ∧ isNo py ∧ inP t 0 1000000000000000))) (c1 : ¬ (insKind b.Instrs pa = 0 ∨ insKind b.Instrs ca = 0 ∨ accKind b.Accounts py = 0)) (c2 : ¬ (insKind b.Instrs pa ≠ 2 ∨ insKind b.Instrs ca ≠ 1 ∨ accKind b.Accounts py ≠ 2)) (c3 : ¬ (¬ HeldOk b pa)) (c4 : ¬ 0 < ((who b.Accounts b.Bals pa).length : Int)) : bookPay b pa ca py t = (b, 0, 5) := by
  rw [bookPay, sel_f c0, sel_f c1, sel_f c2, sel_f c3, sel_t c4]
theorem bookPay_5 {b : Books} {pa ca py t : Int} (c0 : ¬ (¬ (BooksOk b ∧ isNo pa ∧ isNo ca ∧ isNo py ∧ inP t 0 1000000000000000))) (c1 : ¬ (insKind b.Instrs pa = 0 ∨ insKind b.Instrs ca = 0 ∨ accKind b.Accounts py = 0)) (c2 : ¬ (insKind b.Instrs pa ≠ 2 ∨ insKind b.Instrs ca ≠ 1 ∨ accKind b.Accounts py ≠ 2)) (c3 : ¬ (¬ HeldOk b pa)) (c4 : ¬ (¬ 0 < ((who b.Accounts b.Bals pa).length : Int))) (c5 : ¬ (poR b (payL py ca t (who b.Accounts b.Bals pa) (shs t (much b.Accounts b.Bals pa)))).2 = 0) : bookPay b pa ca py t = (b, 0, pCode (poR b (payL py ca t (who b.Accounts b.Bals pa) (shs t (much b.Accounts b.Bals pa)))).2) := by
  rw [bookPay, sel_f c0, sel_f c1, sel_f c2, sel_f c3, sel_f c4, sel_t c5]
theorem bookPay_6 {b : Books} {pa ca py t : Int} (c0 : ¬ (¬ (BooksOk b ∧ isNo pa ∧ isNo ca ∧ isNo py ∧ inP t 0 1000000000000000))) (c1 : ¬ (insKind b.Instrs pa = 0 ∨ insKind b.Instrs ca = 0 ∨ accKind b.Accounts py = 0)) (c2 : ¬ (insKind b.Instrs pa ≠ 2 ∨ insKind b.Instrs ca ≠ 1 ∨ accKind b.Accounts py ≠ 2)) (c3 : ¬ (¬ HeldOk b pa)) (c4 : ¬ (¬ 0 < ((who b.Accounts b.Bals pa).length : Int))) (c5 : ¬ (¬ (poR b (payL py ca t (who b.Accounts b.Bals pa) (shs t (much b.Accounts b.Bals pa)))).2 = 0)) : bookPay b pa ca py t = (⟨b.Accounts, b.Instrs, (poR b (payL py ca t (who b.Accounts b.Bals pa) (shs t (much b.Accounts b.Bals pa)))).1, b.Lots, b.Trades, b.Lot⟩, ((who b.Accounts b.Bals pa).length : Int), 0) := by
  rw [bookPay, sel_f c0, sel_f c1, sel_f c2, sel_f c3, sel_f c4, sel_f c5]
set_option maxHeartbeats 4000000 in
theorem impl_BookPay {ba : List Account} {bi : List Instr} {bb : List Bal} {bl : List Lot} {bt : List Trade} {bn : Int} {pa ca py t : Int} : FC Tryz.prog 35 [bkV 0 ⟨ba, bi, bb, bl, bt, bn⟩, I pa, I ca, I py, I t] (bkR ⟨ba, bi, bb, bl, bt, bn⟩) (.tup [bkE 5 (bookPay ⟨ba, bi, bb, bl, bt, bn⟩ pa ca py t).1, I (bookPay ⟨ba, bi, bb, bl, bt, bn⟩ pa ca py t).2.1, I (bookPay ⟨ba, bi, bb, bl, bt, bn⟩ pa ca py t).2.2]) (bkR ⟨ba, bi, bb, bl, bt, bn⟩ ++ bkW (bookPay ⟨ba, bi, bb, bl, bt, bn⟩ pa ca py t).1) := by
  refine fent tk 130 [.cell 10 _, .tmp 11, .tmp 12] Tryz.func35 (by kernel_rfl) rfl rfl rfl rfl rfl rfl rfl ?_
  by_cases hok : BooksOk ⟨ba, bi, bb, bl, bt, bn⟩
  rotate_left
  ·
    rw [bookPay_0 (b := ⟨ba, bi, bb, bl, bt, bn⟩) (fun h => hok h.1)]
    repeat' (first
 | (intro h9; exfalso; first | contradiction | omega)
 | (with_reducible apply znilC (d := 40) 0 94 2); rfl; rfl; rfl; rfl; rfl
 | (with_reducible apply znilC (d := 40) 1 95 2); rfl; rfl; rfl; rfl; rfl
 | (with_reducible apply znilC (d := 40) 2 97 3); rfl; rfl; rfl; rfl; rfl
 | (with_reducible apply znilC (d := 40) 3 99 5); rfl; rfl; rfl; rfl; rfl
 | (with_reducible apply znilC (d := 40) 4 101 8); rfl; rfl; rfl; rfl; rfl
 | (with_reducible apply zd); rfl; exact tk; rfl
 | (with_reducible first | intro _ | apply wseq | apply zreg | apply thenQ_n | apply thenQ_r | apply thenQ_e | apply znil | apply wret | apply bodyQ_r | apply wblk | apply blkQ_n | apply blkQ_r | apply wskip | apply wexit)
 | apply wct rfl
 | (with_reducible apply zcp); (iterate 10 rfl); (first | exact impl_BooksOk | exact impl_nosOk | exact impl_in | exact impl_Books_isInstr); rfl; rfl
 | fail)
    all_goals first | (first | exact endV [0, 1, 2, 3, 4, 7, 8, 9, 10, 11] rfl rfl rfl rfl rfl rfl | exact endV [0, 1, 2, 3, 4, 8, 9, 10, 11, 12] rfl rfl rfl rfl rfl rfl) | trace_state
  by_cases hta : isNo pa ∧ isNo ca ∧ isNo py ∧ inP t 0 1000000000000000
  rotate_left
  ·
    rw [bookPay_0 (b := ⟨ba, bi, bb, bl, bt, bn⟩) (fun h => hta h.2)]
    repeat' (first
 | (intro h9; exfalso; first | contradiction | omega)
 | (intro h9; refine absurd ⟨?_, ?_, ?_, ?_⟩ hta; exact (show ∀ x ∈ [pa, ca, py], isNo x by assumption) _ (.head _); exact (show ∀ x ∈ [pa, ca, py], isNo x by assumption) _ (.tail _ (.head _)); exact (show ∀ x ∈ [pa, ca, py], isNo x by assumption) _ (.tail _ (.tail _ (.head _))); assumption)
 | (with_reducible apply znilC (d := 40) 0 94 2); rfl; rfl; rfl; rfl; rfl
 | (with_reducible apply znilC (d := 40) 1 95 2); rfl; rfl; rfl; rfl; rfl
 | (with_reducible apply znilC (d := 40) 2 97 3); rfl; rfl; rfl; rfl; rfl
 | (with_reducible apply znilC (d := 40) 3 99 5); rfl; rfl; rfl; rfl; rfl
 | (with_reducible apply znilC (d := 40) 4 101 8); rfl; rfl; rfl; rfl; rfl
 | (with_reducible apply zd); rfl; exact tk; rfl
 | (with_reducible first | intro _ | apply wseq | apply zreg | apply thenQ_n | apply thenQ_r | apply thenQ_e | apply znil | apply wret | apply bodyQ_r | apply wblk | apply blkQ_n | apply blkQ_r | apply wskip | apply wexit)
 | apply wct rfl
 | (with_reducible apply zlit (α := Int) (e := 3)); rfl; exact tk; (iterate 13 rfl)
 | (with_reducible apply zcp); (iterate 10 rfl); (first | exact impl_BooksOk | exact impl_nosOk | exact impl_in | exact impl_Books_isInstr); rfl; rfl
 | fail)
    all_goals first | (first | exact endV [0, 1, 2, 3, 4, 7, 8, 9, 10, 11] rfl rfl rfl rfl rfl rfl | exact endV [0, 1, 2, 3, 4, 8, 9, 10, 11, 12] rfl rfl rfl rfl rfl rfl) | trace_state
  have hA := hok.acc
  have hI := hok.ins
  have hal := hA.2
  obtain ⟨k1, k2, k3, k4⟩ := id hta
  have hno : ∀ x ∈ [pa, ca, py], isNo x := fun x hx => by simp only [List.mem_cons, List.not_mem_nil, or_false] at hx; rcases hx with rfl | rfl | rfl <;> assumption
  dsimp only at hA hI hal
  have c0 : ¬ ¬ (BooksOk ⟨ba, bi, bb, bl, bt, bn⟩ ∧ isNo pa ∧ isNo ca ∧ isNo py ∧ inP t 0 1000000000000000) := fun k => k ⟨hok, hta⟩
  by_cases hh : HeldOk ⟨ba, bi, bb, bl, bt, bn⟩ pa ∧ 0 < ((who ba bb pa).length : Int)
  rotate_left
  ·
    have hnn : ([] : List Int).length = 0 := rfl
    repeat' (first
 | (intro h9; exfalso; first | contradiction | omega)
 | (with_reducible apply zds); exact tk; rfl; rfl; rfl; rfl; rfl
 | (with_reducible apply zd); rfl; exact tk; rfl
 | (with_reducible first | intro _ | apply wseq | apply zreg | apply thenQ_n | apply thenQ_r | apply thenQ_e | apply znil | apply wret | apply bodyQ_r | apply wblk | apply blkQ_n | apply blkQ_r | apply wskip | apply wexit)
 | apply wct rfl
 | apply wcf rfl
 | (with_reducible apply zcmp); rfl; exact tk; rfl; rfl; rfl
 | (with_reducible apply zne); rfl; exact tk; rfl; rfl; rfl; rfl
 | (with_reducible apply zlit (α := Int) (e := 3)); rfl; exact tk; (iterate 13 rfl)
 | (with_reducible apply zcp); (iterate 10 rfl); (first | exact impl_BooksOk | exact impl_nosOk | exact impl_in | exact impl_Books_isInstr); rfl; rfl
 | (with_reducible apply zcf); (iterate 10 rfl); (first | exact impl_cloneBooks (by first | assumption | exact BooksOk.midB (by assumption)) | exact impl_Shares (by assumption)); rfl; rfl; rfl; rfl; rfl
 | (with_reducible apply zcsf); (iterate 10 rfl); exact impl_Held; (iterate 8 rfl)
 | (with_reducible apply zc); (iterate 10 rfl); (first | exact impl_Books_kind | exact impl_Books_instr); exact fun _ => rfl; rfl; rfl; rfl
 | fail)
    all_goals first | (exfalso; exact hh ⟨by assumption, by omega⟩) | skip
    all_goals first
      | (rw [bookPay_1 (b := ⟨ba, bi, bb, bl, bt, bn⟩) c0 (by dsimp only; omega)]
         first | exact endV [0, 1, 2, 3, 4, 8, 9, 10, 11, 12] rfl rfl rfl rfl rfl rfl)
      | (rw [bookPay_2 (b := ⟨ba, bi, bb, bl, bt, bn⟩) c0 (by dsimp only; omega) (by dsimp only; omega)]
         first | exact endV [0, 1, 2, 3, 4, 8, 9, 10, 11, 12] rfl rfl rfl rfl rfl rfl)
      | (rw [bookPay_3 (b := ⟨ba, bi, bb, bl, bt, bn⟩) c0 (by dsimp only; omega) (by dsimp only; omega) (by assumption)]
         first | exact endV [0, 1, 2, 3, 4, 8, 9, 10, 11, 12] rfl rfl rfl rfl rfl rfl)
      | (rw [bookPay_4 (b := ⟨ba, bi, bb, bl, bt, bn⟩) c0 (by dsimp only; omega) (by dsimp only; omega) (fun k => k (by assumption)) (by dsimp only; omega)]
         first | exact endV [0, 1, 2, 3, 4, 8, 9, 10, 11, 12] rfl rfl rfl rfl rfl rfl)
      | trace_state
  obtain ⟨hhe, hwl⟩ := hh
  have hsh := held_sh (t := t) hhe hwl k4
  dsimp only at hsh
  have hwn := who_no (bb := bb) (p := pa) hA
  have hwm := much_len ba bb pa
  have hsl := shs_len t (much ba bb pa)
  have hwb := who_len ba bb pa
  have hsb := shs_le hsh
  have hlg := payL_ok (payer := py) (cash := ca) k3 k2 k4 hwn (by omega) (by omega) hsb (shs_sum hsh)
  have hpc := poR_code hok hlg
  have hpn := pC_ne (pN ba bb (payL py ca t (who ba bb pa) (shs t (much ba bb pa))))
  have hsn := sC_ne (pN ba bb (payL py ca t (who ba bb pa) (shs t (much ba bb pa))))
  have htb : 0 ≤ t ∧ t ≤ 1000000000000000 := k4
  repeat' (first
 | (intro h9; exfalso; first | contradiction | omega)
 | (with_reducible apply zds); exact tk; rfl; rfl; rfl; rfl; rfl
 | (with_reducible apply zd); rfl; exact tk; rfl
 | (with_reducible first | intro _ | apply wseq | apply zreg | apply thenQ_n | apply thenQ_r | apply thenQ_e | apply znil | apply wret | apply bodyQ_r | apply wblk | apply blkQ_n | apply blkQ_r | apply wskip | apply wexit)
 | apply wct rfl
 | apply wcf rfl
 | (with_reducible apply zcmp); rfl; exact tk; rfl; rfl; rfl
 | (with_reducible apply zne); rfl; exact tk; rfl; rfl; rfl; rfl
 | (with_reducible apply zneg); rfl; rfl; omega; rfl; rfl
 | (with_reducible apply zlit (α := Int) (e := 3)); rfl; exact tk; (iterate 13 rfl)
 | (with_reducible apply zlit (α := Leg) (e := 117)); rfl; exact tk; (iterate 13 rfl)
 | (with_reducible apply zcp); (iterate 10 rfl); (first | exact impl_BooksOk | exact impl_nosOk | exact impl_in | exact impl_Books_isInstr); rfl; rfl
 | (with_reducible apply zcf); (iterate 10 rfl); (first | exact impl_cloneBooks (by first | assumption | exact BooksOk.midB (by assumption)) | exact impl_Shares (by assumption)); rfl; rfl; rfl; rfl; rfl
 | (with_reducible apply zcsf); (iterate 10 rfl); exact impl_Held; (iterate 8 rfl)
 | (with_reducible apply zc); (iterate 10 rfl); (first | exact impl_Books_kind | exact impl_Books_instr); exact fun _ => rfl; rfl; rfl; rfl
 | fail)
  all_goals first
    | (rw [bookPay_1 (b := ⟨ba, bi, bb, bl, bt, bn⟩) c0 (by dsimp only; omega)]
       (first | exact endV [0, 1, 2, 3, 4, 8, 9, 10, 11, 12] rfl rfl rfl rfl rfl rfl))
    | (rw [bookPay_2 (b := ⟨ba, bi, bb, bl, bt, bn⟩) c0 (by dsimp only; omega) (by dsimp only; omega)]
       (first | exact endV [0, 1, 2, 3, 4, 8, 9, 10, 11, 12] rfl rfl rfl rfl rfl rfl))
    | (exfalso; first | contradiction | omega)
    | skip
  refine wlp (X := Int × List Leg) [2, 5, 10, 13, 14, 18, 102, 103] [0, 1, 2, 3, 4, 5, 6, 7, 8, 9, 10, 11, 12, 13, 14, 15, 16, 17] (fun x => [(104, I x.1), (20, .c (.row 17 0 x.2.length))]) (fun x => [(17, ow 117 x.2)]) (fun x => (0 ≤ x.1 ∧ x.1 ≤ (who ba bb pa).length) ∧ x.2 = ⟨py, ca, -t⟩ :: pyL ca (who ba bb pa) (shs t (much ba bb pa)) x.1) (fun x => ((who ba bb pa).length - x.1).toNat) (0, [⟨py, ca, -t⟩]) ⟨by dsimp only; omega, rfl⟩ rfl rfl (fun _ => rfl) (fun _ => rfl) ⟨rfl, rfl, rfl, rfl, rfl, rfl, rfl, rfl⟩ (fun x hx => ?_)
  obtain ⟨i, u⟩ := x
  obtain ⟨h0, hu⟩ := hx
  dsimp only at h0 hu ⊢
  have hpl := pyL_len (cash := ca) (who := (who ba bb pa)) (sh := (shs t (much ba bb pa))) h0.1
  have hul : (u.length : Int) = i + 1 := by rw [hu, List.length_cons]; omega
  by_cases hil : i < (who ba bb pa).length
  ·
    have hu2 : u ++ [⟨rd (who ba bb pa) i, ca, rd (shs t (much ba bb pa)) i⟩] = ⟨py, ca, -t⟩ :: pyL ca (who ba bb pa) (shs t (much ba bb pa)) (i + 1) := by rw [hu, pyL_succ h0.1]; rfl
    repeat' (first
 | (intro h9; exfalso; first | contradiction | omega)
 | (with_reducible apply zds); exact tk; rfl; rfl; rfl; rfl; rfl
 | (with_reducible apply zd); rfl; exact tk; rfl
 | (with_reducible first | intro _ | apply wseq | apply zreg | apply thenQ_n | apply thenQ_r | apply thenQ_e | apply znil | apply wret | apply bodyQ_r | apply wblk | apply blkQ_n | apply blkQ_r | apply wskip | apply wexit)
 | apply wct rfl
 | (with_reducible apply zcmp); rfl; exact tk; rfl; rfl; rfl
 | (with_reducible apply zar); rfl; rfl; rfl; rfl; (first | omega | ((try simp only [List.length_append, List.length_cons, List.length_nil, List.length_map]); (try dsimp only); omega)); rfl; rfl
 | (with_reducible apply zix); rfl; exact tk; (iterate 7 rfl); (first | omega | ((try simp only [List.length_append, List.length_cons, List.length_nil, List.length_map]); (try dsimp only); omega)); rfl; rfl
 | (with_reducible apply zle); rfl; exact tk; rfl; rfl; rfl; rfl; (first | omega | ((try simp only [List.length_append, List.length_cons, List.length_nil, List.length_map]); (try dsimp only); omega)); rfl; rfl; rfl; rfl
 | (with_reducible apply zlit (α := Leg) (e := 117)); rfl; exact tk; (iterate 13 rfl)
 | (with_reducible apply zap); rfl; exact tk; (iterate 10 rfl); (first | omega | ((try simp only [List.length_append, List.length_cons, List.length_nil, List.length_map]); (try dsimp only); omega)); rfl; rfl; rfl; rfl; rfl
 | fail)
    all_goals first
      | exact endR (i + 1, u ++ [⟨rd (who ba bb pa) i, ca, rd (shs t (much ba bb pa)) i⟩]) [0, 1, 2, 3, 4, 5, 6, 7, 8, 9, 10, 11, 12, 13, 14, 15, 16, 19] ⟨rfl, rfl, rfl, rfl, rfl, rfl, rfl, rfl⟩ ⟨by dsimp only; omega, hu2⟩ (by first | omega | (dsimp only; omega))
      | (exfalso; omega)
      | trace_state
  have hug : u = payL py ca t (who ba bb pa) (shs t (much ba bb pa)) := by rw [hu, show i = ((who ba bb pa).length : Int) from by omega]
  subst hug
  have c1 : ¬ (insKind (⟨ba, bi, bb, bl, bt, bn⟩ : Books).Instrs pa = 0 ∨ insKind (⟨ba, bi, bb, bl, bt, bn⟩ : Books).Instrs ca = 0 ∨ accKind (⟨ba, bi, bb, bl, bt, bn⟩ : Books).Accounts py = 0) := by dsimp only; omega
  have c2 : ¬ (insKind (⟨ba, bi, bb, bl, bt, bn⟩ : Books).Instrs pa ≠ 2 ∨ insKind (⟨ba, bi, bb, bl, bt, bn⟩ : Books).Instrs ca ≠ 1 ∨ accKind (⟨ba, bi, bb, bl, bt, bn⟩ : Books).Accounts py ≠ 2) := by dsimp only; omega
  repeat' (first
 | (intro h9; exfalso; first | contradiction | omega)
 | (with_reducible apply zds); exact tk; rfl; rfl; rfl; rfl; rfl
 | (with_reducible apply zd); rfl; exact tk; rfl
 | (with_reducible first | intro _ | apply wseq | apply zreg | apply thenQ_n | apply thenQ_r | apply thenQ_e | apply znil | apply wret | apply bodyQ_r | apply wblk | apply blkQ_n | apply blkQ_r | apply wskip | apply wexit)
 | apply wct rfl
 | apply wcf rfl
 | (with_reducible apply blkQ_x rfl)
 | (with_reducible apply zcmp); rfl; exact tk; rfl; rfl; rfl
 | (with_reducible apply zne); rfl; exact tk; rfl; rfl; rfl; rfl
 | (with_reducible apply zcf); (iterate 10 rfl); (first | exact impl_cloneBooks (by first | assumption | exact BooksOk.midB (by assumption)) | exact impl_Shares (by assumption)); rfl; rfl; rfl; rfl; rfl
 | (with_reducible apply zcwp  [true,true,true,true,true,true,true]); (iterate 10 rfl); exact impl_Books_post (by omega); (iterate 6 rfl)
 | fail)
  all_goals first
    | (exfalso; omega)
    | (have c5 : pN ba bb (payL py ca t (who ba bb pa) (shs t (much ba bb pa))) = 0 := by assumption
       rw [bookPay_6 (b := ⟨ba, bi, bb, bl, bt, bn⟩) c0 c1 c2 (fun k => k hhe) (fun k => k hwl) (fun k => k c5)]
       first | exact endV [0, 1, 2, 3, 4, 8, 9, 18, 11, 12] rfl rfl rfl rfl rfl rfl)
    | (have c5 : ¬ pN ba bb (payL py ca t (who ba bb pa) (shs t (much ba bb pa))) = 0 := by assumption
       rw [bookPay_5 (b := ⟨ba, bi, bb, bl, bt, bn⟩) c0 c1 c2 (fun k => k hhe) (fun k => k hwl) c5]
       first | exact endV [0, 1, 2, 3, 4, 18, 19, 20, 21, 22] rfl rfl rfl rfl rfl rfl)
    | trace_state
set_option maxHeartbeats 4000000 in
theorem spec_BookPay {ba : List Account} {bi : List Instr} {bb : List Bal} {bl : List Lot} {bt : List Trade} {bn : Int} {pa ca py t : Int} : FC Tryz.prog 34 [bkV 0 ⟨ba, bi, bb, bl, bt, bn⟩, I pa, I ca, I py, I t] (bkR ⟨ba, bi, bb, bl, bt, bn⟩) (.tup [bkE 5 (bookPay ⟨ba, bi, bb, bl, bt, bn⟩ pa ca py t).1, I (bookPay ⟨ba, bi, bb, bl, bt, bn⟩ pa ca py t).2.1, I (bookPay ⟨ba, bi, bb, bl, bt, bn⟩ pa ca py t).2.2]) (bkR ⟨ba, bi, bb, bl, bt, bn⟩ ++ bkW (bookPay ⟨ba, bi, bb, bl, bt, bn⟩ pa ca py t).1) := by
  refine fent tk 153 [.cell 10 _, .tmp 11, .tmp 12] Tryz.func34 (by kernel_rfl) rfl rfl rfl rfl rfl rfl rfl ?_
  by_cases hok : BooksOk ⟨ba, bi, bb, bl, bt, bn⟩
  rotate_left
  ·
    rw [bookPay_0 (b := ⟨ba, bi, bb, bl, bt, bn⟩) (fun h => hok h.1)]
    repeat' (first
 | (intro h9; exfalso; first | contradiction | omega)
 | (with_reducible apply znilC (d := 49) 0 94 2); rfl; rfl; rfl; rfl; rfl
 | (with_reducible apply znilC (d := 49) 1 95 2); rfl; rfl; rfl; rfl; rfl
 | (with_reducible apply znilC (d := 49) 2 97 3); rfl; rfl; rfl; rfl; rfl
 | (with_reducible apply znilC (d := 49) 3 99 5); rfl; rfl; rfl; rfl; rfl
 | (with_reducible apply znilC (d := 49) 4 101 8); rfl; rfl; rfl; rfl; rfl
 | (with_reducible apply zd); rfl; exact tk; rfl
 | (with_reducible first | intro _ | apply wseq | apply zreg | apply thenQ_n | apply thenQ_r | apply thenQ_e | apply znil | apply wret | apply bodyQ_r | apply wblk | apply blkQ_n | apply blkQ_r | apply wskip | apply wexit)
 | apply wct rfl
 | (with_reducible apply zcp); (iterate 10 rfl); (first | exact spec_BooksOk | exact spec_l3No | exact spec_l1Some); rfl; rfl
 | fail)
    all_goals first | (first | exact endV [0, 1, 2, 3, 4, 7, 8, 9, 10, 11] rfl rfl rfl rfl rfl rfl | exact endV [0, 1, 2, 3, 4, 8, 9, 10, 11, 12] rfl rfl rfl rfl rfl rfl) | trace_state
  by_cases hta : isNo pa ∧ isNo ca ∧ isNo py ∧ inP t 0 1000000000000000
  rotate_left
  ·
    rw [bookPay_0 (b := ⟨ba, bi, bb, bl, bt, bn⟩) (fun h => hta h.2)]
    repeat' (first
 | (intro h9; exfalso; first | contradiction | omega)
 | (intro h9; exact absurd ⟨by assumption, by assumption, by assumption, by assumption⟩ hta)
 | (with_reducible apply znilC (d := 49) 0 94 2); rfl; rfl; rfl; rfl; rfl
 | (with_reducible apply znilC (d := 49) 1 95 2); rfl; rfl; rfl; rfl; rfl
 | (with_reducible apply znilC (d := 49) 2 97 3); rfl; rfl; rfl; rfl; rfl
 | (with_reducible apply znilC (d := 49) 3 99 5); rfl; rfl; rfl; rfl; rfl
 | (with_reducible apply znilC (d := 49) 4 101 8); rfl; rfl; rfl; rfl; rfl
 | (with_reducible apply zd); rfl; exact tk; rfl
 | (with_reducible first | intro _ | apply wseq | apply zreg | apply thenQ_n | apply thenQ_r | apply thenQ_e | apply znil | apply wret | apply bodyQ_r | apply wblk | apply blkQ_n | apply blkQ_r | apply wskip | apply wexit)
 | apply wct rfl
 | (with_reducible apply zcp); (iterate 10 rfl); (first | exact spec_BooksOk | exact spec_l3No | exact spec_l1Some); rfl; rfl
 | fail)
    all_goals first | (first | exact endV [0, 1, 2, 3, 4, 7, 8, 9, 10, 11] rfl rfl rfl rfl rfl rfl | exact endV [0, 1, 2, 3, 4, 8, 9, 10, 11, 12] rfl rfl rfl rfl rfl rfl) | trace_state
  have hA := hok.acc
  have hI := hok.ins
  have hal := hA.2
  obtain ⟨k1, k2, k3, k4⟩ := id hta
  have hno : ∀ x ∈ [pa, ca, py], isNo x := fun x hx => by simp only [List.mem_cons, List.not_mem_nil, or_false] at hx; rcases hx with rfl | rfl | rfl <;> assumption
  dsimp only at hA hI hal
  have c0 : ¬ ¬ (BooksOk ⟨ba, bi, bb, bl, bt, bn⟩ ∧ isNo pa ∧ isNo ca ∧ isNo py ∧ inP t 0 1000000000000000) := fun k => k ⟨hok, hta⟩
  by_cases hh : HeldOk ⟨ba, bi, bb, bl, bt, bn⟩ pa ∧ 0 < ((who ba bb pa).length : Int)
  rotate_left
  ·
    have hnn : ([] : List Int).length = 0 := rfl
    repeat' (first
 | (intro h9; exfalso; first | contradiction | omega)
 | (with_reducible apply zds); exact tk; rfl; rfl; rfl; rfl; rfl
 | (with_reducible apply zd); rfl; exact tk; rfl
 | (with_reducible first | intro _ | apply wseq | apply zreg | apply thenQ_n | apply thenQ_r | apply thenQ_e | apply znil | apply wret | apply bodyQ_r | apply wblk | apply blkQ_n | apply blkQ_r | apply wskip | apply wexit)
 | apply wct rfl
 | apply wcf rfl
 | (with_reducible apply zcmp); rfl; exact tk; rfl; rfl; rfl
 | (with_reducible apply zne); rfl; exact tk; rfl; rfl; rfl; rfl
 | refine zdq (id := 3) rfl (by kernel_rfl) [(.p, 0), (.p, 2), (.p, 4), (.p, 6), (.p, 8), (.p, 10), (.t, 1), (.t, 5), (.t, 9), (.o, 3), (.o, 7), (.o, 11), (.p, 12), (.p, 13), (.p, 14)] [] (by kernel_rfl) rfl ?_
 | (with_reducible apply zcp); (iterate 10 rfl); (first | exact spec_BooksOk | exact spec_l3No | exact spec_l1Some); rfl; rfl
 | (with_reducible apply zcq); (iterate 10 rfl); (first | exact spec_AccountKind | exact spec_InstrKind); rfl; rfl
 | (with_reducible apply zcsf); (iterate 10 rfl); exact spec_Held; (iterate 8 rfl)
 | (with_reducible apply zcf); (iterate 10 rfl); (first | exact spec_l6Copy (by first | assumption | exact BooksOk.midB (by assumption)) | exact spec_Shares (by assumption)); rfl; rfl; rfl; rfl; rfl
 | fail)
    all_goals first | (exfalso; exact hh ⟨by assumption, by omega⟩) | skip
    all_goals first
      | (rw [bookPay_1 (b := ⟨ba, bi, bb, bl, bt, bn⟩) c0 (by dsimp only; omega)]
         first | exact endV [0, 1, 2, 3, 4, 9, 10, 11, 12, 13] rfl rfl rfl rfl rfl rfl)
      | (rw [bookPay_2 (b := ⟨ba, bi, bb, bl, bt, bn⟩) c0 (by dsimp only; omega) (by dsimp only; omega)]
         first | exact endV [0, 1, 2, 3, 4, 9, 10, 11, 12, 13] rfl rfl rfl rfl rfl rfl)
      | (rw [bookPay_3 (b := ⟨ba, bi, bb, bl, bt, bn⟩) c0 (by dsimp only; omega) (by dsimp only; omega) (by assumption)]
         first | exact endV [0, 1, 2, 3, 4, 9, 10, 11, 12, 13] rfl rfl rfl rfl rfl rfl)
      | (rw [bookPay_4 (b := ⟨ba, bi, bb, bl, bt, bn⟩) c0 (by dsimp only; omega) (by dsimp only; omega) (fun k => k (by assumption)) (by dsimp only; omega)]
         first | exact endV [0, 1, 2, 3, 4, 9, 10, 11, 12, 13] rfl rfl rfl rfl rfl rfl)
      | trace_state
  obtain ⟨hhe, hwl⟩ := hh
  have hsh := held_sh (t := t) hhe hwl k4
  dsimp only at hsh
  have hwn := who_no (bb := bb) (p := pa) hA
  have hwm := much_len ba bb pa
  have hsl := shs_len t (much ba bb pa)
  have hwb := who_len ba bb pa
  have hsb := shs_le hsh
  have hlg := payL_ok (payer := py) (cash := ca) k3 k2 k4 hwn (by omega) (by omega) hsb (shs_sum hsh)
  have hpc := poR_code hok hlg
  have hpn := pC_ne (pN ba bb (payL py ca t (who ba bb pa) (shs t (much ba bb pa))))
  have hsn := sC_ne (pN ba bb (payL py ca t (who ba bb pa) (shs t (much ba bb pa))))
  have htb : 0 ≤ t ∧ t ≤ 1000000000000000 := k4
  repeat' (first
 | (intro h9; exfalso; first | contradiction | omega)
 | (with_reducible apply zds); exact tk; rfl; rfl; rfl; rfl; rfl
 | (with_reducible apply zd); rfl; exact tk; rfl
 | (with_reducible first | intro _ | apply wseq | apply zreg | apply thenQ_n | apply thenQ_r | apply thenQ_e | apply znil | apply wret | apply bodyQ_r | apply wblk | apply blkQ_n | apply blkQ_r | apply wskip | apply wexit)
 | apply wct rfl
 | apply wcf rfl
 | (with_reducible apply zcmp); rfl; exact tk; rfl; rfl; rfl
 | (with_reducible apply zne); rfl; exact tk; rfl; rfl; rfl; rfl
 | (with_reducible apply zneg); rfl; rfl; omega; rfl; rfl
 | (with_reducible apply zlit (α := Leg) (e := 117)); rfl; exact tk; (iterate 13 rfl)
 | refine zdq (id := 3) rfl (by kernel_rfl) [(.p, 0), (.p, 2), (.p, 4), (.p, 6), (.p, 8), (.p, 10), (.t, 1), (.t, 5), (.t, 9), (.o, 3), (.o, 7), (.o, 11), (.p, 12), (.p, 13), (.p, 14)] [] (by kernel_rfl) rfl ?_
 | (with_reducible apply zcp); (iterate 10 rfl); (first | exact spec_BooksOk | exact spec_l3No | exact spec_l1Some); rfl; rfl
 | (with_reducible apply zcq); (iterate 10 rfl); (first | exact spec_AccountKind | exact spec_InstrKind); rfl; rfl
 | (with_reducible apply zcsf); (iterate 10 rfl); exact spec_Held; (iterate 8 rfl)
 | (with_reducible apply zcf); (iterate 10 rfl); (first | exact spec_l6Copy (by first | assumption | exact BooksOk.midB (by assumption)) | exact spec_Shares (by assumption)); rfl; rfl; rfl; rfl; rfl
 | fail)
  all_goals first
    | (rw [bookPay_1 (b := ⟨ba, bi, bb, bl, bt, bn⟩) c0 (by dsimp only; omega)]
       (first | exact endV [0, 1, 2, 3, 4, 9, 10, 11, 12, 13] rfl rfl rfl rfl rfl rfl))
    | (rw [bookPay_2 (b := ⟨ba, bi, bb, bl, bt, bn⟩) c0 (by dsimp only; omega) (by dsimp only; omega)]
       (first | exact endV [0, 1, 2, 3, 4, 9, 10, 11, 12, 13] rfl rfl rfl rfl rfl rfl))
    | (exfalso; first | contradiction | omega)
    | skip
  refine wlp (X := Int × List Leg) [2, 5, 10, 16, 20] [0, 1, 2, 3, 4, 5, 6, 7, 8, 9, 10] (fun x => [(23, I x.1), (22, .c (.row 10 0 x.2.length))]) (fun x => [(10, ow 117 x.2)]) (fun x => (0 ≤ x.1 ∧ x.1 ≤ (who ba bb pa).length) ∧ x.2 = ⟨py, ca, -t⟩ :: pyL ca (who ba bb pa) (shs t (much ba bb pa)) x.1) (fun x => ((who ba bb pa).length - x.1).toNat) (0, [⟨py, ca, -t⟩]) ⟨by dsimp only; omega, rfl⟩ rfl rfl (fun _ => rfl) (fun _ => rfl) ⟨rfl, rfl, rfl, rfl, rfl, rfl, rfl, rfl⟩ (fun x hx => ?_)
  obtain ⟨i, u⟩ := x
  obtain ⟨h0, hu⟩ := hx
  dsimp only at h0 hu ⊢
  have hpl := pyL_len (cash := ca) (who := (who ba bb pa)) (sh := (shs t (much ba bb pa))) h0.1
  have hul : (u.length : Int) = i + 1 := by rw [hu, List.length_cons]; omega
  by_cases hil : i < (who ba bb pa).length
  ·
    have hu2 : u ++ [⟨rd (who ba bb pa) i, ca, rd (shs t (much ba bb pa)) i⟩] = ⟨py, ca, -t⟩ :: pyL ca (who ba bb pa) (shs t (much ba bb pa)) (i + 1) := by rw [hu, pyL_succ h0.1]; rfl
    repeat' (first
 | (intro h9; exfalso; first | contradiction | omega)
 | (with_reducible apply zds); exact tk; rfl; rfl; rfl; rfl; rfl
 | (with_reducible apply zd); rfl; exact tk; rfl
 | (with_reducible first | intro _ | apply wseq | apply zreg | apply thenQ_n | apply thenQ_r | apply thenQ_e | apply znil | apply wret | apply bodyQ_r | apply wblk | apply blkQ_n | apply blkQ_r | apply wskip | apply wexit)
 | apply wct rfl
 | (with_reducible apply zcmp); rfl; exact tk; rfl; rfl; rfl
 | (with_reducible apply zar); rfl; rfl; rfl; rfl; (first | omega | ((try simp only [List.length_append, List.length_cons, List.length_nil, List.length_map]); (try dsimp only); omega)); rfl; rfl
 | (with_reducible apply zix); rfl; exact tk; (iterate 7 rfl); (first | omega | ((try simp only [List.length_append, List.length_cons, List.length_nil, List.length_map]); (try dsimp only); omega)); rfl; rfl
 | (with_reducible apply zle); rfl; exact tk; rfl; rfl; rfl; rfl; (first | omega | ((try simp only [List.length_append, List.length_cons, List.length_nil, List.length_map]); (try dsimp only); omega)); rfl; rfl; rfl; rfl
 | (with_reducible apply zlit (α := Leg) (e := 117)); rfl; exact tk; (iterate 13 rfl)
 | (with_reducible apply zap); rfl; exact tk; (iterate 10 rfl); (first | omega | ((try simp only [List.length_append, List.length_cons, List.length_nil, List.length_map]); (try dsimp only); omega)); rfl; rfl; rfl; rfl; rfl
 | refine zdq (id := 18) rfl (by kernel_rfl) [(.p, 0), (.p, 1), (.p, 2), (.p, 3), (.p, 5), (.p, 6), (.p, 7), (.p, 8), (.t, 4), (.t, 9), (.p, 10), (.o, 11), (.l, 12), (.p, 13)] [12] (by kernel_rfl) rfl ?_
 | fail)
    all_goals first
      | exact endR (i + 1, u ++ [⟨rd (who ba bb pa) i, ca, rd (shs t (much ba bb pa)) i⟩]) [0, 1, 2, 3, 4, 5, 6, 7, 8, 9, 12] ⟨rfl, rfl, rfl, rfl, rfl, rfl, rfl, rfl⟩ ⟨by dsimp only; omega, hu2⟩ (by first | omega | (dsimp only; omega))
      | (exfalso; omega)
      | trace_state
  have hug : u = payL py ca t (who ba bb pa) (shs t (much ba bb pa)) := by rw [hu, show i = ((who ba bb pa).length : Int) from by omega]
  subst hug
  have c1 : ¬ (insKind (⟨ba, bi, bb, bl, bt, bn⟩ : Books).Instrs pa = 0 ∨ insKind (⟨ba, bi, bb, bl, bt, bn⟩ : Books).Instrs ca = 0 ∨ accKind (⟨ba, bi, bb, bl, bt, bn⟩ : Books).Accounts py = 0) := by dsimp only; omega
  have c2 : ¬ (insKind (⟨ba, bi, bb, bl, bt, bn⟩ : Books).Instrs pa ≠ 2 ∨ insKind (⟨ba, bi, bb, bl, bt, bn⟩ : Books).Instrs ca ≠ 1 ∨ accKind (⟨ba, bi, bb, bl, bt, bn⟩ : Books).Accounts py ≠ 2) := by dsimp only; omega
  repeat' (first
 | (intro h9; exfalso; first | contradiction | omega)
 | (with_reducible apply zds); exact tk; rfl; rfl; rfl; rfl; rfl
 | (with_reducible apply zd); rfl; exact tk; rfl
 | (with_reducible first | intro _ | apply wseq | apply zreg | apply thenQ_n | apply thenQ_r | apply thenQ_e | apply znil | apply wret | apply bodyQ_r | apply wblk | apply blkQ_n | apply blkQ_r | apply wskip | apply wexit)
 | apply wct rfl
 | apply wcf rfl
 | (with_reducible apply blkQ_x rfl)
 | (with_reducible apply zcmp); rfl; exact tk; rfl; rfl; rfl
 | (with_reducible apply zne); rfl; exact tk; rfl; rfl; rfl; rfl
 | (with_reducible apply zcf); (iterate 10 rfl); (first | exact spec_l6Copy (by first | assumption | exact BooksOk.midB (by assumption)) | exact spec_Shares (by assumption)); rfl; rfl; rfl; rfl; rfl
 | (with_reducible apply zcwp  [true,true,true,true,true,false]); (iterate 10 rfl); exact spec_l6Post (by omega); (iterate 6 rfl)
 | fail)
  all_goals first
    | (exfalso; omega)
    | (have c5 : pN ba bb (payL py ca t (who ba bb pa) (shs t (much ba bb pa))) = 0 := by assumption
       rw [bookPay_6 (b := ⟨ba, bi, bb, bl, bt, bn⟩) c0 c1 c2 (fun k => k hhe) (fun k => k hwl) (fun k => k c5)]
       first | exact endV [0, 1, 2, 3, 4, 11, 12, 16, 14, 15] rfl rfl rfl rfl rfl rfl)
    | (have c5 : ¬ pN ba bb (payL py ca t (who ba bb pa) (shs t (much ba bb pa))) = 0 := by assumption
       rw [bookPay_5 (b := ⟨ba, bi, bb, bl, bt, bn⟩) c0 c1 c2 (fun k => k hhe) (fun k => k hwl) c5, ← sC_pC hpc]
       first | exact endV [0, 1, 2, 3, 4, 17, 18, 19, 20, 21] rfl rfl rfl rfl rfl rfl)
    | trace_state
end Go.Proofs.YtnlajjoheegbiaaGreat.Sh
