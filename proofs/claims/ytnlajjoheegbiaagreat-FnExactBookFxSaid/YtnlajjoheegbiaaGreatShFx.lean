/- Changes over a desk: both sides. No condition. -/
import Derived.Test.YtnlajjoheegbiaaGreatShPq
import Derived.Test.YtnlajjoheegbiaaGreatShMw
import Derived.Test.YtnlajjoheegbiaaGreatShNt
namespace Go.Proofs.YtnlajjoheegbiaaGreat.Sh
open Go.RowKit
set_option linter.unusedVariables false
set_option linter.unusedSimpArgs false
abbrev fxLegs (ho de fr to am got : Int) : List Leg := [⟨ho, fr, -am⟩, ⟨de, fr, am⟩, ⟨de, to, -got⟩, ⟨ho, to, got⟩]
def fxArgs (ho de fr to am nu dn : Int) : Prop := (∀ x ∈ [ho, de, fr, to], isNo x) ∧ inP am 1 1000000000000000 ∧ inP nu 1 1000000000000000 ∧ inP dn 1 1000000000000000
theorem fxArgs_of {ho de fr to am nu dn : Int} (h1 : isNo ho) (h2 : isNo de) (h3 : isNo fr) (h4 : isNo to) (h5 : inP am 1 1000000000000000) (h6 : inP nu 1 1000000000000000) (h7 : inP dn 1 1000000000000000) : fxArgs ho de fr to am nu dn := ⟨fun x hx => by simp only [List.mem_cons, List.not_mem_nil, or_false] at hx; rcases hx with rfl | rfl | rfl | rfl <;> assumption, h5, h6, h7⟩
theorem fxArgs_to {ho de fr to am nu dn : Int} (h : fxArgs ho de fr to am nu dn) : isNo ho ∧ isNo de ∧ isNo fr ∧ isNo to ∧ inP am 1 1000000000000000 ∧ inP nu 1 1000000000000000 ∧ inP dn 1 1000000000000000 := ⟨h.1 _ (by simp), h.1 _ (by simp), h.1 _ (by simp), h.1 _ (by simp), h.2⟩
noncomputable def bookFx (b : Books) (ho de fr to am nu dn : Int) : Books × Int × Int :=
  sel (¬ (BooksOk b ∧ fxArgs ho de fr to am nu dn)) (⟨[], [], [], [], [], 0⟩, 0, 1)
  (sel (accKind b.Accounts ho = 0 ∨ accKind b.Accounts de = 0 ∨ insKind b.Instrs fr = 0 ∨ insKind b.Instrs to = 0) (b, 0, 3)
  (sel (accKind b.Accounts ho ≠ 1 ∨ accKind b.Accounts de ≠ 3 ∨ insKind b.Instrs fr ≠ 1 ∨ insKind b.Instrs to ≠ 1 ∨ fr = to) (b, 0, 4)
  (sel (¬ mdOk am nu dn) (b, 0, 8)
  (sel (¬ (poR b (fxLegs ho de fr to am (am * nu / dn))).2 = 0) (b, 0, pCode (poR b (fxLegs ho de fr to am (am * nu / dn))).2)
  (⟨b.Accounts, b.Instrs, (poR b (fxLegs ho de fr to am (am * nu / dn))).1, b.Lots, b.Trades, b.Lot⟩, am * nu / dn, 0)))))
theorem bookFx_0 {b : Books} {ho de fr to am nu dn : Int}  (c0 : ¬ (BooksOk b ∧ fxArgs ho de fr to am nu dn)) : bookFx b ho de fr to am nu dn = (⟨[], [], [], [], [], 0⟩, 0, 1) := by
  rw [bookFx, sel_t c0]
theorem bookFx_1 {b : Books} {ho de fr to am nu dn : Int} (c0 : ¬ (¬ (BooksOk b ∧ fxArgs ho de fr to am nu dn))) (c1 : accKind b.Accounts ho = 0 ∨ accKind b.Accounts de = 0 ∨ insKind b.Instrs fr = 0 ∨ insKind b.Instrs to = 0) : bookFx b ho de fr to am nu dn = (b, 0, 3) := by
  rw [bookFx, sel_f c0, sel_t c1]
theorem bookFx_2 {b : Books} {ho de fr to am nu dn : Int} (c0 : ¬ (¬ (BooksOk b ∧ fxArgs ho de fr to am nu dn))) (c1 : ¬ (accKind b.Accounts ho = 0 ∨ accKind b.Accounts de = 0 ∨ insKind b.Instrs fr = 0 ∨ insKind b.Instrs to = 0)) (c2 : accKind b.Accounts ho ≠ 1 ∨ accKind b.Accounts de ≠ 3 ∨ insKind b.Instrs fr ≠ 1 ∨ insKind b.Instrs to ≠ 1 ∨ fr = to) : bookFx b ho de fr to am nu dn = (b, 0, 4) := by
  rw [bookFx, sel_f c0, sel_f c1, sel_t c2]
theorem bookFx_3 {b : Books} {ho de fr to am nu dn : Int} (c0 : ¬ (¬ (BooksOk b ∧ fxArgs ho de fr to am nu dn))) (c1 : ¬ (accKind b.Accounts ho = 0 ∨ accKind b.Accounts de = 0 ∨ insKind b.Instrs fr = 0 ∨ insKind b.Instrs to = 0)) (c2 : ¬ (accKind b.Accounts ho ≠ 1 ∨ accKind b.Accounts de ≠ 3 ∨ insKind b.Instrs fr ≠ 1 ∨ insKind b.Instrs to ≠ 1 ∨ fr = to)) (c3 : ¬ mdOk am nu dn) : bookFx b ho de fr to am nu dn = (b, 0, 8) := by
  rw [bookFx, sel_f c0, sel_f c1, sel_f c2, sel_t c3]
theorem bookFx_4 {b : Books} {ho de fr to am nu dn : Int} (c0 : ¬ (¬ (BooksOk b ∧ fxArgs ho de fr to am nu dn))) (c1 : ¬ (accKind b.Accounts ho = 0 ∨ accKind b.Accounts de = 0 ∨ insKind b.Instrs fr = 0 ∨ insKind b.Instrs to = 0)) (c2 : ¬ (accKind b.Accounts ho ≠ 1 ∨ accKind b.Accounts de ≠ 3 ∨ insKind b.Instrs fr ≠ 1 ∨ insKind b.Instrs to ≠ 1 ∨ fr = to)) (c3 : ¬ (¬ mdOk am nu dn)) (c4 : ¬ (poR b (fxLegs ho de fr to am (am * nu / dn))).2 = 0) : bookFx b ho de fr to am nu dn = (b, 0, pCode (poR b (fxLegs ho de fr to am (am * nu / dn))).2) := by
  rw [bookFx, sel_f c0, sel_f c1, sel_f c2, sel_f c3, sel_t c4]
theorem bookFx_5 {b : Books} {ho de fr to am nu dn : Int} (c0 : ¬ (¬ (BooksOk b ∧ fxArgs ho de fr to am nu dn))) (c1 : ¬ (accKind b.Accounts ho = 0 ∨ accKind b.Accounts de = 0 ∨ insKind b.Instrs fr = 0 ∨ insKind b.Instrs to = 0)) (c2 : ¬ (accKind b.Accounts ho ≠ 1 ∨ accKind b.Accounts de ≠ 3 ∨ insKind b.Instrs fr ≠ 1 ∨ insKind b.Instrs to ≠ 1 ∨ fr = to)) (c3 : ¬ (¬ mdOk am nu dn)) (c4 : ¬ (¬ (poR b (fxLegs ho de fr to am (am * nu / dn))).2 = 0)) : bookFx b ho de fr to am nu dn = (⟨b.Accounts, b.Instrs, (poR b (fxLegs ho de fr to am (am * nu / dn))).1, b.Lots, b.Trades, b.Lot⟩, am * nu / dn, 0) := by
  rw [bookFx, sel_f c0, sel_f c1, sel_f c2, sel_f c3, sel_f c4]
theorem fxLegs_ok {ho de fr to am got : Int} (h1 : isNo ho) (h2 : isNo de) (h3 : isNo fr) (h4 : isNo to) (h5 : 0 ≤ am ∧ am ≤ 1000000000000000) (h6 : 0 ≤ got ∧ got ≤ 1000000000000000) (hne : fr ≠ to) : LegsOk (fxLegs ho de fr to am got) := by
  refine ⟨⟨by show 4 ≤ 160; omega, fun x hx => ?_⟩, fun x hx => ?_⟩
  · simp only [fxLegs, List.mem_cons, List.not_mem_nil, or_false] at hx
    rcases hx with rfl | rfl | rfl | rfl <;> (refine ⟨by assumption, by assumption, ?_⟩; show -1000000000000000 ≤ _ ∧ _ ≤ 1000000000000000; dsimp only; omega)
  · have e : ∀ c : Int, legsSum (fxLegs ho de fr to am got) c = (if fr = c then -am else 0) + ((if fr = c then am else 0) + ((if to = c then -got else 0) + ((if to = c then got else 0) + 0))) := fun c => by
      simp only [legsSum, sumF, fxLegs, List.map_cons, List.map_nil, List.sum_cons, List.sum_nil, legB]
    rw [e]
    split <;> split <;> omega
set_option maxHeartbeats 4000000 in
theorem impl_BookFx {ba : List Account} {bi : List Instr} {bb : List Bal} {bl : List Lot} {bt : List Trade} {bn : Int} {ho de fr to am nu dn : Int} : FC Tryz.prog 33 [bkV 0 ⟨ba, bi, bb, bl, bt, bn⟩, I ho, I de, I fr, I to, I am, I nu, I dn] (bkR ⟨ba, bi, bb, bl, bt, bn⟩) (.tup [bkE 5 (bookFx ⟨ba, bi, bb, bl, bt, bn⟩ ho de fr to am nu dn).1, I (bookFx ⟨ba, bi, bb, bl, bt, bn⟩ ho de fr to am nu dn).2.1, I (bookFx ⟨ba, bi, bb, bl, bt, bn⟩ ho de fr to am nu dn).2.2]) (bkR ⟨ba, bi, bb, bl, bt, bn⟩ ++ bkW (bookFx ⟨ba, bi, bb, bl, bt, bn⟩ ho de fr to am nu dn).1) := by
  refine fent tk 137 [.cell 16 _, .tmp 17, .tmp 18] Tryz.func33 (by kernel_rfl) rfl rfl rfl rfl rfl rfl rfl ?_
  by_cases hok : BooksOk ⟨ba, bi, bb, bl, bt, bn⟩
  rotate_left
  ·
    rw [bookFx_0 (b := ⟨ba, bi, bb, bl, bt, bn⟩) (fun h => hok h.1)]
    repeat' (first
      | (intro h9; exfalso; first | contradiction | omega)
      | (with_reducible apply znilC (d := 51) 0 94 2); rfl; rfl; rfl; rfl; rfl
      | (with_reducible apply znilC (d := 51) 1 95 2); rfl; rfl; rfl; rfl; rfl
      | (with_reducible apply znilC (d := 51) 2 97 3); rfl; rfl; rfl; rfl; rfl
      | (with_reducible apply znilC (d := 51) 3 99 5); rfl; rfl; rfl; rfl; rfl
      | (with_reducible apply znilC (d := 51) 4 101 8); rfl; rfl; rfl; rfl; rfl
      | (with_reducible apply zd); rfl; exact tk; rfl
      | (with_reducible first | intro _ | apply wseq | apply zreg | apply thenQ_n | apply thenQ_r | apply thenQ_e | apply znil | apply wret | apply bodyQ_r | apply wblk | apply blkQ_n | apply blkQ_r | apply wskip | apply wexit)
      | apply wct rfl
      | apply wcf rfl
      | (with_reducible apply blkQ_x rfl)
      | (with_reducible apply blkQ_y rfl)
      | (with_reducible apply zeq); rfl; exact tk; rfl; rfl; rfl; rfl
      | (with_reducible apply zne); rfl; exact tk; rfl; rfl; rfl; rfl
      | (with_reducible apply zneg); rfl; rfl; omega; rfl; rfl
      | (with_reducible apply zlit (α := Int) (e := 3)); rfl; exact tk; rfl; rfl; rfl; rfl; rfl; rfl; rfl; rfl; rfl; rfl; rfl; rfl; rfl
      | (with_reducible apply zlit (α := Leg) (e := 117)); rfl; exact tk; rfl; rfl; rfl; rfl; rfl; rfl; rfl; rfl; rfl; rfl; rfl; rfl; rfl
      | (with_reducible apply zcp); rfl; rfl; rfl; rfl; rfl; rfl; rfl; rfl; rfl; rfl; (first | exact impl_BooksOk | exact impl_nosOk | exact impl_in | exact impl_Books_isInstr); rfl; rfl
      | (with_reducible apply zcf); rfl; rfl; rfl; rfl; rfl; rfl; rfl; rfl; rfl; rfl; exact impl_cloneBooks (by first | assumption | exact BooksOk.midB (by assumption)); rfl; rfl; rfl; rfl; rfl
      | (with_reducible apply zc); rfl; rfl; rfl; rfl; rfl; rfl; rfl; rfl; rfl; rfl; (first | exact impl_Books_kind | exact impl_Books_instr | exact impl_MulDiv_ok (by first | assumption | omega) | exact impl_MulDiv_no (by assumption)); exact fun _ => rfl; rfl; rfl; rfl
      | (with_reducible apply zcs); rfl; rfl; rfl; rfl; rfl; rfl; rfl; rfl; rfl; rfl; exact impl_MulDiv; exact fun _ => rfl; exact fun _ => rfl; rfl; rfl; rfl; rfl
      | (with_reducible apply zcwp  [true,true,true,true,true,true,true]); rfl; rfl; rfl; rfl; rfl; rfl; rfl; rfl; rfl; rfl; exact impl_Books_post (by omega); rfl; rfl; rfl; rfl; rfl; rfl
      | fail)
    all_goals exact endV [0, 1, 2, 3, 4, 7, 8, 9, 10, 11] rfl rfl rfl rfl rfl rfl
  by_cases hta : fxArgs ho de fr to am nu dn
  rotate_left
  ·
    rw [bookFx_0 (b := ⟨ba, bi, bb, bl, bt, bn⟩) (fun h => hta h.2)]
    repeat' (first
      | (intro h9; exfalso; first | contradiction | omega)
      | (intro h9; exact absurd ⟨by assumption, by assumption, by assumption, by assumption⟩ hta)
      | (with_reducible apply znilC (d := 51) 0 94 2); rfl; rfl; rfl; rfl; rfl
      | (with_reducible apply znilC (d := 51) 1 95 2); rfl; rfl; rfl; rfl; rfl
      | (with_reducible apply znilC (d := 51) 2 97 3); rfl; rfl; rfl; rfl; rfl
      | (with_reducible apply znilC (d := 51) 3 99 5); rfl; rfl; rfl; rfl; rfl
      | (with_reducible apply znilC (d := 51) 4 101 8); rfl; rfl; rfl; rfl; rfl
      | (with_reducible apply zd); rfl; exact tk; rfl
      | (with_reducible first | intro _ | apply wseq | apply zreg | apply thenQ_n | apply thenQ_r | apply thenQ_e | apply znil | apply wret | apply bodyQ_r | apply wblk | apply blkQ_n | apply blkQ_r | apply wskip | apply wexit)
      | apply wct rfl
      | apply wcf rfl
      | (with_reducible apply blkQ_x rfl)
      | (with_reducible apply blkQ_y rfl)
      | (with_reducible apply zeq); rfl; exact tk; rfl; rfl; rfl; rfl
      | (with_reducible apply zne); rfl; exact tk; rfl; rfl; rfl; rfl
      | (with_reducible apply zneg); rfl; rfl; omega; rfl; rfl
      | (with_reducible apply zlit (α := Int) (e := 3)); rfl; exact tk; rfl; rfl; rfl; rfl; rfl; rfl; rfl; rfl; rfl; rfl; rfl; rfl; rfl
      | (with_reducible apply zlit (α := Leg) (e := 117)); rfl; exact tk; rfl; rfl; rfl; rfl; rfl; rfl; rfl; rfl; rfl; rfl; rfl; rfl; rfl
      | (with_reducible apply zcp); rfl; rfl; rfl; rfl; rfl; rfl; rfl; rfl; rfl; rfl; (first | exact impl_BooksOk | exact impl_nosOk | exact impl_in | exact impl_Books_isInstr); rfl; rfl
      | (with_reducible apply zcf); rfl; rfl; rfl; rfl; rfl; rfl; rfl; rfl; rfl; rfl; exact impl_cloneBooks (by first | assumption | exact BooksOk.midB (by assumption)); rfl; rfl; rfl; rfl; rfl
      | (with_reducible apply zc); rfl; rfl; rfl; rfl; rfl; rfl; rfl; rfl; rfl; rfl; (first | exact impl_Books_kind | exact impl_Books_instr | exact impl_MulDiv_ok (by first | assumption | omega) | exact impl_MulDiv_no (by assumption)); exact fun _ => rfl; rfl; rfl; rfl
      | (with_reducible apply zcs); rfl; rfl; rfl; rfl; rfl; rfl; rfl; rfl; rfl; rfl; exact impl_MulDiv; exact fun _ => rfl; exact fun _ => rfl; rfl; rfl; rfl; rfl
      | (with_reducible apply zcwp  [true,true,true,true,true,true,true]); rfl; rfl; rfl; rfl; rfl; rfl; rfl; rfl; rfl; rfl; exact impl_Books_post (by omega); rfl; rfl; rfl; rfl; rfl; rfl
      | fail)
    all_goals first | exact endV [0, 1, 2, 3, 4, 7, 8, 9, 10, 11] rfl rfl rfl rfl rfl rfl | exact endV [0, 1, 2, 3, 4, 8, 9, 10, 11, 12] rfl rfl rfl rfl rfl rfl
  have hA := hok.acc
  have hI := hok.ins
  have hal := hA.2
  have hno := hta.1
  dsimp only at hA hI hal
  obtain ⟨k1, k2, k3, k4, k5, k6, k7⟩ := fxArgs_to hta
  have c0 : ¬ ¬ (BooksOk ⟨ba, bi, bb, bl, bt, bn⟩ ∧ fxArgs ho de fr to am nu dn) := fun k => k ⟨hok, hta⟩
  have hpn := pC_ne (pN ba bb [⟨ho, fr, -am⟩, ⟨de, fr, am⟩, ⟨de, to, -(am * nu / dn)⟩, ⟨ho, to, am * nu / dn⟩])
  have hsn := sC_ne (pN ba bb (pLegs ho de fr am ++ pLegs de ho to (am * nu / dn)))
  have hl1 := pLegs_len ho de fr am
  have hl2 := pLegs_len de ho to (am * nu / dn)
  have hq : mdOk am nu dn → 0 ≤ am * nu / dn := fun c3 => Int.ediv_nonneg (md_ab (mdIn c3).1 (mdIn c3).2.1).1 (by have := (mdIn c3).2.2; omega)
  have hq2 : mdOk am nu dn → am * nu / dn ≤ 1000000000000000 := fun c3 => c3.2.2.2
  have k5' := k5
  unfold inP at k5'
  repeat' (first
    | (intro h9; exfalso; first | contradiction | omega)
    | (with_reducible apply zds); exact tk; rfl; rfl; rfl; rfl; rfl
    | (with_reducible apply zd); rfl; exact tk; rfl
    | (with_reducible apply zneg); rfl; rfl; (have h1 := hq (by assumption); have h2 := hq2 (by assumption); omega); rfl; rfl
    | (with_reducible apply zcf); rfl; rfl; rfl; rfl; rfl; rfl; rfl; rfl; rfl; rfl; (exact spec_l6Pair (by have h1 := hq (by assumption); have h2 := hq2 (by assumption); omega)); rfl; rfl; rfl; rfl; rfl
    | (with_reducible first | intro _ | apply wseq | apply zreg | apply thenQ_n | apply thenQ_r | apply thenQ_e | apply znil | apply wret | apply bodyQ_r | apply wblk | apply blkQ_n | apply blkQ_r | apply wskip | apply wexit)
    | apply wct rfl
    | apply wcf rfl
    | (with_reducible apply blkQ_x rfl)
    | (with_reducible apply blkQ_y rfl)
    | (with_reducible apply zeq); rfl; exact tk; rfl; rfl; rfl; rfl
    | (with_reducible apply zne); rfl; exact tk; rfl; rfl; rfl; rfl
    | (with_reducible apply zneg); rfl; rfl; omega; rfl; rfl
    | (with_reducible apply zlit (α := Int) (e := 3)); rfl; exact tk; rfl; rfl; rfl; rfl; rfl; rfl; rfl; rfl; rfl; rfl; rfl; rfl; rfl
    | (with_reducible apply zlit (α := Leg) (e := 117)); rfl; exact tk; rfl; rfl; rfl; rfl; rfl; rfl; rfl; rfl; rfl; rfl; rfl; rfl; rfl
    | (with_reducible apply zcp); rfl; rfl; rfl; rfl; rfl; rfl; rfl; rfl; rfl; rfl; (first | exact impl_BooksOk | exact impl_nosOk | exact impl_in | exact impl_Books_isInstr); rfl; rfl
    | (with_reducible apply zcf); rfl; rfl; rfl; rfl; rfl; rfl; rfl; rfl; rfl; rfl; exact impl_cloneBooks (by first | assumption | exact BooksOk.midB (by assumption)); rfl; rfl; rfl; rfl; rfl
    | (with_reducible apply zc); rfl; rfl; rfl; rfl; rfl; rfl; rfl; rfl; rfl; rfl; (first | exact impl_Books_kind | exact impl_Books_instr | exact impl_MulDiv_ok (by first | assumption | omega) | exact impl_MulDiv_no (by assumption)); exact fun _ => rfl; rfl; rfl; rfl
    | (with_reducible apply zcs); rfl; rfl; rfl; rfl; rfl; rfl; rfl; rfl; rfl; rfl; exact impl_MulDiv; exact fun _ => rfl; exact fun _ => rfl; rfl; rfl; rfl; rfl
    | (with_reducible apply zcwp  [true,true,true,true,true,true,true]); rfl; rfl; rfl; rfl; rfl; rfl; rfl; rfl; rfl; rfl; exact impl_Books_post (by omega); rfl; rfl; rfl; rfl; rfl; rfl
    | fail)
  all_goals first
    | (rw [bookFx_1 (b := ⟨ba, bi, bb, bl, bt, bn⟩) c0 (by dsimp only; omega)]
       exact endV [0, 1, 2, 3, 4, 8, 9, 10, 11, 12] rfl rfl rfl rfl rfl rfl)
    | (rw [bookFx_2 (b := ⟨ba, bi, bb, bl, bt, bn⟩) c0 (by dsimp only; omega) (by dsimp only; omega)]
       exact endV [0, 1, 2, 3, 4, 8, 9, 10, 11, 12] rfl rfl rfl rfl rfl rfl)
    | (rw [bookFx_3 (b := ⟨ba, bi, bb, bl, bt, bn⟩) c0 (by dsimp only; omega) (by dsimp only; omega) (by assumption)]
       exact endV [0, 1, 2, 3, 4, 8, 9, 10, 11, 12] rfl rfl rfl rfl rfl rfl)
    | skip
  all_goals
    have c3 : mdOk am nu dn := by assumption
    have c1 : ¬ (accKind (⟨ba, bi, bb, bl, bt, bn⟩ : Books).Accounts ho = 0 ∨ accKind (⟨ba, bi, bb, bl, bt, bn⟩ : Books).Accounts de = 0 ∨ insKind (⟨ba, bi, bb, bl, bt, bn⟩ : Books).Instrs fr = 0 ∨ insKind (⟨ba, bi, bb, bl, bt, bn⟩ : Books).Instrs to = 0) := by dsimp only; omega
    have c2 : ¬ (accKind (⟨ba, bi, bb, bl, bt, bn⟩ : Books).Accounts ho ≠ 1 ∨ accKind (⟨ba, bi, bb, bl, bt, bn⟩ : Books).Accounts de ≠ 3 ∨ insKind (⟨ba, bi, bb, bl, bt, bn⟩ : Books).Instrs fr ≠ 1 ∨ insKind (⟨ba, bi, bb, bl, bt, bn⟩ : Books).Instrs to ≠ 1 ∨ fr = to) := by dsimp only; omega
    have hlg := fxLegs_ok k1 k2 k3 k4 (am := am) (got := am * nu / dn) (by omega) ⟨hq c3, hq2 c3⟩ (by omega)
    have hpc := poR_code hok hlg
    first
    | (have c4 : pN ba bb (fxLegs ho de fr to am (am * nu / dn)) = 0 := by assumption
       rw [bookFx_5 (b := ⟨ba, bi, bb, bl, bt, bn⟩) c0 c1 c2 (fun k => k c3) (fun k => k c4)]
       exact endV [0, 1, 2, 3, 4, 8, 9, 15, 11, 12] rfl rfl rfl rfl rfl rfl)
    | (have c4 : ¬ pN ba bb (fxLegs ho de fr to am (am * nu / dn)) = 0 := by assumption
       rw [bookFx_4 (b := ⟨ba, bi, bb, bl, bt, bn⟩) c0 c1 c2 (fun k => k c3) c4]
       exact endV [0, 1, 2, 3, 4, 15, 16, 17, 18, 19] rfl rfl rfl rfl rfl rfl)
set_option maxHeartbeats 4000000 in
theorem spec_BookFx {ba : List Account} {bi : List Instr} {bb : List Bal} {bl : List Lot} {bt : List Trade} {bn : Int} {ho de fr to am nu dn : Int} : FC Tryz.prog 32 [bkV 0 ⟨ba, bi, bb, bl, bt, bn⟩, I ho, I de, I fr, I to, I am, I nu, I dn] (bkR ⟨ba, bi, bb, bl, bt, bn⟩) (.tup [bkE 5 (bookFx ⟨ba, bi, bb, bl, bt, bn⟩ ho de fr to am nu dn).1, I (bookFx ⟨ba, bi, bb, bl, bt, bn⟩ ho de fr to am nu dn).2.1, I (bookFx ⟨ba, bi, bb, bl, bt, bn⟩ ho de fr to am nu dn).2.2]) (bkR ⟨ba, bi, bb, bl, bt, bn⟩ ++ bkW (bookFx ⟨ba, bi, bb, bl, bt, bn⟩ ho de fr to am nu dn).1) := by
  refine fent tk 158 [.cell 16 _, .tmp 17, .tmp 18] Tryz.func32 (by kernel_rfl) rfl rfl rfl rfl rfl rfl rfl ?_
  by_cases hok : BooksOk ⟨ba, bi, bb, bl, bt, bn⟩
  rotate_left
  ·
    rw [bookFx_0 (b := ⟨ba, bi, bb, bl, bt, bn⟩) (fun h => hok h.1)]
    repeat' (first
      | (intro h9; exfalso; first | contradiction | omega)
      | (with_reducible apply znilC (d := 66) 0 94 2); rfl; rfl; rfl; rfl; rfl
      | (with_reducible apply znilC (d := 66) 1 95 2); rfl; rfl; rfl; rfl; rfl
      | (with_reducible apply znilC (d := 66) 2 97 3); rfl; rfl; rfl; rfl; rfl
      | (with_reducible apply znilC (d := 66) 3 99 5); rfl; rfl; rfl; rfl; rfl
      | (with_reducible apply znilC (d := 66) 4 101 8); rfl; rfl; rfl; rfl; rfl
      | (with_reducible apply zd); rfl; exact tk; rfl
      | (with_reducible first | intro _ | apply wseq | apply zreg | apply thenQ_n | apply thenQ_r | apply thenQ_e | apply znil | apply wret | apply bodyQ_r | apply wblk | apply blkQ_n | apply blkQ_r | apply wskip | apply wexit)
      | apply wct rfl
      | apply wcf rfl
      | (with_reducible apply blkQ_x rfl)
      | (with_reducible apply blkQ_y rfl)
      | (with_reducible apply zeq); rfl; exact tk; rfl; rfl; rfl; rfl
      | (with_reducible apply zne); rfl; exact tk; rfl; rfl; rfl; rfl
      | (with_reducible apply zap); rfl; exact tk; rfl; rfl; rfl; rfl; rfl; rfl; rfl; rfl; rfl; rfl; (first | omega | ((try simp only [List.length_append, List.length_cons, List.length_nil, List.length_map]); (try dsimp only); omega)); rfl; rfl; rfl; rfl; rfl
      | refine zdq (id := 3) rfl (by kernel_rfl) [(.p, 0), (.p, 2), (.p, 4), (.p, 6), (.t, 1), (.t, 5), (.o, 3), (.o, 7), (.p, 8), (.p, 9)] [] (by kernel_rfl) rfl ?_
      | refine zdq (id := 4) rfl (by kernel_rfl) [(.p, 0), (.p, 2), (.p, 4), (.p, 6), (.t, 1), (.t, 5), (.o, 3), (.o, 7), (.p, 8), (.p, 9)] [] (by kernel_rfl) rfl ?_
      | (with_reducible apply zcp); rfl; rfl; rfl; rfl; rfl; rfl; rfl; rfl; rfl; rfl; (first | exact spec_BooksOk | exact spec_l3No | exact spec_l1Some); rfl; rfl
      | (with_reducible apply zcq); rfl; rfl; rfl; rfl; rfl; rfl; rfl; rfl; rfl; rfl; (first | exact spec_AccountKind | exact spec_InstrKind); rfl; rfl
      | (with_reducible apply zc); rfl; rfl; rfl; rfl; rfl; rfl; rfl; rfl; rfl; rfl; (first | exact spec_AccountKind_ok (by assumption) | exact spec_InstrKind_ok (by assumption) | exact spec_MulDiv_ok (by first | assumption | omega) | exact spec_MulDiv_no (by assumption)); exact fun _ => rfl; rfl; rfl; rfl
      | (with_reducible apply zcf); rfl; rfl; rfl; rfl; rfl; rfl; rfl; rfl; rfl; rfl; (first | exact spec_l6Copy (by first | assumption | exact BooksOk.midB (by assumption)) | exact spec_l6Pair (by omega)); rfl; rfl; rfl; rfl; rfl
      | (with_reducible apply zcs); rfl; rfl; rfl; rfl; rfl; rfl; rfl; rfl; rfl; rfl; exact spec_MulDiv; exact fun _ => rfl; exact fun _ => rfl; rfl; rfl; rfl; rfl
      | (with_reducible apply zcwp  [true,true,true,true,true,false]); rfl; rfl; rfl; rfl; rfl; rfl; rfl; rfl; rfl; rfl; exact spec_l6Post (by omega); rfl; rfl; rfl; rfl; rfl; rfl
      | fail)
    all_goals exact endV [0, 1, 2, 3, 4, 7, 8, 9, 10, 11] rfl rfl rfl rfl rfl rfl
  by_cases hta : fxArgs ho de fr to am nu dn
  rotate_left
  ·
    rw [bookFx_0 (b := ⟨ba, bi, bb, bl, bt, bn⟩) (fun h => hta h.2)]
    repeat' (first
      | (intro h9; exfalso; first | contradiction | omega)
      | (intro h9; exact absurd (fxArgs_of (by assumption) (by assumption) (by assumption) (by assumption) (by assumption) (by assumption) (by assumption)) hta)
      | (with_reducible apply znilC (d := 66) 0 94 2); rfl; rfl; rfl; rfl; rfl
      | (with_reducible apply znilC (d := 66) 1 95 2); rfl; rfl; rfl; rfl; rfl
      | (with_reducible apply znilC (d := 66) 2 97 3); rfl; rfl; rfl; rfl; rfl
      | (with_reducible apply znilC (d := 66) 3 99 5); rfl; rfl; rfl; rfl; rfl
      | (with_reducible apply znilC (d := 66) 4 101 8); rfl; rfl; rfl; rfl; rfl
      | (with_reducible apply zd); rfl; exact tk; rfl
      | (with_reducible first | intro _ | apply wseq | apply zreg | apply thenQ_n | apply thenQ_r | apply thenQ_e | apply znil | apply wret | apply bodyQ_r | apply wblk | apply blkQ_n | apply blkQ_r | apply wskip | apply wexit)
      | apply wct rfl
      | apply wcf rfl
      | (with_reducible apply blkQ_x rfl)
      | (with_reducible apply blkQ_y rfl)
      | (with_reducible apply zeq); rfl; exact tk; rfl; rfl; rfl; rfl
      | (with_reducible apply zne); rfl; exact tk; rfl; rfl; rfl; rfl
      | (with_reducible apply zap); rfl; exact tk; rfl; rfl; rfl; rfl; rfl; rfl; rfl; rfl; rfl; rfl; (first | omega | ((try simp only [List.length_append, List.length_cons, List.length_nil, List.length_map]); (try dsimp only); omega)); rfl; rfl; rfl; rfl; rfl
      | refine zdq (id := 3) rfl (by kernel_rfl) [(.p, 0), (.p, 2), (.p, 4), (.p, 6), (.t, 1), (.t, 5), (.o, 3), (.o, 7), (.p, 8), (.p, 9)] [] (by kernel_rfl) rfl ?_
      | refine zdq (id := 4) rfl (by kernel_rfl) [(.p, 0), (.p, 2), (.p, 4), (.p, 6), (.t, 1), (.t, 5), (.o, 3), (.o, 7), (.p, 8), (.p, 9)] [] (by kernel_rfl) rfl ?_
      | (with_reducible apply zcp); rfl; rfl; rfl; rfl; rfl; rfl; rfl; rfl; rfl; rfl; (first | exact spec_BooksOk | exact spec_l3No | exact spec_l1Some); rfl; rfl
      | (with_reducible apply zcq); rfl; rfl; rfl; rfl; rfl; rfl; rfl; rfl; rfl; rfl; (first | exact spec_AccountKind | exact spec_InstrKind); rfl; rfl
      | (with_reducible apply zc); rfl; rfl; rfl; rfl; rfl; rfl; rfl; rfl; rfl; rfl; (first | exact spec_AccountKind_ok (by assumption) | exact spec_InstrKind_ok (by assumption) | exact spec_MulDiv_ok (by first | assumption | omega) | exact spec_MulDiv_no (by assumption)); exact fun _ => rfl; rfl; rfl; rfl
      | (with_reducible apply zcf); rfl; rfl; rfl; rfl; rfl; rfl; rfl; rfl; rfl; rfl; (first | exact spec_l6Copy (by first | assumption | exact BooksOk.midB (by assumption)) | exact spec_l6Pair (by omega)); rfl; rfl; rfl; rfl; rfl
      | (with_reducible apply zcs); rfl; rfl; rfl; rfl; rfl; rfl; rfl; rfl; rfl; rfl; exact spec_MulDiv; exact fun _ => rfl; exact fun _ => rfl; rfl; rfl; rfl; rfl
      | (with_reducible apply zcwp  [true,true,true,true,true,false]); rfl; rfl; rfl; rfl; rfl; rfl; rfl; rfl; rfl; rfl; exact spec_l6Post (by omega); rfl; rfl; rfl; rfl; rfl; rfl
      | fail)
    all_goals first | exact endV [0, 1, 2, 3, 4, 7, 8, 9, 10, 11] rfl rfl rfl rfl rfl rfl | exact endV [0, 1, 2, 3, 4, 7, 8, 9, 10, 11] rfl rfl rfl rfl rfl rfl
  have hA := hok.acc
  have hI := hok.ins
  have hal := hA.2
  have hno := hta.1
  dsimp only at hA hI hal
  obtain ⟨k1, k2, k3, k4, k5, k6, k7⟩ := fxArgs_to hta
  have c0 : ¬ ¬ (BooksOk ⟨ba, bi, bb, bl, bt, bn⟩ ∧ fxArgs ho de fr to am nu dn) := fun k => k ⟨hok, hta⟩
  have hpn := pC_ne (pN ba bb [⟨ho, fr, -am⟩, ⟨de, fr, am⟩, ⟨de, to, -(am * nu / dn)⟩, ⟨ho, to, am * nu / dn⟩])
  have hsn := sC_ne (pN ba bb (pLegs ho de fr am ++ pLegs de ho to (am * nu / dn)))
  have hl1 := pLegs_len ho de fr am
  have hl2 := pLegs_len de ho to (am * nu / dn)
  have hq : mdOk am nu dn → 0 ≤ am * nu / dn := fun c3 => Int.ediv_nonneg (md_ab (mdIn c3).1 (mdIn c3).2.1).1 (by have := (mdIn c3).2.2; omega)
  have hq2 : mdOk am nu dn → am * nu / dn ≤ 1000000000000000 := fun c3 => c3.2.2.2
  have k5' := k5
  unfold inP at k5'
  repeat' (first
    | (intro h9; exfalso; first | contradiction | omega)
    | (with_reducible apply zds); exact tk; rfl; rfl; rfl; rfl; rfl
    | (with_reducible apply zd); rfl; exact tk; rfl
    | (with_reducible apply zneg); rfl; rfl; (have h1 := hq (by assumption); have h2 := hq2 (by assumption); omega); rfl; rfl
    | (with_reducible apply zcf); rfl; rfl; rfl; rfl; rfl; rfl; rfl; rfl; rfl; rfl; (exact spec_l6Pair (by have h1 := hq (by assumption); have h2 := hq2 (by assumption); omega)); rfl; rfl; rfl; rfl; rfl
    | (with_reducible first | intro _ | apply wseq | apply zreg | apply thenQ_n | apply thenQ_r | apply thenQ_e | apply znil | apply wret | apply bodyQ_r | apply wblk | apply blkQ_n | apply blkQ_r | apply wskip | apply wexit)
    | apply wct rfl
    | apply wcf rfl
    | (with_reducible apply blkQ_x rfl)
    | (with_reducible apply blkQ_y rfl)
    | (with_reducible apply zeq); rfl; exact tk; rfl; rfl; rfl; rfl
    | (with_reducible apply zne); rfl; exact tk; rfl; rfl; rfl; rfl
    | (with_reducible apply zap); rfl; exact tk; rfl; rfl; rfl; rfl; rfl; rfl; rfl; rfl; rfl; rfl; (first | omega | ((try simp only [List.length_append, List.length_cons, List.length_nil, List.length_map]); (try dsimp only); omega)); rfl; rfl; rfl; rfl; rfl
    | refine zdq (id := 3) rfl (by kernel_rfl) [(.p, 0), (.p, 2), (.p, 4), (.p, 6), (.t, 1), (.t, 5), (.o, 3), (.o, 7), (.p, 8), (.p, 9)] [] (by kernel_rfl) rfl ?_
    | refine zdq (id := 4) rfl (by kernel_rfl) [(.p, 0), (.p, 2), (.p, 4), (.p, 6), (.t, 1), (.t, 5), (.o, 3), (.o, 7), (.p, 8), (.p, 9)] [] (by kernel_rfl) rfl ?_
    | (with_reducible apply zcp); rfl; rfl; rfl; rfl; rfl; rfl; rfl; rfl; rfl; rfl; (first | exact spec_BooksOk | exact spec_l3No | exact spec_l1Some); rfl; rfl
    | (with_reducible apply zcq); rfl; rfl; rfl; rfl; rfl; rfl; rfl; rfl; rfl; rfl; (first | exact spec_AccountKind | exact spec_InstrKind); rfl; rfl
    | (with_reducible apply zc); rfl; rfl; rfl; rfl; rfl; rfl; rfl; rfl; rfl; rfl; (first | exact spec_AccountKind_ok (by assumption) | exact spec_InstrKind_ok (by assumption) | exact spec_MulDiv_ok (by first | assumption | omega) | exact spec_MulDiv_no (by assumption)); exact fun _ => rfl; rfl; rfl; rfl
    | (with_reducible apply zcf); rfl; rfl; rfl; rfl; rfl; rfl; rfl; rfl; rfl; rfl; (first | exact spec_l6Copy (by first | assumption | exact BooksOk.midB (by assumption)) | exact spec_l6Pair (by omega)); rfl; rfl; rfl; rfl; rfl
    | (with_reducible apply zcs); rfl; rfl; rfl; rfl; rfl; rfl; rfl; rfl; rfl; rfl; exact spec_MulDiv; exact fun _ => rfl; exact fun _ => rfl; rfl; rfl; rfl; rfl
    | (with_reducible apply zcwp  [true,true,true,true,true,false]); rfl; rfl; rfl; rfl; rfl; rfl; rfl; rfl; rfl; rfl; exact spec_l6Post (by omega); rfl; rfl; rfl; rfl; rfl; rfl
    | fail)
  all_goals first
    | (rw [bookFx_1 (b := ⟨ba, bi, bb, bl, bt, bn⟩) c0 (by dsimp only; omega)]
       exact endV [0, 1, 2, 3, 4, 7, 8, 9, 10, 11] rfl rfl rfl rfl rfl rfl)
    | (rw [bookFx_2 (b := ⟨ba, bi, bb, bl, bt, bn⟩) c0 (by dsimp only; omega) (by dsimp only; omega)]
       exact endV [0, 1, 2, 3, 4, 7, 8, 9, 10, 11] rfl rfl rfl rfl rfl rfl)
    | (rw [bookFx_3 (b := ⟨ba, bi, bb, bl, bt, bn⟩) c0 (by dsimp only; omega) (by dsimp only; omega) (by assumption)]
       exact endV [0, 1, 2, 3, 4, 7, 8, 9, 10, 11] rfl rfl rfl rfl rfl rfl)
    | skip
  all_goals
    have c3 : mdOk am nu dn := by assumption
    have c1 : ¬ (accKind (⟨ba, bi, bb, bl, bt, bn⟩ : Books).Accounts ho = 0 ∨ accKind (⟨ba, bi, bb, bl, bt, bn⟩ : Books).Accounts de = 0 ∨ insKind (⟨ba, bi, bb, bl, bt, bn⟩ : Books).Instrs fr = 0 ∨ insKind (⟨ba, bi, bb, bl, bt, bn⟩ : Books).Instrs to = 0) := by dsimp only; omega
    have c2 : ¬ (accKind (⟨ba, bi, bb, bl, bt, bn⟩ : Books).Accounts ho ≠ 1 ∨ accKind (⟨ba, bi, bb, bl, bt, bn⟩ : Books).Accounts de ≠ 3 ∨ insKind (⟨ba, bi, bb, bl, bt, bn⟩ : Books).Instrs fr ≠ 1 ∨ insKind (⟨ba, bi, bb, bl, bt, bn⟩ : Books).Instrs to ≠ 1 ∨ fr = to) := by dsimp only; omega
    have hlg := fxLegs_ok k1 k2 k3 k4 (am := am) (got := am * nu / dn) (by omega) ⟨hq c3, hq2 c3⟩ (by omega)
    have hpc := poR_code hok hlg
    first
    | (have c4 : pN ba bb (fxLegs ho de fr to am (am * nu / dn)) = 0 := by assumption
       rw [bookFx_5 (b := ⟨ba, bi, bb, bl, bt, bn⟩) c0 c1 c2 (fun k => k c3) (fun k => k c4)]
       exact endV [0, 1, 2, 3, 4, 7, 8, 15, 10, 11] rfl rfl rfl rfl rfl rfl)
    | (have c4 : ¬ pN ba bb (fxLegs ho de fr to am (am * nu / dn)) = 0 := by assumption
       rw [bookFx_4 (b := ⟨ba, bi, bb, bl, bt, bn⟩) c0 c1 c2 (fun k => k c3) c4, ← sC_pC hpc]
       exact endV [0, 1, 2, 3, 4, 16, 17, 18, 19, 20] rfl rfl rfl rfl rfl rfl)
end Go.Proofs.YtnlajjoheegbiaaGreat.Sh
