/- The law FnExactBookSettle, walked. No condition. -/
import Derived.Test.YtnlajjoheegbiaaGreatKNeShSe
import Derived.Test.YtnlajjoheegbiaaGreatKNeShMi
import Derived.Test.YtnlajjoheegbiaaGreatKNeShY
import Derived.Test.YtnlajjoheegbiaaGreatKNeShU
namespace Go.Proofs.YtnlajjoheegbiaaGreat.Sh
open Go.RowKit
set_option linter.unusedVariables false
set_option linter.unusedSimpArgs false
theorem fc_r2 {P : Program} {f : FuncId} {args : List AV} {hs hs0 : AH} {R : Books × Int × Int} {ra : List Account} {ri : List Instr} {rb : List Bal} {rl : List Lot} {rt : List Trade} {rn c0 c1 : Int} (h : FC P f args hs (.tup [bkE 5 R.1, I R.2.1, I R.2.2]) (hs0 ++ bkW R.1)) (e : R = (⟨ra, ri, rb, rl, rt, rn⟩, c0, c1)) : FC P f args hs (.tup [bkV 5 ⟨ra, ri, rb, rl, rt, rn⟩, I c0, I c1]) (hs0 ++ bkO ⟨ra, ri, rb, rl, rt, rn⟩) := by
  subst e
  exact h
theorem impl_BookSettle_r {ba : List Account} {bi : List Instr} {bb : List Bal} {bl : List Lot} {bt : List Trade} {bn : Int} {no way : Int} {ra : List Account} {ri : List Instr} {rb : List Bal} {rl : List Lot} {rt : List Trade} {rn c0 c1 : Int} (e : bookSettle ⟨ba, bi, bb, bl, bt, bn⟩ no way = (⟨ra, ri, rb, rl, rt, rn⟩, c0, c1)) : FC Tryz.prog 37 [bkV 0 ⟨ba, bi, bb, bl, bt, bn⟩, I no, I way] (bkR ⟨ba, bi, bb, bl, bt, bn⟩) (.tup [bkV 5 ⟨ra, ri, rb, rl, rt, rn⟩, I c0, I c1]) (bkR ⟨ba, bi, bb, bl, bt, bn⟩ ++ bkO ⟨ra, ri, rb, rl, rt, rn⟩) := fc_r2 impl_BookSettle e
theorem spec_BookSettle_r {ba : List Account} {bi : List Instr} {bb : List Bal} {bl : List Lot} {bt : List Trade} {bn : Int} {no way : Int} {ra : List Account} {ri : List Instr} {rb : List Bal} {rl : List Lot} {rt : List Trade} {rn c0 c1 : Int} (e : bookSettle ⟨ba, bi, bb, bl, bt, bn⟩ no way = (⟨ra, ri, rb, rl, rt, rn⟩, c0, c1)) : FC Tryz.prog 36 [bkV 0 ⟨ba, bi, bb, bl, bt, bn⟩, I no, I way] (bkR ⟨ba, bi, bb, bl, bt, bn⟩) (.tup [bkV 5 ⟨ra, ri, rb, rl, rt, rn⟩, I c0, I c1]) (bkR ⟨ba, bi, bb, bl, bt, bn⟩ ++ bkO ⟨ra, ri, rb, rl, rt, rn⟩) := fc_r2 spec_BookSettle e
theorem open_len {l : List Lot} {n a c q k : Int} (h : opOk l n a c q k) : (opL l n a c q k).length ≤ 120 := by
  have h2 := h.2
  show (lotOpen l ⟨a, c, n + 1, q, k⟩).1.length ≤ 120
  by_cases c1 : LotsOk l ∧ lotF a c (n + 1) q k
  rotate_left
  · rw [lo_1 c1] at h2; exact absurd (show (1 : Int) = 0 from h2) (by decide)
  by_cases c2 : LotsOk (mrg l [⟨a, c, n + 1, q, k⟩])
  rotate_left
  · rw [lo_3 c1 c2] at h2; exact absurd (show (3 : Int) = 0 from h2) (by decide)
  rw [lo_0 c1 c2]
  exact c2.1.2
end Go.Proofs.YtnlajjoheegbiaaGreat.Sh
