/- Accounts and instruments of books, trades that are cancelled: both sides. No condition. -/
import Derived.Test.YtgehbhkfehmdkaaGreatKCeShV
import Derived.Test.YtgehbhkfehmdkaaGreatKCeShAc
import Derived.Test.YtgehbhkfehmdkaaGreatKCeShSe
set_option maxRecDepth 100000
set_option maxHeartbeats 40000000
set_option linter.unusedSimpArgs false
set_option linter.unusedVariables false
namespace Go.Proofs.YtgehbhkfehmdkaaGreat.Sh
open Go.RowKit
noncomputable def aT (b:Books) (no ki:Int):Books × Int :=
 sel (¬ (BooksOk b ∧ aj no ∧ inP ki 1 4)) (⟨[],[],[],[],[],0⟩,1)
 (sel (a9 b.Accounts no ≠ 0) (b,2)
 (sel (20 ≤ b.Accounts.length) (b,7)
 (⟨dE b.Accounts ⟨no,ki⟩,b.Instrs,b.Bals,b.Lots,b.Trades,b.Lot⟩,0)))
theorem eH {b:Books} {no ki:Int}  (c0:¬ (BooksOk b ∧ aj no ∧ inP ki 1 4)):aT b no ki = (⟨[],[],[],[],[],0⟩,1):=by
 rw [aT,ap c0]
theorem jX {b:Books} {no ki:Int} (c0:¬ (¬ (BooksOk b ∧ aj no ∧ inP ki 1 4))) (c1:a9 b.Accounts no ≠ 0):aT b no ki = (b,2):=by
 rw [aT,a8 c0,ap c1]
theorem jY {b:Books} {no ki:Int} (c0:¬ (¬ (BooksOk b ∧ aj no ∧ inP ki 1 4))) (c1:¬ (a9 b.Accounts no ≠ 0)) (c2:20 ≤ b.Accounts.length):aT b no ki = (b,7):=by
 rw [aT,a8 c0,a8 c1,ap c2]
theorem jZ {b:Books} {no ki:Int} (c0:¬ (¬ (BooksOk b ∧ aj no ∧ inP ki 1 4))) (c1:¬ (a9 b.Accounts no ≠ 0)) (c2:¬ (20 ≤ b.Accounts.length)):aT b no ki = (⟨dE b.Accounts ⟨no,ki⟩,b.Instrs,b.Bals,b.Lots,b.Trades,b.Lot⟩,0):=by
 rw [aT,a8 c0,a8 c1,a8 c2]
theorem lD {ba:List Account} {bi:List Instr} {bb:List Bal} {bl:List Lot} {bt:List Trade} {bn:Int} {no ki:Int}:FC Tryz.prog 257 [bkV 0 ⟨ba,bi,bb,bl,bt,bn⟩,I no,I ki] (bkR ⟨ba,bi,bb,bl,bt,bn⟩) (.tup [bkE 5 (aT ⟨ba,bi,bb,bl,bt,bn⟩ no ki).1,I (aT ⟨ba,bi,bb,bl,bt,bn⟩ no ki).2]) (bkR ⟨ba,bi,bb,bl,bt,bn⟩ ++ bkW (aT ⟨ba,bi,bb,bl,bt,bn⟩ no ki).1):=by
 refine al tk 47 [.cell 6 _,.tmp 7] Tryz.func257 (by kernel_rfl) rfl rfl rfl rfl rfl rfl rfl ?_
 by_cases hok:BooksOk ⟨ba,bi,bb,bl,bt,bn⟩
 rotate_left
 ·
  rw [eH (b:=⟨ba,bi,bb,bl,bt,bn⟩) (fun h => hok h.1)]
  repeat' (first
| intro h9;exfalso;contradiction
| apply ah (d:=22) 0 42 2;rfl;rfl;rfl;rfl;rfl
| apply ah (d:=22) 1 74 2;rfl;rfl;rfl;rfl;rfl
| apply ah (d:=22) 2 135 3;rfl;rfl;rfl;rfl;rfl
| apply ah (d:=22) 3 137 5;rfl;rfl;rfl;rfl;rfl
| apply ah (d:=22) 4 103 8;rfl;rfl;rfl;rfl;rfl
| apply yd;rfl
| intro _
| refine nv ?_
| apply wct rfl
| apply ycp;rfl;exact aw;rfl
| fail)
  all_goals exact ai [0,1,2,3,4,7,8,9,10,11] rfl rfl rfl rfl rfl rfl
 by_cases hta:aj no ∧ inP ki 1 4
 rotate_left
 ·
  rw [eH (b:=⟨ba,bi,bb,bl,bt,bn⟩) (fun h => hta h.2)]
  repeat' (first
| intro h9;exfalso;contradiction
| intro h9;exact absurd ⟨by assumption,by assumption⟩ hta
| apply ah (d:=22) 0 42 2;rfl;rfl;rfl;rfl;rfl
| apply ah (d:=22) 1 74 2;rfl;rfl;rfl;rfl;rfl
| apply ah (d:=22) 2 135 3;rfl;rfl;rfl;rfl;rfl
| apply ah (d:=22) 3 137 5;rfl;rfl;rfl;rfl;rfl
| apply ah (d:=22) 4 103 8;rfl;rfl;rfl;rfl;rfl
| apply yd;rfl
| intro _
| refine nv ?_
| apply wct rfl
| apply ycp;rfl;(first | exact aw | exact bQ | exact aJ);rfl
| fail)
  all_goals exact ai [0,1,2,3,4,7,8,9,10,11] rfl rfl rfl rfl rfl rfl
 have hA:aL ba:=hok.acc
 have hal:=hA.2
 have c0:¬ ¬ (BooksOk ⟨ba,bi,bb,bl,bt,bn⟩ ∧ aj no ∧ inP ki 1 4):=fun k => k ⟨hok,hta⟩
 obtain ⟨k1,k2⟩:=id hta
 have hki:=n9 (no:=no) hA
 by_cases c1:a9 ba no ≠ 0
 rw [jX (b:=⟨ba,bi,bb,bl,bt,bn⟩) c0 c1]
 rotate_left
 have hne:∀ j:Int,0 ≤ j → j < ba.length → (rd ba j).No ≠ no:=by
  rcases hki with q | q
  ·exact q.2
  ·exact absurd q.1 (by omega)
 have hio:=rR (x:=⟨no,ki⟩) hA hne k1 k2
 by_cases c2:20 ≤ ba.length
 have hno:¬ aL (dE ba ⟨no,ki⟩):=fun k => by have:=hio.1 k;omega
 rw [jY (b:=⟨ba,bi,bb,bl,bt,bn⟩) c0 c1 c2]
 rotate_left
 have hyes:aL (dE ba ⟨no,ki⟩):=hio.2 (by omega)
 rw [jZ (b:=⟨ba,bi,bb,bl,bt,bn⟩) c0 c1 c2]
 repeat' (first
| intro h9;exfalso;first | contradiction | omega
| apply yds;rfl
| apply yd;rfl
| intro _
| refine nv ?_
| apply wct rfl
| apply wcf rfl
| apply ag;rfl
| apply yne;rfl
| apply ycp;rfl;(first | exact aw | exact bQ | exact aJ);rfl
| apply ycf;rfl;exact aH (by exact BooksOk.midB (by assumption));rfl
| apply yc;rfl;exact bG;rfl;exact fun _ => rfl
| apply j9;(iterate 10 rfl);exact kp (by assumption);(iterate 8 rfl)
| fail)
 all_goals first | exact ai [0,1,2,3,4,7,8,9,10,11] rfl rfl rfl rfl rfl rfl | exact ai [0,1,2,3,4,13,8,9,10,11] rfl rfl rfl rfl rfl rfl
theorem lY {ba:List Account} {bi:List Instr} {bb:List Bal} {bl:List Lot} {bt:List Trade} {bn:Int} {no ki:Int}:FC Tryz.prog 157 [bkV 0 ⟨ba,bi,bb,bl,bt,bn⟩,I no,I ki] (bkR ⟨ba,bi,bb,bl,bt,bn⟩) (.tup [bkE 5 (aT ⟨ba,bi,bb,bl,bt,bn⟩ no ki).1,I (aT ⟨ba,bi,bb,bl,bt,bn⟩ no ki).2]) (bkR ⟨ba,bi,bb,bl,bt,bn⟩ ++ bkW (aT ⟨ba,bi,bb,bl,bt,bn⟩ no ki).1):=by
 refine al tk 48 [.cell 6 _,.tmp 7] Tryz.func157 (by kernel_rfl) rfl rfl rfl rfl rfl rfl rfl ?_
 by_cases hok:BooksOk ⟨ba,bi,bb,bl,bt,bn⟩
 rotate_left
 ·
  rw [eH (b:=⟨ba,bi,bb,bl,bt,bn⟩) (fun h => hok h.1)]
  repeat' (first
| intro h9;exfalso;contradiction
| apply ah (d:=24) 0 42 2;rfl;rfl;rfl;rfl;rfl
| apply ah (d:=24) 1 74 2;rfl;rfl;rfl;rfl;rfl
| apply ah (d:=24) 2 135 3;rfl;rfl;rfl;rfl;rfl
| apply ah (d:=24) 3 137 5;rfl;rfl;rfl;rfl;rfl
| apply ah (d:=24) 4 103 8;rfl;rfl;rfl;rfl;rfl
| apply yd;rfl
| intro _
| refine nv ?_
| apply wct rfl
| apply ycp;rfl;exact aq;rfl
| fail)
  all_goals exact ai [0,1,2,3,4,7,8,9,10,11] rfl rfl rfl rfl rfl rfl
 by_cases hta:aj no ∧ inP ki 1 4
 rotate_left
 ·
  rw [eH (b:=⟨ba,bi,bb,bl,bt,bn⟩) (fun h => hta h.2)]
  repeat' (first
| intro h9;exfalso;contradiction
| intro h9;exact absurd ⟨by assumption,by assumption⟩ hta
| apply ah (d:=24) 0 42 2;rfl;rfl;rfl;rfl;rfl
| apply ah (d:=24) 1 74 2;rfl;rfl;rfl;rfl;rfl
| apply ah (d:=24) 2 135 3;rfl;rfl;rfl;rfl;rfl
| apply ah (d:=24) 3 137 5;rfl;rfl;rfl;rfl;rfl
| apply ah (d:=24) 4 103 8;rfl;rfl;rfl;rfl;rfl
| apply yd;rfl
| intro _
| refine nv ?_
| apply wct rfl
| apply ycp;rfl;(first | exact aq | exact aK | exact aI);rfl
| fail)
  all_goals exact ai [0,1,2,3,4,7,8,9,10,11] rfl rfl rfl rfl rfl rfl
 have hA:aL ba:=hok.acc
 have hal:=hA.2
 have c0:¬ ¬ (BooksOk ⟨ba,bi,bb,bl,bt,bn⟩ ∧ aj no ∧ inP ki 1 4):=fun k => k ⟨hok,hta⟩
 obtain ⟨k1,k2⟩:=id hta
 have hki:=n9 (no:=no) hA
 by_cases c1:a9 ba no ≠ 0
 rw [jX (b:=⟨ba,bi,bb,bl,bt,bn⟩) c0 c1]
 rotate_left
 have hne:∀ j:Int,0 ≤ j → j < ba.length → (rd ba j).No ≠ no:=by
  rcases hki with q | q
  ·exact q.2
  ·exact absurd q.1 (by omega)
 have hio:=rR (x:=⟨no,ki⟩) hA hne k1 k2
 by_cases c2:20 ≤ ba.length
 have hno:¬ aL (dE ba ⟨no,ki⟩):=fun k => by have:=hio.1 k;omega
 rw [jY (b:=⟨ba,bi,bb,bl,bt,bn⟩) c0 c1 c2]
 rotate_left
 have hyes:aL (dE ba ⟨no,ki⟩):=hio.2 (by omega)
 rw [jZ (b:=⟨ba,bi,bb,bl,bt,bn⟩) c0 c1 c2]
 repeat' (first
| intro h9;exfalso;first | contradiction | omega
| apply yds;rfl
| apply yd;rfl
| intro _
| refine nv ?_
| apply wct rfl
| apply wcf rfl
| apply ag;rfl
| apply ycp;rfl;(first | exact aq | exact aK | exact aI);rfl
| apply ycf;rfl;exact aN (by exact BooksOk.midB (by assumption));rfl
| apply ycq;rfl;exact aS;rfl
| apply j9;(iterate 10 rfl);exact kE (by assumption);(iterate 8 rfl)
| fail)
 all_goals first | exact ai [0,1,2,3,4,7,8,9,10,11] rfl rfl rfl rfl rfl rfl | exact ai [0,1,2,3,4,13,8,9,10,11] rfl rfl rfl rfl rfl rfl
noncomputable def bz (b:Books) (no ki:Int):Books × Int :=
 sel (¬ (BooksOk b ∧ aj no ∧ inP ki 1 2)) (⟨[],[],[],[],[],0⟩,1)
 (sel (ab b.Instrs no ≠ 0) (b,2)
 (sel (8 ≤ b.Instrs.length) (b,7)
 (⟨b.Accounts,dG b.Instrs ⟨no,ki⟩,b.Bals,b.Lots,b.Trades,b.Lot⟩,0)))
theorem gk {b:Books} {no ki:Int}  (c0:¬ (BooksOk b ∧ aj no ∧ inP ki 1 2)):bz b no ki = (⟨[],[],[],[],[],0⟩,1):=by
 rw [bz,ap c0]
theorem m5 {b:Books} {no ki:Int} (c0:¬ (¬ (BooksOk b ∧ aj no ∧ inP ki 1 2))) (c1:ab b.Instrs no ≠ 0):bz b no ki = (b,2):=by
 rw [bz,a8 c0,ap c1]
theorem m6 {b:Books} {no ki:Int} (c0:¬ (¬ (BooksOk b ∧ aj no ∧ inP ki 1 2))) (c1:¬ (ab b.Instrs no ≠ 0)) (c2:8 ≤ b.Instrs.length):bz b no ki = (b,7):=by
 rw [bz,a8 c0,a8 c1,ap c2]
theorem m7 {b:Books} {no ki:Int} (c0:¬ (¬ (BooksOk b ∧ aj no ∧ inP ki 1 2))) (c1:¬ (ab b.Instrs no ≠ 0)) (c2:¬ (8 ≤ b.Instrs.length)):bz b no ki = (⟨b.Accounts,dG b.Instrs ⟨no,ki⟩,b.Bals,b.Lots,b.Trades,b.Lot⟩,0):=by
 rw [bz,a8 c0,a8 c1,a8 c2]
theorem nC {ba:List Account} {bi:List Instr} {bb:List Bal} {bl:List Lot} {bt:List Trade} {bn:Int} {no ki:Int}:FC Tryz.prog 258 [bkV 0 ⟨ba,bi,bb,bl,bt,bn⟩,I no,I ki] (bkR ⟨ba,bi,bb,bl,bt,bn⟩) (.tup [bkE 5 (bz ⟨ba,bi,bb,bl,bt,bn⟩ no ki).1,I (bz ⟨ba,bi,bb,bl,bt,bn⟩ no ki).2]) (bkR ⟨ba,bi,bb,bl,bt,bn⟩ ++ bkW (bz ⟨ba,bi,bb,bl,bt,bn⟩ no ki).1):=by
 refine al tk 46 [.cell 6 _,.tmp 7] Tryz.func258 (by kernel_rfl) rfl rfl rfl rfl rfl rfl rfl ?_
 by_cases hok:BooksOk ⟨ba,bi,bb,bl,bt,bn⟩
 rotate_left
 ·
  rw [gk (b:=⟨ba,bi,bb,bl,bt,bn⟩) (fun h => hok h.1)]
  repeat' (first
| intro h9;exfalso;contradiction
| apply ah (d:=22) 0 42 2;rfl;rfl;rfl;rfl;rfl
| apply ah (d:=22) 1 74 2;rfl;rfl;rfl;rfl;rfl
| apply ah (d:=22) 2 135 3;rfl;rfl;rfl;rfl;rfl
| apply ah (d:=22) 3 137 5;rfl;rfl;rfl;rfl;rfl
| apply ah (d:=22) 4 103 8;rfl;rfl;rfl;rfl;rfl
| apply yd;rfl
| intro _
| refine nv ?_
| apply wct rfl
| apply ycp;rfl;exact aw;rfl
| fail)
  all_goals exact ai [0,1,2,3,4,7,8,9,10,11] rfl rfl rfl rfl rfl rfl
 by_cases hta:aj no ∧ inP ki 1 2
 rotate_left
 ·
  rw [gk (b:=⟨ba,bi,bb,bl,bt,bn⟩) (fun h => hta h.2)]
  repeat' (first
| intro h9;exfalso;contradiction
| intro h9;exact absurd ⟨by assumption,by assumption⟩ hta
| apply ah (d:=22) 0 42 2;rfl;rfl;rfl;rfl;rfl
| apply ah (d:=22) 1 74 2;rfl;rfl;rfl;rfl;rfl
| apply ah (d:=22) 2 135 3;rfl;rfl;rfl;rfl;rfl
| apply ah (d:=22) 3 137 5;rfl;rfl;rfl;rfl;rfl
| apply ah (d:=22) 4 103 8;rfl;rfl;rfl;rfl;rfl
| apply yd;rfl
| intro _
| refine nv ?_
| apply wct rfl
| apply ycp;rfl;(first | exact aw | exact bQ | exact aJ);rfl
| fail)
  all_goals exact ai [0,1,2,3,4,7,8,9,10,11] rfl rfl rfl rfl rfl rfl
 have hA:bq bi:=hok.ins
 have hal:=hA.2
 have c0:¬ ¬ (BooksOk ⟨ba,bi,bb,bl,bt,bn⟩ ∧ aj no ∧ inP ki 1 2):=fun k => k ⟨hok,hta⟩
 obtain ⟨k1,k2⟩:=id hta
 have hki:=eF (no:=no) hA
 by_cases c1:ab bi no ≠ 0
 rw [m5 (b:=⟨ba,bi,bb,bl,bt,bn⟩) c0 c1]
 rotate_left
 have hne:∀ j:Int,0 ≤ j → j < bi.length → (rd bi j).No ≠ no:=by
  rcases hki with q | q
  ·exact q.2
  ·exact absurd q.1 (by omega)
 have hio:=sy (x:=⟨no,ki⟩) hA hne k1 k2
 by_cases c2:8 ≤ bi.length
 have hno:¬ bq (dG bi ⟨no,ki⟩):=fun k => by have:=hio.1 k;omega
 rw [m6 (b:=⟨ba,bi,bb,bl,bt,bn⟩) c0 c1 c2]
 rotate_left
 have hyes:bq (dG bi ⟨no,ki⟩):=hio.2 (by omega)
 rw [m7 (b:=⟨ba,bi,bb,bl,bt,bn⟩) c0 c1 c2]
 repeat' (first
| intro h9;exfalso;first | contradiction | omega
| apply yds;rfl
| apply yd;rfl
| intro _
| refine nv ?_
| apply wct rfl
| apply wcf rfl
| apply ag;rfl
| apply ycp;rfl;(first | exact aw | exact bQ | exact aJ | exact aZ);rfl
| apply ycf;rfl;exact aH (by exact BooksOk.midB (by assumption));rfl
| apply j9;(iterate 10 rfl);exact lF (by assumption);(iterate 8 rfl)
| fail)
 all_goals first | exact ai [0,1,2,3,4,7,8,9,10,11] rfl rfl rfl rfl rfl rfl | exact ai [0,1,2,3,4,7,13,9,10,11] rfl rfl rfl rfl rfl rfl
theorem ox {ba:List Account} {bi:List Instr} {bb:List Bal} {bl:List Lot} {bt:List Trade} {bn:Int} {no ki:Int}:FC Tryz.prog 158 [bkV 0 ⟨ba,bi,bb,bl,bt,bn⟩,I no,I ki] (bkR ⟨ba,bi,bb,bl,bt,bn⟩) (.tup [bkE 5 (bz ⟨ba,bi,bb,bl,bt,bn⟩ no ki).1,I (bz ⟨ba,bi,bb,bl,bt,bn⟩ no ki).2]) (bkR ⟨ba,bi,bb,bl,bt,bn⟩ ++ bkW (bz ⟨ba,bi,bb,bl,bt,bn⟩ no ki).1):=by
 refine al tk 48 [.cell 6 _,.tmp 7] Tryz.func158 (by kernel_rfl) rfl rfl rfl rfl rfl rfl rfl ?_
 by_cases hok:BooksOk ⟨ba,bi,bb,bl,bt,bn⟩
 rotate_left
 ·
  rw [gk (b:=⟨ba,bi,bb,bl,bt,bn⟩) (fun h => hok h.1)]
  repeat' (first
| intro h9;exfalso;contradiction
| apply ah (d:=24) 0 42 2;rfl;rfl;rfl;rfl;rfl
| apply ah (d:=24) 1 74 2;rfl;rfl;rfl;rfl;rfl
| apply ah (d:=24) 2 135 3;rfl;rfl;rfl;rfl;rfl
| apply ah (d:=24) 3 137 5;rfl;rfl;rfl;rfl;rfl
| apply ah (d:=24) 4 103 8;rfl;rfl;rfl;rfl;rfl
| apply yd;rfl
| intro _
| refine nv ?_
| apply wct rfl
| apply ycp;rfl;exact aq;rfl
| fail)
  all_goals exact ai [0,1,2,3,4,7,8,9,10,11] rfl rfl rfl rfl rfl rfl
 by_cases hta:aj no ∧ inP ki 1 2
 rotate_left
 ·
  rw [gk (b:=⟨ba,bi,bb,bl,bt,bn⟩) (fun h => hta h.2)]
  repeat' (first
| intro h9;exfalso;contradiction
| intro h9;exact absurd ⟨by assumption,by assumption⟩ hta
| apply ah (d:=24) 0 42 2;rfl;rfl;rfl;rfl;rfl
| apply ah (d:=24) 1 74 2;rfl;rfl;rfl;rfl;rfl
| apply ah (d:=24) 2 135 3;rfl;rfl;rfl;rfl;rfl
| apply ah (d:=24) 3 137 5;rfl;rfl;rfl;rfl;rfl
| apply ah (d:=24) 4 103 8;rfl;rfl;rfl;rfl;rfl
| apply yd;rfl
| intro _
| refine nv ?_
| apply wct rfl
| apply ycp;rfl;(first | exact aq | exact aK | exact aI);rfl
| fail)
  all_goals exact ai [0,1,2,3,4,7,8,9,10,11] rfl rfl rfl rfl rfl rfl
 have hA:bq bi:=hok.ins
 have hal:=hA.2
 have c0:¬ ¬ (BooksOk ⟨ba,bi,bb,bl,bt,bn⟩ ∧ aj no ∧ inP ki 1 2):=fun k => k ⟨hok,hta⟩
 obtain ⟨k1,k2⟩:=id hta
 have hki:=eF (no:=no) hA
 by_cases c1:ab bi no ≠ 0
 rw [m5 (b:=⟨ba,bi,bb,bl,bt,bn⟩) c0 c1]
 rotate_left
 have hne:∀ j:Int,0 ≤ j → j < bi.length → (rd bi j).No ≠ no:=by
  rcases hki with q | q
  ·exact q.2
  ·exact absurd q.1 (by omega)
 have hio:=sy (x:=⟨no,ki⟩) hA hne k1 k2
 by_cases c2:8 ≤ bi.length
 have hno:¬ bq (dG bi ⟨no,ki⟩):=fun k => by have:=hio.1 k;omega
 rw [m6 (b:=⟨ba,bi,bb,bl,bt,bn⟩) c0 c1 c2]
 rotate_left
 have hyes:bq (dG bi ⟨no,ki⟩):=hio.2 (by omega)
 rw [m7 (b:=⟨ba,bi,bb,bl,bt,bn⟩) c0 c1 c2]
 repeat' (first
| intro h9;exfalso;first | contradiction | omega
| apply yds;rfl
| apply yd;rfl
| intro _
| refine nv ?_
| apply wct rfl
| apply wcf rfl
| apply ag;rfl
| apply ycp;rfl;(first | exact aq | exact aK | exact aI);rfl
| apply ycf;rfl;exact aN (by exact BooksOk.midB (by assumption));rfl
| apply ycq;rfl;exact bc;rfl
| apply j9;(iterate 10 rfl);exact lZ (by assumption);(iterate 8 rfl)
| fail)
 all_goals first | exact ai [0,1,2,3,4,7,8,9,10,11] rfl rfl rfl rfl rfl rfl | exact ai [0,1,2,3,4,7,13,9,10,11] rfl rfl rfl rfl rfl rfl
noncomputable def bm (b:Books) (no:Int):Books × Int :=
 sel (¬ (BooksOk b ∧ aj no)) (⟨[],[],[],[],[],0⟩,1)
 (sel (¬ di b.Trades no) (b,oC b.Trades no)
 (⟨b.Accounts,b.Instrs,b.Bals,b.Lots,upd b.Trades (tAt b.Trades no) (stT (rd b.Trades (tAt b.Trades no)) 3),b.Lot⟩,0))
theorem fu {b:Books} {no:Int}  (c0:¬ (BooksOk b ∧ aj no)):bm b no = (⟨[],[],[],[],[],0⟩,1):=by
 rw [bm,ap c0]
theorem kK {b:Books} {no:Int} (c0:¬ (¬ (BooksOk b ∧ aj no))) (c1:¬ di b.Trades no):bm b no = (b,oC b.Trades no):=by
 rw [bm,a8 c0,ap c1]
theorem kL {b:Books} {no:Int} (c0:¬ (¬ (BooksOk b ∧ aj no))) (c1:¬ (¬ di b.Trades no)):bm b no = (⟨b.Accounts,b.Instrs,b.Bals,b.Lots,upd b.Trades (tAt b.Trades no) (stT (rd b.Trades (tAt b.Trades no)) 3),b.Lot⟩,0):=by
 rw [bm,a8 c0,a8 c1]
theorem mw {ba:List Account} {bi:List Instr} {bb:List Bal} {bl:List Lot} {bt:List Trade} {bn:Int} {no:Int}:FC Tryz.prog 73 [bkV 0 ⟨ba,bi,bb,bl,bt,bn⟩,I no] (bkR ⟨ba,bi,bb,bl,bt,bn⟩) (.tup [bkE 5 (bm ⟨ba,bi,bb,bl,bt,bn⟩ no).1,I (bm ⟨ba,bi,bb,bl,bt,bn⟩ no).2]) (bkR ⟨ba,bi,bb,bl,bt,bn⟩ ++ bkW (bm ⟨ba,bi,bb,bl,bt,bn⟩ no).1):=by
 refine al tk 35 [.cell 4 _,.tmp 5] Tryz.func73 (by kernel_rfl) rfl rfl rfl rfl rfl rfl rfl ?_
 by_cases hok:BooksOk ⟨ba,bi,bb,bl,bt,bn⟩
 rotate_left
 ·
  rw [fu (b:=⟨ba,bi,bb,bl,bt,bn⟩) (fun h => hok h.1)]
  repeat' (first
| intro h9;exfalso;contradiction
| apply ah (d:=17) 0 42 2;rfl;rfl;rfl;rfl;rfl
| apply ah (d:=17) 1 74 2;rfl;rfl;rfl;rfl;rfl
| apply ah (d:=17) 2 135 3;rfl;rfl;rfl;rfl;rfl
| apply ah (d:=17) 3 137 5;rfl;rfl;rfl;rfl;rfl
| apply ah (d:=17) 4 103 8;rfl;rfl;rfl;rfl;rfl
| apply yd;rfl
| intro _
| refine nv ?_
| apply wct rfl
| apply ycp;rfl;exact aw;rfl
| fail)
  all_goals exact ai [0,1,2,3,4,7,8,9,10,11] rfl rfl rfl rfl rfl rfl
 by_cases hta:aj no
 rotate_left
 ·
  rw [fu (b:=⟨ba,bi,bb,bl,bt,bn⟩) (fun h => hta h.2)]
  repeat' (first
| intro h9;exfalso;contradiction
| apply ah (d:=17) 0 42 2;rfl;rfl;rfl;rfl;rfl
| apply ah (d:=17) 1 74 2;rfl;rfl;rfl;rfl;rfl
| apply ah (d:=17) 2 135 3;rfl;rfl;rfl;rfl;rfl
| apply ah (d:=17) 3 137 5;rfl;rfl;rfl;rfl;rfl
| apply ah (d:=17) 4 103 8;rfl;rfl;rfl;rfl;rfl
| apply yd;rfl
| intro _
| refine nv ?_
| apply wct rfl
| apply ycp;rfl;(first | exact aw | exact bQ);rfl
| fail)
  all_goals exact ai [0,1,2,3,4,7,8,9,10,11] rfl rfl rfl rfl rfl rfl
 have htl:=hok.trades.2
 dsimp only at htl
 have c0:¬ ¬ (BooksOk ⟨ba,bi,bb,bl,bt,bn⟩ ∧ aj no):=fun k => k ⟨hok,hta⟩
 by_cases hop:di bt no
 rotate_left
 have hoc:=pY bt no
 rw [kK (b:=⟨ba,bi,bb,bl,bt,bn⟩) c0 hop]
 rotate_left
 obtain ⟨hta1,hta2⟩:=gJ hop.1
 rw [kL (b:=⟨ba,bi,bb,bl,bt,bn⟩) c0 (fun k => k hop)]
 repeat' (first
| intro h9;exfalso;first | contradiction | omega
| apply yds;rfl
| apply yd;rfl
| intro _
| refine nv ?_
| apply wct rfl
| apply wcf rfl
| apply yeq;rfl
| apply yix;rfl;omega
| apply zse;rfl;exact tk;(iterate 6 rfl);omega;rfl;rfl;rfl;rfl;rfl
| apply ycp;rfl;(first | exact aw | exact bQ);rfl
| apply ycf;rfl;exact aH (by exact BooksOk.midB (by assumption));rfl
| apply zcs;(iterate 10 rfl);exact dq;exact fun _ => rfl;exact fun _ => rfl;rfl;rfl;rfl;rfl
| fail)
 all_goals first
  | exact ai [0,1,2,3,4,7,8,9,10,11] rfl rfl rfl rfl rfl rfl | exact ai [0,1,2,3,4,8,9,10,11,12] rfl rfl rfl rfl rfl rfl
  | (dsimp only
     rw [mN]
     exact ai [0,1,2,3,4,7,8,9,10,11] rfl rfl rfl rfl rfl rfl)
  | (exfalso;omega)
  | trace_state
theorem mI {ba:List Account} {bi:List Instr} {bb:List Bal} {bl:List Lot} {bt:List Trade} {bn:Int} {no:Int}:FC Tryz.prog 159 [bkV 0 ⟨ba,bi,bb,bl,bt,bn⟩,I no] (bkR ⟨ba,bi,bb,bl,bt,bn⟩) (.tup [bkE 5 (bm ⟨ba,bi,bb,bl,bt,bn⟩ no).1,I (bm ⟨ba,bi,bb,bl,bt,bn⟩ no).2]) (bkR ⟨ba,bi,bb,bl,bt,bn⟩ ++ bkW (bm ⟨ba,bi,bb,bl,bt,bn⟩ no).1):=by
 refine al tk 35 [.cell 4 _,.tmp 5] Tryz.func159 (by kernel_rfl) rfl rfl rfl rfl rfl rfl rfl ?_
 by_cases hok:BooksOk ⟨ba,bi,bb,bl,bt,bn⟩
 rotate_left
 ·
  rw [fu (b:=⟨ba,bi,bb,bl,bt,bn⟩) (fun h => hok h.1)]
  repeat' (first
| intro h9;exfalso;contradiction
| apply ah (d:=17) 0 42 2;rfl;rfl;rfl;rfl;rfl
| apply ah (d:=17) 1 74 2;rfl;rfl;rfl;rfl;rfl
| apply ah (d:=17) 2 135 3;rfl;rfl;rfl;rfl;rfl
| apply ah (d:=17) 3 137 5;rfl;rfl;rfl;rfl;rfl
| apply ah (d:=17) 4 103 8;rfl;rfl;rfl;rfl;rfl
| apply yd;rfl
| intro _
| refine nv ?_
| apply wct rfl
| apply ycp;rfl;exact aq;rfl
| fail)
  all_goals exact ai [0,1,2,3,4,7,8,9,10,11] rfl rfl rfl rfl rfl rfl
 by_cases hta:aj no
 rotate_left
 ·
  rw [fu (b:=⟨ba,bi,bb,bl,bt,bn⟩) (fun h => hta h.2)]
  repeat' (first
| intro h9;exfalso;contradiction
| apply ah (d:=17) 0 42 2;rfl;rfl;rfl;rfl;rfl
| apply ah (d:=17) 1 74 2;rfl;rfl;rfl;rfl;rfl
| apply ah (d:=17) 2 135 3;rfl;rfl;rfl;rfl;rfl
| apply ah (d:=17) 3 137 5;rfl;rfl;rfl;rfl;rfl
| apply ah (d:=17) 4 103 8;rfl;rfl;rfl;rfl;rfl
| apply yd;rfl
| intro _
| refine nv ?_
| apply wct rfl
| apply ycp;rfl;(first | exact aq | exact aK);rfl
| fail)
  all_goals exact ai [0,1,2,3,4,7,8,9,10,11] rfl rfl rfl rfl rfl rfl
 have htl:=hok.trades.2
 dsimp only at htl
 have c0:¬ ¬ (BooksOk ⟨ba,bi,bb,bl,bt,bn⟩ ∧ aj no):=fun k => k ⟨hok,hta⟩
 by_cases hop:di bt no
 rotate_left
 have hoc:=pY bt no
 rw [kK (b:=⟨ba,bi,bb,bl,bt,bn⟩) c0 hop]
 rotate_left
 obtain ⟨hta1,hta2⟩:=gJ hop.1
 rw [kL (b:=⟨ba,bi,bb,bl,bt,bn⟩) c0 (fun k => k hop)]
 repeat' (first
| intro h9;exfalso;first | contradiction | omega
| apply yds;rfl
| apply yd;rfl
| intro _
| refine nv ?_
| apply wct rfl
| apply wcf rfl
| apply yeq;rfl
| apply yix;rfl;omega
| apply zse;rfl;exact tk;(iterate 6 rfl);omega;rfl;rfl;rfl;rfl;rfl
| apply ycp;rfl;(first | exact aq | exact aK);rfl
| apply ycf;rfl;exact aN (by exact BooksOk.midB (by assumption));rfl
| apply zcs;(iterate 10 rfl);exact dw;exact fun _ => rfl;exact fun _ => rfl;rfl;rfl;rfl;rfl
| fail)
 all_goals first
  | exact ai [0,1,2,3,4,7,8,9,10,11] rfl rfl rfl rfl rfl rfl | exact ai [0,1,2,3,4,8,9,10,11,12] rfl rfl rfl rfl rfl rfl
  | (dsimp only
     rw [mN]
     exact ai [0,1,2,3,4,7,8,9,10,11] rfl rfl rfl rfl rfl rfl)
  | (exfalso;omega)
  | trace_state
end Go.Proofs.YtgehbhkfehmdkaaGreat.Sh
