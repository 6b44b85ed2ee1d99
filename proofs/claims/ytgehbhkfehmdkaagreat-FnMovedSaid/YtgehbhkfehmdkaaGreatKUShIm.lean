/- What is issued and moved in books: both sides. No condition. -/
import Derived.Test.YtgehbhkfehmdkaaGreatKUShV
import Derived.Test.YtgehbhkfehmdkaaGreatKUShSe
import Derived.Test.YtgehbhkfehmdkaaGreatKUShTr2
set_option maxRecDepth 100000
set_option maxHeartbeats 40000000
set_option linter.unusedSimpArgs false
set_option linter.unusedVariables false
namespace Go.Proofs.YtgehbhkfehmdkaaGreat.Sh
open Go.RowKit
theorem mz {a e c n:Int} (h1:aj a) (h2:aj e) (h3:aj c) (h4:0 ≤ n ∧ n ≤ 1000000000000000):d4 (b9 a e c n):=by
 refine ⟨⟨by show 2 ≤ 160;omega,fun x hx => ?_⟩,fun x hx => ?_⟩
 ·simp only [b9,List.mem_cons,List.not_mem_nil,or_false] at hx
  rcases hx with rfl | rfl <;> (refine ⟨by assumption,by assumption,?_⟩;show -1000000000000000 ≤ _ ∧ _ ≤ 1000000000000000;dsimp only;omega)
 ·have e2:∀ k:Int,bD (b9 a e c n) k = (if c = k then -n else 0) + ((if c = k then n else 0) + 0):=fun k => by
   simp only [bD,ao,b9,List.map_cons,List.map_nil,List.sum_cons,List.sum_nil,iJ]
  rw [e2]
  split <;> omega
noncomputable def aF (b:Books) (is ho c q k:Int):Books × Int :=
 sel (¬ (BooksOk b ∧ aj is ∧ aj ho ∧ aj c ∧ inP q 1 1000000000000000 ∧ inP k 0 1000000000000000)) (⟨[],[],[],[],[],0⟩,1)
 (sel (a9 b.Accounts is = 0 ∨ a9 b.Accounts ho = 0 ∨ aa b.Instrs c = 0) (b,3)
 (sel (a9 b.Accounts is ≠ 2 ∨ a9 b.Accounts ho ≠ 1 ∨ (k ≠ 0 ∧ aa b.Instrs c = 1)) (b,4)
 (sel (¬ (poR b (b9 is ho c q)).2 = 0) (b,cX (poR b (b9 is ho c q)).2)
 (sel (aa b.Instrs c ≠ 2) (⟨b.Accounts,b.Instrs,(poR b (b9 is ho c q)).1,b.Lots,b.Trades,b.Lot⟩,0)
 (sel (¬ dW b.Lots b.Lot ho c q k) (b,7)
 (⟨b.Accounts,b.Instrs,(poR b (b9 is ho c q)).1,opL b.Lots b.Lot ho c q k,b.Trades,b.Lot + 1⟩,0))))))
theorem fS {b:Books} {is ho c q k:Int}  (c0:¬ (BooksOk b ∧ aj is ∧ aj ho ∧ aj c ∧ inP q 1 1000000000000000 ∧ inP k 0 1000000000000000)):aF b is ho c q k = (⟨[],[],[],[],[],0⟩,1):=by
 rw [aF,au c0]
theorem jN {b:Books} {is ho c q k:Int} (c0:¬ (¬ (BooksOk b ∧ aj is ∧ aj ho ∧ aj c ∧ inP q 1 1000000000000000 ∧ inP k 0 1000000000000000))) (c1:a9 b.Accounts is = 0 ∨ a9 b.Accounts ho = 0 ∨ aa b.Instrs c = 0):aF b is ho c q k = (b,3):=by
 rw [aF,ab c0,au c1]
theorem jO {b:Books} {is ho c q k:Int} (c0:¬ (¬ (BooksOk b ∧ aj is ∧ aj ho ∧ aj c ∧ inP q 1 1000000000000000 ∧ inP k 0 1000000000000000))) (c1:¬ (a9 b.Accounts is = 0 ∨ a9 b.Accounts ho = 0 ∨ aa b.Instrs c = 0)) (c2:a9 b.Accounts is ≠ 2 ∨ a9 b.Accounts ho ≠ 1 ∨ (k ≠ 0 ∧ aa b.Instrs c = 1)):aF b is ho c q k = (b,4):=by
 rw [aF,ab c0,ab c1,au c2]
theorem jP {b:Books} {is ho c q k:Int} (c0:¬ (¬ (BooksOk b ∧ aj is ∧ aj ho ∧ aj c ∧ inP q 1 1000000000000000 ∧ inP k 0 1000000000000000))) (c1:¬ (a9 b.Accounts is = 0 ∨ a9 b.Accounts ho = 0 ∨ aa b.Instrs c = 0)) (c2:¬ (a9 b.Accounts is ≠ 2 ∨ a9 b.Accounts ho ≠ 1 ∨ (k ≠ 0 ∧ aa b.Instrs c = 1))) (c3:¬ (poR b (b9 is ho c q)).2 = 0):aF b is ho c q k = (b,cX (poR b (b9 is ho c q)).2):=by
 rw [aF,ab c0,ab c1,ab c2,au c3]
theorem jR {b:Books} {is ho c q k:Int} (c0:¬ (¬ (BooksOk b ∧ aj is ∧ aj ho ∧ aj c ∧ inP q 1 1000000000000000 ∧ inP k 0 1000000000000000))) (c1:¬ (a9 b.Accounts is = 0 ∨ a9 b.Accounts ho = 0 ∨ aa b.Instrs c = 0)) (c2:¬ (a9 b.Accounts is ≠ 2 ∨ a9 b.Accounts ho ≠ 1 ∨ (k ≠ 0 ∧ aa b.Instrs c = 1))) (c3:¬ (¬ (poR b (b9 is ho c q)).2 = 0)) (c4:aa b.Instrs c ≠ 2):aF b is ho c q k = (⟨b.Accounts,b.Instrs,(poR b (b9 is ho c q)).1,b.Lots,b.Trades,b.Lot⟩,0):=by
 rw [aF,ab c0,ab c1,ab c2,ab c3,au c4]
theorem jS {b:Books} {is ho c q k:Int} (c0:¬ (¬ (BooksOk b ∧ aj is ∧ aj ho ∧ aj c ∧ inP q 1 1000000000000000 ∧ inP k 0 1000000000000000))) (c1:¬ (a9 b.Accounts is = 0 ∨ a9 b.Accounts ho = 0 ∨ aa b.Instrs c = 0)) (c2:¬ (a9 b.Accounts is ≠ 2 ∨ a9 b.Accounts ho ≠ 1 ∨ (k ≠ 0 ∧ aa b.Instrs c = 1))) (c3:¬ (¬ (poR b (b9 is ho c q)).2 = 0)) (c4:¬ (aa b.Instrs c ≠ 2)) (c5:¬ dW b.Lots b.Lot ho c q k):aF b is ho c q k = (b,7):=by
 rw [aF,ab c0,ab c1,ab c2,ab c3,ab c4,au c5]
theorem jT {b:Books} {is ho c q k:Int} (c0:¬ (¬ (BooksOk b ∧ aj is ∧ aj ho ∧ aj c ∧ inP q 1 1000000000000000 ∧ inP k 0 1000000000000000))) (c1:¬ (a9 b.Accounts is = 0 ∨ a9 b.Accounts ho = 0 ∨ aa b.Instrs c = 0)) (c2:¬ (a9 b.Accounts is ≠ 2 ∨ a9 b.Accounts ho ≠ 1 ∨ (k ≠ 0 ∧ aa b.Instrs c = 1))) (c3:¬ (¬ (poR b (b9 is ho c q)).2 = 0)) (c4:¬ (aa b.Instrs c ≠ 2)) (c5:¬ (¬ dW b.Lots b.Lot ho c q k)):aF b is ho c q k = (⟨b.Accounts,b.Instrs,(poR b (b9 is ho c q)).1,opL b.Lots b.Lot ho c q k,b.Trades,b.Lot + 1⟩,0):=by
 rw [aF,ab c0,ab c1,ab c2,ab c3,ab c4,ab c5]
noncomputable def aN (b:Books) (fr to c q way:Int):Books × Int × Int :=
 sel (¬ (BooksOk b ∧ aj fr ∧ aj to ∧ aj c ∧ inP q 1 1000000000000000 ∧ inP way 1 3)) (⟨[],[],[],[],[],0⟩,0,1)
 (sel (a9 b.Accounts fr = 0 ∨ a9 b.Accounts to = 0 ∨ aa b.Instrs c = 0) (b,0,3)
 (sel (a9 b.Accounts fr ≠ 1 ∨ a9 b.Accounts to ≠ 1 ∨ fr = to) (b,0,4)
 (sel (¬ (poR b (b9 fr to c q)).2 = 0) (b,0,cX (poR b (b9 fr to c q)).2)
 (sel (aa b.Instrs c ≠ 2) (⟨b.Accounts,b.Instrs,(poR b (b9 fr to c q)).1,b.Lots,b.Trades,b.Lot⟩,0,0)
 (sel (¬ tN b.Lots fr c q way = 0) (b,0,5)
 (sel (¬ dW (tL b.Lots fr c q way) b.Lot to c q (tC b.Lots fr c q way)) (b,0,7)
 (⟨b.Accounts,b.Instrs,(poR b (b9 fr to c q)).1,opL (tL b.Lots fr c q way) b.Lot to c q (tC b.Lots fr c q way),b.Trades,b.Lot + 1⟩,tC b.Lots fr c q way,0)))))))
theorem gQ {b:Books} {fr to c q way:Int}  (c0:¬ (BooksOk b ∧ aj fr ∧ aj to ∧ aj c ∧ inP q 1 1000000000000000 ∧ inP way 1 3)):aN b fr to c q way = (⟨[],[],[],[],[],0⟩,0,1):=by
 rw [aN,au c0]
theorem lC {b:Books} {fr to c q way:Int} (c0:¬ (¬ (BooksOk b ∧ aj fr ∧ aj to ∧ aj c ∧ inP q 1 1000000000000000 ∧ inP way 1 3))) (c1:a9 b.Accounts fr = 0 ∨ a9 b.Accounts to = 0 ∨ aa b.Instrs c = 0):aN b fr to c q way = (b,0,3):=by
 rw [aN,ab c0,au c1]
theorem lD {b:Books} {fr to c q way:Int} (c0:¬ (¬ (BooksOk b ∧ aj fr ∧ aj to ∧ aj c ∧ inP q 1 1000000000000000 ∧ inP way 1 3))) (c1:¬ (a9 b.Accounts fr = 0 ∨ a9 b.Accounts to = 0 ∨ aa b.Instrs c = 0)) (c2:a9 b.Accounts fr ≠ 1 ∨ a9 b.Accounts to ≠ 1 ∨ fr = to):aN b fr to c q way = (b,0,4):=by
 rw [aN,ab c0,ab c1,au c2]
theorem lF {b:Books} {fr to c q way:Int} (c0:¬ (¬ (BooksOk b ∧ aj fr ∧ aj to ∧ aj c ∧ inP q 1 1000000000000000 ∧ inP way 1 3))) (c1:¬ (a9 b.Accounts fr = 0 ∨ a9 b.Accounts to = 0 ∨ aa b.Instrs c = 0)) (c2:¬ (a9 b.Accounts fr ≠ 1 ∨ a9 b.Accounts to ≠ 1 ∨ fr = to)) (c3:¬ (poR b (b9 fr to c q)).2 = 0):aN b fr to c q way = (b,0,cX (poR b (b9 fr to c q)).2):=by
 rw [aN,ab c0,ab c1,ab c2,au c3]
theorem lG {b:Books} {fr to c q way:Int} (c0:¬ (¬ (BooksOk b ∧ aj fr ∧ aj to ∧ aj c ∧ inP q 1 1000000000000000 ∧ inP way 1 3))) (c1:¬ (a9 b.Accounts fr = 0 ∨ a9 b.Accounts to = 0 ∨ aa b.Instrs c = 0)) (c2:¬ (a9 b.Accounts fr ≠ 1 ∨ a9 b.Accounts to ≠ 1 ∨ fr = to)) (c3:¬ (¬ (poR b (b9 fr to c q)).2 = 0)) (c4:aa b.Instrs c ≠ 2):aN b fr to c q way = (⟨b.Accounts,b.Instrs,(poR b (b9 fr to c q)).1,b.Lots,b.Trades,b.Lot⟩,0,0):=by
 rw [aN,ab c0,ab c1,ab c2,ab c3,au c4]
theorem lH {b:Books} {fr to c q way:Int} (c0:¬ (¬ (BooksOk b ∧ aj fr ∧ aj to ∧ aj c ∧ inP q 1 1000000000000000 ∧ inP way 1 3))) (c1:¬ (a9 b.Accounts fr = 0 ∨ a9 b.Accounts to = 0 ∨ aa b.Instrs c = 0)) (c2:¬ (a9 b.Accounts fr ≠ 1 ∨ a9 b.Accounts to ≠ 1 ∨ fr = to)) (c3:¬ (¬ (poR b (b9 fr to c q)).2 = 0)) (c4:¬ (aa b.Instrs c ≠ 2)) (c5:¬ tN b.Lots fr c q way = 0):aN b fr to c q way = (b,0,5):=by
 rw [aN,ab c0,ab c1,ab c2,ab c3,ab c4,au c5]
theorem lI {b:Books} {fr to c q way:Int} (c0:¬ (¬ (BooksOk b ∧ aj fr ∧ aj to ∧ aj c ∧ inP q 1 1000000000000000 ∧ inP way 1 3))) (c1:¬ (a9 b.Accounts fr = 0 ∨ a9 b.Accounts to = 0 ∨ aa b.Instrs c = 0)) (c2:¬ (a9 b.Accounts fr ≠ 1 ∨ a9 b.Accounts to ≠ 1 ∨ fr = to)) (c3:¬ (¬ (poR b (b9 fr to c q)).2 = 0)) (c4:¬ (aa b.Instrs c ≠ 2)) (c5:¬ (¬ tN b.Lots fr c q way = 0)) (c6:¬ dW (tL b.Lots fr c q way) b.Lot to c q (tC b.Lots fr c q way)):aN b fr to c q way = (b,0,7):=by
 rw [aN,ab c0,ab c1,ab c2,ab c3,ab c4,ab c5,au c6]
theorem lJ {b:Books} {fr to c q way:Int} (c0:¬ (¬ (BooksOk b ∧ aj fr ∧ aj to ∧ aj c ∧ inP q 1 1000000000000000 ∧ inP way 1 3))) (c1:¬ (a9 b.Accounts fr = 0 ∨ a9 b.Accounts to = 0 ∨ aa b.Instrs c = 0)) (c2:¬ (a9 b.Accounts fr ≠ 1 ∨ a9 b.Accounts to ≠ 1 ∨ fr = to)) (c3:¬ (¬ (poR b (b9 fr to c q)).2 = 0)) (c4:¬ (aa b.Instrs c ≠ 2)) (c5:¬ (¬ tN b.Lots fr c q way = 0)) (c6:¬ (¬ dW (tL b.Lots fr c q way) b.Lot to c q (tC b.Lots fr c q way))):aN b fr to c q way = (⟨b.Accounts,b.Instrs,(poR b (b9 fr to c q)).1,opL (tL b.Lots fr c q way) b.Lot to c q (tC b.Lots fr c q way),b.Trades,b.Lot + 1⟩,tC b.Lots fr c q way,0):=by
 rw [aN,ab c0,ab c1,ab c2,ab c3,ab c4,ab c5,ab c6]
theorem oW {ba:List Account} {bi:List Instr} {bb:List Bal} {bl:List Lot} {bt:List Trade} {bn:Int} {is ho c q k:Int}:FC Tryz.prog 50 [bkV 0 ⟨ba,bi,bb,bl,bt,bn⟩,I is,I ho,I c,I q,I k] (bkR ⟨ba,bi,bb,bl,bt,bn⟩) (.tup [bkE 5 (aF ⟨ba,bi,bb,bl,bt,bn⟩ is ho c q k).1,I (aF ⟨ba,bi,bb,bl,bt,bn⟩ is ho c q k).2]) (bkR ⟨ba,bi,bb,bl,bt,bn⟩ ++ bkW (aF ⟨ba,bi,bb,bl,bt,bn⟩ is ho c q k).1):=by
 refine ax tk 103 [.cell 12 _,.tmp 13] Tryz.func50 (by kernel_rfl) rfl rfl rfl rfl rfl rfl rfl ?_
 by_cases hok:BooksOk ⟨ba,bi,bb,bl,bt,bn⟩
 rotate_left
 ·
  rw [fS (b:=⟨ba,bi,bb,bl,bt,bn⟩) (fun h => hok h.1)]
  repeat' (first
| intro h9;exfalso;contradiction
| apply al (d:=37) 0 42 2;rfl;rfl;rfl;rfl;rfl
| apply al (d:=37) 1 74 2;rfl;rfl;rfl;rfl;rfl
| apply al (d:=37) 2 135 3;rfl;rfl;rfl;rfl;rfl
| apply al (d:=37) 3 137 5;rfl;rfl;rfl;rfl;rfl
| apply al (d:=37) 4 103 8;rfl;rfl;rfl;rfl;rfl
| apply yd;rfl
| intro _
| refine nv ?_
| apply wct rfl
| apply ycp;rfl;exact aM;rfl
| fail)
  all_goals (exact ak [0,1,2,3,4,7,8,9,10,11] rfl rfl rfl rfl rfl rfl)
 by_cases hta:aj is ∧ aj ho ∧ aj c ∧ inP q 1 1000000000000000 ∧ inP k 0 1000000000000000
 rotate_left
 ·
  rw [fS (b:=⟨ba,bi,bb,bl,bt,bn⟩) (fun h => hta h.2)]
  repeat' (first
| intro h9;exfalso;contradiction
| intro h9;refine absurd ⟨?_,?_,?_,?_,?_⟩ hta;exact (show ∀ x ∈ [is,ho,c],aj x by assumption) _ (.head _);exact (show ∀ x ∈ [is,ho,c],aj x by assumption) _ (.tail _ (.head _));exact (show ∀ x ∈ [is,ho,c],aj x by assumption) _ (.tail _ (.tail _ (.head _)));assumption;assumption
| apply al (d:=37) 0 42 2;rfl;rfl;rfl;rfl;rfl
| apply al (d:=37) 1 74 2;rfl;rfl;rfl;rfl;rfl
| apply al (d:=37) 2 135 3;rfl;rfl;rfl;rfl;rfl
| apply al (d:=37) 3 137 5;rfl;rfl;rfl;rfl;rfl
| apply al (d:=37) 4 103 8;rfl;rfl;rfl;rfl;rfl
| apply yd;rfl
| intro _
| refine nv ?_
| apply wct rfl
| apply aH (α:=Int) (e:=3);rfl
| apply ycp;rfl;(first | exact aM | exact dy | exact bm);rfl
| fail)
  all_goals (exact ak [0,1,2,3,4,8,9,10,11,12] rfl rfl rfl rfl rfl rfl)
 have hA:=hok.acc
 have hI:=hok.ins
 have hal:=hA.2
 have hbn:=hok.lot
 obtain ⟨k1,k2,k3,k4,k5⟩:=id hta
 have hno:∀ x ∈ [is,ho,c],aj x:=fun x hx => by simp only [List.mem_cons,List.not_mem_nil,or_false] at hx;rcases hx with rfl | rfl | rfl <;> assumption
 dsimp only at hA hI hal hbn
 unfold inP at hbn
 have c0:¬ ¬ (BooksOk ⟨ba,bi,bb,bl,bt,bn⟩ ∧ aj is ∧ aj ho ∧ aj c ∧ inP q 1 1000000000000000 ∧ inP k 0 1000000000000000):=fun k => k ⟨hok,hta⟩
 have q4:=k4
 have q5:=k5
 unfold inP at q4 q5
 have hkc:=gZ (no:=c) hI
 by_cases c1:a9 ba is = 0 ∨ a9 ba ho = 0 ∨ aa bi c = 0
 rw [jN (b:=⟨ba,bi,bb,bl,bt,bn⟩) c0 c1]
 rotate_left
 by_cases c2:a9 ba is ≠ 2 ∨ a9 ba ho ≠ 1 ∨ (k ≠ 0 ∧ aa bi c = 1)
 rw [jO (b:=⟨ba,bi,bb,bl,bt,bn⟩) c0 c1 c2]
 rotate_left
 have hlg:=mz k1 k2 k3 (n:=q) (by omega)
 have hpc:=dX hok hlg
 have hpn:=ix (pN ba bb [⟨is,c,-q⟩,⟨ho,c,q⟩])
 have hsn:=lp (pN ba bb [⟨is,c,-q⟩,⟨ho,c,q⟩])
 have hT2:=ew is ho c q
 by_cases c3:pN ba bb [⟨is,c,-q⟩,⟨ho,c,q⟩] = 0
 rotate_left
 rw [jP (b:=⟨ba,bi,bb,bl,bt,bn⟩) c0 c1 c2 c3]
 rotate_left
 rotate_left 2
 by_cases c4:aa bi c ≠ 2
 rw [jR (b:=⟨ba,bi,bb,bl,bt,bn⟩) c0 c1 c2 (fun k => k c3) c4]
 rotate_left
 by_cases c5:dW bl bn ho c q k
 rotate_left
 rw [jS (b:=⟨ba,bi,bb,bl,bt,bn⟩) c0 c1 c2 (fun k => k c3) c4 c5]
 rotate_left
 rotate_left 4
 rw [jT (b:=⟨ba,bi,bb,bl,bt,bn⟩) c0 c1 c2 (fun k => k c3) c4 (fun k => k c5)]
 repeat' (first
| intro h9;exfalso;first | contradiction | omega
| apply yds;rfl
| apply yd;rfl
| intro _
| refine nv ?_
| apply wct rfl
| apply wcf rfl
| apply yeq;rfl
| apply yne;rfl
| apply v4;rfl;rfl;omega;rfl;rfl
| apply aH (α:=Int) (e:=3);rfl
| apply aH (α:=Leg) (e:=46);rfl
| apply ycp;rfl;(first | exact aM | exact dy | exact bm | exact cM);rfl
| apply ycf;rfl;exact bG (by exact BooksOk.midB (by assumption));rfl
| apply yc;rfl;(first | exact dh | exact d6);rfl;exact fun _ => rfl
| apply jd  [true,true,true,true,true,true,true];(iterate 10 rfl);exact ef (by omega);(iterate 6 rfl)
| apply jd  [true,true,true,true,true,true];(iterate 10 rfl);exact gi (by omega);(iterate 6 rfl)
| fail)
 all_goals first | (exact ak [0,1,2,3,4,8,9,10,11,12] rfl rfl rfl rfl rfl rfl) | (first | exact ak [0,1,2,3,4,15,16,17,18,19] rfl rfl rfl rfl rfl rfl | exact ak [0,1,2,3,4,16,17,18,19,20] rfl rfl rfl rfl rfl rfl) | (exact ak [0,1,2,3,4,8,9,15,11,12] rfl rfl rfl rfl rfl rfl) | (exact ak [0,1,2,3,4,8,9,15,16,12] rfl rfl rfl rfl rfl rfl)
theorem kC {ba:List Account} {bi:List Instr} {bb:List Bal} {bl:List Lot} {bt:List Trade} {bn:Int} {is ho c q k:Int}:FC Tryz.prog 51 [bkV 0 ⟨ba,bi,bb,bl,bt,bn⟩,I is,I ho,I c,I q,I k] (bkR ⟨ba,bi,bb,bl,bt,bn⟩) (.tup [bkE 5 (aF ⟨ba,bi,bb,bl,bt,bn⟩ is ho c q k).1,I (aF ⟨ba,bi,bb,bl,bt,bn⟩ is ho c q k).2]) (bkR ⟨ba,bi,bb,bl,bt,bn⟩ ++ bkW (aF ⟨ba,bi,bb,bl,bt,bn⟩ is ho c q k).1):=by
 refine ax tk 122 [.cell 12 _,.tmp 13] Tryz.func51 (by kernel_rfl) rfl rfl rfl rfl rfl rfl rfl ?_
 by_cases hok:BooksOk ⟨ba,bi,bb,bl,bt,bn⟩
 rotate_left
 ·
  rw [fS (b:=⟨ba,bi,bb,bl,bt,bn⟩) (fun h => hok h.1)]
  repeat' (first
| intro h9;exfalso;contradiction
| apply al (d:=47) 0 42 2;rfl;rfl;rfl;rfl;rfl
| apply al (d:=47) 1 74 2;rfl;rfl;rfl;rfl;rfl
| apply al (d:=47) 2 135 3;rfl;rfl;rfl;rfl;rfl
| apply al (d:=47) 3 137 5;rfl;rfl;rfl;rfl;rfl
| apply al (d:=47) 4 103 8;rfl;rfl;rfl;rfl;rfl
| apply yd;rfl
| intro _
| refine nv ?_
| apply wct rfl
| apply ycp;rfl;exact ap;rfl
| fail)
  all_goals (exact ak [0,1,2,3,4,7,8,9,10,11] rfl rfl rfl rfl rfl rfl)
 by_cases hta:aj is ∧ aj ho ∧ aj c ∧ inP q 1 1000000000000000 ∧ inP k 0 1000000000000000
 rotate_left
 ·
  rw [fS (b:=⟨ba,bi,bb,bl,bt,bn⟩) (fun h => hta h.2)]
  repeat' (first
| intro h9;exfalso;contradiction
| intro h9;exact absurd ⟨by assumption,by assumption,by assumption,by assumption,by assumption⟩ hta
| apply al (d:=47) 0 42 2;rfl;rfl;rfl;rfl;rfl
| apply al (d:=47) 1 74 2;rfl;rfl;rfl;rfl;rfl
| apply al (d:=47) 2 135 3;rfl;rfl;rfl;rfl;rfl
| apply al (d:=47) 3 137 5;rfl;rfl;rfl;rfl;rfl
| apply al (d:=47) 4 103 8;rfl;rfl;rfl;rfl;rfl
| apply yd;rfl
| intro _
| refine nv ?_
| apply wct rfl
| apply ycp;rfl;(first | exact ap | exact aQ | exact aJ);rfl
| fail)
  all_goals (exact ak [0,1,2,3,4,7,8,9,10,11] rfl rfl rfl rfl rfl rfl)
 have hA:=hok.acc
 have hI:=hok.ins
 have hal:=hA.2
 have hbn:=hok.lot
 obtain ⟨k1,k2,k3,k4,k5⟩:=id hta
 have hno:∀ x ∈ [is,ho,c],aj x:=fun x hx => by simp only [List.mem_cons,List.not_mem_nil,or_false] at hx;rcases hx with rfl | rfl | rfl <;> assumption
 dsimp only at hA hI hal hbn
 unfold inP at hbn
 have c0:¬ ¬ (BooksOk ⟨ba,bi,bb,bl,bt,bn⟩ ∧ aj is ∧ aj ho ∧ aj c ∧ inP q 1 1000000000000000 ∧ inP k 0 1000000000000000):=fun k => k ⟨hok,hta⟩
 have q4:=k4
 have q5:=k5
 unfold inP at q4 q5
 have hkc:=gZ (no:=c) hI
 by_cases c1:a9 ba is = 0 ∨ a9 ba ho = 0 ∨ aa bi c = 0
 rw [jN (b:=⟨ba,bi,bb,bl,bt,bn⟩) c0 c1]
 rotate_left
 by_cases c2:a9 ba is ≠ 2 ∨ a9 ba ho ≠ 1 ∨ (k ≠ 0 ∧ aa bi c = 1)
 rw [jO (b:=⟨ba,bi,bb,bl,bt,bn⟩) c0 c1 c2]
 rotate_left
 have hlg:=mz k1 k2 k3 (n:=q) (by omega)
 have hpc:=dX hok hlg
 have hpn:=ix (pN ba bb (b9 is ho c q))
 have hsn:=lp (pN ba bb (b9 is ho c q))
 have hT2:=ew is ho c q
 by_cases c3:pN ba bb (b9 is ho c q) = 0
 rotate_left
 rw [jP (b:=⟨ba,bi,bb,bl,bt,bn⟩) c0 c1 c2 c3,← nM hpc]
 rotate_left
 rotate_left 2
 by_cases c4:aa bi c ≠ 2
 rw [jR (b:=⟨ba,bi,bb,bl,bt,bn⟩) c0 c1 c2 (fun k => k c3) c4]
 rotate_left
 by_cases c5:dW bl bn ho c q k
 rotate_left
 rw [jS (b:=⟨ba,bi,bb,bl,bt,bn⟩) c0 c1 c2 (fun k => k c3) c4 c5]
 rotate_left
 rotate_left 4
 rw [jT (b:=⟨ba,bi,bb,bl,bt,bn⟩) c0 c1 c2 (fun k => k c3) c4 (fun k => k c5)]
 repeat' (first
| intro h9;exfalso;first | contradiction | omega
| apply yds;rfl
| apply yd;rfl
| intro _
| refine nv ?_
| apply wct rfl
| apply wcf rfl
| apply ai;rfl
| apply yne;rfl
| refine zdq (id:=3) rfl (by kernel_rfl) [(.p,0),(.p,2),(.p,4),(.p,6),(.p,8),(.p,10),(.t,1),(.t,5),(.t,9),(.o,3),(.o,7),(.o,11),(.p,12),(.p,13),(.p,14)] [] (by kernel_rfl) rfl ?_
| apply ycp;rfl;(first | exact ap | exact aQ | exact aJ);rfl
| apply ycq;rfl;(first | exact aX | exact b8);rfl
| apply ycf;rfl;(first | exact aR (by exact BooksOk.midB (by assumption)) | exact iF (by omega));rfl
| apply jd  [true,true,true,true,true,false];(iterate 10 rfl);exact db (by omega);(iterate 6 rfl)
| apply jd  [true,true,true,true,true];(iterate 10 rfl);exact fW (by omega);(iterate 6 rfl)
| fail)
 all_goals first | (exact ak [0,1,2,3,4,7,8,9,10,11] rfl rfl rfl rfl rfl rfl) | (first | exact ak [0,1,2,3,4,14,15,16,17,18] rfl rfl rfl rfl rfl rfl | exact ak [0,1,2,3,4,15,16,17,18,19] rfl rfl rfl rfl rfl rfl) | (exact ak [0,1,2,3,4,7,8,13,10,11] rfl rfl rfl rfl rfl rfl) | (exact ak [0,1,2,3,4,7,8,13,15,11] rfl rfl rfl rfl rfl rfl)
theorem pX {ba:List Account} {bi:List Instr} {bb:List Bal} {bl:List Lot} {bt:List Trade} {bn:Int} {fr to c q way:Int}:FC Tryz.prog 68 [bkV 0 ⟨ba,bi,bb,bl,bt,bn⟩,I fr,I to,I c,I q,I way] (bkR ⟨ba,bi,bb,bl,bt,bn⟩) (.tup [bkE 5 (aN ⟨ba,bi,bb,bl,bt,bn⟩ fr to c q way).1,I (aN ⟨ba,bi,bb,bl,bt,bn⟩ fr to c q way).2.1,I (aN ⟨ba,bi,bb,bl,bt,bn⟩ fr to c q way).2.2]) (bkR ⟨ba,bi,bb,bl,bt,bn⟩ ++ bkW (aN ⟨ba,bi,bb,bl,bt,bn⟩ fr to c q way).1):=by
 refine ax tk 112 [.cell 12 _,.tmp 13,.tmp 14] Tryz.func68 (by kernel_rfl) rfl rfl rfl rfl rfl rfl rfl ?_
 by_cases hok:BooksOk ⟨ba,bi,bb,bl,bt,bn⟩
 rotate_left
 ·
  rw [gQ (b:=⟨ba,bi,bb,bl,bt,bn⟩) (fun h => hok h.1)]
  repeat' (first
| intro h9;exfalso;contradiction
| apply al (d:=39) 0 42 2;rfl;rfl;rfl;rfl;rfl
| apply al (d:=39) 1 74 2;rfl;rfl;rfl;rfl;rfl
| apply al (d:=39) 2 135 3;rfl;rfl;rfl;rfl;rfl
| apply al (d:=39) 3 137 5;rfl;rfl;rfl;rfl;rfl
| apply al (d:=39) 4 103 8;rfl;rfl;rfl;rfl;rfl
| apply yd;rfl
| intro _
| refine nv ?_
| apply wct rfl
| apply ycp;rfl;exact aM;rfl
| fail)
  all_goals (exact ak [0,1,2,3,4,7,8,9,10,11] rfl rfl rfl rfl rfl rfl)
 by_cases hta:aj fr ∧ aj to ∧ aj c ∧ inP q 1 1000000000000000 ∧ inP way 1 3
 rotate_left
 ·
  rw [gQ (b:=⟨ba,bi,bb,bl,bt,bn⟩) (fun h => hta h.2)]
  repeat' (first
| intro h9;exfalso;contradiction
| intro h9;refine absurd ⟨?_,?_,?_,?_,?_⟩ hta;exact (show ∀ x ∈ [fr,to,c],aj x by assumption) _ (.head _);exact (show ∀ x ∈ [fr,to,c],aj x by assumption) _ (.tail _ (.head _));exact (show ∀ x ∈ [fr,to,c],aj x by assumption) _ (.tail _ (.tail _ (.head _)));assumption;assumption
| apply al (d:=39) 0 42 2;rfl;rfl;rfl;rfl;rfl
| apply al (d:=39) 1 74 2;rfl;rfl;rfl;rfl;rfl
| apply al (d:=39) 2 135 3;rfl;rfl;rfl;rfl;rfl
| apply al (d:=39) 3 137 5;rfl;rfl;rfl;rfl;rfl
| apply al (d:=39) 4 103 8;rfl;rfl;rfl;rfl;rfl
| apply yd;rfl
| intro _
| refine nv ?_
| apply wct rfl
| apply aH (α:=Int) (e:=3);rfl
| apply ycp;rfl;(first | exact aM | exact dy | exact bm);rfl
| fail)
  all_goals (exact ak [0,1,2,3,4,8,9,10,11,12] rfl rfl rfl rfl rfl rfl)
 have hA:=hok.acc
 have hI:=hok.ins
 have hal:=hA.2
 have hbn:=hok.lot
 obtain ⟨k1,k2,k3,k4,k5⟩:=id hta
 have hno:∀ x ∈ [fr,to,c],aj x:=fun x hx => by simp only [List.mem_cons,List.not_mem_nil,or_false] at hx;rcases hx with rfl | rfl | rfl <;> assumption
 dsimp only at hA hI hal hbn
 unfold inP at hbn
 have c0:¬ ¬ (BooksOk ⟨ba,bi,bb,bl,bt,bn⟩ ∧ aj fr ∧ aj to ∧ aj c ∧ inP q 1 1000000000000000 ∧ inP way 1 3):=fun k => k ⟨hok,hta⟩
 have q4:=k4
 have q5:=k5
 unfold inP at q4 q5
 have hkc:=gZ (no:=c) hI
 by_cases c1:a9 ba fr = 0 ∨ a9 ba to = 0 ∨ aa bi c = 0
 rw [lC (b:=⟨ba,bi,bb,bl,bt,bn⟩) c0 c1]
 rotate_left
 by_cases c2:a9 ba fr ≠ 1 ∨ a9 ba to ≠ 1 ∨ fr = to
 rw [lD (b:=⟨ba,bi,bb,bl,bt,bn⟩) c0 c1 c2]
 rotate_left
 have hlg:=mz k1 k2 k3 (n:=q) (by omega)
 have hpc:=dX hok hlg
 have hpn:=ix (pN ba bb [⟨fr,c,-q⟩,⟨to,c,q⟩])
 have hsn:=lp (pN ba bb [⟨fr,c,-q⟩,⟨to,c,q⟩])
 have hT2:=ew fr to c q
 by_cases c3:pN ba bb [⟨fr,c,-q⟩,⟨to,c,q⟩] = 0
 rotate_left
 rw [lF (b:=⟨ba,bi,bb,bl,bt,bn⟩) c0 c1 c2 c3]
 rotate_left
 rotate_left 2
 by_cases c4:aa bi c ≠ 2
 rw [lG (b:=⟨ba,bi,bb,bl,bt,bn⟩) c0 c1 c2 (fun k => k c3) c4]
 rotate_left
 have htc:=mQ hok (a:=fr) (c:=c) (q:=q) (w:=way)
 dsimp only at htc
 have hpp:pick ((-1:Int) < 0) (tC bl fr c q way) (-1) = tC bl fr c q way:=aK (by omega)
 by_cases c5:tN bl fr c q way = 0
 rotate_left
 rw [lH (b:=⟨ba,bi,bb,bl,bt,bn⟩) c0 c1 c2 (fun k => k c3) c4 c5]
 rotate_left
 rotate_left 4
 by_cases c6:dW (tL bl fr c q way) bn to c q (tC bl fr c q way)
 rotate_left
 rw [lI (b:=⟨ba,bi,bb,bl,bt,bn⟩) c0 c1 c2 (fun k => k c3) c4 (fun k => k c5) c6]
 rotate_left
 rotate_left 5
 rw [lJ (b:=⟨ba,bi,bb,bl,bt,bn⟩) c0 c1 c2 (fun k => k c3) c4 (fun k => k c5) (fun k => k c6)]
 repeat' (first
| intro h9;exfalso;first | contradiction | omega
| apply yds;rfl
| apply yd;rfl
| intro _
| refine nv ?_
| apply wct rfl
| apply wcf rfl
| apply yeq;rfl
| apply yne;rfl
| apply v4;rfl;rfl;omega;rfl;rfl
| apply aH (α:=Int) (e:=3);rfl
| apply aH (α:=Leg) (e:=46);rfl
| apply ycp;rfl;(first | exact aM | exact dy | exact bm | exact cM);rfl
| apply ycf;rfl;exact bG (by exact BooksOk.midB (by assumption));rfl
| apply yc;rfl;(first | exact dh | exact d6);rfl;exact fun _ => rfl
| apply jd  [true,true,true,true,true,true,true];(iterate 10 rfl);exact ef (by omega);(iterate 6 rfl)
| apply jd  [true,true,true,true,true,true];(iterate 10 rfl);(first | exact jB | exact gi (by omega));(iterate 6 rfl)
| fail)
 all_goals first | (exact ak [0,1,2,3,4,8,9,10,11,12] rfl rfl rfl rfl rfl rfl) | (first | exact ak [0,1,2,3,4,15,16,17,18,19] rfl rfl rfl rfl rfl rfl | exact ak [0,1,2,3,4,16,17,18,19,20] rfl rfl rfl rfl rfl rfl | exact ak [0,1,2,3,4,17,18,19,20,21] rfl rfl rfl rfl rfl rfl) | (exact ak [0,1,2,3,4,8,9,15,11,12] rfl rfl rfl rfl rfl rfl) | (exact ak [0,1,2,3,4,8,9,15,17,12] rfl rfl rfl rfl rfl rfl)
theorem lq {ba:List Account} {bi:List Instr} {bb:List Bal} {bl:List Lot} {bt:List Trade} {bn:Int} {fr to c q way:Int}:FC Tryz.prog 69 [bkV 0 ⟨ba,bi,bb,bl,bt,bn⟩,I fr,I to,I c,I q,I way] (bkR ⟨ba,bi,bb,bl,bt,bn⟩) (.tup [bkE 5 (aN ⟨ba,bi,bb,bl,bt,bn⟩ fr to c q way).1,I (aN ⟨ba,bi,bb,bl,bt,bn⟩ fr to c q way).2.1,I (aN ⟨ba,bi,bb,bl,bt,bn⟩ fr to c q way).2.2]) (bkR ⟨ba,bi,bb,bl,bt,bn⟩ ++ bkW (aN ⟨ba,bi,bb,bl,bt,bn⟩ fr to c q way).1):=by
 refine ax tk 124 [.cell 12 _,.tmp 13,.tmp 14] Tryz.func69 (by kernel_rfl) rfl rfl rfl rfl rfl rfl rfl ?_
 by_cases hok:BooksOk ⟨ba,bi,bb,bl,bt,bn⟩
 rotate_left
 ·
  rw [gQ (b:=⟨ba,bi,bb,bl,bt,bn⟩) (fun h => hok h.1)]
  repeat' (first
| intro h9;exfalso;contradiction
| apply al (d:=49) 0 42 2;rfl;rfl;rfl;rfl;rfl
| apply al (d:=49) 1 74 2;rfl;rfl;rfl;rfl;rfl
| apply al (d:=49) 2 135 3;rfl;rfl;rfl;rfl;rfl
| apply al (d:=49) 3 137 5;rfl;rfl;rfl;rfl;rfl
| apply al (d:=49) 4 103 8;rfl;rfl;rfl;rfl;rfl
| apply yd;rfl
| intro _
| refine nv ?_
| apply wct rfl
| apply ycp;rfl;exact ap;rfl
| fail)
  all_goals (exact ak [0,1,2,3,4,7,8,9,10,11] rfl rfl rfl rfl rfl rfl)
 by_cases hta:aj fr ∧ aj to ∧ aj c ∧ inP q 1 1000000000000000 ∧ inP way 1 3
 rotate_left
 ·
  rw [gQ (b:=⟨ba,bi,bb,bl,bt,bn⟩) (fun h => hta h.2)]
  repeat' (first
| intro h9;exfalso;contradiction
| intro h9;exact absurd ⟨by assumption,by assumption,by assumption,by assumption,by assumption⟩ hta
| apply al (d:=49) 0 42 2;rfl;rfl;rfl;rfl;rfl
| apply al (d:=49) 1 74 2;rfl;rfl;rfl;rfl;rfl
| apply al (d:=49) 2 135 3;rfl;rfl;rfl;rfl;rfl
| apply al (d:=49) 3 137 5;rfl;rfl;rfl;rfl;rfl
| apply al (d:=49) 4 103 8;rfl;rfl;rfl;rfl;rfl
| apply yd;rfl
| intro _
| refine nv ?_
| apply wct rfl
| apply ycp;rfl;(first | exact ap | exact aQ | exact aJ | exact aO);rfl
| fail)
  all_goals (exact ak [0,1,2,3,4,7,8,9,10,11] rfl rfl rfl rfl rfl rfl)
 have hA:=hok.acc
 have hI:=hok.ins
 have hal:=hA.2
 have hbn:=hok.lot
 obtain ⟨k1,k2,k3,k4,k5⟩:=id hta
 have hno:∀ x ∈ [fr,to,c],aj x:=fun x hx => by simp only [List.mem_cons,List.not_mem_nil,or_false] at hx;rcases hx with rfl | rfl | rfl <;> assumption
 dsimp only at hA hI hal hbn
 unfold inP at hbn
 have c0:¬ ¬ (BooksOk ⟨ba,bi,bb,bl,bt,bn⟩ ∧ aj fr ∧ aj to ∧ aj c ∧ inP q 1 1000000000000000 ∧ inP way 1 3):=fun k => k ⟨hok,hta⟩
 have q4:=k4
 have q5:=k5
 unfold inP at q4 q5
 have hkc:=gZ (no:=c) hI
 by_cases c1:a9 ba fr = 0 ∨ a9 ba to = 0 ∨ aa bi c = 0
 rw [lC (b:=⟨ba,bi,bb,bl,bt,bn⟩) c0 c1]
 rotate_left
 by_cases c2:a9 ba fr ≠ 1 ∨ a9 ba to ≠ 1 ∨ fr = to
 rw [lD (b:=⟨ba,bi,bb,bl,bt,bn⟩) c0 c1 c2]
 rotate_left
 have hlg:=mz k1 k2 k3 (n:=q) (by omega)
 have hpc:=dX hok hlg
 have hpn:=ix (pN ba bb (b9 fr to c q))
 have hsn:=lp (pN ba bb (b9 fr to c q))
 have hT2:=ew fr to c q
 by_cases c3:pN ba bb (b9 fr to c q) = 0
 rotate_left
 rw [lF (b:=⟨ba,bi,bb,bl,bt,bn⟩) c0 c1 c2 c3,← nM hpc]
 rotate_left
 rotate_left 2
 by_cases c4:aa bi c ≠ 2
 rw [lG (b:=⟨ba,bi,bb,bl,bt,bn⟩) c0 c1 c2 (fun k => k c3) c4]
 rotate_left
 have htc:=mQ hok (a:=fr) (c:=c) (q:=q) (w:=way)
 dsimp only at htc
 have hpp:pick ((-1:Int) < 0) (tC bl fr c q way) (-1) = tC bl fr c q way:=aK (by omega)
 by_cases c5:tN bl fr c q way = 0
 rotate_left
 rw [lH (b:=⟨ba,bi,bb,bl,bt,bn⟩) c0 c1 c2 (fun k => k c3) c4 c5]
 rotate_left
 rotate_left 4
 by_cases c6:dW (tL bl fr c q way) bn to c q (pick ((-1:Int) < 0) (tC bl fr c q way) (-1))
 rotate_left
 rw [lI (b:=⟨ba,bi,bb,bl,bt,bn⟩) c0 c1 c2 (fun k => k c3) c4 (fun k => k c5) (by rwa [hpp] at c6)]
 rotate_left
 rotate_left 5
 rw [lJ (b:=⟨ba,bi,bb,bl,bt,bn⟩) c0 c1 c2 (fun k => k c3) c4 (fun k => k c5) (fun k => k (by rwa [hpp] at c6))]
 repeat' (first
| intro h9;exfalso;first | contradiction | omega
| apply yds;rfl
| apply yd;rfl
| intro _
| refine nv ?_
| apply wct rfl
| apply wcf rfl
| apply yeq;rfl
| apply yne;rfl
| refine zdq (id:=3) rfl (by kernel_rfl) [(.p,0),(.p,2),(.p,4),(.p,6),(.p,8),(.p,10),(.t,1),(.t,5),(.t,9),(.o,3),(.o,7),(.o,11),(.p,12),(.p,13),(.p,14)] [] (by kernel_rfl) rfl ?_
| apply ycp;rfl;(first | exact ap | exact aQ | exact aJ | exact aO);rfl
| apply ycq;rfl;(first | exact aX | exact b8);rfl
| apply ycf;rfl;(first | exact aR (by exact BooksOk.midB (by assumption)) | exact iF (by omega));rfl
| apply jd  [true,true,true,true,true,false];(iterate 10 rfl);exact db (by omega);(iterate 6 rfl)
| apply ycw  [true,true,true,true,true];rfl;(first | exact kJ (by omega) (by assumption) | exact kI (by omega) (by assumption) (by assumption) | exact kH (by omega) (by assumption) (by assumption));rfl
| fail)
 all_goals first | (exact ak [0,1,2,3,4,7,8,9,10,11] rfl rfl rfl rfl rfl rfl) | (first | exact ak [0,1,2,3,4,14,15,16,17,18] rfl rfl rfl rfl rfl rfl | exact ak [0,1,2,3,4,15,16,17,18,19] rfl rfl rfl rfl rfl rfl | exact ak [0,1,2,3,4,16,17,18,19,20] rfl rfl rfl rfl rfl rfl) | (exact ak [0,1,2,3,4,7,8,13,10,11] rfl rfl rfl rfl rfl rfl) | (rw [hpp];exact ak [0,1,2,3,4,7,8,13,15,11] rfl rfl rfl rfl rfl rfl)
end Go.Proofs.YtgehbhkfehmdkaaGreat.Sh
