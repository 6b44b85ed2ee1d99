/- What is issued and moved in books: both sides. No condition. -/
import Derived.Test.YtgehbhkfehmdkaaGreatKFxShV
import Derived.Test.YtgehbhkfehmdkaaGreatKFxShSe
import Derived.Test.YtgehbhkfehmdkaaGreatKFxShTr2
set_option maxRecDepth 100000
set_option maxHeartbeats 40000000
set_option linter.unusedSimpArgs false
set_option linter.unusedVariables false
namespace Go.Proofs.YtgehbhkfehmdkaaGreat.Sh
open Go.RowKit
theorem pb {a e c n:Int} (h1:ag a) (h2:ag e) (h3:ag c) (h4:0 ≤ n ∧ n ≤ 1000000000000000):co (bv a e c n):=by
 refine ⟨⟨by show 2 ≤ 160;omega,fun x hx => ?_⟩,fun x hx => ?_⟩
 ·simp only [bv,List.mem_cons,List.not_mem_nil,or_false] at hx
  rcases hx with rfl | rfl <;> (refine ⟨by assumption,by assumption,?_⟩;show -1000000000000000 ≤ _ ∧ _ ≤ 1000000000000000;dsimp only;omega)
 ·have e2:∀ k:Int,bf (bv a e c n) k = (if c = k then -n else 0) + ((if c = k then n else 0) + 0):=fun k => by
   simp only [bf,ak,bv,List.map_cons,List.map_nil,List.sum_cons,List.sum_nil,eR]
  rw [e2]
  split <;> omega
noncomputable def aS (b:Books) (is ho c q k:Int):Books × Int :=
 sel (¬ (BooksOk b ∧ ag is ∧ ag ho ∧ ag c ∧ inP q 1 1000000000000000 ∧ inP k 0 1000000000000000)) (⟨[],[],[],[],[],0⟩,1)
 (sel (a9 b.Accounts is = 0 ∨ a9 b.Accounts ho = 0 ∨ aa b.Instrs c = 0) (b,3)
 (sel (a9 b.Accounts is ≠ 2 ∨ a9 b.Accounts ho ≠ 1 ∨ (k ≠ 0 ∧ aa b.Instrs c = 1)) (b,4)
 (sel (¬ (poR b (bv is ho c q)).2 = 0) (b,cj (poR b (bv is ho c q)).2)
 (sel (aa b.Instrs c ≠ 2) (⟨b.Accounts,b.Instrs,(poR b (bv is ho c q)).1,b.Lots,b.Trades,b.Lot⟩,0)
 (sel (¬ fD b.Lots b.Lot ho c q k) (b,7)
 (⟨b.Accounts,b.Instrs,(poR b (bv is ho c q)).1,opL b.Lots b.Lot ho c q k,b.Trades,b.Lot + 1⟩,0))))))
theorem jD {b:Books} {is ho c q k:Int}  (c0:¬ (BooksOk b ∧ ag is ∧ ag ho ∧ ag c ∧ inP q 1 1000000000000000 ∧ inP k 0 1000000000000000)):aS b is ho c q k = (⟨[],[],[],[],[],0⟩,1):=by
 rw [aS,al c0]
theorem nW {b:Books} {is ho c q k:Int} (c0:¬ (¬ (BooksOk b ∧ ag is ∧ ag ho ∧ ag c ∧ inP q 1 1000000000000000 ∧ inP k 0 1000000000000000))) (c1:a9 b.Accounts is = 0 ∨ a9 b.Accounts ho = 0 ∨ aa b.Instrs c = 0):aS b is ho c q k = (b,3):=by
 rw [aS,a8 c0,al c1]
theorem nX {b:Books} {is ho c q k:Int} (c0:¬ (¬ (BooksOk b ∧ ag is ∧ ag ho ∧ ag c ∧ inP q 1 1000000000000000 ∧ inP k 0 1000000000000000))) (c1:¬ (a9 b.Accounts is = 0 ∨ a9 b.Accounts ho = 0 ∨ aa b.Instrs c = 0)) (c2:a9 b.Accounts is ≠ 2 ∨ a9 b.Accounts ho ≠ 1 ∨ (k ≠ 0 ∧ aa b.Instrs c = 1)):aS b is ho c q k = (b,4):=by
 rw [aS,a8 c0,a8 c1,al c2]
theorem nY {b:Books} {is ho c q k:Int} (c0:¬ (¬ (BooksOk b ∧ ag is ∧ ag ho ∧ ag c ∧ inP q 1 1000000000000000 ∧ inP k 0 1000000000000000))) (c1:¬ (a9 b.Accounts is = 0 ∨ a9 b.Accounts ho = 0 ∨ aa b.Instrs c = 0)) (c2:¬ (a9 b.Accounts is ≠ 2 ∨ a9 b.Accounts ho ≠ 1 ∨ (k ≠ 0 ∧ aa b.Instrs c = 1))) (c3:¬ (poR b (bv is ho c q)).2 = 0):aS b is ho c q k = (b,cj (poR b (bv is ho c q)).2):=by
 rw [aS,a8 c0,a8 c1,a8 c2,al c3]
theorem nZ {b:Books} {is ho c q k:Int} (c0:¬ (¬ (BooksOk b ∧ ag is ∧ ag ho ∧ ag c ∧ inP q 1 1000000000000000 ∧ inP k 0 1000000000000000))) (c1:¬ (a9 b.Accounts is = 0 ∨ a9 b.Accounts ho = 0 ∨ aa b.Instrs c = 0)) (c2:¬ (a9 b.Accounts is ≠ 2 ∨ a9 b.Accounts ho ≠ 1 ∨ (k ≠ 0 ∧ aa b.Instrs c = 1))) (c3:¬ (¬ (poR b (bv is ho c q)).2 = 0)) (c4:aa b.Instrs c ≠ 2):aS b is ho c q k = (⟨b.Accounts,b.Instrs,(poR b (bv is ho c q)).1,b.Lots,b.Trades,b.Lot⟩,0):=by
 rw [aS,a8 c0,a8 c1,a8 c2,a8 c3,al c4]
theorem o4 {b:Books} {is ho c q k:Int} (c0:¬ (¬ (BooksOk b ∧ ag is ∧ ag ho ∧ ag c ∧ inP q 1 1000000000000000 ∧ inP k 0 1000000000000000))) (c1:¬ (a9 b.Accounts is = 0 ∨ a9 b.Accounts ho = 0 ∨ aa b.Instrs c = 0)) (c2:¬ (a9 b.Accounts is ≠ 2 ∨ a9 b.Accounts ho ≠ 1 ∨ (k ≠ 0 ∧ aa b.Instrs c = 1))) (c3:¬ (¬ (poR b (bv is ho c q)).2 = 0)) (c4:¬ (aa b.Instrs c ≠ 2)) (c5:¬ fD b.Lots b.Lot ho c q k):aS b is ho c q k = (b,7):=by
 rw [aS,a8 c0,a8 c1,a8 c2,a8 c3,a8 c4,al c5]
theorem o5 {b:Books} {is ho c q k:Int} (c0:¬ (¬ (BooksOk b ∧ ag is ∧ ag ho ∧ ag c ∧ inP q 1 1000000000000000 ∧ inP k 0 1000000000000000))) (c1:¬ (a9 b.Accounts is = 0 ∨ a9 b.Accounts ho = 0 ∨ aa b.Instrs c = 0)) (c2:¬ (a9 b.Accounts is ≠ 2 ∨ a9 b.Accounts ho ≠ 1 ∨ (k ≠ 0 ∧ aa b.Instrs c = 1))) (c3:¬ (¬ (poR b (bv is ho c q)).2 = 0)) (c4:¬ (aa b.Instrs c ≠ 2)) (c5:¬ (¬ fD b.Lots b.Lot ho c q k)):aS b is ho c q k = (⟨b.Accounts,b.Instrs,(poR b (bv is ho c q)).1,opL b.Lots b.Lot ho c q k,b.Trades,b.Lot + 1⟩,0):=by
 rw [aS,a8 c0,a8 c1,a8 c2,a8 c3,a8 c4,a8 c5]
noncomputable def b9 (b:Books) (fr to c q way:Int):Books × Int × Int :=
 sel (¬ (BooksOk b ∧ ag fr ∧ ag to ∧ ag c ∧ inP q 1 1000000000000000 ∧ inP way 1 3)) (⟨[],[],[],[],[],0⟩,0,1)
 (sel (a9 b.Accounts fr = 0 ∨ a9 b.Accounts to = 0 ∨ aa b.Instrs c = 0) (b,0,3)
 (sel (a9 b.Accounts fr ≠ 1 ∨ a9 b.Accounts to ≠ 1 ∨ fr = to) (b,0,4)
 (sel (¬ (poR b (bv fr to c q)).2 = 0) (b,0,cj (poR b (bv fr to c q)).2)
 (sel (aa b.Instrs c ≠ 2) (⟨b.Accounts,b.Instrs,(poR b (bv fr to c q)).1,b.Lots,b.Trades,b.Lot⟩,0,0)
 (sel (¬ tN b.Lots fr c q way = 0) (b,0,5)
 (sel (¬ fD (tL b.Lots fr c q way) b.Lot to c q (tC b.Lots fr c q way)) (b,0,7)
 (⟨b.Accounts,b.Instrs,(poR b (bv fr to c q)).1,opL (tL b.Lots fr c q way) b.Lot to c q (tC b.Lots fr c q way),b.Trades,b.Lot + 1⟩,tC b.Lots fr c q way,0)))))))
theorem kL {b:Books} {fr to c q way:Int}  (c0:¬ (BooksOk b ∧ ag fr ∧ ag to ∧ ag c ∧ inP q 1 1000000000000000 ∧ inP way 1 3)):b9 b fr to c q way = (⟨[],[],[],[],[],0⟩,0,1):=by
 rw [b9,al c0]
theorem pT {b:Books} {fr to c q way:Int} (c0:¬ (¬ (BooksOk b ∧ ag fr ∧ ag to ∧ ag c ∧ inP q 1 1000000000000000 ∧ inP way 1 3))) (c1:a9 b.Accounts fr = 0 ∨ a9 b.Accounts to = 0 ∨ aa b.Instrs c = 0):b9 b fr to c q way = (b,0,3):=by
 rw [b9,a8 c0,al c1]
theorem pU {b:Books} {fr to c q way:Int} (c0:¬ (¬ (BooksOk b ∧ ag fr ∧ ag to ∧ ag c ∧ inP q 1 1000000000000000 ∧ inP way 1 3))) (c1:¬ (a9 b.Accounts fr = 0 ∨ a9 b.Accounts to = 0 ∨ aa b.Instrs c = 0)) (c2:a9 b.Accounts fr ≠ 1 ∨ a9 b.Accounts to ≠ 1 ∨ fr = to):b9 b fr to c q way = (b,0,4):=by
 rw [b9,a8 c0,a8 c1,al c2]
theorem pV {b:Books} {fr to c q way:Int} (c0:¬ (¬ (BooksOk b ∧ ag fr ∧ ag to ∧ ag c ∧ inP q 1 1000000000000000 ∧ inP way 1 3))) (c1:¬ (a9 b.Accounts fr = 0 ∨ a9 b.Accounts to = 0 ∨ aa b.Instrs c = 0)) (c2:¬ (a9 b.Accounts fr ≠ 1 ∨ a9 b.Accounts to ≠ 1 ∨ fr = to)) (c3:¬ (poR b (bv fr to c q)).2 = 0):b9 b fr to c q way = (b,0,cj (poR b (bv fr to c q)).2):=by
 rw [b9,a8 c0,a8 c1,a8 c2,al c3]
theorem pW {b:Books} {fr to c q way:Int} (c0:¬ (¬ (BooksOk b ∧ ag fr ∧ ag to ∧ ag c ∧ inP q 1 1000000000000000 ∧ inP way 1 3))) (c1:¬ (a9 b.Accounts fr = 0 ∨ a9 b.Accounts to = 0 ∨ aa b.Instrs c = 0)) (c2:¬ (a9 b.Accounts fr ≠ 1 ∨ a9 b.Accounts to ≠ 1 ∨ fr = to)) (c3:¬ (¬ (poR b (bv fr to c q)).2 = 0)) (c4:aa b.Instrs c ≠ 2):b9 b fr to c q way = (⟨b.Accounts,b.Instrs,(poR b (bv fr to c q)).1,b.Lots,b.Trades,b.Lot⟩,0,0):=by
 rw [b9,a8 c0,a8 c1,a8 c2,a8 c3,al c4]
theorem pX {b:Books} {fr to c q way:Int} (c0:¬ (¬ (BooksOk b ∧ ag fr ∧ ag to ∧ ag c ∧ inP q 1 1000000000000000 ∧ inP way 1 3))) (c1:¬ (a9 b.Accounts fr = 0 ∨ a9 b.Accounts to = 0 ∨ aa b.Instrs c = 0)) (c2:¬ (a9 b.Accounts fr ≠ 1 ∨ a9 b.Accounts to ≠ 1 ∨ fr = to)) (c3:¬ (¬ (poR b (bv fr to c q)).2 = 0)) (c4:¬ (aa b.Instrs c ≠ 2)) (c5:¬ tN b.Lots fr c q way = 0):b9 b fr to c q way = (b,0,5):=by
 rw [b9,a8 c0,a8 c1,a8 c2,a8 c3,a8 c4,al c5]
theorem pY {b:Books} {fr to c q way:Int} (c0:¬ (¬ (BooksOk b ∧ ag fr ∧ ag to ∧ ag c ∧ inP q 1 1000000000000000 ∧ inP way 1 3))) (c1:¬ (a9 b.Accounts fr = 0 ∨ a9 b.Accounts to = 0 ∨ aa b.Instrs c = 0)) (c2:¬ (a9 b.Accounts fr ≠ 1 ∨ a9 b.Accounts to ≠ 1 ∨ fr = to)) (c3:¬ (¬ (poR b (bv fr to c q)).2 = 0)) (c4:¬ (aa b.Instrs c ≠ 2)) (c5:¬ (¬ tN b.Lots fr c q way = 0)) (c6:¬ fD (tL b.Lots fr c q way) b.Lot to c q (tC b.Lots fr c q way)):b9 b fr to c q way = (b,0,7):=by
 rw [b9,a8 c0,a8 c1,a8 c2,a8 c3,a8 c4,a8 c5,al c6]
theorem pZ {b:Books} {fr to c q way:Int} (c0:¬ (¬ (BooksOk b ∧ ag fr ∧ ag to ∧ ag c ∧ inP q 1 1000000000000000 ∧ inP way 1 3))) (c1:¬ (a9 b.Accounts fr = 0 ∨ a9 b.Accounts to = 0 ∨ aa b.Instrs c = 0)) (c2:¬ (a9 b.Accounts fr ≠ 1 ∨ a9 b.Accounts to ≠ 1 ∨ fr = to)) (c3:¬ (¬ (poR b (bv fr to c q)).2 = 0)) (c4:¬ (aa b.Instrs c ≠ 2)) (c5:¬ (¬ tN b.Lots fr c q way = 0)) (c6:¬ (¬ fD (tL b.Lots fr c q way) b.Lot to c q (tC b.Lots fr c q way))):b9 b fr to c q way = (⟨b.Accounts,b.Instrs,(poR b (bv fr to c q)).1,opL (tL b.Lots fr c q way) b.Lot to c q (tC b.Lots fr c q way),b.Trades,b.Lot + 1⟩,tC b.Lots fr c q way,0):=by
 rw [b9,a8 c0,a8 c1,a8 c2,a8 c3,a8 c4,a8 c5,a8 c6]
theorem lq {ba:List Account} {bi:List Instr} {bb:List Bal} {bl:List Lot} {bt:List Trade} {bn:Int} {is ho c q k:Int}:FC Tryz.prog 51 [bkV 0 ⟨ba,bi,bb,bl,bt,bn⟩,I is,I ho,I c,I q,I k] (bkR ⟨ba,bi,bb,bl,bt,bn⟩) (.tup [bkE 5 (aS ⟨ba,bi,bb,bl,bt,bn⟩ is ho c q k).1,I (aS ⟨ba,bi,bb,bl,bt,bn⟩ is ho c q k).2]) (bkR ⟨ba,bi,bb,bl,bt,bn⟩ ++ bkW (aS ⟨ba,bi,bb,bl,bt,bn⟩ is ho c q k).1):=by
 refine ay tk 122 [.cell 12 _,.tmp 13] Tryz.func51 (by kernel_rfl) rfl rfl rfl rfl rfl rfl rfl ?_
 by_cases hok:BooksOk ⟨ba,bi,bb,bl,bt,bn⟩
 rotate_left
 ·
  rw [jD (b:=⟨ba,bi,bb,bl,bt,bn⟩) (fun h => hok h.1)]
  repeat' (first
| intro h9;exfalso;contradiction
| apply ap (d:=47) 0 42 2;rfl;rfl;rfl;rfl;rfl
| apply ap (d:=47) 1 74 2;rfl;rfl;rfl;rfl;rfl
| apply ap (d:=47) 2 135 3;rfl;rfl;rfl;rfl;rfl
| apply ap (d:=47) 3 137 5;rfl;rfl;rfl;rfl;rfl
| apply ap (d:=47) 4 103 8;rfl;rfl;rfl;rfl;rfl
| apply yd;rfl
| intro _
| refine nv ?_
| apply wct rfl
| apply ycp;rfl;exact ae;rfl
| fail)
  all_goals (exact au [0,1,2,3,4,7,8,9,10,11] rfl rfl rfl rfl rfl rfl)
 by_cases hta:ag is ∧ ag ho ∧ ag c ∧ inP q 1 1000000000000000 ∧ inP k 0 1000000000000000
 rotate_left
 ·
  rw [jD (b:=⟨ba,bi,bb,bl,bt,bn⟩) (fun h => hta h.2)]
  repeat' (first
| intro h9;exfalso;contradiction
| intro h9;exact absurd ⟨by assumption,by assumption,by assumption,by assumption,by assumption⟩ hta
| apply ap (d:=47) 0 42 2;rfl;rfl;rfl;rfl;rfl
| apply ap (d:=47) 1 74 2;rfl;rfl;rfl;rfl;rfl
| apply ap (d:=47) 2 135 3;rfl;rfl;rfl;rfl;rfl
| apply ap (d:=47) 3 137 5;rfl;rfl;rfl;rfl;rfl
| apply ap (d:=47) 4 103 8;rfl;rfl;rfl;rfl;rfl
| apply yd;rfl
| intro _
| refine nv ?_
| apply wct rfl
| apply ycp;rfl;(first | exact ae | exact aG | exact aA);rfl
| fail)
  all_goals (exact au [0,1,2,3,4,7,8,9,10,11] rfl rfl rfl rfl rfl rfl)
 have hA:=hok.acc
 have hI:=hok.ins
 have hal:=hA.2
 have hbn:=hok.lot
 obtain ⟨k1,k2,k3,k4,k5⟩:=id hta
 have hno:∀ x ∈ [is,ho,c],ag x:=fun x hx => by simp only [List.mem_cons,List.not_mem_nil,or_false] at hx;rcases hx with rfl | rfl | rfl <;> assumption
 dsimp only at hA hI hal hbn
 unfold inP at hbn
 have c0:¬ ¬ (BooksOk ⟨ba,bi,bb,bl,bt,bn⟩ ∧ ag is ∧ ag ho ∧ ag c ∧ inP q 1 1000000000000000 ∧ inP k 0 1000000000000000):=fun k => k ⟨hok,hta⟩
 have q4:=k4
 have q5:=k5
 unfold inP at q4 q5
 have hkc:=io (no:=c) hI
 by_cases c1:a9 ba is = 0 ∨ a9 ba ho = 0 ∨ aa bi c = 0
 rw [nW (b:=⟨ba,bi,bb,bl,bt,bn⟩) c0 c1]
 rotate_left
 by_cases c2:a9 ba is ≠ 2 ∨ a9 ba ho ≠ 1 ∨ (k ≠ 0 ∧ aa bi c = 1)
 rw [nX (b:=⟨ba,bi,bb,bl,bt,bn⟩) c0 c1 c2]
 rotate_left
 have hlg:=pb k1 k2 k3 (n:=q) (by omega)
 have hpc:=eh hok hlg
 have hpn:=jI (pN ba bb (bv is ho c q))
 have hsn:=ll (pN ba bb (bv is ho c q))
 have hT2:=dg is ho c q
 by_cases c3:pN ba bb (bv is ho c q) = 0
 rotate_left
 rw [nY (b:=⟨ba,bi,bb,bl,bt,bn⟩) c0 c1 c2 c3,← jJ hpc]
 rotate_left
 rotate_left 2
 by_cases c4:aa bi c ≠ 2
 rw [nZ (b:=⟨ba,bi,bb,bl,bt,bn⟩) c0 c1 c2 (fun k => k c3) c4]
 rotate_left
 by_cases c5:fD bl bn ho c q k
 rotate_left
 rw [o4 (b:=⟨ba,bi,bb,bl,bt,bn⟩) c0 c1 c2 (fun k => k c3) c4 c5]
 rotate_left
 rotate_left 4
 rw [o5 (b:=⟨ba,bi,bb,bl,bt,bn⟩) c0 c1 c2 (fun k => k c3) c4 (fun k => k c5)]
 repeat' (first
| intro h9;exfalso;first | contradiction | omega
| apply yds;rfl
| apply yd;rfl
| intro _
| refine nv ?_
| apply wct rfl
| apply wcf rfl
| apply aj;rfl
| apply yne;rfl
| refine zdq (id:=3) rfl (by kernel_rfl) [(.p,0),(.p,2),(.p,4),(.p,6),(.p,8),(.p,10),(.t,1),(.t,5),(.t,9),(.o,3),(.o,7),(.o,11),(.p,12),(.p,13),(.p,14)] [] (by kernel_rfl) rfl ?_
| apply ycp;rfl;(first | exact ae | exact aG | exact aA);rfl
| apply ycq;rfl;(first | exact aM | exact aU);rfl
| apply ycf;rfl;(first | exact aI (by exact BooksOk.midB (by assumption)) | exact eO (by omega));rfl
| apply jb  [true,true,true,true,true,false];(iterate 10 rfl);exact cy (by omega);(iterate 6 rfl)
| apply jb  [true,true,true,true,true];(iterate 10 rfl);exact dH (by omega);(iterate 6 rfl)
| fail)
 all_goals first | (exact au [0,1,2,3,4,7,8,9,10,11] rfl rfl rfl rfl rfl rfl) | (first | exact au [0,1,2,3,4,14,15,16,17,18] rfl rfl rfl rfl rfl rfl | exact au [0,1,2,3,4,15,16,17,18,19] rfl rfl rfl rfl rfl rfl) | (exact au [0,1,2,3,4,7,8,13,10,11] rfl rfl rfl rfl rfl rfl) | (exact au [0,1,2,3,4,7,8,13,15,11] rfl rfl rfl rfl rfl rfl)
theorem lV {ba:List Account} {bi:List Instr} {bb:List Bal} {bl:List Lot} {bt:List Trade} {bn:Int} {fr to c q way:Int}:FC Tryz.prog 69 [bkV 0 ⟨ba,bi,bb,bl,bt,bn⟩,I fr,I to,I c,I q,I way] (bkR ⟨ba,bi,bb,bl,bt,bn⟩) (.tup [bkE 5 (b9 ⟨ba,bi,bb,bl,bt,bn⟩ fr to c q way).1,I (b9 ⟨ba,bi,bb,bl,bt,bn⟩ fr to c q way).2.1,I (b9 ⟨ba,bi,bb,bl,bt,bn⟩ fr to c q way).2.2]) (bkR ⟨ba,bi,bb,bl,bt,bn⟩ ++ bkW (b9 ⟨ba,bi,bb,bl,bt,bn⟩ fr to c q way).1):=by
 refine ay tk 124 [.cell 12 _,.tmp 13,.tmp 14] Tryz.func69 (by kernel_rfl) rfl rfl rfl rfl rfl rfl rfl ?_
 by_cases hok:BooksOk ⟨ba,bi,bb,bl,bt,bn⟩
 rotate_left
 ·
  rw [kL (b:=⟨ba,bi,bb,bl,bt,bn⟩) (fun h => hok h.1)]
  repeat' (first
| intro h9;exfalso;contradiction
| apply ap (d:=49) 0 42 2;rfl;rfl;rfl;rfl;rfl
| apply ap (d:=49) 1 74 2;rfl;rfl;rfl;rfl;rfl
| apply ap (d:=49) 2 135 3;rfl;rfl;rfl;rfl;rfl
| apply ap (d:=49) 3 137 5;rfl;rfl;rfl;rfl;rfl
| apply ap (d:=49) 4 103 8;rfl;rfl;rfl;rfl;rfl
| apply yd;rfl
| intro _
| refine nv ?_
| apply wct rfl
| apply ycp;rfl;exact ae;rfl
| fail)
  all_goals (exact au [0,1,2,3,4,7,8,9,10,11] rfl rfl rfl rfl rfl rfl)
 by_cases hta:ag fr ∧ ag to ∧ ag c ∧ inP q 1 1000000000000000 ∧ inP way 1 3
 rotate_left
 ·
  rw [kL (b:=⟨ba,bi,bb,bl,bt,bn⟩) (fun h => hta h.2)]
  repeat' (first
| intro h9;exfalso;contradiction
| intro h9;exact absurd ⟨by assumption,by assumption,by assumption,by assumption,by assumption⟩ hta
| apply ap (d:=49) 0 42 2;rfl;rfl;rfl;rfl;rfl
| apply ap (d:=49) 1 74 2;rfl;rfl;rfl;rfl;rfl
| apply ap (d:=49) 2 135 3;rfl;rfl;rfl;rfl;rfl
| apply ap (d:=49) 3 137 5;rfl;rfl;rfl;rfl;rfl
| apply ap (d:=49) 4 103 8;rfl;rfl;rfl;rfl;rfl
| apply yd;rfl
| intro _
| refine nv ?_
| apply wct rfl
| apply ycp;rfl;(first | exact ae | exact aG | exact aA | exact aF);rfl
| fail)
  all_goals (exact au [0,1,2,3,4,7,8,9,10,11] rfl rfl rfl rfl rfl rfl)
 have hA:=hok.acc
 have hI:=hok.ins
 have hal:=hA.2
 have hbn:=hok.lot
 obtain ⟨k1,k2,k3,k4,k5⟩:=id hta
 have hno:∀ x ∈ [fr,to,c],ag x:=fun x hx => by simp only [List.mem_cons,List.not_mem_nil,or_false] at hx;rcases hx with rfl | rfl | rfl <;> assumption
 dsimp only at hA hI hal hbn
 unfold inP at hbn
 have c0:¬ ¬ (BooksOk ⟨ba,bi,bb,bl,bt,bn⟩ ∧ ag fr ∧ ag to ∧ ag c ∧ inP q 1 1000000000000000 ∧ inP way 1 3):=fun k => k ⟨hok,hta⟩
 have q4:=k4
 have q5:=k5
 unfold inP at q4 q5
 have hkc:=io (no:=c) hI
 by_cases c1:a9 ba fr = 0 ∨ a9 ba to = 0 ∨ aa bi c = 0
 rw [pT (b:=⟨ba,bi,bb,bl,bt,bn⟩) c0 c1]
 rotate_left
 by_cases c2:a9 ba fr ≠ 1 ∨ a9 ba to ≠ 1 ∨ fr = to
 rw [pU (b:=⟨ba,bi,bb,bl,bt,bn⟩) c0 c1 c2]
 rotate_left
 have hlg:=pb k1 k2 k3 (n:=q) (by omega)
 have hpc:=eh hok hlg
 have hpn:=jI (pN ba bb (bv fr to c q))
 have hsn:=ll (pN ba bb (bv fr to c q))
 have hT2:=dg fr to c q
 by_cases c3:pN ba bb (bv fr to c q) = 0
 rotate_left
 rw [pV (b:=⟨ba,bi,bb,bl,bt,bn⟩) c0 c1 c2 c3,← jJ hpc]
 rotate_left
 rotate_left 2
 by_cases c4:aa bi c ≠ 2
 rw [pW (b:=⟨ba,bi,bb,bl,bt,bn⟩) c0 c1 c2 (fun k => k c3) c4]
 rotate_left
 have htc:=nD hok (a:=fr) (c:=c) (q:=q) (w:=way)
 dsimp only at htc
 have hpp:pick ((-1:Int) < 0) (tC bl fr c q way) (-1) = tC bl fr c q way:=aJ (by omega)
 by_cases c5:tN bl fr c q way = 0
 rotate_left
 rw [pX (b:=⟨ba,bi,bb,bl,bt,bn⟩) c0 c1 c2 (fun k => k c3) c4 c5]
 rotate_left
 rotate_left 4
 by_cases c6:fD (tL bl fr c q way) bn to c q (pick ((-1:Int) < 0) (tC bl fr c q way) (-1))
 rotate_left
 rw [pY (b:=⟨ba,bi,bb,bl,bt,bn⟩) c0 c1 c2 (fun k => k c3) c4 (fun k => k c5) (by rwa [hpp] at c6)]
 rotate_left
 rotate_left 5
 rw [pZ (b:=⟨ba,bi,bb,bl,bt,bn⟩) c0 c1 c2 (fun k => k c3) c4 (fun k => k c5) (fun k => k (by rwa [hpp] at c6))]
 repeat' (first
| intro h9;exfalso;first | contradiction | omega
| apply yds;rfl
| apply yd;rfl
| intro _
| refine nv ?_
| apply wct rfl
| apply wcf rfl
| apply yeq;rfl
| apply yne;rfl
| refine zdq (id:=3) rfl (by kernel_rfl) [(.p,0),(.p,2),(.p,4),(.p,6),(.p,8),(.p,10),(.t,1),(.t,5),(.t,9),(.o,3),(.o,7),(.o,11),(.p,12),(.p,13),(.p,14)] [] (by kernel_rfl) rfl ?_
| apply ycp;rfl;(first | exact ae | exact aG | exact aA | exact aF);rfl
| apply ycq;rfl;(first | exact aM | exact aU);rfl
| apply ycf;rfl;(first | exact aI (by exact BooksOk.midB (by assumption)) | exact eO (by omega));rfl
| apply jb  [true,true,true,true,true,false];(iterate 10 rfl);exact cy (by omega);(iterate 6 rfl)
| apply ycw  [true,true,true,true,true];rfl;(first | exact gG (by omega) (by assumption) | exact gE (by omega) (by assumption) (by assumption) | exact gD (by omega) (by assumption) (by assumption));rfl
| fail)
 all_goals first | (exact au [0,1,2,3,4,7,8,9,10,11] rfl rfl rfl rfl rfl rfl) | (first | exact au [0,1,2,3,4,14,15,16,17,18] rfl rfl rfl rfl rfl rfl | exact au [0,1,2,3,4,15,16,17,18,19] rfl rfl rfl rfl rfl rfl | exact au [0,1,2,3,4,16,17,18,19,20] rfl rfl rfl rfl rfl rfl) | (exact au [0,1,2,3,4,7,8,13,10,11] rfl rfl rfl rfl rfl rfl) | (rw [hpp];exact au [0,1,2,3,4,7,8,13,15,11] rfl rfl rfl rfl rfl rfl)
end Go.Proofs.YtgehbhkfehmdkaaGreat.Sh
