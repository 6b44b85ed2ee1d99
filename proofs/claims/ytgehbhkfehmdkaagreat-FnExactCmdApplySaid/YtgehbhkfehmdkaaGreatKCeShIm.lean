/- What is issued and moved in books: both sides. No condition. -/
import Derived.Test.YtgehbhkfehmdkaaGreatKCeShV
import Derived.Test.YtgehbhkfehmdkaaGreatKCeShSe
import Derived.Test.YtgehbhkfehmdkaaGreatKCeShAc
set_option maxRecDepth 100000
set_option maxHeartbeats 40000000
set_option linter.unusedSimpArgs false
set_option linter.unusedVariables false
namespace Go.Proofs.YtgehbhkfehmdkaaGreat.Sh
open Go.RowKit
theorem la {a e c n:Int} (h1:aj a) (h2:aj e) (h3:aj c) (h4:0 ≤ n ∧ n ≤ 1000000000000000):dj (bN a e c n):=by
 refine ⟨⟨by show 2 ≤ 160;omega,fun x hx => ?_⟩,fun x hx => ?_⟩
 ·simp only [bN,List.mem_cons,List.not_mem_nil,or_false] at hx
  rcases hx with rfl | rfl <;> (refine ⟨by assumption,by assumption,?_⟩;show -1000000000000000 ≤ _ ∧ _ ≤ 1000000000000000;dsimp only;omega)
 ·have e2:∀ k:Int,cd (bN a e c n) k = (if c = k then -n else 0) + ((if c = k then n else 0) + 0):=fun k => by
   simp only [cd,ar,bN,List.map_cons,List.map_nil,List.sum_cons,List.sum_nil,iE]
  rw [e2]
  split <;> omega
noncomputable def aU (b:Books) (is ho c q k:Int):Books × Int :=
 sel (¬ (BooksOk b ∧ aj is ∧ aj ho ∧ aj c ∧ inP q 1 1000000000000000 ∧ inP k 0 1000000000000000)) (⟨[],[],[],[],[],0⟩,1)
 (sel (a9 b.Accounts is = 0 ∨ a9 b.Accounts ho = 0 ∨ ab b.Instrs c = 0) (b,3)
 (sel (a9 b.Accounts is ≠ 2 ∨ a9 b.Accounts ho ≠ 1 ∨ (k ≠ 0 ∧ ab b.Instrs c = 1)) (b,4)
 (sel (¬ (poR b (bN is ho c q)).2 = 0) (b,cX (poR b (bN is ho c q)).2)
 (sel (ab b.Instrs c ≠ 2) (⟨b.Accounts,b.Instrs,(poR b (bN is ho c q)).1,b.Lots,b.Trades,b.Lot⟩,0)
 (sel (¬ f8 b.Lots b.Lot ho c q k) (b,7)
 (⟨b.Accounts,b.Instrs,(poR b (bN is ho c q)).1,opL b.Lots b.Lot ho c q k,b.Trades,b.Lot + 1⟩,0))))))
theorem gm {b:Books} {is ho c q k:Int}  (c0:¬ (BooksOk b ∧ aj is ∧ aj ho ∧ aj c ∧ inP q 1 1000000000000000 ∧ inP k 0 1000000000000000)):aU b is ho c q k = (⟨[],[],[],[],[],0⟩,1):=by
 rw [aU,ap c0]
theorem m8 {b:Books} {is ho c q k:Int} (c0:¬ (¬ (BooksOk b ∧ aj is ∧ aj ho ∧ aj c ∧ inP q 1 1000000000000000 ∧ inP k 0 1000000000000000))) (c1:a9 b.Accounts is = 0 ∨ a9 b.Accounts ho = 0 ∨ ab b.Instrs c = 0):aU b is ho c q k = (b,3):=by
 rw [aU,a8 c0,ap c1]
theorem m9 {b:Books} {is ho c q k:Int} (c0:¬ (¬ (BooksOk b ∧ aj is ∧ aj ho ∧ aj c ∧ inP q 1 1000000000000000 ∧ inP k 0 1000000000000000))) (c1:¬ (a9 b.Accounts is = 0 ∨ a9 b.Accounts ho = 0 ∨ ab b.Instrs c = 0)) (c2:a9 b.Accounts is ≠ 2 ∨ a9 b.Accounts ho ≠ 1 ∨ (k ≠ 0 ∧ ab b.Instrs c = 1)):aU b is ho c q k = (b,4):=by
 rw [aU,a8 c0,a8 c1,ap c2]
theorem ma {b:Books} {is ho c q k:Int} (c0:¬ (¬ (BooksOk b ∧ aj is ∧ aj ho ∧ aj c ∧ inP q 1 1000000000000000 ∧ inP k 0 1000000000000000))) (c1:¬ (a9 b.Accounts is = 0 ∨ a9 b.Accounts ho = 0 ∨ ab b.Instrs c = 0)) (c2:¬ (a9 b.Accounts is ≠ 2 ∨ a9 b.Accounts ho ≠ 1 ∨ (k ≠ 0 ∧ ab b.Instrs c = 1))) (c3:¬ (poR b (bN is ho c q)).2 = 0):aU b is ho c q k = (b,cX (poR b (bN is ho c q)).2):=by
 rw [aU,a8 c0,a8 c1,a8 c2,ap c3]
theorem mb {b:Books} {is ho c q k:Int} (c0:¬ (¬ (BooksOk b ∧ aj is ∧ aj ho ∧ aj c ∧ inP q 1 1000000000000000 ∧ inP k 0 1000000000000000))) (c1:¬ (a9 b.Accounts is = 0 ∨ a9 b.Accounts ho = 0 ∨ ab b.Instrs c = 0)) (c2:¬ (a9 b.Accounts is ≠ 2 ∨ a9 b.Accounts ho ≠ 1 ∨ (k ≠ 0 ∧ ab b.Instrs c = 1))) (c3:¬ (¬ (poR b (bN is ho c q)).2 = 0)) (c4:ab b.Instrs c ≠ 2):aU b is ho c q k = (⟨b.Accounts,b.Instrs,(poR b (bN is ho c q)).1,b.Lots,b.Trades,b.Lot⟩,0):=by
 rw [aU,a8 c0,a8 c1,a8 c2,a8 c3,ap c4]
theorem mc {b:Books} {is ho c q k:Int} (c0:¬ (¬ (BooksOk b ∧ aj is ∧ aj ho ∧ aj c ∧ inP q 1 1000000000000000 ∧ inP k 0 1000000000000000))) (c1:¬ (a9 b.Accounts is = 0 ∨ a9 b.Accounts ho = 0 ∨ ab b.Instrs c = 0)) (c2:¬ (a9 b.Accounts is ≠ 2 ∨ a9 b.Accounts ho ≠ 1 ∨ (k ≠ 0 ∧ ab b.Instrs c = 1))) (c3:¬ (¬ (poR b (bN is ho c q)).2 = 0)) (c4:¬ (ab b.Instrs c ≠ 2)) (c5:¬ f8 b.Lots b.Lot ho c q k):aU b is ho c q k = (b,7):=by
 rw [aU,a8 c0,a8 c1,a8 c2,a8 c3,a8 c4,ap c5]
theorem me {b:Books} {is ho c q k:Int} (c0:¬ (¬ (BooksOk b ∧ aj is ∧ aj ho ∧ aj c ∧ inP q 1 1000000000000000 ∧ inP k 0 1000000000000000))) (c1:¬ (a9 b.Accounts is = 0 ∨ a9 b.Accounts ho = 0 ∨ ab b.Instrs c = 0)) (c2:¬ (a9 b.Accounts is ≠ 2 ∨ a9 b.Accounts ho ≠ 1 ∨ (k ≠ 0 ∧ ab b.Instrs c = 1))) (c3:¬ (¬ (poR b (bN is ho c q)).2 = 0)) (c4:¬ (ab b.Instrs c ≠ 2)) (c5:¬ (¬ f8 b.Lots b.Lot ho c q k)):aU b is ho c q k = (⟨b.Accounts,b.Instrs,(poR b (bN is ho c q)).1,opL b.Lots b.Lot ho c q k,b.Trades,b.Lot + 1⟩,0):=by
 rw [aU,a8 c0,a8 c1,a8 c2,a8 c3,a8 c4,a8 c5]
noncomputable def b9 (b:Books) (fr to c q way:Int):Books × Int × Int :=
 sel (¬ (BooksOk b ∧ aj fr ∧ aj to ∧ aj c ∧ inP q 1 1000000000000000 ∧ inP way 1 3)) (⟨[],[],[],[],[],0⟩,0,1)
 (sel (a9 b.Accounts fr = 0 ∨ a9 b.Accounts to = 0 ∨ ab b.Instrs c = 0) (b,0,3)
 (sel (a9 b.Accounts fr ≠ 1 ∨ a9 b.Accounts to ≠ 1 ∨ fr = to) (b,0,4)
 (sel (¬ (poR b (bN fr to c q)).2 = 0) (b,0,cX (poR b (bN fr to c q)).2)
 (sel (ab b.Instrs c ≠ 2) (⟨b.Accounts,b.Instrs,(poR b (bN fr to c q)).1,b.Lots,b.Trades,b.Lot⟩,0,0)
 (sel (¬ tN b.Lots fr c q way = 0) (b,0,5)
 (sel (¬ f8 (tL b.Lots fr c q way) b.Lot to c q (tC b.Lots fr c q way)) (b,0,7)
 (⟨b.Accounts,b.Instrs,(poR b (bN fr to c q)).1,opL (tL b.Lots fr c q way) b.Lot to c q (tC b.Lots fr c q way),b.Trades,b.Lot + 1⟩,tC b.Lots fr c q way,0)))))))
theorem iq {b:Books} {fr to c q way:Int}  (c0:¬ (BooksOk b ∧ aj fr ∧ aj to ∧ aj c ∧ inP q 1 1000000000000000 ∧ inP way 1 3)):b9 b fr to c q way = (⟨[],[],[],[],[],0⟩,0,1):=by
 rw [b9,ap c0]
theorem ng {b:Books} {fr to c q way:Int} (c0:¬ (¬ (BooksOk b ∧ aj fr ∧ aj to ∧ aj c ∧ inP q 1 1000000000000000 ∧ inP way 1 3))) (c1:a9 b.Accounts fr = 0 ∨ a9 b.Accounts to = 0 ∨ ab b.Instrs c = 0):b9 b fr to c q way = (b,0,3):=by
 rw [b9,a8 c0,ap c1]
theorem nh {b:Books} {fr to c q way:Int} (c0:¬ (¬ (BooksOk b ∧ aj fr ∧ aj to ∧ aj c ∧ inP q 1 1000000000000000 ∧ inP way 1 3))) (c1:¬ (a9 b.Accounts fr = 0 ∨ a9 b.Accounts to = 0 ∨ ab b.Instrs c = 0)) (c2:a9 b.Accounts fr ≠ 1 ∨ a9 b.Accounts to ≠ 1 ∨ fr = to):b9 b fr to c q way = (b,0,4):=by
 rw [b9,a8 c0,a8 c1,ap c2]
theorem nj {b:Books} {fr to c q way:Int} (c0:¬ (¬ (BooksOk b ∧ aj fr ∧ aj to ∧ aj c ∧ inP q 1 1000000000000000 ∧ inP way 1 3))) (c1:¬ (a9 b.Accounts fr = 0 ∨ a9 b.Accounts to = 0 ∨ ab b.Instrs c = 0)) (c2:¬ (a9 b.Accounts fr ≠ 1 ∨ a9 b.Accounts to ≠ 1 ∨ fr = to)) (c3:¬ (poR b (bN fr to c q)).2 = 0):b9 b fr to c q way = (b,0,cX (poR b (bN fr to c q)).2):=by
 rw [b9,a8 c0,a8 c1,a8 c2,ap c3]
theorem nk {b:Books} {fr to c q way:Int} (c0:¬ (¬ (BooksOk b ∧ aj fr ∧ aj to ∧ aj c ∧ inP q 1 1000000000000000 ∧ inP way 1 3))) (c1:¬ (a9 b.Accounts fr = 0 ∨ a9 b.Accounts to = 0 ∨ ab b.Instrs c = 0)) (c2:¬ (a9 b.Accounts fr ≠ 1 ∨ a9 b.Accounts to ≠ 1 ∨ fr = to)) (c3:¬ (¬ (poR b (bN fr to c q)).2 = 0)) (c4:ab b.Instrs c ≠ 2):b9 b fr to c q way = (⟨b.Accounts,b.Instrs,(poR b (bN fr to c q)).1,b.Lots,b.Trades,b.Lot⟩,0,0):=by
 rw [b9,a8 c0,a8 c1,a8 c2,a8 c3,ap c4]
theorem nm {b:Books} {fr to c q way:Int} (c0:¬ (¬ (BooksOk b ∧ aj fr ∧ aj to ∧ aj c ∧ inP q 1 1000000000000000 ∧ inP way 1 3))) (c1:¬ (a9 b.Accounts fr = 0 ∨ a9 b.Accounts to = 0 ∨ ab b.Instrs c = 0)) (c2:¬ (a9 b.Accounts fr ≠ 1 ∨ a9 b.Accounts to ≠ 1 ∨ fr = to)) (c3:¬ (¬ (poR b (bN fr to c q)).2 = 0)) (c4:¬ (ab b.Instrs c ≠ 2)) (c5:¬ tN b.Lots fr c q way = 0):b9 b fr to c q way = (b,0,5):=by
 rw [b9,a8 c0,a8 c1,a8 c2,a8 c3,a8 c4,ap c5]
theorem np {b:Books} {fr to c q way:Int} (c0:¬ (¬ (BooksOk b ∧ aj fr ∧ aj to ∧ aj c ∧ inP q 1 1000000000000000 ∧ inP way 1 3))) (c1:¬ (a9 b.Accounts fr = 0 ∨ a9 b.Accounts to = 0 ∨ ab b.Instrs c = 0)) (c2:¬ (a9 b.Accounts fr ≠ 1 ∨ a9 b.Accounts to ≠ 1 ∨ fr = to)) (c3:¬ (¬ (poR b (bN fr to c q)).2 = 0)) (c4:¬ (ab b.Instrs c ≠ 2)) (c5:¬ (¬ tN b.Lots fr c q way = 0)) (c6:¬ f8 (tL b.Lots fr c q way) b.Lot to c q (tC b.Lots fr c q way)):b9 b fr to c q way = (b,0,7):=by
 rw [b9,a8 c0,a8 c1,a8 c2,a8 c3,a8 c4,a8 c5,ap c6]
theorem nq {b:Books} {fr to c q way:Int} (c0:¬ (¬ (BooksOk b ∧ aj fr ∧ aj to ∧ aj c ∧ inP q 1 1000000000000000 ∧ inP way 1 3))) (c1:¬ (a9 b.Accounts fr = 0 ∨ a9 b.Accounts to = 0 ∨ ab b.Instrs c = 0)) (c2:¬ (a9 b.Accounts fr ≠ 1 ∨ a9 b.Accounts to ≠ 1 ∨ fr = to)) (c3:¬ (¬ (poR b (bN fr to c q)).2 = 0)) (c4:¬ (ab b.Instrs c ≠ 2)) (c5:¬ (¬ tN b.Lots fr c q way = 0)) (c6:¬ (¬ f8 (tL b.Lots fr c q way) b.Lot to c q (tC b.Lots fr c q way))):b9 b fr to c q way = (⟨b.Accounts,b.Instrs,(poR b (bN fr to c q)).1,opL (tL b.Lots fr c q way) b.Lot to c q (tC b.Lots fr c q way),b.Trades,b.Lot + 1⟩,tC b.Lots fr c q way,0):=by
 rw [b9,a8 c0,a8 c1,a8 c2,a8 c3,a8 c4,a8 c5,a8 c6]
theorem nD {ba:List Account} {bi:List Instr} {bb:List Bal} {bl:List Lot} {bt:List Trade} {bn:Int} {is ho c q k:Int}:FC Tryz.prog 50 [bkV 0 ⟨ba,bi,bb,bl,bt,bn⟩,I is,I ho,I c,I q,I k] (bkR ⟨ba,bi,bb,bl,bt,bn⟩) (.tup [bkE 5 (aU ⟨ba,bi,bb,bl,bt,bn⟩ is ho c q k).1,I (aU ⟨ba,bi,bb,bl,bt,bn⟩ is ho c q k).2]) (bkR ⟨ba,bi,bb,bl,bt,bn⟩ ++ bkW (aU ⟨ba,bi,bb,bl,bt,bn⟩ is ho c q k).1):=by
 refine al tk 103 [.cell 12 _,.tmp 13] Tryz.func50 (by kernel_rfl) rfl rfl rfl rfl rfl rfl rfl ?_
 by_cases hok:BooksOk ⟨ba,bi,bb,bl,bt,bn⟩
 rotate_left
 ·
  rw [gm (b:=⟨ba,bi,bb,bl,bt,bn⟩) (fun h => hok h.1)]
  repeat' (first
| intro h9;exfalso;contradiction
| apply ah (d:=37) 0 42 2;rfl;rfl;rfl;rfl;rfl
| apply ah (d:=37) 1 74 2;rfl;rfl;rfl;rfl;rfl
| apply ah (d:=37) 2 135 3;rfl;rfl;rfl;rfl;rfl
| apply ah (d:=37) 3 137 5;rfl;rfl;rfl;rfl;rfl
| apply ah (d:=37) 4 103 8;rfl;rfl;rfl;rfl;rfl
| apply yd;rfl
| intro _
| refine nv ?_
| apply wct rfl
| apply ycp;rfl;exact aw;rfl
| fail)
  all_goals (exact ai [0,1,2,3,4,7,8,9,10,11] rfl rfl rfl rfl rfl rfl)
 by_cases hta:aj is ∧ aj ho ∧ aj c ∧ inP q 1 1000000000000000 ∧ inP k 0 1000000000000000
 rotate_left
 ·
  rw [gm (b:=⟨ba,bi,bb,bl,bt,bn⟩) (fun h => hta h.2)]
  repeat' (first
| intro h9;exfalso;contradiction
| intro h9;refine absurd ⟨?_,?_,?_,?_,?_⟩ hta;exact (show ∀ x ∈ [is,ho,c],aj x by assumption) _ (.head _);exact (show ∀ x ∈ [is,ho,c],aj x by assumption) _ (.tail _ (.head _));exact (show ∀ x ∈ [is,ho,c],aj x by assumption) _ (.tail _ (.tail _ (.head _)));assumption;assumption
| apply ah (d:=37) 0 42 2;rfl;rfl;rfl;rfl;rfl
| apply ah (d:=37) 1 74 2;rfl;rfl;rfl;rfl;rfl
| apply ah (d:=37) 2 135 3;rfl;rfl;rfl;rfl;rfl
| apply ah (d:=37) 3 137 5;rfl;rfl;rfl;rfl;rfl
| apply ah (d:=37) 4 103 8;rfl;rfl;rfl;rfl;rfl
| apply yd;rfl
| intro _
| refine nv ?_
| apply wct rfl
| apply aG (α:=Int) (e:=3);rfl
| apply ycp;rfl;(first | exact aw | exact bE | exact aJ);rfl
| fail)
  all_goals (exact ai [0,1,2,3,4,8,9,10,11,12] rfl rfl rfl rfl rfl rfl)
 have hA:=hok.acc
 have hI:=hok.ins
 have hal:=hA.2
 have hbn:=hok.lot
 obtain ⟨k1,k2,k3,k4,k5⟩:=id hta
 have hno:∀ x ∈ [is,ho,c],aj x:=fun x hx => by simp only [List.mem_cons,List.not_mem_nil,or_false] at hx;rcases hx with rfl | rfl | rfl <;> assumption
 dsimp only at hA hI hal hbn
 unfold inP at hbn
 have c0:¬ ¬ (BooksOk ⟨ba,bi,bb,bl,bt,bn⟩ ∧ aj is ∧ aj ho ∧ aj c ∧ inP q 1 1000000000000000 ∧ inP k 0 1000000000000000):=fun k => k ⟨hok,hta⟩
 have q4:=k4
 have q5:=k5
 unfold inP at q4 q5
 have hkc:=eF (no:=c) hI
 by_cases c1:a9 ba is = 0 ∨ a9 ba ho = 0 ∨ ab bi c = 0
 rw [m8 (b:=⟨ba,bi,bb,bl,bt,bn⟩) c0 c1]
 rotate_left
 by_cases c2:a9 ba is ≠ 2 ∨ a9 ba ho ≠ 1 ∨ (k ≠ 0 ∧ ab bi c = 1)
 rw [m9 (b:=⟨ba,bi,bb,bl,bt,bn⟩) c0 c1 c2]
 rotate_left
 have hlg:=la k1 k2 k3 (n:=q) (by omega)
 have hpc:=db hok hlg
 have hpn:=iV (pN ba bb [⟨is,c,-q⟩,⟨ho,c,q⟩])
 have hsn:=js (pN ba bb [⟨is,c,-q⟩,⟨ho,c,q⟩])
 have hT2:=df is ho c q
 by_cases c3:pN ba bb [⟨is,c,-q⟩,⟨ho,c,q⟩] = 0
 rotate_left
 rw [ma (b:=⟨ba,bi,bb,bl,bt,bn⟩) c0 c1 c2 c3]
 rotate_left
 rotate_left 2
 by_cases c4:ab bi c ≠ 2
 rw [mb (b:=⟨ba,bi,bb,bl,bt,bn⟩) c0 c1 c2 (fun k => k c3) c4]
 rotate_left
 by_cases c5:f8 bl bn ho c q k
 rotate_left
 rw [mc (b:=⟨ba,bi,bb,bl,bt,bn⟩) c0 c1 c2 (fun k => k c3) c4 c5]
 rotate_left
 rotate_left 4
 rw [me (b:=⟨ba,bi,bb,bl,bt,bn⟩) c0 c1 c2 (fun k => k c3) c4 (fun k => k c5)]
 repeat' (first
| intro h9;exfalso;first | contradiction | omega
| apply yds;rfl
| apply yd;rfl
| intro _
| refine nv ?_
| apply wct rfl
| apply wcf rfl
| apply yeq;rfl
| apply yne;rfl
| apply tx;rfl;rfl;omega;rfl;rfl
| apply aG (α:=Int) (e:=3);rfl
| apply aG (α:=Leg) (e:=46);rfl
| apply ycp;rfl;(first | exact aw | exact bE | exact aJ | exact aZ);rfl
| apply ycf;rfl;exact aH (by exact BooksOk.midB (by assumption));rfl
| apply yc;rfl;(first | exact bG | exact bH);rfl;exact fun _ => rfl
| apply gc  [true,true,true,true,true,true,true];(iterate 10 rfl);exact cS (by omega);(iterate 6 rfl)
| apply gc  [true,true,true,true,true,true];(iterate 10 rfl);exact f6 (by omega);(iterate 6 rfl)
| fail)
 all_goals first | (exact ai [0,1,2,3,4,8,9,10,11,12] rfl rfl rfl rfl rfl rfl) | (first | exact ai [0,1,2,3,4,15,16,17,18,19] rfl rfl rfl rfl rfl rfl | exact ai [0,1,2,3,4,16,17,18,19,20] rfl rfl rfl rfl rfl rfl) | (exact ai [0,1,2,3,4,8,9,15,11,12] rfl rfl rfl rfl rfl rfl) | (exact ai [0,1,2,3,4,8,9,15,16,12] rfl rfl rfl rfl rfl rfl)
theorem oy {ba:List Account} {bi:List Instr} {bb:List Bal} {bl:List Lot} {bt:List Trade} {bn:Int} {is ho c q k:Int}:FC Tryz.prog 51 [bkV 0 ⟨ba,bi,bb,bl,bt,bn⟩,I is,I ho,I c,I q,I k] (bkR ⟨ba,bi,bb,bl,bt,bn⟩) (.tup [bkE 5 (aU ⟨ba,bi,bb,bl,bt,bn⟩ is ho c q k).1,I (aU ⟨ba,bi,bb,bl,bt,bn⟩ is ho c q k).2]) (bkR ⟨ba,bi,bb,bl,bt,bn⟩ ++ bkW (aU ⟨ba,bi,bb,bl,bt,bn⟩ is ho c q k).1):=by
 refine al tk 122 [.cell 12 _,.tmp 13] Tryz.func51 (by kernel_rfl) rfl rfl rfl rfl rfl rfl rfl ?_
 by_cases hok:BooksOk ⟨ba,bi,bb,bl,bt,bn⟩
 rotate_left
 ·
  rw [gm (b:=⟨ba,bi,bb,bl,bt,bn⟩) (fun h => hok h.1)]
  repeat' (first
| intro h9;exfalso;contradiction
| apply ah (d:=47) 0 42 2;rfl;rfl;rfl;rfl;rfl
| apply ah (d:=47) 1 74 2;rfl;rfl;rfl;rfl;rfl
| apply ah (d:=47) 2 135 3;rfl;rfl;rfl;rfl;rfl
| apply ah (d:=47) 3 137 5;rfl;rfl;rfl;rfl;rfl
| apply ah (d:=47) 4 103 8;rfl;rfl;rfl;rfl;rfl
| apply yd;rfl
| intro _
| refine nv ?_
| apply wct rfl
| apply ycp;rfl;exact aq;rfl
| fail)
  all_goals (exact ai [0,1,2,3,4,7,8,9,10,11] rfl rfl rfl rfl rfl rfl)
 by_cases hta:aj is ∧ aj ho ∧ aj c ∧ inP q 1 1000000000000000 ∧ inP k 0 1000000000000000
 rotate_left
 ·
  rw [gm (b:=⟨ba,bi,bb,bl,bt,bn⟩) (fun h => hta h.2)]
  repeat' (first
| intro h9;exfalso;contradiction
| intro h9;exact absurd ⟨by assumption,by assumption,by assumption,by assumption,by assumption⟩ hta
| apply ah (d:=47) 0 42 2;rfl;rfl;rfl;rfl;rfl
| apply ah (d:=47) 1 74 2;rfl;rfl;rfl;rfl;rfl
| apply ah (d:=47) 2 135 3;rfl;rfl;rfl;rfl;rfl
| apply ah (d:=47) 3 137 5;rfl;rfl;rfl;rfl;rfl
| apply ah (d:=47) 4 103 8;rfl;rfl;rfl;rfl;rfl
| apply yd;rfl
| intro _
| refine nv ?_
| apply wct rfl
| apply ycp;rfl;(first | exact aq | exact aK | exact aC);rfl
| fail)
  all_goals (exact ai [0,1,2,3,4,7,8,9,10,11] rfl rfl rfl rfl rfl rfl)
 have hA:=hok.acc
 have hI:=hok.ins
 have hal:=hA.2
 have hbn:=hok.lot
 obtain ⟨k1,k2,k3,k4,k5⟩:=id hta
 have hno:∀ x ∈ [is,ho,c],aj x:=fun x hx => by simp only [List.mem_cons,List.not_mem_nil,or_false] at hx;rcases hx with rfl | rfl | rfl <;> assumption
 dsimp only at hA hI hal hbn
 unfold inP at hbn
 have c0:¬ ¬ (BooksOk ⟨ba,bi,bb,bl,bt,bn⟩ ∧ aj is ∧ aj ho ∧ aj c ∧ inP q 1 1000000000000000 ∧ inP k 0 1000000000000000):=fun k => k ⟨hok,hta⟩
 have q4:=k4
 have q5:=k5
 unfold inP at q4 q5
 have hkc:=eF (no:=c) hI
 by_cases c1:a9 ba is = 0 ∨ a9 ba ho = 0 ∨ ab bi c = 0
 rw [m8 (b:=⟨ba,bi,bb,bl,bt,bn⟩) c0 c1]
 rotate_left
 by_cases c2:a9 ba is ≠ 2 ∨ a9 ba ho ≠ 1 ∨ (k ≠ 0 ∧ ab bi c = 1)
 rw [m9 (b:=⟨ba,bi,bb,bl,bt,bn⟩) c0 c1 c2]
 rotate_left
 have hlg:=la k1 k2 k3 (n:=q) (by omega)
 have hpc:=db hok hlg
 have hpn:=iV (pN ba bb (bN is ho c q))
 have hsn:=js (pN ba bb (bN is ho c q))
 have hT2:=df is ho c q
 by_cases c3:pN ba bb (bN is ho c q) = 0
 rotate_left
 rw [ma (b:=⟨ba,bi,bb,bl,bt,bn⟩) c0 c1 c2 c3,← mo hpc]
 rotate_left
 rotate_left 2
 by_cases c4:ab bi c ≠ 2
 rw [mb (b:=⟨ba,bi,bb,bl,bt,bn⟩) c0 c1 c2 (fun k => k c3) c4]
 rotate_left
 by_cases c5:f8 bl bn ho c q k
 rotate_left
 rw [mc (b:=⟨ba,bi,bb,bl,bt,bn⟩) c0 c1 c2 (fun k => k c3) c4 c5]
 rotate_left
 rotate_left 4
 rw [me (b:=⟨ba,bi,bb,bl,bt,bn⟩) c0 c1 c2 (fun k => k c3) c4 (fun k => k c5)]
 repeat' (first
| intro h9;exfalso;first | contradiction | omega
| apply yds;rfl
| apply yd;rfl
| intro _
| refine nv ?_
| apply wct rfl
| apply wcf rfl
| apply ag;rfl
| apply yne;rfl
| refine zdq (id:=3) rfl (by kernel_rfl) [(.p,0),(.p,2),(.p,4),(.p,6),(.p,8),(.p,10),(.t,1),(.t,5),(.t,9),(.o,3),(.o,7),(.o,11),(.p,12),(.p,13),(.p,14)] [] (by kernel_rfl) rfl ?_
| apply ycp;rfl;(first | exact aq | exact aK | exact aC);rfl
| apply ycq;rfl;(first | exact aS | exact bc);rfl
| apply ycf;rfl;(first | exact aN (by exact BooksOk.midB (by assumption)) | exact gG (by omega));rfl
| apply gc  [true,true,true,true,true,false];(iterate 10 rfl);exact d7 (by omega);(iterate 6 rfl)
| apply gc  [true,true,true,true,true];(iterate 10 rfl);exact eU (by omega);(iterate 6 rfl)
| fail)
 all_goals first | (exact ai [0,1,2,3,4,7,8,9,10,11] rfl rfl rfl rfl rfl rfl) | (first | exact ai [0,1,2,3,4,14,15,16,17,18] rfl rfl rfl rfl rfl rfl | exact ai [0,1,2,3,4,15,16,17,18,19] rfl rfl rfl rfl rfl rfl) | (exact ai [0,1,2,3,4,7,8,13,10,11] rfl rfl rfl rfl rfl rfl) | (exact ai [0,1,2,3,4,7,8,13,15,11] rfl rfl rfl rfl rfl rfl)
theorem oQ {ba:List Account} {bi:List Instr} {bb:List Bal} {bl:List Lot} {bt:List Trade} {bn:Int} {fr to c q way:Int}:FC Tryz.prog 68 [bkV 0 ⟨ba,bi,bb,bl,bt,bn⟩,I fr,I to,I c,I q,I way] (bkR ⟨ba,bi,bb,bl,bt,bn⟩) (.tup [bkE 5 (b9 ⟨ba,bi,bb,bl,bt,bn⟩ fr to c q way).1,I (b9 ⟨ba,bi,bb,bl,bt,bn⟩ fr to c q way).2.1,I (b9 ⟨ba,bi,bb,bl,bt,bn⟩ fr to c q way).2.2]) (bkR ⟨ba,bi,bb,bl,bt,bn⟩ ++ bkW (b9 ⟨ba,bi,bb,bl,bt,bn⟩ fr to c q way).1):=by
 refine al tk 112 [.cell 12 _,.tmp 13,.tmp 14] Tryz.func68 (by kernel_rfl) rfl rfl rfl rfl rfl rfl rfl ?_
 by_cases hok:BooksOk ⟨ba,bi,bb,bl,bt,bn⟩
 rotate_left
 ·
  rw [iq (b:=⟨ba,bi,bb,bl,bt,bn⟩) (fun h => hok h.1)]
  repeat' (first
| intro h9;exfalso;contradiction
| apply ah (d:=39) 0 42 2;rfl;rfl;rfl;rfl;rfl
| apply ah (d:=39) 1 74 2;rfl;rfl;rfl;rfl;rfl
| apply ah (d:=39) 2 135 3;rfl;rfl;rfl;rfl;rfl
| apply ah (d:=39) 3 137 5;rfl;rfl;rfl;rfl;rfl
| apply ah (d:=39) 4 103 8;rfl;rfl;rfl;rfl;rfl
| apply yd;rfl
| intro _
| refine nv ?_
| apply wct rfl
| apply ycp;rfl;exact aw;rfl
| fail)
  all_goals (exact ai [0,1,2,3,4,7,8,9,10,11] rfl rfl rfl rfl rfl rfl)
 by_cases hta:aj fr ∧ aj to ∧ aj c ∧ inP q 1 1000000000000000 ∧ inP way 1 3
 rotate_left
 ·
  rw [iq (b:=⟨ba,bi,bb,bl,bt,bn⟩) (fun h => hta h.2)]
  repeat' (first
| intro h9;exfalso;contradiction
| intro h9;refine absurd ⟨?_,?_,?_,?_,?_⟩ hta;exact (show ∀ x ∈ [fr,to,c],aj x by assumption) _ (.head _);exact (show ∀ x ∈ [fr,to,c],aj x by assumption) _ (.tail _ (.head _));exact (show ∀ x ∈ [fr,to,c],aj x by assumption) _ (.tail _ (.tail _ (.head _)));assumption;assumption
| apply ah (d:=39) 0 42 2;rfl;rfl;rfl;rfl;rfl
| apply ah (d:=39) 1 74 2;rfl;rfl;rfl;rfl;rfl
| apply ah (d:=39) 2 135 3;rfl;rfl;rfl;rfl;rfl
| apply ah (d:=39) 3 137 5;rfl;rfl;rfl;rfl;rfl
| apply ah (d:=39) 4 103 8;rfl;rfl;rfl;rfl;rfl
| apply yd;rfl
| intro _
| refine nv ?_
| apply wct rfl
| apply aG (α:=Int) (e:=3);rfl
| apply ycp;rfl;(first | exact aw | exact bE | exact aJ);rfl
| fail)
  all_goals (exact ai [0,1,2,3,4,8,9,10,11,12] rfl rfl rfl rfl rfl rfl)
 have hA:=hok.acc
 have hI:=hok.ins
 have hal:=hA.2
 have hbn:=hok.lot
 obtain ⟨k1,k2,k3,k4,k5⟩:=id hta
 have hno:∀ x ∈ [fr,to,c],aj x:=fun x hx => by simp only [List.mem_cons,List.not_mem_nil,or_false] at hx;rcases hx with rfl | rfl | rfl <;> assumption
 dsimp only at hA hI hal hbn
 unfold inP at hbn
 have c0:¬ ¬ (BooksOk ⟨ba,bi,bb,bl,bt,bn⟩ ∧ aj fr ∧ aj to ∧ aj c ∧ inP q 1 1000000000000000 ∧ inP way 1 3):=fun k => k ⟨hok,hta⟩
 have q4:=k4
 have q5:=k5
 unfold inP at q4 q5
 have hkc:=eF (no:=c) hI
 by_cases c1:a9 ba fr = 0 ∨ a9 ba to = 0 ∨ ab bi c = 0
 rw [ng (b:=⟨ba,bi,bb,bl,bt,bn⟩) c0 c1]
 rotate_left
 by_cases c2:a9 ba fr ≠ 1 ∨ a9 ba to ≠ 1 ∨ fr = to
 rw [nh (b:=⟨ba,bi,bb,bl,bt,bn⟩) c0 c1 c2]
 rotate_left
 have hlg:=la k1 k2 k3 (n:=q) (by omega)
 have hpc:=db hok hlg
 have hpn:=iV (pN ba bb [⟨fr,c,-q⟩,⟨to,c,q⟩])
 have hsn:=js (pN ba bb [⟨fr,c,-q⟩,⟨to,c,q⟩])
 have hT2:=df fr to c q
 by_cases c3:pN ba bb [⟨fr,c,-q⟩,⟨to,c,q⟩] = 0
 rotate_left
 rw [nj (b:=⟨ba,bi,bb,bl,bt,bn⟩) c0 c1 c2 c3]
 rotate_left
 rotate_left 2
 by_cases c4:ab bi c ≠ 2
 rw [nk (b:=⟨ba,bi,bb,bl,bt,bn⟩) c0 c1 c2 (fun k => k c3) c4]
 rotate_left
 have htc:=lu hok (a:=fr) (c:=c) (q:=q) (w:=way)
 dsimp only at htc
 have hpp:pick ((-1:Int) < 0) (tC bl fr c q way) (-1) = tC bl fr c q way:=aD (by omega)
 by_cases c5:tN bl fr c q way = 0
 rotate_left
 rw [nm (b:=⟨ba,bi,bb,bl,bt,bn⟩) c0 c1 c2 (fun k => k c3) c4 c5]
 rotate_left
 rotate_left 4
 by_cases c6:f8 (tL bl fr c q way) bn to c q (tC bl fr c q way)
 rotate_left
 rw [np (b:=⟨ba,bi,bb,bl,bt,bn⟩) c0 c1 c2 (fun k => k c3) c4 (fun k => k c5) c6]
 rotate_left
 rotate_left 5
 rw [nq (b:=⟨ba,bi,bb,bl,bt,bn⟩) c0 c1 c2 (fun k => k c3) c4 (fun k => k c5) (fun k => k c6)]
 repeat' (first
| intro h9;exfalso;first | contradiction | omega
| apply yds;rfl
| apply yd;rfl
| intro _
| refine nv ?_
| apply wct rfl
| apply wcf rfl
| apply yeq;rfl
| apply yne;rfl
| apply tx;rfl;rfl;omega;rfl;rfl
| apply aG (α:=Int) (e:=3);rfl
| apply aG (α:=Leg) (e:=46);rfl
| apply ycp;rfl;(first | exact aw | exact bE | exact aJ | exact aZ);rfl
| apply ycf;rfl;exact aH (by exact BooksOk.midB (by assumption));rfl
| apply yc;rfl;(first | exact bG | exact bH);rfl;exact fun _ => rfl
| apply gc  [true,true,true,true,true,true,true];(iterate 10 rfl);exact cS (by omega);(iterate 6 rfl)
| apply gc  [true,true,true,true,true,true];(iterate 10 rfl);(first | exact iQ | exact f6 (by omega));(iterate 6 rfl)
| fail)
 all_goals first | (exact ai [0,1,2,3,4,8,9,10,11,12] rfl rfl rfl rfl rfl rfl) | (first | exact ai [0,1,2,3,4,15,16,17,18,19] rfl rfl rfl rfl rfl rfl | exact ai [0,1,2,3,4,16,17,18,19,20] rfl rfl rfl rfl rfl rfl | exact ai [0,1,2,3,4,17,18,19,20,21] rfl rfl rfl rfl rfl rfl) | (exact ai [0,1,2,3,4,8,9,15,11,12] rfl rfl rfl rfl rfl rfl) | (exact ai [0,1,2,3,4,8,9,15,17,12] rfl rfl rfl rfl rfl rfl)
theorem pk {ba:List Account} {bi:List Instr} {bb:List Bal} {bl:List Lot} {bt:List Trade} {bn:Int} {fr to c q way:Int}:FC Tryz.prog 69 [bkV 0 ⟨ba,bi,bb,bl,bt,bn⟩,I fr,I to,I c,I q,I way] (bkR ⟨ba,bi,bb,bl,bt,bn⟩) (.tup [bkE 5 (b9 ⟨ba,bi,bb,bl,bt,bn⟩ fr to c q way).1,I (b9 ⟨ba,bi,bb,bl,bt,bn⟩ fr to c q way).2.1,I (b9 ⟨ba,bi,bb,bl,bt,bn⟩ fr to c q way).2.2]) (bkR ⟨ba,bi,bb,bl,bt,bn⟩ ++ bkW (b9 ⟨ba,bi,bb,bl,bt,bn⟩ fr to c q way).1):=by
 refine al tk 124 [.cell 12 _,.tmp 13,.tmp 14] Tryz.func69 (by kernel_rfl) rfl rfl rfl rfl rfl rfl rfl ?_
 by_cases hok:BooksOk ⟨ba,bi,bb,bl,bt,bn⟩
 rotate_left
 ·
  rw [iq (b:=⟨ba,bi,bb,bl,bt,bn⟩) (fun h => hok h.1)]
  repeat' (first
| intro h9;exfalso;contradiction
| apply ah (d:=49) 0 42 2;rfl;rfl;rfl;rfl;rfl
| apply ah (d:=49) 1 74 2;rfl;rfl;rfl;rfl;rfl
| apply ah (d:=49) 2 135 3;rfl;rfl;rfl;rfl;rfl
| apply ah (d:=49) 3 137 5;rfl;rfl;rfl;rfl;rfl
| apply ah (d:=49) 4 103 8;rfl;rfl;rfl;rfl;rfl
| apply yd;rfl
| intro _
| refine nv ?_
| apply wct rfl
| apply ycp;rfl;exact aq;rfl
| fail)
  all_goals (exact ai [0,1,2,3,4,7,8,9,10,11] rfl rfl rfl rfl rfl rfl)
 by_cases hta:aj fr ∧ aj to ∧ aj c ∧ inP q 1 1000000000000000 ∧ inP way 1 3
 rotate_left
 ·
  rw [iq (b:=⟨ba,bi,bb,bl,bt,bn⟩) (fun h => hta h.2)]
  repeat' (first
| intro h9;exfalso;contradiction
| intro h9;exact absurd ⟨by assumption,by assumption,by assumption,by assumption,by assumption⟩ hta
| apply ah (d:=49) 0 42 2;rfl;rfl;rfl;rfl;rfl
| apply ah (d:=49) 1 74 2;rfl;rfl;rfl;rfl;rfl
| apply ah (d:=49) 2 135 3;rfl;rfl;rfl;rfl;rfl
| apply ah (d:=49) 3 137 5;rfl;rfl;rfl;rfl;rfl
| apply ah (d:=49) 4 103 8;rfl;rfl;rfl;rfl;rfl
| apply yd;rfl
| intro _
| refine nv ?_
| apply wct rfl
| apply ycp;rfl;(first | exact aq | exact aK | exact aC | exact aI);rfl
| fail)
  all_goals (exact ai [0,1,2,3,4,7,8,9,10,11] rfl rfl rfl rfl rfl rfl)
 have hA:=hok.acc
 have hI:=hok.ins
 have hal:=hA.2
 have hbn:=hok.lot
 obtain ⟨k1,k2,k3,k4,k5⟩:=id hta
 have hno:∀ x ∈ [fr,to,c],aj x:=fun x hx => by simp only [List.mem_cons,List.not_mem_nil,or_false] at hx;rcases hx with rfl | rfl | rfl <;> assumption
 dsimp only at hA hI hal hbn
 unfold inP at hbn
 have c0:¬ ¬ (BooksOk ⟨ba,bi,bb,bl,bt,bn⟩ ∧ aj fr ∧ aj to ∧ aj c ∧ inP q 1 1000000000000000 ∧ inP way 1 3):=fun k => k ⟨hok,hta⟩
 have q4:=k4
 have q5:=k5
 unfold inP at q4 q5
 have hkc:=eF (no:=c) hI
 by_cases c1:a9 ba fr = 0 ∨ a9 ba to = 0 ∨ ab bi c = 0
 rw [ng (b:=⟨ba,bi,bb,bl,bt,bn⟩) c0 c1]
 rotate_left
 by_cases c2:a9 ba fr ≠ 1 ∨ a9 ba to ≠ 1 ∨ fr = to
 rw [nh (b:=⟨ba,bi,bb,bl,bt,bn⟩) c0 c1 c2]
 rotate_left
 have hlg:=la k1 k2 k3 (n:=q) (by omega)
 have hpc:=db hok hlg
 have hpn:=iV (pN ba bb (bN fr to c q))
 have hsn:=js (pN ba bb (bN fr to c q))
 have hT2:=df fr to c q
 by_cases c3:pN ba bb (bN fr to c q) = 0
 rotate_left
 rw [nj (b:=⟨ba,bi,bb,bl,bt,bn⟩) c0 c1 c2 c3,← mo hpc]
 rotate_left
 rotate_left 2
 by_cases c4:ab bi c ≠ 2
 rw [nk (b:=⟨ba,bi,bb,bl,bt,bn⟩) c0 c1 c2 (fun k => k c3) c4]
 rotate_left
 have htc:=lu hok (a:=fr) (c:=c) (q:=q) (w:=way)
 dsimp only at htc
 have hpp:pick ((-1:Int) < 0) (tC bl fr c q way) (-1) = tC bl fr c q way:=aD (by omega)
 by_cases c5:tN bl fr c q way = 0
 rotate_left
 rw [nm (b:=⟨ba,bi,bb,bl,bt,bn⟩) c0 c1 c2 (fun k => k c3) c4 c5]
 rotate_left
 rotate_left 4
 by_cases c6:f8 (tL bl fr c q way) bn to c q (pick ((-1:Int) < 0) (tC bl fr c q way) (-1))
 rotate_left
 rw [np (b:=⟨ba,bi,bb,bl,bt,bn⟩) c0 c1 c2 (fun k => k c3) c4 (fun k => k c5) (by rwa [hpp] at c6)]
 rotate_left
 rotate_left 5
 rw [nq (b:=⟨ba,bi,bb,bl,bt,bn⟩) c0 c1 c2 (fun k => k c3) c4 (fun k => k c5) (fun k => k (by rwa [hpp] at c6))]
 repeat' (first
| intro h9;exfalso;first | contradiction | omega
| apply yds;rfl
| apply yd;rfl
| intro _
| refine nv ?_
| apply wct rfl
| apply wcf rfl
| apply yeq;rfl
| apply yne;rfl
| refine zdq (id:=3) rfl (by kernel_rfl) [(.p,0),(.p,2),(.p,4),(.p,6),(.p,8),(.p,10),(.t,1),(.t,5),(.t,9),(.o,3),(.o,7),(.o,11),(.p,12),(.p,13),(.p,14)] [] (by kernel_rfl) rfl ?_
| apply ycp;rfl;(first | exact aq | exact aK | exact aC | exact aI);rfl
| apply ycq;rfl;(first | exact aS | exact bc);rfl
| apply ycf;rfl;(first | exact aN (by exact BooksOk.midB (by assumption)) | exact gG (by omega));rfl
| apply gc  [true,true,true,true,true,false];(iterate 10 rfl);exact d7 (by omega);(iterate 6 rfl)
| apply ycw  [true,true,true,true,true];rfl;(first | exact jx (by omega) (by assumption) | exact jw (by omega) (by assumption) (by assumption) | exact jv (by omega) (by assumption) (by assumption));rfl
| fail)
 all_goals first | (exact ai [0,1,2,3,4,7,8,9,10,11] rfl rfl rfl rfl rfl rfl) | (first | exact ai [0,1,2,3,4,14,15,16,17,18] rfl rfl rfl rfl rfl rfl | exact ai [0,1,2,3,4,15,16,17,18,19] rfl rfl rfl rfl rfl rfl | exact ai [0,1,2,3,4,16,17,18,19,20] rfl rfl rfl rfl rfl rfl) | (exact ai [0,1,2,3,4,7,8,13,10,11] rfl rfl rfl rfl rfl rfl) | (rw [hpp];exact ai [0,1,2,3,4,7,8,13,15,11] rfl rfl rfl rfl rfl rfl)
end Go.Proofs.YtgehbhkfehmdkaaGreat.Sh
