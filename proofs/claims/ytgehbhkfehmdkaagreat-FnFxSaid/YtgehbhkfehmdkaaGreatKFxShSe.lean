/- Trades are settled: both sides. No condition. -/
import Derived.Test.YtgehbhkfehmdkaaGreatKFxShV
import Derived.Test.YtgehbhkfehmdkaaGreatKFxShTn
import Derived.Test.YtgehbhkfehmdkaaGreatKFxShNt
import Derived.Test.YtgehbhkfehmdkaaGreatKFxShDr
import Derived.Test.YtgehbhkfehmdkaaGreatKFxShTr2
set_option maxRecDepth 100000
set_option maxHeartbeats 40000000
set_option linter.unusedSimpArgs false
set_option linter.unusedVariables false
namespace Go.Proofs.YtgehbhkfehmdkaaGreat.Sh
section
open Go.RowKit
def stT (t:Trade) (s:Int):Trade:=⟨t.No,t.Buyer,t.Seller,t.Paper,t.Qty,t.Cash,t.Price,s⟩
noncomputable def aw (b:Books) (no way:Int):Books × Int × Int :=
 sel (¬ (BooksOk b ∧ ag no ∧ inP way 1 3)) (⟨[],[],[],[],[],0⟩,0,1)
 (sel (¬ du b.Trades no) (b,0,oC b.Trades no)
 (sel (¬ (poR b (cm (rd b.Trades (tAt b.Trades no)))).2 = 0) (b,0,cj (poR b (cm (rd b.Trades (tAt b.Trades no)))).2)
 (sel (¬ tN b.Lots (rd b.Trades (tAt b.Trades no)).Seller (rd b.Trades (tAt b.Trades no)).Paper (rd b.Trades (tAt b.Trades no)).Qty way = 0) (b,0,5)
 (sel (¬ fD (tL b.Lots (rd b.Trades (tAt b.Trades no)).Seller (rd b.Trades (tAt b.Trades no)).Paper (rd b.Trades (tAt b.Trades no)).Qty way) b.Lot (rd b.Trades (tAt b.Trades no)).Buyer (rd b.Trades (tAt b.Trades no)).Paper (rd b.Trades (tAt b.Trades no)).Qty (rd b.Trades (tAt b.Trades no)).Price) (b,0,7)
 (⟨b.Accounts,b.Instrs,(poR b (cm (rd b.Trades (tAt b.Trades no)))).1,opL (tL b.Lots (rd b.Trades (tAt b.Trades no)).Seller (rd b.Trades (tAt b.Trades no)).Paper (rd b.Trades (tAt b.Trades no)).Qty way) b.Lot (rd b.Trades (tAt b.Trades no)).Buyer (rd b.Trades (tAt b.Trades no)).Paper (rd b.Trades (tAt b.Trades no)).Qty (rd b.Trades (tAt b.Trades no)).Price,upd b.Trades (tAt b.Trades no) (stT (rd b.Trades (tAt b.Trades no)) 2),b.Lot + 1⟩,(rd b.Trades (tAt b.Trades no)).Price - tC b.Lots (rd b.Trades (tAt b.Trades no)).Seller (rd b.Trades (tAt b.Trades no)).Paper (rd b.Trades (tAt b.Trades no)).Qty way,0)))))
theorem fq {b:Books} {no way:Int}  (c0:¬ (BooksOk b ∧ ag no ∧ inP way 1 3)):aw b no way = (⟨[],[],[],[],[],0⟩,0,1):=by
 rw [aw,al c0]
theorem iF {b:Books} {no way:Int} (c0:¬ (¬ (BooksOk b ∧ ag no ∧ inP way 1 3))) (c1:¬ du b.Trades no):aw b no way = (b,0,oC b.Trades no):=by
 rw [aw,a8 c0,al c1]
theorem dP {b:Books} {no way:Int} (c0:¬ (¬ (BooksOk b ∧ ag no ∧ inP way 1 3))) (c1:¬ (¬ du b.Trades no)) (c2:¬ (poR b (cm (rd b.Trades (tAt b.Trades no)))).2 = 0):aw b no way = (b,0,cj (poR b (cm (rd b.Trades (tAt b.Trades no)))).2):=by
 rw [aw,a8 c0,a8 c1,al c2]
theorem iG {b:Books} {no way:Int} (c0:¬ (¬ (BooksOk b ∧ ag no ∧ inP way 1 3))) (c1:¬ (¬ du b.Trades no)) (c2:¬ (¬ (poR b (cm (rd b.Trades (tAt b.Trades no)))).2 = 0)) (c3:¬ tN b.Lots (rd b.Trades (tAt b.Trades no)).Seller (rd b.Trades (tAt b.Trades no)).Paper (rd b.Trades (tAt b.Trades no)).Qty way = 0):aw b no way = (b,0,5):=by
 rw [aw,a8 c0,a8 c1,a8 c2,al c3]
theorem iH {b:Books} {no way:Int} (c0:¬ (¬ (BooksOk b ∧ ag no ∧ inP way 1 3))) (c1:¬ (¬ du b.Trades no)) (c2:¬ (¬ (poR b (cm (rd b.Trades (tAt b.Trades no)))).2 = 0)) (c3:¬ (¬ tN b.Lots (rd b.Trades (tAt b.Trades no)).Seller (rd b.Trades (tAt b.Trades no)).Paper (rd b.Trades (tAt b.Trades no)).Qty way = 0)) (c4:¬ fD (tL b.Lots (rd b.Trades (tAt b.Trades no)).Seller (rd b.Trades (tAt b.Trades no)).Paper (rd b.Trades (tAt b.Trades no)).Qty way) b.Lot (rd b.Trades (tAt b.Trades no)).Buyer (rd b.Trades (tAt b.Trades no)).Paper (rd b.Trades (tAt b.Trades no)).Qty (rd b.Trades (tAt b.Trades no)).Price):aw b no way = (b,0,7):=by
 rw [aw,a8 c0,a8 c1,a8 c2,a8 c3,al c4]
theorem iI {b:Books} {no way:Int} (c0:¬ (¬ (BooksOk b ∧ ag no ∧ inP way 1 3))) (c1:¬ (¬ du b.Trades no)) (c2:¬ (¬ (poR b (cm (rd b.Trades (tAt b.Trades no)))).2 = 0)) (c3:¬ (¬ tN b.Lots (rd b.Trades (tAt b.Trades no)).Seller (rd b.Trades (tAt b.Trades no)).Paper (rd b.Trades (tAt b.Trades no)).Qty way = 0)) (c4:¬ (¬ fD (tL b.Lots (rd b.Trades (tAt b.Trades no)).Seller (rd b.Trades (tAt b.Trades no)).Paper (rd b.Trades (tAt b.Trades no)).Qty way) b.Lot (rd b.Trades (tAt b.Trades no)).Buyer (rd b.Trades (tAt b.Trades no)).Paper (rd b.Trades (tAt b.Trades no)).Qty (rd b.Trades (tAt b.Trades no)).Price)):aw b no way = (⟨b.Accounts,b.Instrs,(poR b (cm (rd b.Trades (tAt b.Trades no)))).1,opL (tL b.Lots (rd b.Trades (tAt b.Trades no)).Seller (rd b.Trades (tAt b.Trades no)).Paper (rd b.Trades (tAt b.Trades no)).Qty way) b.Lot (rd b.Trades (tAt b.Trades no)).Buyer (rd b.Trades (tAt b.Trades no)).Paper (rd b.Trades (tAt b.Trades no)).Qty (rd b.Trades (tAt b.Trades no)).Price,upd b.Trades (tAt b.Trades no) (stT (rd b.Trades (tAt b.Trades no)) 2),b.Lot + 1⟩,(rd b.Trades (tAt b.Trades no)).Price - tC b.Lots (rd b.Trades (tAt b.Trades no)).Seller (rd b.Trades (tAt b.Trades no)).Paper (rd b.Trades (tAt b.Trades no)).Qty way,0):=by
 rw [aw,a8 c0,a8 c1,a8 c2,a8 c3,a8 c4]
theorem vh {t:Trade} (h1:ag t.Buyer) (h2:ag t.Seller) (h3:ag t.Paper) (h4:ag t.Cash) (h5:0 ≤ t.Qty ∧ t.Qty ≤ 1000000000000000) (h6:0 ≤ t.Price ∧ t.Price ≤ 1000000000000000):co (cm t):=by
 refine ⟨⟨by show 4 ≤ 160;omega,fun x hx => ?_⟩,fun x hx => ?_⟩
 ·simp only [cm,List.mem_cons,List.not_mem_nil,or_false] at hx
  rcases hx with rfl | rfl | rfl | rfl <;> (refine ⟨by assumption,by assumption,?_⟩;show -1000000000000000 ≤ _ ∧ _ ≤ 1000000000000000;dsimp only;omega)
 ·have e:∀ c:Int,bf (cm t) c = (if t.Cash = c then -t.Price else 0) + ((if t.Cash = c then t.Price else 0) + ((if t.Paper = c then -t.Qty else 0) + ((if t.Paper = c then t.Qty else 0) + 0))):=fun c => by
   simp only [bf,ak,cm,List.map_cons,List.map_nil,List.sum_cons,List.sum_nil,eR]
  rw [e]
  split <;> split <;> omega
theorem nD {b:Books} (hb:BooksOk b) {a c q w:Int}:0 ≤ tC b.Lots a c q w ∧ tC b.Lots a c q w ≤ 1000000000000000:=by
 show 0 ≤ (cz b.Lots a c q w).2.1 ∧ (cz b.Lots a c q w).2.1 ≤ 1000000000000000
 by_cases h:LotsOk b.Lots ∧ inP q 1 1000000000000000 ∧ inP w 1 3
 ·by_cases h2:sQ (ab b.Lots a c) < q
  ·rw [yV h h2];show (0:Int) ≤ 0 ∧ (0:Int) ≤ 1000000000000000;omega
  ·rw [yS h h2]
   have hq:=h.2.1
   unfold inP at hq
   have ho:=h.1.own a c
   have:=yr (way:=w) (h.1.LG.flt (fun x => x.Account = a ∧ x.Instr = c)) (q:=q) ⟨by omega,by show q ≤ sQ (ab b.Lots a c);omega⟩ (by show 1 ≤ sQ (ab b.Lots a c);omega)
   exact ⟨this.1,Int.le_trans this.2 ho.2.2⟩
 ·rw [yU h];show (0:Int) ≤ 0 ∧ (0:Int) ≤ 1000000000000000;omega
theorem qP {n:Nat} {a:List Account} {i:List Instr} {b:List Bal} {l:List Lot} {t:List Trade} {k y:Int} {x:Trade}:bkE n ⟨a,i,b,l,upd t k x,y⟩ = .agg [.row n 0 a.length,.row (n + 1) 0 i.length,.row (n + 2) 0 b.length,.row (n + 3) 0 l.length,.row (n + 4) 0 t.length,.sc (.int .i64 y)]:=by
 unfold bkE
 rw [aE]
theorem dL {ba:List Account} {bi:List Instr} {bb:List Bal} {bl:List Lot} {bt:List Trade} {bn:Int} {no way:Int}:FC Tryz.prog 71 [bkV 0 ⟨ba,bi,bb,bl,bt,bn⟩,I no,I way] (bkR ⟨ba,bi,bb,bl,bt,bn⟩) (.tup [bkE 5 (aw ⟨ba,bi,bb,bl,bt,bn⟩ no way).1,I (aw ⟨ba,bi,bb,bl,bt,bn⟩ no way).2.1,I (aw ⟨ba,bi,bb,bl,bt,bn⟩ no way).2.2]) (bkR ⟨ba,bi,bb,bl,bt,bn⟩ ++ bkW (aw ⟨ba,bi,bb,bl,bt,bn⟩ no way).1):=by
 refine ay tk 86 [.cell 6 _,.tmp 7,.tmp 8] Tryz.func71 (by kernel_rfl) rfl rfl rfl rfl rfl rfl rfl ?_
 by_cases hok:BooksOk ⟨ba,bi,bb,bl,bt,bn⟩
 rotate_left
 ·
  rw [fq (b:=⟨ba,bi,bb,bl,bt,bn⟩) (fun h => hok h.1)]
  repeat' (first
| intro h9;exfalso;contradiction
| (with_reducible apply ap (d:=27) 0 42 2);rfl;rfl;rfl;rfl;rfl
| (with_reducible apply ap (d:=27) 1 74 2);rfl;rfl;rfl;rfl;rfl
| (with_reducible apply ap (d:=27) 2 135 3);rfl;rfl;rfl;rfl;rfl
| (with_reducible apply ap (d:=27) 3 137 5);rfl;rfl;rfl;rfl;rfl
| (with_reducible apply ap (d:=27) 4 103 8);rfl;rfl;rfl;rfl;rfl
| (with_reducible apply yd);rfl
| intro _
| refine nv ?_
| apply wct rfl
| (with_reducible apply ycp);rfl;exact ae;rfl
| fail)
  all_goals exact au [0,1,2,3,4,7,8,9,10,11] rfl rfl rfl rfl rfl rfl
 by_cases hta:ag no ∧ inP way 1 3
 rotate_left
 ·
  rw [fq (b:=⟨ba,bi,bb,bl,bt,bn⟩) (fun h => hta h.2)]
  repeat' (first
| intro h9;exfalso;contradiction
| intro h9;exact absurd ⟨by assumption,by assumption⟩ hta
| (with_reducible apply ap (d:=27) 0 42 2);rfl;rfl;rfl;rfl;rfl
| (with_reducible apply ap (d:=27) 1 74 2);rfl;rfl;rfl;rfl;rfl
| (with_reducible apply ap (d:=27) 2 135 3);rfl;rfl;rfl;rfl;rfl
| (with_reducible apply ap (d:=27) 3 137 5);rfl;rfl;rfl;rfl;rfl
| (with_reducible apply ap (d:=27) 4 103 8);rfl;rfl;rfl;rfl;rfl
| (with_reducible apply yd);rfl
| intro _
| refine nv ?_
| apply wct rfl
| (with_reducible apply ycp);rfl;(first | exact ae | exact aG | exact aF);rfl
| fail)
  all_goals exact au [0,1,2,3,4,7,8,9,10,11] rfl rfl rfl rfl rfl rfl
 have hA:=hok.acc
 have hal:=hA.2
 have hto:=hok.trades
 have htl:=hto.2
 have hbn:=hok.lot
 obtain ⟨k1,k2⟩:=id hta
 dsimp only at hA hal hto htl hbn
 unfold inP at hbn
 have c0:¬ ¬ (BooksOk ⟨ba,bi,bb,bl,bt,bn⟩ ∧ ag no ∧ inP way 1 3):=fun k => k ⟨hok,hta⟩
 by_cases hop:du bt no
 rotate_left
 ·
  have hoc:=uK bt no
  rw [iF (b:=⟨ba,bi,bb,bl,bt,bn⟩) c0 hop]
  repeat' (first
| intro h9;exfalso;first | contradiction | omega
| (with_reducible apply yds);rfl
| (with_reducible apply yd);rfl
| intro _
| refine nv ?_
| apply wct rfl
| apply wcf rfl
| (with_reducible apply yne);rfl
| (with_reducible apply ycp);rfl;(first | exact ae | exact aG | exact aF);rfl
| (with_reducible apply zcs);(iterate 10 rfl);exact cS;exact fun _ => rfl;exact fun _ => rfl;rfl;rfl;rfl;rfl
| (with_reducible apply ycf);rfl;(exact aI (by exact BooksOk.midB (by assumption)));rfl
| fail)
  all_goals exact au [0,1,2,3,4,7,8,9,10,11] rfl rfl rfl rfl rfl rfl
 have c1:¬ ¬ du (⟨ba,bi,bb,bl,bt,bn⟩:Books).Trades no:=fun k => k hop
 obtain ⟨hta1,hta2⟩:=j9 hop.1
 obtain ⟨q1,q2,q3,q4,q5,q6,hq,hp,q7⟩:=hto.1 _ hta1 hta2
 have hlg:=vh (t:=(rd bt (tAt bt no))) q2 q3 q4 q5 (by unfold inP at hq;omega) hp
 have hpc:=eh hok hlg
 unfold inP at hq hp
 have hpn:=jI (pN ba bb (cm ⟨(rd bt (tAt bt no)).No,(rd bt (tAt bt no)).Buyer,(rd bt (tAt bt no)).Seller,(rd bt (tAt bt no)).Paper,(rd bt (tAt bt no)).Qty,(rd bt (tAt bt no)).Cash,(rd bt (tAt bt no)).Price,(rd bt (tAt bt no)).State⟩))
 have hsn:=ll (pN ba bb (cm ⟨(rd bt (tAt bt no)).No,(rd bt (tAt bt no)).Buyer,(rd bt (tAt bt no)).Seller,(rd bt (tAt bt no)).Paper,(rd bt (tAt bt no)).Qty,(rd bt (tAt bt no)).Cash,(rd bt (tAt bt no)).Price,(rd bt (tAt bt no)).State⟩))
 have hT4:(cm ⟨(rd bt (tAt bt no)).No,(rd bt (tAt bt no)).Buyer,(rd bt (tAt bt no)).Seller,(rd bt (tAt bt no)).Paper,(rd bt (tAt bt no)).Qty,(rd bt (tAt bt no)).Cash,(rd bt (tAt bt no)).Price,(rd bt (tAt bt no)).State⟩).length = 4:=rfl
 have htc:=nD hok (a:=(rd bt (tAt bt no)).Seller) (c:=(rd bt (tAt bt no)).Paper) (q:=(rd bt (tAt bt no)).Qty) (w:=way)
 dsimp only at htc
 have hpp:pick ((rd bt (tAt bt no)).Price < 0) (tC bl (rd bt (tAt bt no)).Seller (rd bt (tAt bt no)).Paper (rd bt (tAt bt no)).Qty way) (rd bt (tAt bt no)).Price = (rd bt (tAt bt no)).Price:=aD (by omega)
 by_cases c3:tN bl (rd bt (tAt bt no)).Seller (rd bt (tAt bt no)).Paper (rd bt (tAt bt no)).Qty way = 0
 rotate_left
 ·
  repeat' (first
| intro h9;exfalso;first | contradiction | omega
| (with_reducible apply yds);rfl
| (with_reducible apply yd);rfl
| intro _
| refine nv ?_
| apply wct rfl
| apply wcf rfl
| (with_reducible apply yeq);rfl
| (with_reducible apply yne);rfl
| (with_reducible apply yix);rfl;omega
| (with_reducible apply yle);rfl;omega
| refine qK (id:=8) rfl (by kernel_rfl) (.one .t 0 (.one .t 2 (.two .o 1 (.two .o 3 (.two .l 4 (.one .p 5 (.one .p 6 (.one .p 7 (.one .o 8 (.one .l 9 (.one .p 10 .nil)))))) .o 8 (.one .l 4 (.one .p 5 (.one .p 6 (.one .p 7 (.one .l 9 (.one .p 10 .nil))))))) .o 8 (.one .o 3 (.one .l 4 (.one .p 5 (.one .p 6 (.one .p 7 (.one .l 9 (.one .p 10 .nil)))))))) .o 8 (.one .o 1 (.one .o 3 (.one .l 4 (.one .p 5 (.one .p 6 (.one .p 7 (.one .l 9 (.one .p 10 .nil))))))))))) [4,9] (by kernel_rfl) ?_
| (with_reducible apply zt1);rfl
| (with_reducible apply zt2);rfl;rfl
| with_reducible apply zt0
| with_reducible apply sK
| (with_reducible apply ycp);rfl;(first | exact ae | exact aG | exact aF);rfl
| (with_reducible apply zcs);(iterate 10 rfl);exact cS;exact fun _ => rfl;exact fun _ => rfl;rfl;rfl;rfl;rfl
| (with_reducible apply ycf);rfl;(first | exact aI (by exact BooksOk.midB (by assumption)) | exact eP (by omega) (by omega));rfl
| (with_reducible apply jb  [true,true,true,true,true,false]);(iterate 10 rfl);exact cy (by omega);(iterate 6 rfl)
| (with_reducible apply ycw  [true,true,true,true,true]);rfl;(exact gG (by omega) (by assumption));rfl
| fail)
  all_goals first
   | (have c2:¬ pN ba bb (cm ⟨(rd bt (tAt bt no)).No,(rd bt (tAt bt no)).Buyer,(rd bt (tAt bt no)).Seller,(rd bt (tAt bt no)).Paper,(rd bt (tAt bt no)).Qty,(rd bt (tAt bt no)).Cash,(rd bt (tAt bt no)).Price,(rd bt (tAt bt no)).State⟩) = 0:=by assumption
      rw [dP (b:=⟨ba,bi,bb,bl,bt,bn⟩) c0 c1 c2,← jJ hpc]
      exact au [0,1,2,3,4,15,16,17,18,19] rfl rfl rfl rfl rfl rfl)
   | (have c2:pN ba bb (cm ⟨(rd bt (tAt bt no)).No,(rd bt (tAt bt no)).Buyer,(rd bt (tAt bt no)).Seller,(rd bt (tAt bt no)).Paper,(rd bt (tAt bt no)).Qty,(rd bt (tAt bt no)).Cash,(rd bt (tAt bt no)).Price,(rd bt (tAt bt no)).State⟩) = 0:=by assumption
      rw [iG (b:=⟨ba,bi,bb,bl,bt,bn⟩) c0 c1 (fun k => k c2) c3]
      exact au [0,1,2,3,4,16,17,18,19,20] rfl rfl rfl rfl rfl rfl)
   | trace_state
 by_cases c4:fD (tL bl (rd bt (tAt bt no)).Seller (rd bt (tAt bt no)).Paper (rd bt (tAt bt no)).Qty way) bn (rd bt (tAt bt no)).Buyer (rd bt (tAt bt no)).Paper (rd bt (tAt bt no)).Qty (pick ((rd bt (tAt bt no)).Price < 0) (tC bl (rd bt (tAt bt no)).Seller (rd bt (tAt bt no)).Paper (rd bt (tAt bt no)).Qty way) (rd bt (tAt bt no)).Price)
 rotate_left
 ·
  repeat' (first
| intro h9;exfalso;first | contradiction | omega
| (with_reducible apply yds);rfl
| (with_reducible apply yd);rfl
| intro _
| refine nv ?_
| apply wct rfl
| apply wcf rfl
| (with_reducible apply yeq);rfl
| (with_reducible apply yne);rfl
| (with_reducible apply yix);rfl;omega
| (with_reducible apply yle);rfl;omega
| refine qK (id:=8) rfl (by kernel_rfl) (.one .t 0 (.one .t 2 (.two .o 1 (.two .o 3 (.two .l 4 (.one .p 5 (.one .p 6 (.one .p 7 (.one .o 8 (.one .l 9 (.one .p 10 .nil)))))) .o 8 (.one .l 4 (.one .p 5 (.one .p 6 (.one .p 7 (.one .l 9 (.one .p 10 .nil))))))) .o 8 (.one .o 3 (.one .l 4 (.one .p 5 (.one .p 6 (.one .p 7 (.one .l 9 (.one .p 10 .nil)))))))) .o 8 (.one .o 1 (.one .o 3 (.one .l 4 (.one .p 5 (.one .p 6 (.one .p 7 (.one .l 9 (.one .p 10 .nil))))))))))) [4,9] (by kernel_rfl) ?_
| (with_reducible apply zt1);rfl
| (with_reducible apply zt2);rfl;rfl
| with_reducible apply zt0
| with_reducible apply sK
| (with_reducible apply ycp);rfl;(first | exact ae | exact aG | exact aF);rfl
| (with_reducible apply zcs);(iterate 10 rfl);exact cS;exact fun _ => rfl;exact fun _ => rfl;rfl;rfl;rfl;rfl
| (with_reducible apply ycf);rfl;(first | exact aI (by exact BooksOk.midB (by assumption)) | exact eP (by omega) (by omega));rfl
| (with_reducible apply jb  [true,true,true,true,true,false]);(iterate 10 rfl);exact cy (by omega);(iterate 6 rfl)
| (with_reducible apply ycw  [true,true,true,true,true]);rfl;(exact gE (by omega) (by assumption) (by assumption));rfl
| fail)
  all_goals first
   | (have c2:¬ pN ba bb (cm ⟨(rd bt (tAt bt no)).No,(rd bt (tAt bt no)).Buyer,(rd bt (tAt bt no)).Seller,(rd bt (tAt bt no)).Paper,(rd bt (tAt bt no)).Qty,(rd bt (tAt bt no)).Cash,(rd bt (tAt bt no)).Price,(rd bt (tAt bt no)).State⟩) = 0:=by assumption
      rw [dP (b:=⟨ba,bi,bb,bl,bt,bn⟩) c0 c1 c2,← jJ hpc]
      exact au [0,1,2,3,4,15,16,17,18,19] rfl rfl rfl rfl rfl rfl)
   | (have c2:pN ba bb (cm ⟨(rd bt (tAt bt no)).No,(rd bt (tAt bt no)).Buyer,(rd bt (tAt bt no)).Seller,(rd bt (tAt bt no)).Paper,(rd bt (tAt bt no)).Qty,(rd bt (tAt bt no)).Cash,(rd bt (tAt bt no)).Price,(rd bt (tAt bt no)).State⟩) = 0:=by assumption
      rw [hpp] at c4
      rw [iH (b:=⟨ba,bi,bb,bl,bt,bn⟩) c0 c1 (fun k => k c2) (fun k => k c3) c4]
      exact au [0,1,2,3,4,17,18,19,20,21] rfl rfl rfl rfl rfl rfl)
   | trace_state
 repeat' (first
| intro h9;exfalso;first | contradiction | omega
| (with_reducible apply yds);rfl
| (with_reducible apply yd);rfl
| intro _
| refine nv ?_
| apply wct rfl
| apply wcf rfl
| (with_reducible apply yeq);rfl
| (with_reducible apply yne);rfl
| (with_reducible apply yar);rfl;omega
| (with_reducible apply yix);rfl;omega
| (with_reducible apply yle);rfl;omega
| (with_reducible apply zse);rfl;exact tk;(iterate 6 rfl);omega;rfl;rfl;rfl;rfl;rfl
| refine qK (id:=8) rfl (by kernel_rfl) (.one .t 0 (.one .t 2 (.two .o 1 (.two .o 3 (.two .l 4 (.one .p 5 (.one .p 6 (.one .p 7 (.one .o 8 (.one .l 9 (.one .p 10 .nil)))))) .o 8 (.one .l 4 (.one .p 5 (.one .p 6 (.one .p 7 (.one .l 9 (.one .p 10 .nil))))))) .o 8 (.one .o 3 (.one .l 4 (.one .p 5 (.one .p 6 (.one .p 7 (.one .l 9 (.one .p 10 .nil)))))))) .o 8 (.one .o 1 (.one .o 3 (.one .l 4 (.one .p 5 (.one .p 6 (.one .p 7 (.one .l 9 (.one .p 10 .nil))))))))))) [4,9] (by kernel_rfl) ?_
| refine qK (id:=14) rfl (by kernel_rfl) (.one .p 1 (.one .p 3 (.one .t 0 (.two .o 2 (.one .p 4 (.one .l 5 (.one .p 6 (.one .p 7 .nil)))) .l 5 (.one .o 2 (.one .p 4 (.one .p 6 (.one .p 7 .nil)))))))) [5] (by kernel_rfl) ?_
| (with_reducible apply zt1);rfl
| (with_reducible apply zt2);rfl;rfl
| with_reducible apply zt0
| with_reducible apply sK
| (with_reducible apply ycp);rfl;(first | exact ae | exact aG | exact aF);rfl
| (with_reducible apply zcs);(iterate 10 rfl);exact cS;exact fun _ => rfl;exact fun _ => rfl;rfl;rfl;rfl;rfl
| (with_reducible apply ycf);rfl;(first | exact aI (by exact BooksOk.midB (by assumption)) | exact eP (by omega) (by omega));rfl
| (with_reducible apply jb  [true,true,true,true,true,false]);(iterate 10 rfl);exact cy (by omega);(iterate 6 rfl)
| (with_reducible apply ycw  [true,true,true,true,true]);rfl;(exact gD (by omega) (by assumption) (by assumption));rfl
| fail)
 all_goals first
  | (have c2:¬ pN ba bb (cm ⟨(rd bt (tAt bt no)).No,(rd bt (tAt bt no)).Buyer,(rd bt (tAt bt no)).Seller,(rd bt (tAt bt no)).Paper,(rd bt (tAt bt no)).Qty,(rd bt (tAt bt no)).Cash,(rd bt (tAt bt no)).Price,(rd bt (tAt bt no)).State⟩) = 0:=by assumption
     rw [dP (b:=⟨ba,bi,bb,bl,bt,bn⟩) c0 c1 c2,← jJ hpc]
     exact au [0,1,2,3,4,15,16,17,18,19] rfl rfl rfl rfl rfl rfl)
  | (have c2:pN ba bb (cm ⟨(rd bt (tAt bt no)).No,(rd bt (tAt bt no)).Buyer,(rd bt (tAt bt no)).Seller,(rd bt (tAt bt no)).Paper,(rd bt (tAt bt no)).Qty,(rd bt (tAt bt no)).Cash,(rd bt (tAt bt no)).Price,(rd bt (tAt bt no)).State⟩) = 0:=by assumption
     have c5:=c4
     rw [hpp] at c5 ⊢
     rw [iI (b:=⟨ba,bi,bb,bl,bt,bn⟩) c0 c1 (fun k => k c2) (fun k => k c3) (fun k => k c5)]
     dsimp only
     rw [qP]
     first
      | exact au [0,1,2,3,4,8,9,14,16,12] rfl rfl rfl rfl rfl rfl
      | exact au [0,1,2,3,4,8,9,15,16,12] rfl rfl rfl rfl rfl rfl
      | exact au [0,1,2,3,4,9,10,15,16,13] rfl rfl rfl rfl rfl rfl)
  | trace_state
end
section
open Go.RowKit
noncomputable def aX (b:Books) (no ki:Int):Books × Int :=
 sel (¬ (BooksOk b ∧ ag no ∧ inP ki 1 4)) (⟨[],[],[],[],[],0⟩,1)
 (sel (a9 b.Accounts no ≠ 0) (b,2)
 (sel (20 ≤ b.Accounts.length) (b,7)
 (⟨eF b.Accounts ⟨no,ki⟩,b.Instrs,b.Bals,b.Lots,b.Trades,b.Lot⟩,0)))
theorem gX {b:Books} {no ki:Int}  (c0:¬ (BooksOk b ∧ ag no ∧ inP ki 1 4)):aX b no ki = (⟨[],[],[],[],[],0⟩,1):=by
 rw [aX,al c0]
theorem lB {b:Books} {no ki:Int} (c0:¬ (¬ (BooksOk b ∧ ag no ∧ inP ki 1 4))) (c1:a9 b.Accounts no ≠ 0):aX b no ki = (b,2):=by
 rw [aX,a8 c0,al c1]
theorem lC {b:Books} {no ki:Int} (c0:¬ (¬ (BooksOk b ∧ ag no ∧ inP ki 1 4))) (c1:¬ (a9 b.Accounts no ≠ 0)) (c2:20 ≤ b.Accounts.length):aX b no ki = (b,7):=by
 rw [aX,a8 c0,a8 c1,al c2]
theorem lD {b:Books} {no ki:Int} (c0:¬ (¬ (BooksOk b ∧ ag no ∧ inP ki 1 4))) (c1:¬ (a9 b.Accounts no ≠ 0)) (c2:¬ (20 ≤ b.Accounts.length)):aX b no ki = (⟨eF b.Accounts ⟨no,ki⟩,b.Instrs,b.Bals,b.Lots,b.Trades,b.Lot⟩,0):=by
 rw [aX,a8 c0,a8 c1,a8 c2]
theorem jx {ba:List Account} {bi:List Instr} {bb:List Bal} {bl:List Lot} {bt:List Trade} {bn:Int} {no ki:Int}:FC Tryz.prog 157 [bkV 0 ⟨ba,bi,bb,bl,bt,bn⟩,I no,I ki] (bkR ⟨ba,bi,bb,bl,bt,bn⟩) (.tup [bkE 5 (aX ⟨ba,bi,bb,bl,bt,bn⟩ no ki).1,I (aX ⟨ba,bi,bb,bl,bt,bn⟩ no ki).2]) (bkR ⟨ba,bi,bb,bl,bt,bn⟩ ++ bkW (aX ⟨ba,bi,bb,bl,bt,bn⟩ no ki).1):=by
 refine ay tk 48 [.cell 6 _,.tmp 7] Tryz.func157 (by kernel_rfl) rfl rfl rfl rfl rfl rfl rfl ?_
 by_cases hok:BooksOk ⟨ba,bi,bb,bl,bt,bn⟩
 rotate_left
 ·
  rw [gX (b:=⟨ba,bi,bb,bl,bt,bn⟩) (fun h => hok h.1)]
  repeat' (first
| intro h9;exfalso;contradiction
| apply ap (d:=24) 0 42 2;rfl;rfl;rfl;rfl;rfl
| apply ap (d:=24) 1 74 2;rfl;rfl;rfl;rfl;rfl
| apply ap (d:=24) 2 135 3;rfl;rfl;rfl;rfl;rfl
| apply ap (d:=24) 3 137 5;rfl;rfl;rfl;rfl;rfl
| apply ap (d:=24) 4 103 8;rfl;rfl;rfl;rfl;rfl
| apply yd;rfl
| intro _
| refine nv ?_
| apply wct rfl
| apply ycp;rfl;exact ae;rfl
| fail)
  all_goals exact au [0,1,2,3,4,7,8,9,10,11] rfl rfl rfl rfl rfl rfl
 by_cases hta:ag no ∧ inP ki 1 4
 rotate_left
 ·
  rw [gX (b:=⟨ba,bi,bb,bl,bt,bn⟩) (fun h => hta h.2)]
  repeat' (first
| intro h9;exfalso;contradiction
| intro h9;exact absurd ⟨by assumption,by assumption⟩ hta
| apply ap (d:=24) 0 42 2;rfl;rfl;rfl;rfl;rfl
| apply ap (d:=24) 1 74 2;rfl;rfl;rfl;rfl;rfl
| apply ap (d:=24) 2 135 3;rfl;rfl;rfl;rfl;rfl
| apply ap (d:=24) 3 137 5;rfl;rfl;rfl;rfl;rfl
| apply ap (d:=24) 4 103 8;rfl;rfl;rfl;rfl;rfl
| apply yd;rfl
| intro _
| refine nv ?_
| apply wct rfl
| apply ycp;rfl;(first | exact ae | exact aG | exact aF);rfl
| fail)
  all_goals exact au [0,1,2,3,4,7,8,9,10,11] rfl rfl rfl rfl rfl rfl
 have hA:aO ba:=hok.acc
 have hal:=hA.2
 have c0:¬ ¬ (BooksOk ⟨ba,bi,bb,bl,bt,bn⟩ ∧ ag no ∧ inP ki 1 4):=fun k => k ⟨hok,hta⟩
 obtain ⟨k1,k2⟩:=id hta
 have hki:=pR (no:=no) hA
 by_cases c1:a9 ba no ≠ 0
 rw [lB (b:=⟨ba,bi,bb,bl,bt,bn⟩) c0 c1]
 rotate_left
 have hne:∀ j:Int,0 ≤ j → j < ba.length → (rd ba j).No ≠ no:=by
  rcases hki with q | q
  ·exact q.2
  ·exact absurd q.1 (by omega)
 have hio:=tc (x:=⟨no,ki⟩) hA hne k1 k2
 by_cases c2:20 ≤ ba.length
 have hno:¬ aO (eF ba ⟨no,ki⟩):=fun k => by have:=hio.1 k;omega
 rw [lC (b:=⟨ba,bi,bb,bl,bt,bn⟩) c0 c1 c2]
 rotate_left
 have hyes:aO (eF ba ⟨no,ki⟩):=hio.2 (by omega)
 rw [lD (b:=⟨ba,bi,bb,bl,bt,bn⟩) c0 c1 c2]
 repeat' (first
| intro h9;exfalso;first | contradiction | omega
| apply yds;rfl
| apply yd;rfl
| intro _
| refine nv ?_
| apply wct rfl
| apply wcf rfl
| apply aj;rfl
| apply ycp;rfl;(first | exact ae | exact aG | exact aF);rfl
| apply ycf;rfl;exact aI (by exact BooksOk.midB (by assumption));rfl
| apply ycq;rfl;exact aM;rfl
| apply ly;(iterate 10 rfl);exact ez (by assumption);(iterate 8 rfl)
| fail)
 all_goals first | exact au [0,1,2,3,4,7,8,9,10,11] rfl rfl rfl rfl rfl rfl | exact au [0,1,2,3,4,13,8,9,10,11] rfl rfl rfl rfl rfl rfl
noncomputable def bm (b:Books) (no ki:Int):Books × Int :=
 sel (¬ (BooksOk b ∧ ag no ∧ inP ki 1 2)) (⟨[],[],[],[],[],0⟩,1)
 (sel (aa b.Instrs no ≠ 0) (b,2)
 (sel (8 ≤ b.Instrs.length) (b,7)
 (⟨b.Accounts,eH b.Instrs ⟨no,ki⟩,b.Bals,b.Lots,b.Trades,b.Lot⟩,0)))
theorem jC {b:Books} {no ki:Int}  (c0:¬ (BooksOk b ∧ ag no ∧ inP ki 1 2)):bm b no ki = (⟨[],[],[],[],[],0⟩,1):=by
 rw [bm,al c0]
theorem nT {b:Books} {no ki:Int} (c0:¬ (¬ (BooksOk b ∧ ag no ∧ inP ki 1 2))) (c1:aa b.Instrs no ≠ 0):bm b no ki = (b,2):=by
 rw [bm,a8 c0,al c1]
theorem nU {b:Books} {no ki:Int} (c0:¬ (¬ (BooksOk b ∧ ag no ∧ inP ki 1 2))) (c1:¬ (aa b.Instrs no ≠ 0)) (c2:8 ≤ b.Instrs.length):bm b no ki = (b,7):=by
 rw [bm,a8 c0,a8 c1,al c2]
theorem nV {b:Books} {no ki:Int} (c0:¬ (¬ (BooksOk b ∧ ag no ∧ inP ki 1 2))) (c1:¬ (aa b.Instrs no ≠ 0)) (c2:¬ (8 ≤ b.Instrs.length)):bm b no ki = (⟨b.Accounts,eH b.Instrs ⟨no,ki⟩,b.Bals,b.Lots,b.Trades,b.Lot⟩,0):=by
 rw [bm,a8 c0,a8 c1,a8 c2]
theorem lp {ba:List Account} {bi:List Instr} {bb:List Bal} {bl:List Lot} {bt:List Trade} {bn:Int} {no ki:Int}:FC Tryz.prog 158 [bkV 0 ⟨ba,bi,bb,bl,bt,bn⟩,I no,I ki] (bkR ⟨ba,bi,bb,bl,bt,bn⟩) (.tup [bkE 5 (bm ⟨ba,bi,bb,bl,bt,bn⟩ no ki).1,I (bm ⟨ba,bi,bb,bl,bt,bn⟩ no ki).2]) (bkR ⟨ba,bi,bb,bl,bt,bn⟩ ++ bkW (bm ⟨ba,bi,bb,bl,bt,bn⟩ no ki).1):=by
 refine ay tk 48 [.cell 6 _,.tmp 7] Tryz.func158 (by kernel_rfl) rfl rfl rfl rfl rfl rfl rfl ?_
 by_cases hok:BooksOk ⟨ba,bi,bb,bl,bt,bn⟩
 rotate_left
 ·
  rw [jC (b:=⟨ba,bi,bb,bl,bt,bn⟩) (fun h => hok h.1)]
  repeat' (first
| intro h9;exfalso;contradiction
| apply ap (d:=24) 0 42 2;rfl;rfl;rfl;rfl;rfl
| apply ap (d:=24) 1 74 2;rfl;rfl;rfl;rfl;rfl
| apply ap (d:=24) 2 135 3;rfl;rfl;rfl;rfl;rfl
| apply ap (d:=24) 3 137 5;rfl;rfl;rfl;rfl;rfl
| apply ap (d:=24) 4 103 8;rfl;rfl;rfl;rfl;rfl
| apply yd;rfl
| intro _
| refine nv ?_
| apply wct rfl
| apply ycp;rfl;exact ae;rfl
| fail)
  all_goals exact au [0,1,2,3,4,7,8,9,10,11] rfl rfl rfl rfl rfl rfl
 by_cases hta:ag no ∧ inP ki 1 2
 rotate_left
 ·
  rw [jC (b:=⟨ba,bi,bb,bl,bt,bn⟩) (fun h => hta h.2)]
  repeat' (first
| intro h9;exfalso;contradiction
| intro h9;exact absurd ⟨by assumption,by assumption⟩ hta
| apply ap (d:=24) 0 42 2;rfl;rfl;rfl;rfl;rfl
| apply ap (d:=24) 1 74 2;rfl;rfl;rfl;rfl;rfl
| apply ap (d:=24) 2 135 3;rfl;rfl;rfl;rfl;rfl
| apply ap (d:=24) 3 137 5;rfl;rfl;rfl;rfl;rfl
| apply ap (d:=24) 4 103 8;rfl;rfl;rfl;rfl;rfl
| apply yd;rfl
| intro _
| refine nv ?_
| apply wct rfl
| apply ycp;rfl;(first | exact ae | exact aG | exact aF);rfl
| fail)
  all_goals exact au [0,1,2,3,4,7,8,9,10,11] rfl rfl rfl rfl rfl rfl
 have hA:bA bi:=hok.ins
 have hal:=hA.2
 have c0:¬ ¬ (BooksOk ⟨ba,bi,bb,bl,bt,bn⟩ ∧ ag no ∧ inP ki 1 2):=fun k => k ⟨hok,hta⟩
 obtain ⟨k1,k2⟩:=id hta
 have hki:=io (no:=no) hA
 by_cases c1:aa bi no ≠ 0
 rw [nT (b:=⟨ba,bi,bb,bl,bt,bn⟩) c0 c1]
 rotate_left
 have hne:∀ j:Int,0 ≤ j → j < bi.length → (rd bi j).No ≠ no:=by
  rcases hki with q | q
  ·exact q.2
  ·exact absurd q.1 (by omega)
 have hio:=tX (x:=⟨no,ki⟩) hA hne k1 k2
 by_cases c2:8 ≤ bi.length
 have hno:¬ bA (eH bi ⟨no,ki⟩):=fun k => by have:=hio.1 k;omega
 rw [nU (b:=⟨ba,bi,bb,bl,bt,bn⟩) c0 c1 c2]
 rotate_left
 have hyes:bA (eH bi ⟨no,ki⟩):=hio.2 (by omega)
 rw [nV (b:=⟨ba,bi,bb,bl,bt,bn⟩) c0 c1 c2]
 repeat' (first
| intro h9;exfalso;first | contradiction | omega
| apply yds;rfl
| apply yd;rfl
| intro _
| refine nv ?_
| apply wct rfl
| apply wcf rfl
| apply aj;rfl
| apply ycp;rfl;(first | exact ae | exact aG | exact aF);rfl
| apply ycf;rfl;exact aI (by exact BooksOk.midB (by assumption));rfl
| apply ycq;rfl;exact aU;rfl
| apply ly;(iterate 10 rfl);exact jy (by assumption);(iterate 8 rfl)
| fail)
 all_goals first | exact au [0,1,2,3,4,7,8,9,10,11] rfl rfl rfl rfl rfl rfl | exact au [0,1,2,3,4,7,13,9,10,11] rfl rfl rfl rfl rfl rfl
noncomputable def bk (b:Books) (no:Int):Books × Int :=
 sel (¬ (BooksOk b ∧ ag no)) (⟨[],[],[],[],[],0⟩,1)
 (sel (¬ du b.Trades no) (b,oC b.Trades no)
 (⟨b.Accounts,b.Instrs,b.Bals,b.Lots,upd b.Trades (tAt b.Trades no) (stT (rd b.Trades (tAt b.Trades no)) 3),b.Lot⟩,0))
theorem iE {b:Books} {no:Int}  (c0:¬ (BooksOk b ∧ ag no)):bk b no = (⟨[],[],[],[],[],0⟩,1):=by
 rw [bk,al c0]
theorem mD {b:Books} {no:Int} (c0:¬ (¬ (BooksOk b ∧ ag no))) (c1:¬ du b.Trades no):bk b no = (b,oC b.Trades no):=by
 rw [bk,a8 c0,al c1]
theorem mE {b:Books} {no:Int} (c0:¬ (¬ (BooksOk b ∧ ag no))) (c1:¬ (¬ du b.Trades no)):bk b no = (⟨b.Accounts,b.Instrs,b.Bals,b.Lots,upd b.Trades (tAt b.Trades no) (stT (rd b.Trades (tAt b.Trades no)) 3),b.Lot⟩,0):=by
 rw [bk,a8 c0,a8 c1]
theorem jW {ba:List Account} {bi:List Instr} {bb:List Bal} {bl:List Lot} {bt:List Trade} {bn:Int} {no:Int}:FC Tryz.prog 159 [bkV 0 ⟨ba,bi,bb,bl,bt,bn⟩,I no] (bkR ⟨ba,bi,bb,bl,bt,bn⟩) (.tup [bkE 5 (bk ⟨ba,bi,bb,bl,bt,bn⟩ no).1,I (bk ⟨ba,bi,bb,bl,bt,bn⟩ no).2]) (bkR ⟨ba,bi,bb,bl,bt,bn⟩ ++ bkW (bk ⟨ba,bi,bb,bl,bt,bn⟩ no).1):=by
 refine ay tk 35 [.cell 4 _,.tmp 5] Tryz.func159 (by kernel_rfl) rfl rfl rfl rfl rfl rfl rfl ?_
 by_cases hok:BooksOk ⟨ba,bi,bb,bl,bt,bn⟩
 rotate_left
 ·
  rw [iE (b:=⟨ba,bi,bb,bl,bt,bn⟩) (fun h => hok h.1)]
  repeat' (first
| intro h9;exfalso;contradiction
| apply ap (d:=17) 0 42 2;rfl;rfl;rfl;rfl;rfl
| apply ap (d:=17) 1 74 2;rfl;rfl;rfl;rfl;rfl
| apply ap (d:=17) 2 135 3;rfl;rfl;rfl;rfl;rfl
| apply ap (d:=17) 3 137 5;rfl;rfl;rfl;rfl;rfl
| apply ap (d:=17) 4 103 8;rfl;rfl;rfl;rfl;rfl
| apply yd;rfl
| intro _
| refine nv ?_
| apply wct rfl
| apply ycp;rfl;exact ae;rfl
| fail)
  all_goals exact au [0,1,2,3,4,7,8,9,10,11] rfl rfl rfl rfl rfl rfl
 by_cases hta:ag no
 rotate_left
 ·
  rw [iE (b:=⟨ba,bi,bb,bl,bt,bn⟩) (fun h => hta h.2)]
  repeat' (first
| intro h9;exfalso;contradiction
| apply ap (d:=17) 0 42 2;rfl;rfl;rfl;rfl;rfl
| apply ap (d:=17) 1 74 2;rfl;rfl;rfl;rfl;rfl
| apply ap (d:=17) 2 135 3;rfl;rfl;rfl;rfl;rfl
| apply ap (d:=17) 3 137 5;rfl;rfl;rfl;rfl;rfl
| apply ap (d:=17) 4 103 8;rfl;rfl;rfl;rfl;rfl
| apply yd;rfl
| intro _
| refine nv ?_
| apply wct rfl
| apply ycp;rfl;(first | exact ae | exact aG);rfl
| fail)
  all_goals exact au [0,1,2,3,4,7,8,9,10,11] rfl rfl rfl rfl rfl rfl
 have htl:=hok.trades.2
 dsimp only at htl
 have c0:¬ ¬ (BooksOk ⟨ba,bi,bb,bl,bt,bn⟩ ∧ ag no):=fun k => k ⟨hok,hta⟩
 by_cases hop:du bt no
 rotate_left
 have hoc:=uK bt no
 rw [mD (b:=⟨ba,bi,bb,bl,bt,bn⟩) c0 hop]
 rotate_left
 obtain ⟨hta1,hta2⟩:=j9 hop.1
 rw [mE (b:=⟨ba,bi,bb,bl,bt,bn⟩) c0 (fun k => k hop)]
 repeat' (first
| intro h9;exfalso;first | contradiction | omega
| apply yds;rfl
| apply yd;rfl
| intro _
| refine nv ?_
| apply wct rfl
| apply wcf rfl
| apply yeq;rfl
| apply yix;rfl;omega
| apply zse;rfl;exact tk;(iterate 6 rfl);omega;rfl;rfl;rfl;rfl;rfl
| apply ycp;rfl;(first | exact ae | exact aG);rfl
| apply ycf;rfl;exact aI (by exact BooksOk.midB (by assumption));rfl
| apply zcs;(iterate 10 rfl);exact cS;exact fun _ => rfl;exact fun _ => rfl;rfl;rfl;rfl;rfl
| fail)
 all_goals first
  | exact au [0,1,2,3,4,7,8,9,10,11] rfl rfl rfl rfl rfl rfl | exact au [0,1,2,3,4,8,9,10,11,12] rfl rfl rfl rfl rfl rfl
  | (dsimp only
     rw [qP]
     exact au [0,1,2,3,4,7,8,9,10,11] rfl rfl rfl rfl rfl rfl)
  | (exfalso;omega)
  | trace_state
end
end Go.Proofs.YtgehbhkfehmdkaaGreat.Sh
