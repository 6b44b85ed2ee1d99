/- Trades are settled: both sides. No condition. -/
import Derived.Test.YtgehbhkfehmdkaaGreatKUShV
import Derived.Test.YtgehbhkfehmdkaaGreatKUShTn
import Derived.Test.YtgehbhkfehmdkaaGreatKUShNt
import Derived.Test.YtgehbhkfehmdkaaGreatKUShDr
import Derived.Test.YtgehbhkfehmdkaaGreatKUShTr2
set_option maxRecDepth 100000
set_option maxHeartbeats 40000000
set_option linter.unusedSimpArgs false
set_option linter.unusedVariables false
namespace Go.Proofs.YtgehbhkfehmdkaaGreat.Sh
section
open Go.RowKit
def stT (t:Trade) (s:Int):Trade:=⟨t.No,t.Buyer,t.Seller,t.Paper,t.Qty,t.Cash,t.Price,s⟩
noncomputable def ag (b:Books) (no way:Int):Books × Int × Int :=
 sel (¬ (BooksOk b ∧ aj no ∧ inP way 1 3)) (⟨[],[],[],[],[],0⟩,0,1)
 (sel (¬ d9 b.Trades no) (b,0,oC b.Trades no)
 (sel (¬ (poR b (bE (rd b.Trades (tAt b.Trades no)))).2 = 0) (b,0,cX (poR b (bE (rd b.Trades (tAt b.Trades no)))).2)
 (sel (¬ tN b.Lots (rd b.Trades (tAt b.Trades no)).Seller (rd b.Trades (tAt b.Trades no)).Paper (rd b.Trades (tAt b.Trades no)).Qty way = 0) (b,0,5)
 (sel (¬ dW (tL b.Lots (rd b.Trades (tAt b.Trades no)).Seller (rd b.Trades (tAt b.Trades no)).Paper (rd b.Trades (tAt b.Trades no)).Qty way) b.Lot (rd b.Trades (tAt b.Trades no)).Buyer (rd b.Trades (tAt b.Trades no)).Paper (rd b.Trades (tAt b.Trades no)).Qty (rd b.Trades (tAt b.Trades no)).Price) (b,0,7)
 (⟨b.Accounts,b.Instrs,(poR b (bE (rd b.Trades (tAt b.Trades no)))).1,opL (tL b.Lots (rd b.Trades (tAt b.Trades no)).Seller (rd b.Trades (tAt b.Trades no)).Paper (rd b.Trades (tAt b.Trades no)).Qty way) b.Lot (rd b.Trades (tAt b.Trades no)).Buyer (rd b.Trades (tAt b.Trades no)).Paper (rd b.Trades (tAt b.Trades no)).Qty (rd b.Trades (tAt b.Trades no)).Price,upd b.Trades (tAt b.Trades no) (stT (rd b.Trades (tAt b.Trades no)) 2),b.Lot + 1⟩,(rd b.Trades (tAt b.Trades no)).Price - tC b.Lots (rd b.Trades (tAt b.Trades no)).Seller (rd b.Trades (tAt b.Trades no)).Paper (rd b.Trades (tAt b.Trades no)).Qty way,0)))))
theorem dG {b:Books} {no way:Int}  (c0:¬ (BooksOk b ∧ aj no ∧ inP way 1 3)):ag b no way = (⟨[],[],[],[],[],0⟩,0,1):=by
 rw [ag,au c0]
theorem dH {b:Books} {no way:Int} (c0:¬ (¬ (BooksOk b ∧ aj no ∧ inP way 1 3))) (c1:¬ d9 b.Trades no):ag b no way = (b,0,oC b.Trades no):=by
 rw [ag,ab c0,au c1]
theorem dI {b:Books} {no way:Int} (c0:¬ (¬ (BooksOk b ∧ aj no ∧ inP way 1 3))) (c1:¬ (¬ d9 b.Trades no)) (c2:¬ (poR b (bE (rd b.Trades (tAt b.Trades no)))).2 = 0):ag b no way = (b,0,cX (poR b (bE (rd b.Trades (tAt b.Trades no)))).2):=by
 rw [ag,ab c0,ab c1,au c2]
theorem gx {b:Books} {no way:Int} (c0:¬ (¬ (BooksOk b ∧ aj no ∧ inP way 1 3))) (c1:¬ (¬ d9 b.Trades no)) (c2:¬ (¬ (poR b (bE (rd b.Trades (tAt b.Trades no)))).2 = 0)) (c3:¬ tN b.Lots (rd b.Trades (tAt b.Trades no)).Seller (rd b.Trades (tAt b.Trades no)).Paper (rd b.Trades (tAt b.Trades no)).Qty way = 0):ag b no way = (b,0,5):=by
 rw [ag,ab c0,ab c1,ab c2,au c3]
theorem gy {b:Books} {no way:Int} (c0:¬ (¬ (BooksOk b ∧ aj no ∧ inP way 1 3))) (c1:¬ (¬ d9 b.Trades no)) (c2:¬ (¬ (poR b (bE (rd b.Trades (tAt b.Trades no)))).2 = 0)) (c3:¬ (¬ tN b.Lots (rd b.Trades (tAt b.Trades no)).Seller (rd b.Trades (tAt b.Trades no)).Paper (rd b.Trades (tAt b.Trades no)).Qty way = 0)) (c4:¬ dW (tL b.Lots (rd b.Trades (tAt b.Trades no)).Seller (rd b.Trades (tAt b.Trades no)).Paper (rd b.Trades (tAt b.Trades no)).Qty way) b.Lot (rd b.Trades (tAt b.Trades no)).Buyer (rd b.Trades (tAt b.Trades no)).Paper (rd b.Trades (tAt b.Trades no)).Qty (rd b.Trades (tAt b.Trades no)).Price):ag b no way = (b,0,7):=by
 rw [ag,ab c0,ab c1,ab c2,ab c3,au c4]
theorem gz {b:Books} {no way:Int} (c0:¬ (¬ (BooksOk b ∧ aj no ∧ inP way 1 3))) (c1:¬ (¬ d9 b.Trades no)) (c2:¬ (¬ (poR b (bE (rd b.Trades (tAt b.Trades no)))).2 = 0)) (c3:¬ (¬ tN b.Lots (rd b.Trades (tAt b.Trades no)).Seller (rd b.Trades (tAt b.Trades no)).Paper (rd b.Trades (tAt b.Trades no)).Qty way = 0)) (c4:¬ (¬ dW (tL b.Lots (rd b.Trades (tAt b.Trades no)).Seller (rd b.Trades (tAt b.Trades no)).Paper (rd b.Trades (tAt b.Trades no)).Qty way) b.Lot (rd b.Trades (tAt b.Trades no)).Buyer (rd b.Trades (tAt b.Trades no)).Paper (rd b.Trades (tAt b.Trades no)).Qty (rd b.Trades (tAt b.Trades no)).Price)):ag b no way = (⟨b.Accounts,b.Instrs,(poR b (bE (rd b.Trades (tAt b.Trades no)))).1,opL (tL b.Lots (rd b.Trades (tAt b.Trades no)).Seller (rd b.Trades (tAt b.Trades no)).Paper (rd b.Trades (tAt b.Trades no)).Qty way) b.Lot (rd b.Trades (tAt b.Trades no)).Buyer (rd b.Trades (tAt b.Trades no)).Paper (rd b.Trades (tAt b.Trades no)).Qty (rd b.Trades (tAt b.Trades no)).Price,upd b.Trades (tAt b.Trades no) (stT (rd b.Trades (tAt b.Trades no)) 2),b.Lot + 1⟩,(rd b.Trades (tAt b.Trades no)).Price - tC b.Lots (rd b.Trades (tAt b.Trades no)).Seller (rd b.Trades (tAt b.Trades no)).Paper (rd b.Trades (tAt b.Trades no)).Qty way,0):=by
 rw [ag,ab c0,ab c1,ab c2,ab c3,ab c4]
theorem tY {t:Trade} (h1:aj t.Buyer) (h2:aj t.Seller) (h3:aj t.Paper) (h4:aj t.Cash) (h5:0 ≤ t.Qty ∧ t.Qty ≤ 1000000000000000) (h6:0 ≤ t.Price ∧ t.Price ≤ 1000000000000000):d4 (bE t):=by
 refine ⟨⟨by show 4 ≤ 160;omega,fun x hx => ?_⟩,fun x hx => ?_⟩
 ·simp only [bE,List.mem_cons,List.not_mem_nil,or_false] at hx
  rcases hx with rfl | rfl | rfl | rfl <;> (refine ⟨by assumption,by assumption,?_⟩;show -1000000000000000 ≤ _ ∧ _ ≤ 1000000000000000;dsimp only;omega)
 ·have e:∀ c:Int,bD (bE t) c = (if t.Cash = c then -t.Price else 0) + ((if t.Cash = c then t.Price else 0) + ((if t.Paper = c then -t.Qty else 0) + ((if t.Paper = c then t.Qty else 0) + 0))):=fun c => by
   simp only [bD,ao,bE,List.map_cons,List.map_nil,List.sum_cons,List.sum_nil,iJ]
  rw [e]
  split <;> split <;> omega
theorem mQ {b:Books} (hb:BooksOk b) {a c q w:Int}:0 ≤ tC b.Lots a c q w ∧ tC b.Lots a c q w ≤ 1000000000000000:=by
 show 0 ≤ (cC b.Lots a c q w).2.1 ∧ (cC b.Lots a c q w).2.1 ≤ 1000000000000000
 by_cases h:LotsOk b.Lots ∧ inP q 1 1000000000000000 ∧ inP w 1 3
 ·by_cases h2:sQ (ae b.Lots a c) < q
  ·rw [zY h h2];show (0:Int) ≤ 0 ∧ (0:Int) ≤ 1000000000000000;omega
  ·rw [zW h h2]
   have hq:=h.2.1
   unfold inP at hq
   have ho:=h.1.own a c
   have:=C7 (way:=w) (h.1.LG.flt (fun x => x.Account = a ∧ x.Instr = c)) (q:=q) ⟨by omega,by show q ≤ sQ (ae b.Lots a c);omega⟩ (by show 1 ≤ sQ (ae b.Lots a c);omega)
   exact ⟨this.1,Int.le_trans this.2 ho.2.2⟩
 ·rw [zX h];show (0:Int) ≤ 0 ∧ (0:Int) ≤ 1000000000000000;omega
theorem oc {n:Nat} {a:List Account} {i:List Instr} {b:List Bal} {l:List Lot} {t:List Trade} {k y:Int} {x:Trade}:bkE n ⟨a,i,b,l,upd t k x,y⟩ = .agg [.row n 0 a.length,.row (n + 1) 0 i.length,.row (n + 2) 0 b.length,.row (n + 3) 0 l.length,.row (n + 4) 0 t.length,.sc (.int .i64 y)]:=by
 unfold bkE
 rw [aG]
theorem gh {ba:List Account} {bi:List Instr} {bb:List Bal} {bl:List Lot} {bt:List Trade} {bn:Int} {no way:Int}:FC Tryz.prog 23 [bkV 0 ⟨ba,bi,bb,bl,bt,bn⟩,I no,I way] (bkR ⟨ba,bi,bb,bl,bt,bn⟩) (.tup [bkE 5 (ag ⟨ba,bi,bb,bl,bt,bn⟩ no way).1,I (ag ⟨ba,bi,bb,bl,bt,bn⟩ no way).2.1,I (ag ⟨ba,bi,bb,bl,bt,bn⟩ no way).2.2]) (bkR ⟨ba,bi,bb,bl,bt,bn⟩ ++ bkW (ag ⟨ba,bi,bb,bl,bt,bn⟩ no way).1):=by
 refine ax tk 88 [.cell 6 _,.tmp 7,.tmp 8] Tryz.func23 (by kernel_rfl) rfl rfl rfl rfl rfl rfl rfl ?_
 by_cases hok:BooksOk ⟨ba,bi,bb,bl,bt,bn⟩
 rotate_left
 ·
  rw [dG (b:=⟨ba,bi,bb,bl,bt,bn⟩) (fun h => hok h.1)]
  repeat' (first
| intro h9;exfalso;contradiction
| (with_reducible apply al (d:=27) 0 42 2);rfl;rfl;rfl;rfl;rfl
| (with_reducible apply al (d:=27) 1 74 2);rfl;rfl;rfl;rfl;rfl
| (with_reducible apply al (d:=27) 2 135 3);rfl;rfl;rfl;rfl;rfl
| (with_reducible apply al (d:=27) 3 137 5);rfl;rfl;rfl;rfl;rfl
| (with_reducible apply al (d:=27) 4 103 8);rfl;rfl;rfl;rfl;rfl
| (with_reducible apply yd);rfl
| intro _
| refine nv ?_
| apply wct rfl
| (with_reducible apply ycp);rfl;exact aM;rfl
| fail)
  all_goals exact ak [0,1,2,3,4,7,8,9,10,11] rfl rfl rfl rfl rfl rfl
 by_cases hta:aj no ∧ inP way 1 3
 rotate_left
 ·
  rw [dG (b:=⟨ba,bi,bb,bl,bt,bn⟩) (fun h => hta h.2)]
  repeat' (first
| intro h9;exfalso;contradiction
| intro h9;exact absurd ⟨by assumption,by assumption⟩ hta
| (with_reducible apply al (d:=27) 0 42 2);rfl;rfl;rfl;rfl;rfl
| (with_reducible apply al (d:=27) 1 74 2);rfl;rfl;rfl;rfl;rfl
| (with_reducible apply al (d:=27) 2 135 3);rfl;rfl;rfl;rfl;rfl
| (with_reducible apply al (d:=27) 3 137 5);rfl;rfl;rfl;rfl;rfl
| (with_reducible apply al (d:=27) 4 103 8);rfl;rfl;rfl;rfl;rfl
| (with_reducible apply yd);rfl
| intro _
| refine nv ?_
| apply wct rfl
| (with_reducible apply ycp);rfl;(first | exact aM | exact cQ | exact bm);rfl
| fail)
  all_goals exact ak [0,1,2,3,4,7,8,9,10,11] rfl rfl rfl rfl rfl rfl
 have hA:=hok.acc
 have hal:=hA.2
 have hto:=hok.trades
 have htl:=hto.2
 have hbn:=hok.lot
 obtain ⟨k1,k2⟩:=id hta
 dsimp only at hA hal hto htl hbn
 unfold inP at hbn
 have c0:¬ ¬ (BooksOk ⟨ba,bi,bb,bl,bt,bn⟩ ∧ aj no ∧ inP way 1 3):=fun k => k ⟨hok,hta⟩
 by_cases hop:d9 bt no
 rotate_left
 ·
  have hoc:=qL bt no
  rw [dH (b:=⟨ba,bi,bb,bl,bt,bn⟩) c0 hop]
  repeat' (first
| intro h9;exfalso;first | contradiction | omega
| (with_reducible apply yds);rfl
| (with_reducible apply yd);rfl
| intro _
| refine nv ?_
| apply wct rfl
| apply wcf rfl
| (with_reducible apply yne);rfl
| (with_reducible apply ycp);rfl;(first | exact aM | exact cQ | exact bm);rfl
| (with_reducible apply zcs);(iterate 10 rfl);exact gX;exact fun _ => rfl;exact fun _ => rfl;rfl;rfl;rfl;rfl
| (with_reducible apply ycf);rfl;(exact bG (by exact BooksOk.midB (by assumption)));rfl
| fail)
  all_goals exact ak [0,1,2,3,4,7,8,9,10,11] rfl rfl rfl rfl rfl rfl
 have c1:¬ ¬ d9 (⟨ba,bi,bb,bl,bt,bn⟩:Books).Trades no:=fun k => k hop
 obtain ⟨hta1,hta2⟩:=jw hop.1
 obtain ⟨q1,q2,q3,q4,q5,q6,hq,hp,q7⟩:=hto.1 _ hta1 hta2
 have hlg:=tY (t:=(rd bt (tAt bt no))) q2 q3 q4 q5 (by unfold inP at hq;omega) hp
 have hpc:=dX hok hlg
 unfold inP at hq hp
 have hpn:=ix (pN ba bb (bE ⟨(rd bt (tAt bt no)).No,(rd bt (tAt bt no)).Buyer,(rd bt (tAt bt no)).Seller,(rd bt (tAt bt no)).Paper,(rd bt (tAt bt no)).Qty,(rd bt (tAt bt no)).Cash,(rd bt (tAt bt no)).Price,(rd bt (tAt bt no)).State⟩))
 have hsn:=lp (pN ba bb (bE ⟨(rd bt (tAt bt no)).No,(rd bt (tAt bt no)).Buyer,(rd bt (tAt bt no)).Seller,(rd bt (tAt bt no)).Paper,(rd bt (tAt bt no)).Qty,(rd bt (tAt bt no)).Cash,(rd bt (tAt bt no)).Price,(rd bt (tAt bt no)).State⟩))
 have hT4:(bE ⟨(rd bt (tAt bt no)).No,(rd bt (tAt bt no)).Buyer,(rd bt (tAt bt no)).Seller,(rd bt (tAt bt no)).Paper,(rd bt (tAt bt no)).Qty,(rd bt (tAt bt no)).Cash,(rd bt (tAt bt no)).Price,(rd bt (tAt bt no)).State⟩).length = 4:=rfl
 have htc:=mQ hok (a:=(rd bt (tAt bt no)).Seller) (c:=(rd bt (tAt bt no)).Paper) (q:=(rd bt (tAt bt no)).Qty) (w:=way)
 dsimp only at htc
 repeat' (first
| intro h9;exfalso;first | contradiction | omega
| (with_reducible apply yds);rfl
| (with_reducible apply yd);rfl
| intro _
| refine nv ?_
| apply wct rfl
| apply wcf rfl
| (with_reducible apply yeq);rfl
| (with_reducible apply yne);rfl
| (with_reducible apply yar);rfl;omega
| (with_reducible apply yix);rfl;omega
| (with_reducible apply yle);rfl;omega
| (with_reducible apply zse);rfl;exact tk;(iterate 6 rfl);omega;rfl;rfl;rfl;rfl;rfl
| refine ua (id:=17) rfl (by kernel_rfl) (.one .p 1 (.one .p 3 (.one .t 0 (.two .o 2 (.one .p 4 (.one .l 5 (.one .p 6 (.one .p 7 .nil)))) .l 5 (.one .o 2 (.one .p 4 (.one .p 6 (.one .p 7 .nil)))))))) [5] (by kernel_rfl) ?_
| (with_reducible apply zt1);rfl
| (with_reducible apply zt2);rfl;rfl
| with_reducible apply zt0
| with_reducible apply uC
| (with_reducible apply ycp);rfl;(first | exact aM | exact cQ | exact bm);rfl
| (with_reducible apply zcs);(iterate 10 rfl);exact gX;exact fun _ => rfl;exact fun _ => rfl;rfl;rfl;rfl;rfl
| (with_reducible apply ycf);rfl;(first | exact bG (by exact BooksOk.midB (by assumption)) | exact pb (by omega) (by omega));rfl
| (with_reducible apply jd  [true,true,true,true,true,true,true]);(iterate 10 rfl);exact ef (by omega);(iterate 6 rfl)
| (with_reducible apply jd  [true,true,true,true,true,true]);(iterate 10 rfl);(first | exact jB | exact gi (by omega));(iterate 6 rfl)
| fail)
 all_goals first
  | (have c2:¬ pN ba bb (bE ⟨(rd bt (tAt bt no)).No,(rd bt (tAt bt no)).Buyer,(rd bt (tAt bt no)).Seller,(rd bt (tAt bt no)).Paper,(rd bt (tAt bt no)).Qty,(rd bt (tAt bt no)).Cash,(rd bt (tAt bt no)).Price,(rd bt (tAt bt no)).State⟩) = 0:=by assumption
     rw [dI (b:=⟨ba,bi,bb,bl,bt,bn⟩) c0 c1 c2]
     exact ak [0,1,2,3,4,15,16,17,18,19] rfl rfl rfl rfl rfl rfl)
  | (have c2:pN ba bb (bE ⟨(rd bt (tAt bt no)).No,(rd bt (tAt bt no)).Buyer,(rd bt (tAt bt no)).Seller,(rd bt (tAt bt no)).Paper,(rd bt (tAt bt no)).Qty,(rd bt (tAt bt no)).Cash,(rd bt (tAt bt no)).Price,(rd bt (tAt bt no)).State⟩) = 0:=by assumption
     have c3:¬ tN bl (rd bt (tAt bt no)).Seller (rd bt (tAt bt no)).Paper (rd bt (tAt bt no)).Qty way = 0:=by assumption
     rw [gx (b:=⟨ba,bi,bb,bl,bt,bn⟩) c0 c1 (fun k => k c2) c3]
     exact ak [0,1,2,3,4,16,17,18,19,20] rfl rfl rfl rfl rfl rfl)
  | (have c2:pN ba bb (bE ⟨(rd bt (tAt bt no)).No,(rd bt (tAt bt no)).Buyer,(rd bt (tAt bt no)).Seller,(rd bt (tAt bt no)).Paper,(rd bt (tAt bt no)).Qty,(rd bt (tAt bt no)).Cash,(rd bt (tAt bt no)).Price,(rd bt (tAt bt no)).State⟩) = 0:=by assumption
     have c3:tN bl (rd bt (tAt bt no)).Seller (rd bt (tAt bt no)).Paper (rd bt (tAt bt no)).Qty way = 0:=by assumption
     have c4:¬ dW (tL bl (rd bt (tAt bt no)).Seller (rd bt (tAt bt no)).Paper (rd bt (tAt bt no)).Qty way) bn (rd bt (tAt bt no)).Buyer (rd bt (tAt bt no)).Paper (rd bt (tAt bt no)).Qty (rd bt (tAt bt no)).Price:=by assumption
     rw [gy (b:=⟨ba,bi,bb,bl,bt,bn⟩) c0 c1 (fun k => k c2) (fun k => k c3) c4]
     exact ak [0,1,2,3,4,17,18,19,20,21] rfl rfl rfl rfl rfl rfl)
  | (have c2:pN ba bb (bE ⟨(rd bt (tAt bt no)).No,(rd bt (tAt bt no)).Buyer,(rd bt (tAt bt no)).Seller,(rd bt (tAt bt no)).Paper,(rd bt (tAt bt no)).Qty,(rd bt (tAt bt no)).Cash,(rd bt (tAt bt no)).Price,(rd bt (tAt bt no)).State⟩) = 0:=by assumption
     have c3:tN bl (rd bt (tAt bt no)).Seller (rd bt (tAt bt no)).Paper (rd bt (tAt bt no)).Qty way = 0:=by assumption
     have c4:dW (tL bl (rd bt (tAt bt no)).Seller (rd bt (tAt bt no)).Paper (rd bt (tAt bt no)).Qty way) bn (rd bt (tAt bt no)).Buyer (rd bt (tAt bt no)).Paper (rd bt (tAt bt no)).Qty (rd bt (tAt bt no)).Price:=by assumption
     rw [gz (b:=⟨ba,bi,bb,bl,bt,bn⟩) c0 c1 (fun k => k c2) (fun k => k c3) (fun k => k c4)]
     dsimp only
     rw [oc]
     exact ak [0,1,2,3,4,7,8,15,17,11] rfl rfl rfl rfl rfl rfl)
  | trace_state
theorem eo {ba:List Account} {bi:List Instr} {bb:List Bal} {bl:List Lot} {bt:List Trade} {bn:Int} {no way:Int}:FC Tryz.prog 71 [bkV 0 ⟨ba,bi,bb,bl,bt,bn⟩,I no,I way] (bkR ⟨ba,bi,bb,bl,bt,bn⟩) (.tup [bkE 5 (ag ⟨ba,bi,bb,bl,bt,bn⟩ no way).1,I (ag ⟨ba,bi,bb,bl,bt,bn⟩ no way).2.1,I (ag ⟨ba,bi,bb,bl,bt,bn⟩ no way).2.2]) (bkR ⟨ba,bi,bb,bl,bt,bn⟩ ++ bkW (ag ⟨ba,bi,bb,bl,bt,bn⟩ no way).1):=by
 refine ax tk 86 [.cell 6 _,.tmp 7,.tmp 8] Tryz.func71 (by kernel_rfl) rfl rfl rfl rfl rfl rfl rfl ?_
 by_cases hok:BooksOk ⟨ba,bi,bb,bl,bt,bn⟩
 rotate_left
 ·
  rw [dG (b:=⟨ba,bi,bb,bl,bt,bn⟩) (fun h => hok h.1)]
  repeat' (first
| intro h9;exfalso;contradiction
| (with_reducible apply al (d:=27) 0 42 2);rfl;rfl;rfl;rfl;rfl
| (with_reducible apply al (d:=27) 1 74 2);rfl;rfl;rfl;rfl;rfl
| (with_reducible apply al (d:=27) 2 135 3);rfl;rfl;rfl;rfl;rfl
| (with_reducible apply al (d:=27) 3 137 5);rfl;rfl;rfl;rfl;rfl
| (with_reducible apply al (d:=27) 4 103 8);rfl;rfl;rfl;rfl;rfl
| (with_reducible apply yd);rfl
| intro _
| refine nv ?_
| apply wct rfl
| (with_reducible apply ycp);rfl;exact ap;rfl
| fail)
  all_goals exact ak [0,1,2,3,4,7,8,9,10,11] rfl rfl rfl rfl rfl rfl
 by_cases hta:aj no ∧ inP way 1 3
 rotate_left
 ·
  rw [dG (b:=⟨ba,bi,bb,bl,bt,bn⟩) (fun h => hta h.2)]
  repeat' (first
| intro h9;exfalso;contradiction
| intro h9;exact absurd ⟨by assumption,by assumption⟩ hta
| (with_reducible apply al (d:=27) 0 42 2);rfl;rfl;rfl;rfl;rfl
| (with_reducible apply al (d:=27) 1 74 2);rfl;rfl;rfl;rfl;rfl
| (with_reducible apply al (d:=27) 2 135 3);rfl;rfl;rfl;rfl;rfl
| (with_reducible apply al (d:=27) 3 137 5);rfl;rfl;rfl;rfl;rfl
| (with_reducible apply al (d:=27) 4 103 8);rfl;rfl;rfl;rfl;rfl
| (with_reducible apply yd);rfl
| intro _
| refine nv ?_
| apply wct rfl
| (with_reducible apply ycp);rfl;(first | exact ap | exact aQ | exact aO);rfl
| fail)
  all_goals exact ak [0,1,2,3,4,7,8,9,10,11] rfl rfl rfl rfl rfl rfl
 have hA:=hok.acc
 have hal:=hA.2
 have hto:=hok.trades
 have htl:=hto.2
 have hbn:=hok.lot
 obtain ⟨k1,k2⟩:=id hta
 dsimp only at hA hal hto htl hbn
 unfold inP at hbn
 have c0:¬ ¬ (BooksOk ⟨ba,bi,bb,bl,bt,bn⟩ ∧ aj no ∧ inP way 1 3):=fun k => k ⟨hok,hta⟩
 by_cases hop:d9 bt no
 rotate_left
 ·
  have hoc:=qL bt no
  rw [dH (b:=⟨ba,bi,bb,bl,bt,bn⟩) c0 hop]
  repeat' (first
| intro h9;exfalso;first | contradiction | omega
| (with_reducible apply yds);rfl
| (with_reducible apply yd);rfl
| intro _
| refine nv ?_
| apply wct rfl
| apply wcf rfl
| (with_reducible apply yne);rfl
| (with_reducible apply ycp);rfl;(first | exact ap | exact aQ | exact aO);rfl
| (with_reducible apply zcs);(iterate 10 rfl);exact dF;exact fun _ => rfl;exact fun _ => rfl;rfl;rfl;rfl;rfl
| (with_reducible apply ycf);rfl;(exact aR (by exact BooksOk.midB (by assumption)));rfl
| fail)
  all_goals exact ak [0,1,2,3,4,7,8,9,10,11] rfl rfl rfl rfl rfl rfl
 have c1:¬ ¬ d9 (⟨ba,bi,bb,bl,bt,bn⟩:Books).Trades no:=fun k => k hop
 obtain ⟨hta1,hta2⟩:=jw hop.1
 obtain ⟨q1,q2,q3,q4,q5,q6,hq,hp,q7⟩:=hto.1 _ hta1 hta2
 have hlg:=tY (t:=(rd bt (tAt bt no))) q2 q3 q4 q5 (by unfold inP at hq;omega) hp
 have hpc:=dX hok hlg
 unfold inP at hq hp
 have hpn:=ix (pN ba bb (bE ⟨(rd bt (tAt bt no)).No,(rd bt (tAt bt no)).Buyer,(rd bt (tAt bt no)).Seller,(rd bt (tAt bt no)).Paper,(rd bt (tAt bt no)).Qty,(rd bt (tAt bt no)).Cash,(rd bt (tAt bt no)).Price,(rd bt (tAt bt no)).State⟩))
 have hsn:=lp (pN ba bb (bE ⟨(rd bt (tAt bt no)).No,(rd bt (tAt bt no)).Buyer,(rd bt (tAt bt no)).Seller,(rd bt (tAt bt no)).Paper,(rd bt (tAt bt no)).Qty,(rd bt (tAt bt no)).Cash,(rd bt (tAt bt no)).Price,(rd bt (tAt bt no)).State⟩))
 have hT4:(bE ⟨(rd bt (tAt bt no)).No,(rd bt (tAt bt no)).Buyer,(rd bt (tAt bt no)).Seller,(rd bt (tAt bt no)).Paper,(rd bt (tAt bt no)).Qty,(rd bt (tAt bt no)).Cash,(rd bt (tAt bt no)).Price,(rd bt (tAt bt no)).State⟩).length = 4:=rfl
 have htc:=mQ hok (a:=(rd bt (tAt bt no)).Seller) (c:=(rd bt (tAt bt no)).Paper) (q:=(rd bt (tAt bt no)).Qty) (w:=way)
 dsimp only at htc
 have hpp:pick ((rd bt (tAt bt no)).Price < 0) (tC bl (rd bt (tAt bt no)).Seller (rd bt (tAt bt no)).Paper (rd bt (tAt bt no)).Qty way) (rd bt (tAt bt no)).Price = (rd bt (tAt bt no)).Price:=aC (by omega)
 by_cases c3:tN bl (rd bt (tAt bt no)).Seller (rd bt (tAt bt no)).Paper (rd bt (tAt bt no)).Qty way = 0
 rotate_left
 ·
  repeat' (first
| intro h9;exfalso;first | contradiction | omega
| (with_reducible apply yds);rfl
| (with_reducible apply yd);rfl
| intro _
| refine nv ?_
| apply wct rfl
| apply wcf rfl
| (with_reducible apply yeq);rfl
| (with_reducible apply yne);rfl
| (with_reducible apply yix);rfl;omega
| (with_reducible apply yle);rfl;omega
| refine ua (id:=8) rfl (by kernel_rfl) (.one .t 0 (.one .t 2 (.two .o 1 (.two .o 3 (.two .l 4 (.one .p 5 (.one .p 6 (.one .p 7 (.one .o 8 (.one .l 9 (.one .p 10 .nil)))))) .o 8 (.one .l 4 (.one .p 5 (.one .p 6 (.one .p 7 (.one .l 9 (.one .p 10 .nil))))))) .o 8 (.one .o 3 (.one .l 4 (.one .p 5 (.one .p 6 (.one .p 7 (.one .l 9 (.one .p 10 .nil)))))))) .o 8 (.one .o 1 (.one .o 3 (.one .l 4 (.one .p 5 (.one .p 6 (.one .p 7 (.one .l 9 (.one .p 10 .nil))))))))))) [4,9] (by kernel_rfl) ?_
| (with_reducible apply zt1);rfl
| (with_reducible apply zt2);rfl;rfl
| with_reducible apply zt0
| with_reducible apply uC
| (with_reducible apply ycp);rfl;(first | exact ap | exact aQ | exact aO);rfl
| (with_reducible apply zcs);(iterate 10 rfl);exact dF;exact fun _ => rfl;exact fun _ => rfl;rfl;rfl;rfl;rfl
| (with_reducible apply ycf);rfl;(first | exact aR (by exact BooksOk.midB (by assumption)) | exact iG (by omega) (by omega));rfl
| (with_reducible apply jd  [true,true,true,true,true,false]);(iterate 10 rfl);exact db (by omega);(iterate 6 rfl)
| (with_reducible apply ycw  [true,true,true,true,true]);rfl;(exact kJ (by omega) (by assumption));rfl
| fail)
  all_goals first
   | (have c2:¬ pN ba bb (bE ⟨(rd bt (tAt bt no)).No,(rd bt (tAt bt no)).Buyer,(rd bt (tAt bt no)).Seller,(rd bt (tAt bt no)).Paper,(rd bt (tAt bt no)).Qty,(rd bt (tAt bt no)).Cash,(rd bt (tAt bt no)).Price,(rd bt (tAt bt no)).State⟩) = 0:=by assumption
      rw [dI (b:=⟨ba,bi,bb,bl,bt,bn⟩) c0 c1 c2,← nM hpc]
      exact ak [0,1,2,3,4,15,16,17,18,19] rfl rfl rfl rfl rfl rfl)
   | (have c2:pN ba bb (bE ⟨(rd bt (tAt bt no)).No,(rd bt (tAt bt no)).Buyer,(rd bt (tAt bt no)).Seller,(rd bt (tAt bt no)).Paper,(rd bt (tAt bt no)).Qty,(rd bt (tAt bt no)).Cash,(rd bt (tAt bt no)).Price,(rd bt (tAt bt no)).State⟩) = 0:=by assumption
      rw [gx (b:=⟨ba,bi,bb,bl,bt,bn⟩) c0 c1 (fun k => k c2) c3]
      exact ak [0,1,2,3,4,16,17,18,19,20] rfl rfl rfl rfl rfl rfl)
   | trace_state
 by_cases c4:dW (tL bl (rd bt (tAt bt no)).Seller (rd bt (tAt bt no)).Paper (rd bt (tAt bt no)).Qty way) bn (rd bt (tAt bt no)).Buyer (rd bt (tAt bt no)).Paper (rd bt (tAt bt no)).Qty (pick ((rd bt (tAt bt no)).Price < 0) (tC bl (rd bt (tAt bt no)).Seller (rd bt (tAt bt no)).Paper (rd bt (tAt bt no)).Qty way) (rd bt (tAt bt no)).Price)
 rotate_left
 ·
  repeat' (first
| intro h9;exfalso;first | contradiction | omega
| (with_reducible apply yds);rfl
| (with_reducible apply yd);rfl
| intro _
| refine nv ?_
| apply wct rfl
| apply wcf rfl
| (with_reducible apply yeq);rfl
| (with_reducible apply yne);rfl
| (with_reducible apply yix);rfl;omega
| (with_reducible apply yle);rfl;omega
| refine ua (id:=8) rfl (by kernel_rfl) (.one .t 0 (.one .t 2 (.two .o 1 (.two .o 3 (.two .l 4 (.one .p 5 (.one .p 6 (.one .p 7 (.one .o 8 (.one .l 9 (.one .p 10 .nil)))))) .o 8 (.one .l 4 (.one .p 5 (.one .p 6 (.one .p 7 (.one .l 9 (.one .p 10 .nil))))))) .o 8 (.one .o 3 (.one .l 4 (.one .p 5 (.one .p 6 (.one .p 7 (.one .l 9 (.one .p 10 .nil)))))))) .o 8 (.one .o 1 (.one .o 3 (.one .l 4 (.one .p 5 (.one .p 6 (.one .p 7 (.one .l 9 (.one .p 10 .nil))))))))))) [4,9] (by kernel_rfl) ?_
| (with_reducible apply zt1);rfl
| (with_reducible apply zt2);rfl;rfl
| with_reducible apply zt0
| with_reducible apply uC
| (with_reducible apply ycp);rfl;(first | exact ap | exact aQ | exact aO);rfl
| (with_reducible apply zcs);(iterate 10 rfl);exact dF;exact fun _ => rfl;exact fun _ => rfl;rfl;rfl;rfl;rfl
| (with_reducible apply ycf);rfl;(first | exact aR (by exact BooksOk.midB (by assumption)) | exact iG (by omega) (by omega));rfl
| (with_reducible apply jd  [true,true,true,true,true,false]);(iterate 10 rfl);exact db (by omega);(iterate 6 rfl)
| (with_reducible apply ycw  [true,true,true,true,true]);rfl;(exact kI (by omega) (by assumption) (by assumption));rfl
| fail)
  all_goals first
   | (have c2:¬ pN ba bb (bE ⟨(rd bt (tAt bt no)).No,(rd bt (tAt bt no)).Buyer,(rd bt (tAt bt no)).Seller,(rd bt (tAt bt no)).Paper,(rd bt (tAt bt no)).Qty,(rd bt (tAt bt no)).Cash,(rd bt (tAt bt no)).Price,(rd bt (tAt bt no)).State⟩) = 0:=by assumption
      rw [dI (b:=⟨ba,bi,bb,bl,bt,bn⟩) c0 c1 c2,← nM hpc]
      exact ak [0,1,2,3,4,15,16,17,18,19] rfl rfl rfl rfl rfl rfl)
   | (have c2:pN ba bb (bE ⟨(rd bt (tAt bt no)).No,(rd bt (tAt bt no)).Buyer,(rd bt (tAt bt no)).Seller,(rd bt (tAt bt no)).Paper,(rd bt (tAt bt no)).Qty,(rd bt (tAt bt no)).Cash,(rd bt (tAt bt no)).Price,(rd bt (tAt bt no)).State⟩) = 0:=by assumption
      rw [hpp] at c4
      rw [gy (b:=⟨ba,bi,bb,bl,bt,bn⟩) c0 c1 (fun k => k c2) (fun k => k c3) c4]
      exact ak [0,1,2,3,4,17,18,19,20,21] rfl rfl rfl rfl rfl rfl)
   | trace_state
 repeat' (first
| intro h9;exfalso;first | contradiction | omega
| (with_reducible apply yds);rfl
| (with_reducible apply yd);rfl
| intro _
| refine nv ?_
| apply wct rfl
| apply wcf rfl
| (with_reducible apply yeq);rfl
| (with_reducible apply yne);rfl
| (with_reducible apply yar);rfl;omega
| (with_reducible apply yix);rfl;omega
| (with_reducible apply yle);rfl;omega
| (with_reducible apply zse);rfl;exact tk;(iterate 6 rfl);omega;rfl;rfl;rfl;rfl;rfl
| refine ua (id:=8) rfl (by kernel_rfl) (.one .t 0 (.one .t 2 (.two .o 1 (.two .o 3 (.two .l 4 (.one .p 5 (.one .p 6 (.one .p 7 (.one .o 8 (.one .l 9 (.one .p 10 .nil)))))) .o 8 (.one .l 4 (.one .p 5 (.one .p 6 (.one .p 7 (.one .l 9 (.one .p 10 .nil))))))) .o 8 (.one .o 3 (.one .l 4 (.one .p 5 (.one .p 6 (.one .p 7 (.one .l 9 (.one .p 10 .nil)))))))) .o 8 (.one .o 1 (.one .o 3 (.one .l 4 (.one .p 5 (.one .p 6 (.one .p 7 (.one .l 9 (.one .p 10 .nil))))))))))) [4,9] (by kernel_rfl) ?_
| refine ua (id:=14) rfl (by kernel_rfl) (.one .p 1 (.one .p 3 (.one .t 0 (.two .o 2 (.one .p 4 (.one .l 5 (.one .p 6 (.one .p 7 .nil)))) .l 5 (.one .o 2 (.one .p 4 (.one .p 6 (.one .p 7 .nil)))))))) [5] (by kernel_rfl) ?_
| (with_reducible apply zt1);rfl
| (with_reducible apply zt2);rfl;rfl
| with_reducible apply zt0
| with_reducible apply uC
| (with_reducible apply ycp);rfl;(first | exact ap | exact aQ | exact aO);rfl
| (with_reducible apply zcs);(iterate 10 rfl);exact dF;exact fun _ => rfl;exact fun _ => rfl;rfl;rfl;rfl;rfl
| (with_reducible apply ycf);rfl;(first | exact aR (by exact BooksOk.midB (by assumption)) | exact iG (by omega) (by omega));rfl
| (with_reducible apply jd  [true,true,true,true,true,false]);(iterate 10 rfl);exact db (by omega);(iterate 6 rfl)
| (with_reducible apply ycw  [true,true,true,true,true]);rfl;(exact kH (by omega) (by assumption) (by assumption));rfl
| fail)
 all_goals first
  | (have c2:¬ pN ba bb (bE ⟨(rd bt (tAt bt no)).No,(rd bt (tAt bt no)).Buyer,(rd bt (tAt bt no)).Seller,(rd bt (tAt bt no)).Paper,(rd bt (tAt bt no)).Qty,(rd bt (tAt bt no)).Cash,(rd bt (tAt bt no)).Price,(rd bt (tAt bt no)).State⟩) = 0:=by assumption
     rw [dI (b:=⟨ba,bi,bb,bl,bt,bn⟩) c0 c1 c2,← nM hpc]
     exact ak [0,1,2,3,4,15,16,17,18,19] rfl rfl rfl rfl rfl rfl)
  | (have c2:pN ba bb (bE ⟨(rd bt (tAt bt no)).No,(rd bt (tAt bt no)).Buyer,(rd bt (tAt bt no)).Seller,(rd bt (tAt bt no)).Paper,(rd bt (tAt bt no)).Qty,(rd bt (tAt bt no)).Cash,(rd bt (tAt bt no)).Price,(rd bt (tAt bt no)).State⟩) = 0:=by assumption
     have c5:=c4
     rw [hpp] at c5 ⊢
     rw [gz (b:=⟨ba,bi,bb,bl,bt,bn⟩) c0 c1 (fun k => k c2) (fun k => k c3) (fun k => k c5)]
     dsimp only
     rw [oc]
     first
      | exact ak [0,1,2,3,4,8,9,14,16,12] rfl rfl rfl rfl rfl rfl
      | exact ak [0,1,2,3,4,8,9,15,16,12] rfl rfl rfl rfl rfl rfl
      | exact ak [0,1,2,3,4,9,10,15,16,13] rfl rfl rfl rfl rfl rfl)
  | trace_state
end
section
open Go.RowKit
noncomputable def bh (b:Books) (no ki:Int):Books × Int :=
 sel (¬ (BooksOk b ∧ aj no ∧ inP ki 1 4)) (⟨[],[],[],[],[],0⟩,1)
 (sel (a9 b.Accounts no ≠ 0) (b,2)
 (sel (20 ≤ b.Accounts.length) (b,7)
 (⟨io b.Accounts ⟨no,ki⟩,b.Instrs,b.Bals,b.Lots,b.Trades,b.Lot⟩,0)))
theorem ld {b:Books} {no ki:Int}  (c0:¬ (BooksOk b ∧ aj no ∧ inP ki 1 4)):bh b no ki = (⟨[],[],[],[],[],0⟩,1):=by
 rw [bh,au c0]
theorem pS {b:Books} {no ki:Int} (c0:¬ (¬ (BooksOk b ∧ aj no ∧ inP ki 1 4))) (c1:a9 b.Accounts no ≠ 0):bh b no ki = (b,2):=by
 rw [bh,ab c0,au c1]
theorem pT {b:Books} {no ki:Int} (c0:¬ (¬ (BooksOk b ∧ aj no ∧ inP ki 1 4))) (c1:¬ (a9 b.Accounts no ≠ 0)) (c2:20 ≤ b.Accounts.length):bh b no ki = (b,7):=by
 rw [bh,ab c0,ab c1,au c2]
theorem pU {b:Books} {no ki:Int} (c0:¬ (¬ (BooksOk b ∧ aj no ∧ inP ki 1 4))) (c1:¬ (a9 b.Accounts no ≠ 0)) (c2:¬ (20 ≤ b.Accounts.length)):bh b no ki = (⟨io b.Accounts ⟨no,ki⟩,b.Instrs,b.Bals,b.Lots,b.Trades,b.Lot⟩,0):=by
 rw [bh,ab c0,ab c1,ab c2]
theorem nC {ba:List Account} {bi:List Instr} {bb:List Bal} {bl:List Lot} {bt:List Trade} {bn:Int} {no ki:Int}:FC Tryz.prog 157 [bkV 0 ⟨ba,bi,bb,bl,bt,bn⟩,I no,I ki] (bkR ⟨ba,bi,bb,bl,bt,bn⟩) (.tup [bkE 5 (bh ⟨ba,bi,bb,bl,bt,bn⟩ no ki).1,I (bh ⟨ba,bi,bb,bl,bt,bn⟩ no ki).2]) (bkR ⟨ba,bi,bb,bl,bt,bn⟩ ++ bkW (bh ⟨ba,bi,bb,bl,bt,bn⟩ no ki).1):=by
 refine ax tk 48 [.cell 6 _,.tmp 7] Tryz.func157 (by kernel_rfl) rfl rfl rfl rfl rfl rfl rfl ?_
 by_cases hok:BooksOk ⟨ba,bi,bb,bl,bt,bn⟩
 rotate_left
 ·
  rw [ld (b:=⟨ba,bi,bb,bl,bt,bn⟩) (fun h => hok h.1)]
  repeat' (first
| intro h9;exfalso;contradiction
| apply al (d:=24) 0 42 2;rfl;rfl;rfl;rfl;rfl
| apply al (d:=24) 1 74 2;rfl;rfl;rfl;rfl;rfl
| apply al (d:=24) 2 135 3;rfl;rfl;rfl;rfl;rfl
| apply al (d:=24) 3 137 5;rfl;rfl;rfl;rfl;rfl
| apply al (d:=24) 4 103 8;rfl;rfl;rfl;rfl;rfl
| apply yd;rfl
| intro _
| refine nv ?_
| apply wct rfl
| apply ycp;rfl;exact ap;rfl
| fail)
  all_goals exact ak [0,1,2,3,4,7,8,9,10,11] rfl rfl rfl rfl rfl rfl
 by_cases hta:aj no ∧ inP ki 1 4
 rotate_left
 ·
  rw [ld (b:=⟨ba,bi,bb,bl,bt,bn⟩) (fun h => hta h.2)]
  repeat' (first
| intro h9;exfalso;contradiction
| intro h9;exact absurd ⟨by assumption,by assumption⟩ hta
| apply al (d:=24) 0 42 2;rfl;rfl;rfl;rfl;rfl
| apply al (d:=24) 1 74 2;rfl;rfl;rfl;rfl;rfl
| apply al (d:=24) 2 135 3;rfl;rfl;rfl;rfl;rfl
| apply al (d:=24) 3 137 5;rfl;rfl;rfl;rfl;rfl
| apply al (d:=24) 4 103 8;rfl;rfl;rfl;rfl;rfl
| apply yd;rfl
| intro _
| refine nv ?_
| apply wct rfl
| apply ycp;rfl;(first | exact ap | exact aQ | exact aO);rfl
| fail)
  all_goals exact ak [0,1,2,3,4,7,8,9,10,11] rfl rfl rfl rfl rfl rfl
 have hA:aU ba:=hok.acc
 have hal:=hA.2
 have c0:¬ ¬ (BooksOk ⟨ba,bi,bb,bl,bt,bn⟩ ∧ aj no ∧ inP ki 1 4):=fun k => k ⟨hok,hta⟩
 obtain ⟨k1,k2⟩:=id hta
 have hki:=ud (no:=no) hA
 by_cases c1:a9 ba no ≠ 0
 rw [pS (b:=⟨ba,bi,bb,bl,bt,bn⟩) c0 c1]
 rotate_left
 have hne:∀ j:Int,0 ≤ j → j < ba.length → (rd ba j).No ≠ no:=by
  rcases hki with q | q
  ·exact q.2
  ·exact absurd q.1 (by omega)
 have hio:=xe (x:=⟨no,ki⟩) hA hne k1 k2
 by_cases c2:20 ≤ ba.length
 have hno:¬ aU (io ba ⟨no,ki⟩):=fun k => by have:=hio.1 k;omega
 rw [pT (b:=⟨ba,bi,bb,bl,bt,bn⟩) c0 c1 c2]
 rotate_left
 have hyes:aU (io ba ⟨no,ki⟩):=hio.2 (by omega)
 rw [pU (b:=⟨ba,bi,bb,bl,bt,bn⟩) c0 c1 c2]
 repeat' (first
| intro h9;exfalso;first | contradiction | omega
| apply yds;rfl
| apply yd;rfl
| intro _
| refine nv ?_
| apply wct rfl
| apply wcf rfl
| apply ai;rfl
| apply ycp;rfl;(first | exact ap | exact aQ | exact aO);rfl
| apply ycf;rfl;exact aR (by exact BooksOk.midB (by assumption));rfl
| apply ycq;rfl;exact aX;rfl
| apply mT;(iterate 10 rfl);exact ig (by assumption);(iterate 8 rfl)
| fail)
 all_goals first | exact ak [0,1,2,3,4,7,8,9,10,11] rfl rfl rfl rfl rfl rfl | exact ak [0,1,2,3,4,13,8,9,10,11] rfl rfl rfl rfl rfl rfl
noncomputable def bI (b:Books) (no ki:Int):Books × Int :=
 sel (¬ (BooksOk b ∧ aj no ∧ inP ki 1 2)) (⟨[],[],[],[],[],0⟩,1)
 (sel (aa b.Instrs no ≠ 0) (b,2)
 (sel (8 ≤ b.Instrs.length) (b,7)
 (⟨b.Accounts,iu b.Instrs ⟨no,ki⟩,b.Bals,b.Lots,b.Trades,b.Lot⟩,0)))
theorem nI {b:Books} {no ki:Int}  (c0:¬ (BooksOk b ∧ aj no ∧ inP ki 1 2)):bI b no ki = (⟨[],[],[],[],[],0⟩,1):=by
 rw [bI,au c0]
theorem sq {b:Books} {no ki:Int} (c0:¬ (¬ (BooksOk b ∧ aj no ∧ inP ki 1 2))) (c1:aa b.Instrs no ≠ 0):bI b no ki = (b,2):=by
 rw [bI,ab c0,au c1]
theorem su {b:Books} {no ki:Int} (c0:¬ (¬ (BooksOk b ∧ aj no ∧ inP ki 1 2))) (c1:¬ (aa b.Instrs no ≠ 0)) (c2:8 ≤ b.Instrs.length):bI b no ki = (b,7):=by
 rw [bI,ab c0,ab c1,au c2]
theorem sw {b:Books} {no ki:Int} (c0:¬ (¬ (BooksOk b ∧ aj no ∧ inP ki 1 2))) (c1:¬ (aa b.Instrs no ≠ 0)) (c2:¬ (8 ≤ b.Instrs.length)):bI b no ki = (⟨b.Accounts,iu b.Instrs ⟨no,ki⟩,b.Bals,b.Lots,b.Trades,b.Lot⟩,0):=by
 rw [bI,ab c0,ab c1,ab c2]
theorem pD {ba:List Account} {bi:List Instr} {bb:List Bal} {bl:List Lot} {bt:List Trade} {bn:Int} {no ki:Int}:FC Tryz.prog 158 [bkV 0 ⟨ba,bi,bb,bl,bt,bn⟩,I no,I ki] (bkR ⟨ba,bi,bb,bl,bt,bn⟩) (.tup [bkE 5 (bI ⟨ba,bi,bb,bl,bt,bn⟩ no ki).1,I (bI ⟨ba,bi,bb,bl,bt,bn⟩ no ki).2]) (bkR ⟨ba,bi,bb,bl,bt,bn⟩ ++ bkW (bI ⟨ba,bi,bb,bl,bt,bn⟩ no ki).1):=by
 refine ax tk 48 [.cell 6 _,.tmp 7] Tryz.func158 (by kernel_rfl) rfl rfl rfl rfl rfl rfl rfl ?_
 by_cases hok:BooksOk ⟨ba,bi,bb,bl,bt,bn⟩
 rotate_left
 ·
  rw [nI (b:=⟨ba,bi,bb,bl,bt,bn⟩) (fun h => hok h.1)]
  repeat' (first
| intro h9;exfalso;contradiction
| apply al (d:=24) 0 42 2;rfl;rfl;rfl;rfl;rfl
| apply al (d:=24) 1 74 2;rfl;rfl;rfl;rfl;rfl
| apply al (d:=24) 2 135 3;rfl;rfl;rfl;rfl;rfl
| apply al (d:=24) 3 137 5;rfl;rfl;rfl;rfl;rfl
| apply al (d:=24) 4 103 8;rfl;rfl;rfl;rfl;rfl
| apply yd;rfl
| intro _
| refine nv ?_
| apply wct rfl
| apply ycp;rfl;exact ap;rfl
| fail)
  all_goals exact ak [0,1,2,3,4,7,8,9,10,11] rfl rfl rfl rfl rfl rfl
 by_cases hta:aj no ∧ inP ki 1 2
 rotate_left
 ·
  rw [nI (b:=⟨ba,bi,bb,bl,bt,bn⟩) (fun h => hta h.2)]
  repeat' (first
| intro h9;exfalso;contradiction
| intro h9;exact absurd ⟨by assumption,by assumption⟩ hta
| apply al (d:=24) 0 42 2;rfl;rfl;rfl;rfl;rfl
| apply al (d:=24) 1 74 2;rfl;rfl;rfl;rfl;rfl
| apply al (d:=24) 2 135 3;rfl;rfl;rfl;rfl;rfl
| apply al (d:=24) 3 137 5;rfl;rfl;rfl;rfl;rfl
| apply al (d:=24) 4 103 8;rfl;rfl;rfl;rfl;rfl
| apply yd;rfl
| intro _
| refine nv ?_
| apply wct rfl
| apply ycp;rfl;(first | exact ap | exact aQ | exact aO);rfl
| fail)
  all_goals exact ak [0,1,2,3,4,7,8,9,10,11] rfl rfl rfl rfl rfl rfl
 have hA:bH bi:=hok.ins
 have hal:=hA.2
 have c0:¬ ¬ (BooksOk ⟨ba,bi,bb,bl,bt,bn⟩ ∧ aj no ∧ inP ki 1 2):=fun k => k ⟨hok,hta⟩
 obtain ⟨k1,k2⟩:=id hta
 have hki:=gZ (no:=no) hA
 by_cases c1:aa bi no ≠ 0
 rw [sq (b:=⟨ba,bi,bb,bl,bt,bn⟩) c0 c1]
 rotate_left
 have hne:∀ j:Int,0 ≤ j → j < bi.length → (rd bi j).No ≠ no:=by
  rcases hki with q | q
  ·exact q.2
  ·exact absurd q.1 (by omega)
 have hio:=y1 (x:=⟨no,ki⟩) hA hne k1 k2
 by_cases c2:8 ≤ bi.length
 have hno:¬ bH (iu bi ⟨no,ki⟩):=fun k => by have:=hio.1 k;omega
 rw [su (b:=⟨ba,bi,bb,bl,bt,bn⟩) c0 c1 c2]
 rotate_left
 have hyes:bH (iu bi ⟨no,ki⟩):=hio.2 (by omega)
 rw [sw (b:=⟨ba,bi,bb,bl,bt,bn⟩) c0 c1 c2]
 repeat' (first
| intro h9;exfalso;first | contradiction | omega
| apply yds;rfl
| apply yd;rfl
| intro _
| refine nv ?_
| apply wct rfl
| apply wcf rfl
| apply ai;rfl
| apply ycp;rfl;(first | exact ap | exact aQ | exact aO);rfl
| apply ycf;rfl;exact aR (by exact BooksOk.midB (by assumption));rfl
| apply ycq;rfl;exact b8;rfl
| apply mT;(iterate 10 rfl);exact nE (by assumption);(iterate 8 rfl)
| fail)
 all_goals first | exact ak [0,1,2,3,4,7,8,9,10,11] rfl rfl rfl rfl rfl rfl | exact ak [0,1,2,3,4,7,13,9,10,11] rfl rfl rfl rfl rfl rfl
noncomputable def az (b:Books) (no:Int):Books × Int :=
 sel (¬ (BooksOk b ∧ aj no)) (⟨[],[],[],[],[],0⟩,1)
 (sel (¬ d9 b.Trades no) (b,oC b.Trades no)
 (⟨b.Accounts,b.Instrs,b.Bals,b.Lots,upd b.Trades (tAt b.Trades no) (stT (rd b.Trades (tAt b.Trades no)) 3),b.Lot⟩,0))
theorem gw {b:Books} {no:Int}  (c0:¬ (BooksOk b ∧ aj no)):az b no = (⟨[],[],[],[],[],0⟩,1):=by
 rw [az,au c0]
theorem ji {b:Books} {no:Int} (c0:¬ (¬ (BooksOk b ∧ aj no))) (c1:¬ d9 b.Trades no):az b no = (b,oC b.Trades no):=by
 rw [az,ab c0,au c1]
theorem jk {b:Books} {no:Int} (c0:¬ (¬ (BooksOk b ∧ aj no))) (c1:¬ (¬ d9 b.Trades no)):az b no = (⟨b.Accounts,b.Instrs,b.Bals,b.Lots,upd b.Trades (tAt b.Trades no) (stT (rd b.Trades (tAt b.Trades no)) 3),b.Lot⟩,0):=by
 rw [az,ab c0,ab c1]
theorem jA {ba:List Account} {bi:List Instr} {bb:List Bal} {bl:List Lot} {bt:List Trade} {bn:Int} {no:Int}:FC Tryz.prog 73 [bkV 0 ⟨ba,bi,bb,bl,bt,bn⟩,I no] (bkR ⟨ba,bi,bb,bl,bt,bn⟩) (.tup [bkE 5 (az ⟨ba,bi,bb,bl,bt,bn⟩ no).1,I (az ⟨ba,bi,bb,bl,bt,bn⟩ no).2]) (bkR ⟨ba,bi,bb,bl,bt,bn⟩ ++ bkW (az ⟨ba,bi,bb,bl,bt,bn⟩ no).1):=by
 refine ax tk 35 [.cell 4 _,.tmp 5] Tryz.func73 (by kernel_rfl) rfl rfl rfl rfl rfl rfl rfl ?_
 by_cases hok:BooksOk ⟨ba,bi,bb,bl,bt,bn⟩
 rotate_left
 ·
  rw [gw (b:=⟨ba,bi,bb,bl,bt,bn⟩) (fun h => hok h.1)]
  repeat' (first
| intro h9;exfalso;contradiction
| apply al (d:=17) 0 42 2;rfl;rfl;rfl;rfl;rfl
| apply al (d:=17) 1 74 2;rfl;rfl;rfl;rfl;rfl
| apply al (d:=17) 2 135 3;rfl;rfl;rfl;rfl;rfl
| apply al (d:=17) 3 137 5;rfl;rfl;rfl;rfl;rfl
| apply al (d:=17) 4 103 8;rfl;rfl;rfl;rfl;rfl
| apply yd;rfl
| intro _
| refine nv ?_
| apply wct rfl
| apply ycp;rfl;exact aM;rfl
| fail)
  all_goals exact ak [0,1,2,3,4,7,8,9,10,11] rfl rfl rfl rfl rfl rfl
 by_cases hta:aj no
 rotate_left
 ·
  rw [gw (b:=⟨ba,bi,bb,bl,bt,bn⟩) (fun h => hta h.2)]
  repeat' (first
| intro h9;exfalso;contradiction
| apply al (d:=17) 0 42 2;rfl;rfl;rfl;rfl;rfl
| apply al (d:=17) 1 74 2;rfl;rfl;rfl;rfl;rfl
| apply al (d:=17) 2 135 3;rfl;rfl;rfl;rfl;rfl
| apply al (d:=17) 3 137 5;rfl;rfl;rfl;rfl;rfl
| apply al (d:=17) 4 103 8;rfl;rfl;rfl;rfl;rfl
| apply yd;rfl
| intro _
| refine nv ?_
| apply wct rfl
| apply ycp;rfl;(first | exact aM | exact cQ);rfl
| fail)
  all_goals exact ak [0,1,2,3,4,7,8,9,10,11] rfl rfl rfl rfl rfl rfl
 have htl:=hok.trades.2
 dsimp only at htl
 have c0:¬ ¬ (BooksOk ⟨ba,bi,bb,bl,bt,bn⟩ ∧ aj no):=fun k => k ⟨hok,hta⟩
 by_cases hop:d9 bt no
 rotate_left
 have hoc:=qL bt no
 rw [ji (b:=⟨ba,bi,bb,bl,bt,bn⟩) c0 hop]
 rotate_left
 obtain ⟨hta1,hta2⟩:=jw hop.1
 rw [jk (b:=⟨ba,bi,bb,bl,bt,bn⟩) c0 (fun k => k hop)]
 repeat' (first
| intro h9;exfalso;first | contradiction | omega
| apply yds;rfl
| apply yd;rfl
| intro _
| refine nv ?_
| apply wct rfl
| apply wcf rfl
| apply yeq;rfl
| apply yix;rfl;omega
| apply zse;rfl;exact tk;(iterate 6 rfl);omega;rfl;rfl;rfl;rfl;rfl
| apply ycp;rfl;(first | exact aM | exact cQ);rfl
| apply ycf;rfl;exact bG (by exact BooksOk.midB (by assumption));rfl
| apply zcs;(iterate 10 rfl);exact gX;exact fun _ => rfl;exact fun _ => rfl;rfl;rfl;rfl;rfl
| fail)
 all_goals first
  | exact ak [0,1,2,3,4,7,8,9,10,11] rfl rfl rfl rfl rfl rfl | exact ak [0,1,2,3,4,8,9,10,11,12] rfl rfl rfl rfl rfl rfl
  | (dsimp only
     rw [oc]
     exact ak [0,1,2,3,4,7,8,9,10,11] rfl rfl rfl rfl rfl rfl)
  | (exfalso;omega)
  | trace_state
theorem nY {ba:List Account} {bi:List Instr} {bb:List Bal} {bl:List Lot} {bt:List Trade} {bn:Int} {no:Int}:FC Tryz.prog 159 [bkV 0 ⟨ba,bi,bb,bl,bt,bn⟩,I no] (bkR ⟨ba,bi,bb,bl,bt,bn⟩) (.tup [bkE 5 (az ⟨ba,bi,bb,bl,bt,bn⟩ no).1,I (az ⟨ba,bi,bb,bl,bt,bn⟩ no).2]) (bkR ⟨ba,bi,bb,bl,bt,bn⟩ ++ bkW (az ⟨ba,bi,bb,bl,bt,bn⟩ no).1):=by
 refine ax tk 35 [.cell 4 _,.tmp 5] Tryz.func159 (by kernel_rfl) rfl rfl rfl rfl rfl rfl rfl ?_
 by_cases hok:BooksOk ⟨ba,bi,bb,bl,bt,bn⟩
 rotate_left
 ·
  rw [gw (b:=⟨ba,bi,bb,bl,bt,bn⟩) (fun h => hok h.1)]
  repeat' (first
| intro h9;exfalso;contradiction
| apply al (d:=17) 0 42 2;rfl;rfl;rfl;rfl;rfl
| apply al (d:=17) 1 74 2;rfl;rfl;rfl;rfl;rfl
| apply al (d:=17) 2 135 3;rfl;rfl;rfl;rfl;rfl
| apply al (d:=17) 3 137 5;rfl;rfl;rfl;rfl;rfl
| apply al (d:=17) 4 103 8;rfl;rfl;rfl;rfl;rfl
| apply yd;rfl
| intro _
| refine nv ?_
| apply wct rfl
| apply ycp;rfl;exact ap;rfl
| fail)
  all_goals exact ak [0,1,2,3,4,7,8,9,10,11] rfl rfl rfl rfl rfl rfl
 by_cases hta:aj no
 rotate_left
 ·
  rw [gw (b:=⟨ba,bi,bb,bl,bt,bn⟩) (fun h => hta h.2)]
  repeat' (first
| intro h9;exfalso;contradiction
| apply al (d:=17) 0 42 2;rfl;rfl;rfl;rfl;rfl
| apply al (d:=17) 1 74 2;rfl;rfl;rfl;rfl;rfl
| apply al (d:=17) 2 135 3;rfl;rfl;rfl;rfl;rfl
| apply al (d:=17) 3 137 5;rfl;rfl;rfl;rfl;rfl
| apply al (d:=17) 4 103 8;rfl;rfl;rfl;rfl;rfl
| apply yd;rfl
| intro _
| refine nv ?_
| apply wct rfl
| apply ycp;rfl;(first | exact ap | exact aQ);rfl
| fail)
  all_goals exact ak [0,1,2,3,4,7,8,9,10,11] rfl rfl rfl rfl rfl rfl
 have htl:=hok.trades.2
 dsimp only at htl
 have c0:¬ ¬ (BooksOk ⟨ba,bi,bb,bl,bt,bn⟩ ∧ aj no):=fun k => k ⟨hok,hta⟩
 by_cases hop:d9 bt no
 rotate_left
 have hoc:=qL bt no
 rw [ji (b:=⟨ba,bi,bb,bl,bt,bn⟩) c0 hop]
 rotate_left
 obtain ⟨hta1,hta2⟩:=jw hop.1
 rw [jk (b:=⟨ba,bi,bb,bl,bt,bn⟩) c0 (fun k => k hop)]
 repeat' (first
| intro h9;exfalso;first | contradiction | omega
| apply yds;rfl
| apply yd;rfl
| intro _
| refine nv ?_
| apply wct rfl
| apply wcf rfl
| apply yeq;rfl
| apply yix;rfl;omega
| apply zse;rfl;exact tk;(iterate 6 rfl);omega;rfl;rfl;rfl;rfl;rfl
| apply ycp;rfl;(first | exact ap | exact aQ);rfl
| apply ycf;rfl;exact aR (by exact BooksOk.midB (by assumption));rfl
| apply zcs;(iterate 10 rfl);exact dF;exact fun _ => rfl;exact fun _ => rfl;rfl;rfl;rfl;rfl
| fail)
 all_goals first
  | exact ak [0,1,2,3,4,7,8,9,10,11] rfl rfl rfl rfl rfl rfl | exact ak [0,1,2,3,4,8,9,10,11,12] rfl rfl rfl rfl rfl rfl
  | (dsimp only
     rw [oc]
     exact ak [0,1,2,3,4,7,8,9,10,11] rfl rfl rfl rfl rfl rfl)
  | (exfalso;omega)
  | trace_state
end
end Go.Proofs.YtgehbhkfehmdkaaGreat.Sh
