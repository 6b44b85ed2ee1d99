/- Trades are settled: both sides. No condition. -/
import Derived.Test.YtgehbhkfehmdkaaGreatKCeShV
import Derived.Test.YtgehbhkfehmdkaaGreatKCeShBk
import Derived.Test.YtgehbhkfehmdkaaGreatKCeShNt
import Derived.Test.YtgehbhkfehmdkaaGreatKCeShDr
set_option maxRecDepth 100000
set_option maxHeartbeats 40000000
set_option linter.unusedSimpArgs false
set_option linter.unusedVariables false
namespace Go.Proofs.YtgehbhkfehmdkaaGreat.Sh
open Go.RowKit
def stT (t:Trade) (s:Int):Trade:=⟨t.No,t.Buyer,t.Seller,t.Paper,t.Qty,t.Cash,t.Price,s⟩
noncomputable def au (b:Books) (no way:Int):Books × Int × Int :=
 sel (¬ (BooksOk b ∧ aj no ∧ inP way 1 3)) (⟨[],[],[],[],[],0⟩,0,1)
 (sel (¬ di b.Trades no) (b,0,oC b.Trades no)
 (sel (¬ (poR b (bT (rd b.Trades (tAt b.Trades no)))).2 = 0) (b,0,cX (poR b (bT (rd b.Trades (tAt b.Trades no)))).2)
 (sel (¬ tN b.Lots (rd b.Trades (tAt b.Trades no)).Seller (rd b.Trades (tAt b.Trades no)).Paper (rd b.Trades (tAt b.Trades no)).Qty way = 0) (b,0,5)
 (sel (¬ f8 (tL b.Lots (rd b.Trades (tAt b.Trades no)).Seller (rd b.Trades (tAt b.Trades no)).Paper (rd b.Trades (tAt b.Trades no)).Qty way) b.Lot (rd b.Trades (tAt b.Trades no)).Buyer (rd b.Trades (tAt b.Trades no)).Paper (rd b.Trades (tAt b.Trades no)).Qty (rd b.Trades (tAt b.Trades no)).Price) (b,0,7)
 (⟨b.Accounts,b.Instrs,(poR b (bT (rd b.Trades (tAt b.Trades no)))).1,opL (tL b.Lots (rd b.Trades (tAt b.Trades no)).Seller (rd b.Trades (tAt b.Trades no)).Paper (rd b.Trades (tAt b.Trades no)).Qty way) b.Lot (rd b.Trades (tAt b.Trades no)).Buyer (rd b.Trades (tAt b.Trades no)).Paper (rd b.Trades (tAt b.Trades no)).Qty (rd b.Trades (tAt b.Trades no)).Price,upd b.Trades (tAt b.Trades no) (stT (rd b.Trades (tAt b.Trades no)) 2),b.Lot + 1⟩,(rd b.Trades (tAt b.Trades no)).Price - tC b.Lots (rd b.Trades (tAt b.Trades no)).Seller (rd b.Trades (tAt b.Trades no)).Paper (rd b.Trades (tAt b.Trades no)).Qty way,0)))))
theorem dX {b:Books} {no way:Int}  (c0:¬ (BooksOk b ∧ aj no ∧ inP way 1 3)):au b no way = (⟨[],[],[],[],[],0⟩,0,1):=by
 rw [au,ap c0]
theorem ir {b:Books} {no way:Int} (c0:¬ (¬ (BooksOk b ∧ aj no ∧ inP way 1 3))) (c1:¬ di b.Trades no):au b no way = (b,0,oC b.Trades no):=by
 rw [au,a8 c0,ap c1]
theorem dY {b:Books} {no way:Int} (c0:¬ (¬ (BooksOk b ∧ aj no ∧ inP way 1 3))) (c1:¬ (¬ di b.Trades no)) (c2:¬ (poR b (bT (rd b.Trades (tAt b.Trades no)))).2 = 0):au b no way = (b,0,cX (poR b (bT (rd b.Trades (tAt b.Trades no)))).2):=by
 rw [au,a8 c0,a8 c1,ap c2]
theorem iu {b:Books} {no way:Int} (c0:¬ (¬ (BooksOk b ∧ aj no ∧ inP way 1 3))) (c1:¬ (¬ di b.Trades no)) (c2:¬ (¬ (poR b (bT (rd b.Trades (tAt b.Trades no)))).2 = 0)) (c3:¬ tN b.Lots (rd b.Trades (tAt b.Trades no)).Seller (rd b.Trades (tAt b.Trades no)).Paper (rd b.Trades (tAt b.Trades no)).Qty way = 0):au b no way = (b,0,5):=by
 rw [au,a8 c0,a8 c1,a8 c2,ap c3]
theorem iv {b:Books} {no way:Int} (c0:¬ (¬ (BooksOk b ∧ aj no ∧ inP way 1 3))) (c1:¬ (¬ di b.Trades no)) (c2:¬ (¬ (poR b (bT (rd b.Trades (tAt b.Trades no)))).2 = 0)) (c3:¬ (¬ tN b.Lots (rd b.Trades (tAt b.Trades no)).Seller (rd b.Trades (tAt b.Trades no)).Paper (rd b.Trades (tAt b.Trades no)).Qty way = 0)) (c4:¬ f8 (tL b.Lots (rd b.Trades (tAt b.Trades no)).Seller (rd b.Trades (tAt b.Trades no)).Paper (rd b.Trades (tAt b.Trades no)).Qty way) b.Lot (rd b.Trades (tAt b.Trades no)).Buyer (rd b.Trades (tAt b.Trades no)).Paper (rd b.Trades (tAt b.Trades no)).Qty (rd b.Trades (tAt b.Trades no)).Price):au b no way = (b,0,7):=by
 rw [au,a8 c0,a8 c1,a8 c2,a8 c3,ap c4]
theorem iw {b:Books} {no way:Int} (c0:¬ (¬ (BooksOk b ∧ aj no ∧ inP way 1 3))) (c1:¬ (¬ di b.Trades no)) (c2:¬ (¬ (poR b (bT (rd b.Trades (tAt b.Trades no)))).2 = 0)) (c3:¬ (¬ tN b.Lots (rd b.Trades (tAt b.Trades no)).Seller (rd b.Trades (tAt b.Trades no)).Paper (rd b.Trades (tAt b.Trades no)).Qty way = 0)) (c4:¬ (¬ f8 (tL b.Lots (rd b.Trades (tAt b.Trades no)).Seller (rd b.Trades (tAt b.Trades no)).Paper (rd b.Trades (tAt b.Trades no)).Qty way) b.Lot (rd b.Trades (tAt b.Trades no)).Buyer (rd b.Trades (tAt b.Trades no)).Paper (rd b.Trades (tAt b.Trades no)).Qty (rd b.Trades (tAt b.Trades no)).Price)):au b no way = (⟨b.Accounts,b.Instrs,(poR b (bT (rd b.Trades (tAt b.Trades no)))).1,opL (tL b.Lots (rd b.Trades (tAt b.Trades no)).Seller (rd b.Trades (tAt b.Trades no)).Paper (rd b.Trades (tAt b.Trades no)).Qty way) b.Lot (rd b.Trades (tAt b.Trades no)).Buyer (rd b.Trades (tAt b.Trades no)).Paper (rd b.Trades (tAt b.Trades no)).Qty (rd b.Trades (tAt b.Trades no)).Price,upd b.Trades (tAt b.Trades no) (stT (rd b.Trades (tAt b.Trades no)) 2),b.Lot + 1⟩,(rd b.Trades (tAt b.Trades no)).Price - tC b.Lots (rd b.Trades (tAt b.Trades no)).Seller (rd b.Trades (tAt b.Trades no)).Paper (rd b.Trades (tAt b.Trades no)).Qty way,0):=by
 rw [au,a8 c0,a8 c1,a8 c2,a8 c3,a8 c4]
theorem tq {t:Trade} (h1:aj t.Buyer) (h2:aj t.Seller) (h3:aj t.Paper) (h4:aj t.Cash) (h5:0 ≤ t.Qty ∧ t.Qty ≤ 1000000000000000) (h6:0 ≤ t.Price ∧ t.Price ≤ 1000000000000000):dj (bT t):=by
 refine ⟨⟨by show 4 ≤ 160;omega,fun x hx => ?_⟩,fun x hx => ?_⟩
 ·simp only [bT,List.mem_cons,List.not_mem_nil,or_false] at hx
  rcases hx with rfl | rfl | rfl | rfl <;> (refine ⟨by assumption,by assumption,?_⟩;show -1000000000000000 ≤ _ ∧ _ ≤ 1000000000000000;dsimp only;omega)
 ·have e:∀ c:Int,cd (bT t) c = (if t.Cash = c then -t.Price else 0) + ((if t.Cash = c then t.Price else 0) + ((if t.Paper = c then -t.Qty else 0) + ((if t.Paper = c then t.Qty else 0) + 0))):=fun c => by
   simp only [cd,ar,bT,List.map_cons,List.map_nil,List.sum_cons,List.sum_nil,iE]
  rw [e]
  split <;> split <;> omega
theorem lu {b:Books} (hb:BooksOk b) {a c q w:Int}:0 ≤ tC b.Lots a c q w ∧ tC b.Lots a c q w ≤ 1000000000000000:=by
 show 0 ≤ (cz b.Lots a c q w).2.1 ∧ (cz b.Lots a c q w).2.1 ≤ 1000000000000000
 by_cases h:LotsOk b.Lots ∧ inP q 1 1000000000000000 ∧ inP w 1 3
 ·by_cases h2:sQ (aa b.Lots a c) < q
  ·rw [B7 h h2];show (0:Int) ≤ 0 ∧ (0:Int) ≤ 1000000000000000;omega
  ·rw [B5 h h2]
   have hq:=h.2.1
   unfold inP at hq
   have ho:=h.1.own a c
   have:=Bx (way:=w) (h.1.LG.flt (fun x => x.Account = a ∧ x.Instr = c)) (q:=q) ⟨by omega,by show q ≤ sQ (aa b.Lots a c);omega⟩ (by show 1 ≤ sQ (aa b.Lots a c);omega)
   exact ⟨this.1,Int.le_trans this.2 ho.2.2⟩
 ·rw [B6 h];show (0:Int) ≤ 0 ∧ (0:Int) ≤ 1000000000000000;omega
theorem mN {n:Nat} {a:List Account} {i:List Instr} {b:List Bal} {l:List Lot} {t:List Trade} {k y:Int} {x:Trade}:bkE n ⟨a,i,b,l,upd t k x,y⟩ = .agg [.row n 0 a.length,.row (n + 1) 0 i.length,.row (n + 2) 0 b.length,.row (n + 3) 0 l.length,.row (n + 4) 0 t.length,.sc (.int .i64 y)]:=by
 unfold bkE
 rw [aF]
theorem f5 {ba:List Account} {bi:List Instr} {bb:List Bal} {bl:List Lot} {bt:List Trade} {bn:Int} {no way:Int}:FC Tryz.prog 23 [bkV 0 ⟨ba,bi,bb,bl,bt,bn⟩,I no,I way] (bkR ⟨ba,bi,bb,bl,bt,bn⟩) (.tup [bkE 5 (au ⟨ba,bi,bb,bl,bt,bn⟩ no way).1,I (au ⟨ba,bi,bb,bl,bt,bn⟩ no way).2.1,I (au ⟨ba,bi,bb,bl,bt,bn⟩ no way).2.2]) (bkR ⟨ba,bi,bb,bl,bt,bn⟩ ++ bkW (au ⟨ba,bi,bb,bl,bt,bn⟩ no way).1):=by
 refine al tk 88 [.cell 6 _,.tmp 7,.tmp 8] Tryz.func23 (by kernel_rfl) rfl rfl rfl rfl rfl rfl rfl ?_
 by_cases hok:BooksOk ⟨ba,bi,bb,bl,bt,bn⟩
 rotate_left
 ·
  rw [dX (b:=⟨ba,bi,bb,bl,bt,bn⟩) (fun h => hok h.1)]
  repeat' (first
| intro h9;exfalso;contradiction
| (with_reducible apply ah (d:=27) 0 42 2);rfl;rfl;rfl;rfl;rfl
| (with_reducible apply ah (d:=27) 1 74 2);rfl;rfl;rfl;rfl;rfl
| (with_reducible apply ah (d:=27) 2 135 3);rfl;rfl;rfl;rfl;rfl
| (with_reducible apply ah (d:=27) 3 137 5);rfl;rfl;rfl;rfl;rfl
| (with_reducible apply ah (d:=27) 4 103 8);rfl;rfl;rfl;rfl;rfl
| (with_reducible apply yd);rfl
| intro _
| refine nv ?_
| apply wct rfl
| (with_reducible apply ycp);rfl;exact aw;rfl
| fail)
  all_goals exact ai [0,1,2,3,4,7,8,9,10,11] rfl rfl rfl rfl rfl rfl
 by_cases hta:aj no ∧ inP way 1 3
 rotate_left
 ·
  rw [dX (b:=⟨ba,bi,bb,bl,bt,bn⟩) (fun h => hta h.2)]
  repeat' (first
| intro h9;exfalso;contradiction
| intro h9;exact absurd ⟨by assumption,by assumption⟩ hta
| (with_reducible apply ah (d:=27) 0 42 2);rfl;rfl;rfl;rfl;rfl
| (with_reducible apply ah (d:=27) 1 74 2);rfl;rfl;rfl;rfl;rfl
| (with_reducible apply ah (d:=27) 2 135 3);rfl;rfl;rfl;rfl;rfl
| (with_reducible apply ah (d:=27) 3 137 5);rfl;rfl;rfl;rfl;rfl
| (with_reducible apply ah (d:=27) 4 103 8);rfl;rfl;rfl;rfl;rfl
| (with_reducible apply yd);rfl
| intro _
| refine nv ?_
| apply wct rfl
| (with_reducible apply ycp);rfl;(first | exact aw | exact bQ | exact aJ);rfl
| fail)
  all_goals exact ai [0,1,2,3,4,7,8,9,10,11] rfl rfl rfl rfl rfl rfl
 have hA:=hok.acc
 have hal:=hA.2
 have hto:=hok.trades
 have htl:=hto.2
 have hbn:=hok.lot
 obtain ⟨k1,k2⟩:=id hta
 dsimp only at hA hal hto htl hbn
 unfold inP at hbn
 have c0:¬ ¬ (BooksOk ⟨ba,bi,bb,bl,bt,bn⟩ ∧ aj no ∧ inP way 1 3):=fun k => k ⟨hok,hta⟩
 by_cases hop:di bt no
 rotate_left
 ·
  have hoc:=pY bt no
  rw [ir (b:=⟨ba,bi,bb,bl,bt,bn⟩) c0 hop]
  repeat' (first
| intro h9;exfalso;first | contradiction | omega
| (with_reducible apply yds);rfl
| (with_reducible apply yd);rfl
| intro _
| refine nv ?_
| apply wct rfl
| apply wcf rfl
| (with_reducible apply yne);rfl
| (with_reducible apply ycp);rfl;(first | exact aw | exact bQ | exact aJ);rfl
| (with_reducible apply zcs);(iterate 10 rfl);exact dq;exact fun _ => rfl;exact fun _ => rfl;rfl;rfl;rfl;rfl
| (with_reducible apply ycf);rfl;(exact aH (by exact BooksOk.midB (by assumption)));rfl
| fail)
  all_goals exact ai [0,1,2,3,4,7,8,9,10,11] rfl rfl rfl rfl rfl rfl
 have c1:¬ ¬ di (⟨ba,bi,bb,bl,bt,bn⟩:Books).Trades no:=fun k => k hop
 obtain ⟨hta1,hta2⟩:=gJ hop.1
 obtain ⟨q1,q2,q3,q4,q5,q6,hq,hp,q7⟩:=hto.1 _ hta1 hta2
 have hlg:=tq (t:=(rd bt (tAt bt no))) q2 q3 q4 q5 (by unfold inP at hq;omega) hp
 have hpc:=db hok hlg
 unfold inP at hq hp
 have hpn:=iV (pN ba bb (bT ⟨(rd bt (tAt bt no)).No,(rd bt (tAt bt no)).Buyer,(rd bt (tAt bt no)).Seller,(rd bt (tAt bt no)).Paper,(rd bt (tAt bt no)).Qty,(rd bt (tAt bt no)).Cash,(rd bt (tAt bt no)).Price,(rd bt (tAt bt no)).State⟩))
 have hsn:=js (pN ba bb (bT ⟨(rd bt (tAt bt no)).No,(rd bt (tAt bt no)).Buyer,(rd bt (tAt bt no)).Seller,(rd bt (tAt bt no)).Paper,(rd bt (tAt bt no)).Qty,(rd bt (tAt bt no)).Cash,(rd bt (tAt bt no)).Price,(rd bt (tAt bt no)).State⟩))
 have hT4:(bT ⟨(rd bt (tAt bt no)).No,(rd bt (tAt bt no)).Buyer,(rd bt (tAt bt no)).Seller,(rd bt (tAt bt no)).Paper,(rd bt (tAt bt no)).Qty,(rd bt (tAt bt no)).Cash,(rd bt (tAt bt no)).Price,(rd bt (tAt bt no)).State⟩).length = 4:=rfl
 have htc:=lu hok (a:=(rd bt (tAt bt no)).Seller) (c:=(rd bt (tAt bt no)).Paper) (q:=(rd bt (tAt bt no)).Qty) (w:=way)
 dsimp only at htc
 repeat' (first
| intro h9;exfalso;first | contradiction | omega
| (with_reducible apply yds);rfl
| (with_reducible apply yd);rfl
| intro _
| refine nv ?_
| apply wct rfl
| apply wcf rfl
| (with_reducible apply yeq);rfl
| (with_reducible apply yne);rfl
| (with_reducible apply yar);rfl;omega
| (with_reducible apply yix);rfl;omega
| (with_reducible apply yle);rfl;omega
| (with_reducible apply zse);rfl;exact tk;(iterate 6 rfl);omega;rfl;rfl;rfl;rfl;rfl
| refine wk (id:=17) rfl (by kernel_rfl) (.one .p 1 (.one .p 3 (.one .t 0 (.two .o 2 (.one .p 4 (.one .l 5 (.one .p 6 (.one .p 7 .nil)))) .l 5 (.one .o 2 (.one .p 4 (.one .p 6 (.one .p 7 .nil)))))))) [5] (by kernel_rfl) ?_
| (with_reducible apply zt1);rfl
| (with_reducible apply zt2);rfl;rfl
| with_reducible apply zt0
| with_reducible apply rg
| (with_reducible apply ycp);rfl;(first | exact aw | exact bQ | exact aJ);rfl
| (with_reducible apply zcs);(iterate 10 rfl);exact dq;exact fun _ => rfl;exact fun _ => rfl;rfl;rfl;rfl;rfl
| (with_reducible apply ycf);rfl;(first | exact aH (by exact BooksOk.midB (by assumption)) | exact ji (by omega) (by omega));rfl
| (with_reducible apply gc  [true,true,true,true,true,true,true]);(iterate 10 rfl);exact cS (by omega);(iterate 6 rfl)
| (with_reducible apply gc  [true,true,true,true,true,true]);(iterate 10 rfl);(first | exact iQ | exact f6 (by omega));(iterate 6 rfl)
| fail)
 all_goals first
  | (have c2:¬ pN ba bb (bT ⟨(rd bt (tAt bt no)).No,(rd bt (tAt bt no)).Buyer,(rd bt (tAt bt no)).Seller,(rd bt (tAt bt no)).Paper,(rd bt (tAt bt no)).Qty,(rd bt (tAt bt no)).Cash,(rd bt (tAt bt no)).Price,(rd bt (tAt bt no)).State⟩) = 0:=by assumption
     rw [dY (b:=⟨ba,bi,bb,bl,bt,bn⟩) c0 c1 c2]
     exact ai [0,1,2,3,4,15,16,17,18,19] rfl rfl rfl rfl rfl rfl)
  | (have c2:pN ba bb (bT ⟨(rd bt (tAt bt no)).No,(rd bt (tAt bt no)).Buyer,(rd bt (tAt bt no)).Seller,(rd bt (tAt bt no)).Paper,(rd bt (tAt bt no)).Qty,(rd bt (tAt bt no)).Cash,(rd bt (tAt bt no)).Price,(rd bt (tAt bt no)).State⟩) = 0:=by assumption
     have c3:¬ tN bl (rd bt (tAt bt no)).Seller (rd bt (tAt bt no)).Paper (rd bt (tAt bt no)).Qty way = 0:=by assumption
     rw [iu (b:=⟨ba,bi,bb,bl,bt,bn⟩) c0 c1 (fun k => k c2) c3]
     exact ai [0,1,2,3,4,16,17,18,19,20] rfl rfl rfl rfl rfl rfl)
  | (have c2:pN ba bb (bT ⟨(rd bt (tAt bt no)).No,(rd bt (tAt bt no)).Buyer,(rd bt (tAt bt no)).Seller,(rd bt (tAt bt no)).Paper,(rd bt (tAt bt no)).Qty,(rd bt (tAt bt no)).Cash,(rd bt (tAt bt no)).Price,(rd bt (tAt bt no)).State⟩) = 0:=by assumption
     have c3:tN bl (rd bt (tAt bt no)).Seller (rd bt (tAt bt no)).Paper (rd bt (tAt bt no)).Qty way = 0:=by assumption
     have c4:¬ f8 (tL bl (rd bt (tAt bt no)).Seller (rd bt (tAt bt no)).Paper (rd bt (tAt bt no)).Qty way) bn (rd bt (tAt bt no)).Buyer (rd bt (tAt bt no)).Paper (rd bt (tAt bt no)).Qty (rd bt (tAt bt no)).Price:=by assumption
     rw [iv (b:=⟨ba,bi,bb,bl,bt,bn⟩) c0 c1 (fun k => k c2) (fun k => k c3) c4]
     exact ai [0,1,2,3,4,17,18,19,20,21] rfl rfl rfl rfl rfl rfl)
  | (have c2:pN ba bb (bT ⟨(rd bt (tAt bt no)).No,(rd bt (tAt bt no)).Buyer,(rd bt (tAt bt no)).Seller,(rd bt (tAt bt no)).Paper,(rd bt (tAt bt no)).Qty,(rd bt (tAt bt no)).Cash,(rd bt (tAt bt no)).Price,(rd bt (tAt bt no)).State⟩) = 0:=by assumption
     have c3:tN bl (rd bt (tAt bt no)).Seller (rd bt (tAt bt no)).Paper (rd bt (tAt bt no)).Qty way = 0:=by assumption
     have c4:f8 (tL bl (rd bt (tAt bt no)).Seller (rd bt (tAt bt no)).Paper (rd bt (tAt bt no)).Qty way) bn (rd bt (tAt bt no)).Buyer (rd bt (tAt bt no)).Paper (rd bt (tAt bt no)).Qty (rd bt (tAt bt no)).Price:=by assumption
     rw [iw (b:=⟨ba,bi,bb,bl,bt,bn⟩) c0 c1 (fun k => k c2) (fun k => k c3) (fun k => k c4)]
     dsimp only
     rw [mN]
     exact ai [0,1,2,3,4,7,8,15,17,11] rfl rfl rfl rfl rfl rfl)
  | trace_state
theorem ff {ba:List Account} {bi:List Instr} {bb:List Bal} {bl:List Lot} {bt:List Trade} {bn:Int} {no way:Int}:FC Tryz.prog 71 [bkV 0 ⟨ba,bi,bb,bl,bt,bn⟩,I no,I way] (bkR ⟨ba,bi,bb,bl,bt,bn⟩) (.tup [bkE 5 (au ⟨ba,bi,bb,bl,bt,bn⟩ no way).1,I (au ⟨ba,bi,bb,bl,bt,bn⟩ no way).2.1,I (au ⟨ba,bi,bb,bl,bt,bn⟩ no way).2.2]) (bkR ⟨ba,bi,bb,bl,bt,bn⟩ ++ bkW (au ⟨ba,bi,bb,bl,bt,bn⟩ no way).1):=by
 refine al tk 86 [.cell 6 _,.tmp 7,.tmp 8] Tryz.func71 (by kernel_rfl) rfl rfl rfl rfl rfl rfl rfl ?_
 by_cases hok:BooksOk ⟨ba,bi,bb,bl,bt,bn⟩
 rotate_left
 ·
  rw [dX (b:=⟨ba,bi,bb,bl,bt,bn⟩) (fun h => hok h.1)]
  repeat' (first
| intro h9;exfalso;contradiction
| (with_reducible apply ah (d:=27) 0 42 2);rfl;rfl;rfl;rfl;rfl
| (with_reducible apply ah (d:=27) 1 74 2);rfl;rfl;rfl;rfl;rfl
| (with_reducible apply ah (d:=27) 2 135 3);rfl;rfl;rfl;rfl;rfl
| (with_reducible apply ah (d:=27) 3 137 5);rfl;rfl;rfl;rfl;rfl
| (with_reducible apply ah (d:=27) 4 103 8);rfl;rfl;rfl;rfl;rfl
| (with_reducible apply yd);rfl
| intro _
| refine nv ?_
| apply wct rfl
| (with_reducible apply ycp);rfl;exact aq;rfl
| fail)
  all_goals exact ai [0,1,2,3,4,7,8,9,10,11] rfl rfl rfl rfl rfl rfl
 by_cases hta:aj no ∧ inP way 1 3
 rotate_left
 ·
  rw [dX (b:=⟨ba,bi,bb,bl,bt,bn⟩) (fun h => hta h.2)]
  repeat' (first
| intro h9;exfalso;contradiction
| intro h9;exact absurd ⟨by assumption,by assumption⟩ hta
| (with_reducible apply ah (d:=27) 0 42 2);rfl;rfl;rfl;rfl;rfl
| (with_reducible apply ah (d:=27) 1 74 2);rfl;rfl;rfl;rfl;rfl
| (with_reducible apply ah (d:=27) 2 135 3);rfl;rfl;rfl;rfl;rfl
| (with_reducible apply ah (d:=27) 3 137 5);rfl;rfl;rfl;rfl;rfl
| (with_reducible apply ah (d:=27) 4 103 8);rfl;rfl;rfl;rfl;rfl
| (with_reducible apply yd);rfl
| intro _
| refine nv ?_
| apply wct rfl
| (with_reducible apply ycp);rfl;(first | exact aq | exact aK | exact aI);rfl
| fail)
  all_goals exact ai [0,1,2,3,4,7,8,9,10,11] rfl rfl rfl rfl rfl rfl
 have hA:=hok.acc
 have hal:=hA.2
 have hto:=hok.trades
 have htl:=hto.2
 have hbn:=hok.lot
 obtain ⟨k1,k2⟩:=id hta
 dsimp only at hA hal hto htl hbn
 unfold inP at hbn
 have c0:¬ ¬ (BooksOk ⟨ba,bi,bb,bl,bt,bn⟩ ∧ aj no ∧ inP way 1 3):=fun k => k ⟨hok,hta⟩
 by_cases hop:di bt no
 rotate_left
 ·
  have hoc:=pY bt no
  rw [ir (b:=⟨ba,bi,bb,bl,bt,bn⟩) c0 hop]
  repeat' (first
| intro h9;exfalso;first | contradiction | omega
| (with_reducible apply yds);rfl
| (with_reducible apply yd);rfl
| intro _
| refine nv ?_
| apply wct rfl
| apply wcf rfl
| (with_reducible apply yne);rfl
| (with_reducible apply ycp);rfl;(first | exact aq | exact aK | exact aI);rfl
| (with_reducible apply zcs);(iterate 10 rfl);exact dw;exact fun _ => rfl;exact fun _ => rfl;rfl;rfl;rfl;rfl
| (with_reducible apply ycf);rfl;(exact aN (by exact BooksOk.midB (by assumption)));rfl
| fail)
  all_goals exact ai [0,1,2,3,4,7,8,9,10,11] rfl rfl rfl rfl rfl rfl
 have c1:¬ ¬ di (⟨ba,bi,bb,bl,bt,bn⟩:Books).Trades no:=fun k => k hop
 obtain ⟨hta1,hta2⟩:=gJ hop.1
 obtain ⟨q1,q2,q3,q4,q5,q6,hq,hp,q7⟩:=hto.1 _ hta1 hta2
 have hlg:=tq (t:=(rd bt (tAt bt no))) q2 q3 q4 q5 (by unfold inP at hq;omega) hp
 have hpc:=db hok hlg
 unfold inP at hq hp
 have hpn:=iV (pN ba bb (bT ⟨(rd bt (tAt bt no)).No,(rd bt (tAt bt no)).Buyer,(rd bt (tAt bt no)).Seller,(rd bt (tAt bt no)).Paper,(rd bt (tAt bt no)).Qty,(rd bt (tAt bt no)).Cash,(rd bt (tAt bt no)).Price,(rd bt (tAt bt no)).State⟩))
 have hsn:=js (pN ba bb (bT ⟨(rd bt (tAt bt no)).No,(rd bt (tAt bt no)).Buyer,(rd bt (tAt bt no)).Seller,(rd bt (tAt bt no)).Paper,(rd bt (tAt bt no)).Qty,(rd bt (tAt bt no)).Cash,(rd bt (tAt bt no)).Price,(rd bt (tAt bt no)).State⟩))
 have hT4:(bT ⟨(rd bt (tAt bt no)).No,(rd bt (tAt bt no)).Buyer,(rd bt (tAt bt no)).Seller,(rd bt (tAt bt no)).Paper,(rd bt (tAt bt no)).Qty,(rd bt (tAt bt no)).Cash,(rd bt (tAt bt no)).Price,(rd bt (tAt bt no)).State⟩).length = 4:=rfl
 have htc:=lu hok (a:=(rd bt (tAt bt no)).Seller) (c:=(rd bt (tAt bt no)).Paper) (q:=(rd bt (tAt bt no)).Qty) (w:=way)
 dsimp only at htc
 have hpp:pick ((rd bt (tAt bt no)).Price < 0) (tC bl (rd bt (tAt bt no)).Seller (rd bt (tAt bt no)).Paper (rd bt (tAt bt no)).Qty way) (rd bt (tAt bt no)).Price = (rd bt (tAt bt no)).Price:=aB (by omega)
 by_cases c3:tN bl (rd bt (tAt bt no)).Seller (rd bt (tAt bt no)).Paper (rd bt (tAt bt no)).Qty way = 0
 rotate_left
 ·
  repeat' (first
| intro h9;exfalso;first | contradiction | omega
| (with_reducible apply yds);rfl
| (with_reducible apply yd);rfl
| intro _
| refine nv ?_
| apply wct rfl
| apply wcf rfl
| (with_reducible apply yeq);rfl
| (with_reducible apply yne);rfl
| (with_reducible apply yix);rfl;omega
| (with_reducible apply yle);rfl;omega
| refine wk (id:=8) rfl (by kernel_rfl) (.one .t 0 (.one .t 2 (.two .o 1 (.two .o 3 (.two .l 4 (.one .p 5 (.one .p 6 (.one .p 7 (.one .o 8 (.one .l 9 (.one .p 10 .nil)))))) .o 8 (.one .l 4 (.one .p 5 (.one .p 6 (.one .p 7 (.one .l 9 (.one .p 10 .nil))))))) .o 8 (.one .o 3 (.one .l 4 (.one .p 5 (.one .p 6 (.one .p 7 (.one .l 9 (.one .p 10 .nil)))))))) .o 8 (.one .o 1 (.one .o 3 (.one .l 4 (.one .p 5 (.one .p 6 (.one .p 7 (.one .l 9 (.one .p 10 .nil))))))))))) [4,9] (by kernel_rfl) ?_
| (with_reducible apply zt1);rfl
| (with_reducible apply zt2);rfl;rfl
| with_reducible apply zt0
| with_reducible apply rg
| (with_reducible apply ycp);rfl;(first | exact aq | exact aK | exact aI);rfl
| (with_reducible apply zcs);(iterate 10 rfl);exact dw;exact fun _ => rfl;exact fun _ => rfl;rfl;rfl;rfl;rfl
| (with_reducible apply ycf);rfl;(first | exact aN (by exact BooksOk.midB (by assumption)) | exact gH (by omega) (by omega));rfl
| (with_reducible apply gc  [true,true,true,true,true,false]);(iterate 10 rfl);exact d7 (by omega);(iterate 6 rfl)
| (with_reducible apply ycw  [true,true,true,true,true]);rfl;(exact jx (by omega) (by assumption));rfl
| fail)
  all_goals first
   | (have c2:¬ pN ba bb (bT ⟨(rd bt (tAt bt no)).No,(rd bt (tAt bt no)).Buyer,(rd bt (tAt bt no)).Seller,(rd bt (tAt bt no)).Paper,(rd bt (tAt bt no)).Qty,(rd bt (tAt bt no)).Cash,(rd bt (tAt bt no)).Price,(rd bt (tAt bt no)).State⟩) = 0:=by assumption
      rw [dY (b:=⟨ba,bi,bb,bl,bt,bn⟩) c0 c1 c2,← mo hpc]
      exact ai [0,1,2,3,4,15,16,17,18,19] rfl rfl rfl rfl rfl rfl)
   | (have c2:pN ba bb (bT ⟨(rd bt (tAt bt no)).No,(rd bt (tAt bt no)).Buyer,(rd bt (tAt bt no)).Seller,(rd bt (tAt bt no)).Paper,(rd bt (tAt bt no)).Qty,(rd bt (tAt bt no)).Cash,(rd bt (tAt bt no)).Price,(rd bt (tAt bt no)).State⟩) = 0:=by assumption
      rw [iu (b:=⟨ba,bi,bb,bl,bt,bn⟩) c0 c1 (fun k => k c2) c3]
      exact ai [0,1,2,3,4,16,17,18,19,20] rfl rfl rfl rfl rfl rfl)
   | trace_state
 by_cases c4:f8 (tL bl (rd bt (tAt bt no)).Seller (rd bt (tAt bt no)).Paper (rd bt (tAt bt no)).Qty way) bn (rd bt (tAt bt no)).Buyer (rd bt (tAt bt no)).Paper (rd bt (tAt bt no)).Qty (pick ((rd bt (tAt bt no)).Price < 0) (tC bl (rd bt (tAt bt no)).Seller (rd bt (tAt bt no)).Paper (rd bt (tAt bt no)).Qty way) (rd bt (tAt bt no)).Price)
 rotate_left
 ·
  repeat' (first
| intro h9;exfalso;first | contradiction | omega
| (with_reducible apply yds);rfl
| (with_reducible apply yd);rfl
| intro _
| refine nv ?_
| apply wct rfl
| apply wcf rfl
| (with_reducible apply yeq);rfl
| (with_reducible apply yne);rfl
| (with_reducible apply yix);rfl;omega
| (with_reducible apply yle);rfl;omega
| refine wk (id:=8) rfl (by kernel_rfl) (.one .t 0 (.one .t 2 (.two .o 1 (.two .o 3 (.two .l 4 (.one .p 5 (.one .p 6 (.one .p 7 (.one .o 8 (.one .l 9 (.one .p 10 .nil)))))) .o 8 (.one .l 4 (.one .p 5 (.one .p 6 (.one .p 7 (.one .l 9 (.one .p 10 .nil))))))) .o 8 (.one .o 3 (.one .l 4 (.one .p 5 (.one .p 6 (.one .p 7 (.one .l 9 (.one .p 10 .nil)))))))) .o 8 (.one .o 1 (.one .o 3 (.one .l 4 (.one .p 5 (.one .p 6 (.one .p 7 (.one .l 9 (.one .p 10 .nil))))))))))) [4,9] (by kernel_rfl) ?_
| (with_reducible apply zt1);rfl
| (with_reducible apply zt2);rfl;rfl
| with_reducible apply zt0
| with_reducible apply rg
| (with_reducible apply ycp);rfl;(first | exact aq | exact aK | exact aI);rfl
| (with_reducible apply zcs);(iterate 10 rfl);exact dw;exact fun _ => rfl;exact fun _ => rfl;rfl;rfl;rfl;rfl
| (with_reducible apply ycf);rfl;(first | exact aN (by exact BooksOk.midB (by assumption)) | exact gH (by omega) (by omega));rfl
| (with_reducible apply gc  [true,true,true,true,true,false]);(iterate 10 rfl);exact d7 (by omega);(iterate 6 rfl)
| (with_reducible apply ycw  [true,true,true,true,true]);rfl;(exact jw (by omega) (by assumption) (by assumption));rfl
| fail)
  all_goals first
   | (have c2:¬ pN ba bb (bT ⟨(rd bt (tAt bt no)).No,(rd bt (tAt bt no)).Buyer,(rd bt (tAt bt no)).Seller,(rd bt (tAt bt no)).Paper,(rd bt (tAt bt no)).Qty,(rd bt (tAt bt no)).Cash,(rd bt (tAt bt no)).Price,(rd bt (tAt bt no)).State⟩) = 0:=by assumption
      rw [dY (b:=⟨ba,bi,bb,bl,bt,bn⟩) c0 c1 c2,← mo hpc]
      exact ai [0,1,2,3,4,15,16,17,18,19] rfl rfl rfl rfl rfl rfl)
   | (have c2:pN ba bb (bT ⟨(rd bt (tAt bt no)).No,(rd bt (tAt bt no)).Buyer,(rd bt (tAt bt no)).Seller,(rd bt (tAt bt no)).Paper,(rd bt (tAt bt no)).Qty,(rd bt (tAt bt no)).Cash,(rd bt (tAt bt no)).Price,(rd bt (tAt bt no)).State⟩) = 0:=by assumption
      rw [hpp] at c4
      rw [iv (b:=⟨ba,bi,bb,bl,bt,bn⟩) c0 c1 (fun k => k c2) (fun k => k c3) c4]
      exact ai [0,1,2,3,4,17,18,19,20,21] rfl rfl rfl rfl rfl rfl)
   | trace_state
 repeat' (first
| intro h9;exfalso;first | contradiction | omega
| (with_reducible apply yds);rfl
| (with_reducible apply yd);rfl
| intro _
| refine nv ?_
| apply wct rfl
| apply wcf rfl
| (with_reducible apply yeq);rfl
| (with_reducible apply yne);rfl
| (with_reducible apply yar);rfl;omega
| (with_reducible apply yix);rfl;omega
| (with_reducible apply yle);rfl;omega
| (with_reducible apply zse);rfl;exact tk;(iterate 6 rfl);omega;rfl;rfl;rfl;rfl;rfl
| refine wk (id:=8) rfl (by kernel_rfl) (.one .t 0 (.one .t 2 (.two .o 1 (.two .o 3 (.two .l 4 (.one .p 5 (.one .p 6 (.one .p 7 (.one .o 8 (.one .l 9 (.one .p 10 .nil)))))) .o 8 (.one .l 4 (.one .p 5 (.one .p 6 (.one .p 7 (.one .l 9 (.one .p 10 .nil))))))) .o 8 (.one .o 3 (.one .l 4 (.one .p 5 (.one .p 6 (.one .p 7 (.one .l 9 (.one .p 10 .nil)))))))) .o 8 (.one .o 1 (.one .o 3 (.one .l 4 (.one .p 5 (.one .p 6 (.one .p 7 (.one .l 9 (.one .p 10 .nil))))))))))) [4,9] (by kernel_rfl) ?_
| refine wk (id:=14) rfl (by kernel_rfl) (.one .p 1 (.one .p 3 (.one .t 0 (.two .o 2 (.one .p 4 (.one .l 5 (.one .p 6 (.one .p 7 .nil)))) .l 5 (.one .o 2 (.one .p 4 (.one .p 6 (.one .p 7 .nil)))))))) [5] (by kernel_rfl) ?_
| (with_reducible apply zt1);rfl
| (with_reducible apply zt2);rfl;rfl
| with_reducible apply zt0
| with_reducible apply rg
| (with_reducible apply ycp);rfl;(first | exact aq | exact aK | exact aI);rfl
| (with_reducible apply zcs);(iterate 10 rfl);exact dw;exact fun _ => rfl;exact fun _ => rfl;rfl;rfl;rfl;rfl
| (with_reducible apply ycf);rfl;(first | exact aN (by exact BooksOk.midB (by assumption)) | exact gH (by omega) (by omega));rfl
| (with_reducible apply gc  [true,true,true,true,true,false]);(iterate 10 rfl);exact d7 (by omega);(iterate 6 rfl)
| (with_reducible apply ycw  [true,true,true,true,true]);rfl;(exact jv (by omega) (by assumption) (by assumption));rfl
| fail)
 all_goals first
  | (have c2:¬ pN ba bb (bT ⟨(rd bt (tAt bt no)).No,(rd bt (tAt bt no)).Buyer,(rd bt (tAt bt no)).Seller,(rd bt (tAt bt no)).Paper,(rd bt (tAt bt no)).Qty,(rd bt (tAt bt no)).Cash,(rd bt (tAt bt no)).Price,(rd bt (tAt bt no)).State⟩) = 0:=by assumption
     rw [dY (b:=⟨ba,bi,bb,bl,bt,bn⟩) c0 c1 c2,← mo hpc]
     exact ai [0,1,2,3,4,15,16,17,18,19] rfl rfl rfl rfl rfl rfl)
  | (have c2:pN ba bb (bT ⟨(rd bt (tAt bt no)).No,(rd bt (tAt bt no)).Buyer,(rd bt (tAt bt no)).Seller,(rd bt (tAt bt no)).Paper,(rd bt (tAt bt no)).Qty,(rd bt (tAt bt no)).Cash,(rd bt (tAt bt no)).Price,(rd bt (tAt bt no)).State⟩) = 0:=by assumption
     have c5:=c4
     rw [hpp] at c5 ⊢
     rw [iw (b:=⟨ba,bi,bb,bl,bt,bn⟩) c0 c1 (fun k => k c2) (fun k => k c3) (fun k => k c5)]
     dsimp only
     rw [mN]
     first
      | exact ai [0,1,2,3,4,8,9,14,16,12] rfl rfl rfl rfl rfl rfl
      | exact ai [0,1,2,3,4,8,9,15,16,12] rfl rfl rfl rfl rfl rfl
      | exact ai [0,1,2,3,4,9,10,15,16,13] rfl rfl rfl rfl rfl rfl)
  | trace_state
end Go.Proofs.YtgehbhkfehmdkaaGreat.Sh
