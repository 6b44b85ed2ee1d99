/- The trades of a stretch are settled net: both sides. No condition. -/
import Derived.Test.YtgehbhkfehmdkaaGreatKUShV
import Derived.Test.YtgehbhkfehmdkaaGreatKUShTs
import Derived.Test.YtgehbhkfehmdkaaGreatKUShNl
set_option maxRecDepth 100000
set_option maxHeartbeats 40000000
set_option linter.unusedSimpArgs false
set_option linter.unusedVariables false
namespace Go.Proofs.YtgehbhkfehmdkaaGreat.Sh
open Go.RowKit
noncomputable def stN (way:Int) (s:Books × Int × Int) (no:Int):Books × Int × Int :=
 sel (s.2.2 = 0) (sel ((ag s.1 no way).2.2 = 0) ((ag s.1 no way).1,s.2.1 + (ag s.1 no way).2.1,0) (s.1,s.2.1,(ag s.1 no way).2.2)) s
noncomputable def nsF (b:Books) (way:Int) (L:List Int):Books × Int × Int:=L.foldl (stN way) (b,0,0)
theorem tm {b:Books} {way:Int} {L:List Int} {i:Int} (h:0 ≤ i ∧ i < L.length):nsF b way (pf L (i + 1)) = stN way (nsF b way (pf L i)) (rd L i):=by
 unfold nsF
 rw [cg h,List.foldl_append]
 rfl
theorem CJ {way g:Int} {o:Books} {no:Int} (h:(ag o no way).2.2 = 0):stN way (o,g,0) no = ((ag o no way).1,g + (ag o no way).2.1,0):=by
 rw [stN,au (show (o,g,(0:Int)).2.2 = 0 from rfl),au h]
theorem CI {way g:Int} {o:Books} {no:Int} (h:¬ (ag o no way).2.2 = 0):stN way (o,g,0) no = (o,g,(ag o no way).2.2):=by
 rw [stN,au (show (o,g,(0:Int)).2.2 = 0 from rfl),ab h]
theorem lh {way:Int}:∀ (L:List Int) {s:Books × Int × Int},¬ s.2.2 = 0 → L.foldl (stN way) s = s
 | [],_,_ => rfl
 | x :: L,s,h => by rw [List.foldl_cons,show stN way s x = s from by rw [stN,ab h],lh L h]
theorem A7 {b:Books} {way:Int} {L:List Int} {i g:Int} {o:Books} (h:0 ≤ i ∧ i < L.length) (e:nsF b way (pf L i) = (o,g,0)) (hn:¬ (ag o (rd L i) way).2.2 = 0):(nsF b way L).2.2 = (ag o (rd L i) way).2.2:=by
 have h2:=tm (b:=b) (way:=way) h
 rw [e,CI hn] at h2
 have h3:nsF b way L = nsF b way (pf L (i + 1)):=by
  have h4:L = pf L (i + 1) ++ L.drop (i + 1).toNat:=by unfold pf;rw [List.take_append_drop]
  have h5:nsF b way L = (L.drop (i + 1).toNat).foldl (stN way) (nsF b way (pf L (i + 1))):=by
   unfold nsF
   rw [← List.foldl_append,← h4]
  rw [h5]
  exact lh _ (by rw [h2];exact hn)
 rw [h3,h2]
theorem wX (b:Books) (no way:Int):-1000000000000000 ≤ (ag b no way).2.1 ∧ (ag b no way).2.1 ≤ 1000000000000000:=by
 have hz:-1000000000000000 ≤ (0:Int) ∧ (0:Int) ≤ 1000000000000000:=by omega
 by_cases c0:BooksOk b ∧ aj no ∧ inP way 1 3
 rotate_left
 ·rw [dG c0];exact hz
 have c0':¬ ¬ (BooksOk b ∧ aj no ∧ inP way 1 3):=fun k => k c0
 by_cases c1:d9 b.Trades no
 rotate_left
 ·rw [dH c0' c1];exact hz
 have c1':¬ ¬ d9 b.Trades no:=fun k => k c1
 obtain ⟨hta1,hta2⟩:=jw c1.1
 obtain ⟨q1,q2,q3,q4,q5,q6,hq,hp,q7⟩:=c0.1.trades.1 _ hta1 hta2
 have htc:=mQ c0.1 (a:=(rd b.Trades (tAt b.Trades no)).Seller) (c:=(rd b.Trades (tAt b.Trades no)).Paper) (q:=(rd b.Trades (tAt b.Trades no)).Qty) (w:=way)
 unfold inP at hp
 by_cases c2:(poR b (bE (rd b.Trades (tAt b.Trades no)))).2 = 0
 rotate_left
 ·rw [dI c0' c1' c2];exact hz
 by_cases c3:tN b.Lots (rd b.Trades (tAt b.Trades no)).Seller (rd b.Trades (tAt b.Trades no)).Paper (rd b.Trades (tAt b.Trades no)).Qty way = 0
 rotate_left
 ·rw [gx c0' c1' (fun k => k c2) c3];exact hz
 by_cases c4:dW (tL b.Lots (rd b.Trades (tAt b.Trades no)).Seller (rd b.Trades (tAt b.Trades no)).Paper (rd b.Trades (tAt b.Trades no)).Qty way) b.Lot (rd b.Trades (tAt b.Trades no)).Buyer (rd b.Trades (tAt b.Trades no)).Paper (rd b.Trades (tAt b.Trades no)).Qty (rd b.Trades (tAt b.Trades no)).Price
 rotate_left
 ·rw [gy c0' c1' (fun k => k c2) (fun k => k c3) c4];exact hz
 rw [gz c0' c1' (fun k => k c2) (fun k => k c3) (fun k => k c4)]
 dsimp only
 omega
theorem Aw {l:List Trade} {fr to:Int}:(tOs l fr to).length ≤ l.length:=by
 rw [tOs,List.length_map]
 exact cV (fun t:Trade => t.State = 1 ∧ inP t.No fr to) l
noncomputable def bJ (b:Books) (fr to way:Int):Books × List Leg × Int × Int :=
 sel (¬ (BooksOk b ∧ aj fr ∧ aj to ∧ inP way 1 3)) (⟨[],[],[],[],[],0⟩,[],0,1)
 (sel (¬ 0 < ((tOs b.Trades fr to).length:Int)) (b,[],0,3)
 (sel (¬ (nsF b way (tOs b.Trades fr to)).2.2 = 0) (b,[],0,(nsF b way (tOs b.Trades fr to)).2.2)
 (sel (¬ (iQ b (tOs b.Trades fr to) ∧ aq (nsF b way (tOs b.Trades fr to)).2.1)) (b,[],0,8)
 ((nsF b way (tOs b.Trades fr to)).1,uE b (tOs b.Trades fr to),(nsF b way (tOs b.Trades fr to)).2.1,0))))
theorem qy {b:Books} {fr to way:Int}  (c0:¬ (BooksOk b ∧ aj fr ∧ aj to ∧ inP way 1 3)):bJ b fr to way = (⟨[],[],[],[],[],0⟩,[],0,1):=by
 rw [bJ,au c0]
theorem wt {b:Books} {fr to way:Int} (c0:¬ (¬ (BooksOk b ∧ aj fr ∧ aj to ∧ inP way 1 3))) (c1:¬ 0 < ((tOs b.Trades fr to).length:Int)):bJ b fr to way = (b,[],0,3):=by
 rw [bJ,ab c0,au c1]
theorem wu {b:Books} {fr to way:Int} (c0:¬ (¬ (BooksOk b ∧ aj fr ∧ aj to ∧ inP way 1 3))) (c1:¬ (¬ 0 < ((tOs b.Trades fr to).length:Int))) (c2:¬ (nsF b way (tOs b.Trades fr to)).2.2 = 0):bJ b fr to way = (b,[],0,(nsF b way (tOs b.Trades fr to)).2.2):=by
 rw [bJ,ab c0,ab c1,au c2]
theorem wv {b:Books} {fr to way:Int} (c0:¬ (¬ (BooksOk b ∧ aj fr ∧ aj to ∧ inP way 1 3))) (c1:¬ (¬ 0 < ((tOs b.Trades fr to).length:Int))) (c2:¬ (¬ (nsF b way (tOs b.Trades fr to)).2.2 = 0)) (c3:¬ (iQ b (tOs b.Trades fr to) ∧ aq (nsF b way (tOs b.Trades fr to)).2.1)):bJ b fr to way = (b,[],0,8):=by
 rw [bJ,ab c0,ab c1,ab c2,au c3]
theorem ww {b:Books} {fr to way:Int} (c0:¬ (¬ (BooksOk b ∧ aj fr ∧ aj to ∧ inP way 1 3))) (c1:¬ (¬ 0 < ((tOs b.Trades fr to).length:Int))) (c2:¬ (¬ (nsF b way (tOs b.Trades fr to)).2.2 = 0)) (c3:¬ (¬ (iQ b (tOs b.Trades fr to) ∧ aq (nsF b way (tOs b.Trades fr to)).2.1))):bJ b fr to way = ((nsF b way (tOs b.Trades fr to)).1,uE b (tOs b.Trades fr to),(nsF b way (tOs b.Trades fr to)).2.1,0):=by
 rw [bJ,ab c0,ab c1,ab c2,ab c3]
theorem rV {ba:List Account} {bi:List Instr} {bb:List Bal} {bl:List Lot} {bt:List Trade} {bn:Int} {fr to way:Int}:FC Tryz.prog 20 [bkV 0 ⟨ba,bi,bb,bl,bt,bn⟩,I fr,I to,I way] (bkR ⟨ba,bi,bb,bl,bt,bn⟩) (.tup [bkE 5 (bJ ⟨ba,bi,bb,bl,bt,bn⟩ fr to way).1,.c (.row 10 0 (bJ ⟨ba,bi,bb,bl,bt,bn⟩ fr to way).2.1.length),I (bJ ⟨ba,bi,bb,bl,bt,bn⟩ fr to way).2.2.1,I (bJ ⟨ba,bi,bb,bl,bt,bn⟩ fr to way).2.2.2]) (bkR ⟨ba,bi,bb,bl,bt,bn⟩ ++ bkW (bJ ⟨ba,bi,bb,bl,bt,bn⟩ fr to way).1 ++ [ow 46 (bJ ⟨ba,bi,bb,bl,bt,bn⟩ fr to way).2.1]):=by
 refine ax tk 101 [.cell 8 _,.tmp 9,.tmp 10,.tmp 11] Tryz.func20 (by kernel_rfl) rfl rfl rfl rfl rfl rfl rfl ?_
 by_cases hok:BooksOk ⟨ba,bi,bb,bl,bt,bn⟩
 rotate_left
 ·
  rw [qy (b:=⟨ba,bi,bb,bl,bt,bn⟩) (fun h => hok h.1)]
  repeat' (first
| intro h9;exfalso;contradiction
| apply al (d:=41) 0 42 2;rfl;rfl;rfl;rfl;rfl
| apply al (d:=41) 1 74 2;rfl;rfl;rfl;rfl;rfl
| apply al (d:=41) 2 135 3;rfl;rfl;rfl;rfl;rfl
| apply al (d:=41) 3 137 5;rfl;rfl;rfl;rfl;rfl
| apply al (d:=41) 4 103 8;rfl;rfl;rfl;rfl;rfl
| apply fZ (d:=9) 46 3;rfl;rfl;rfl
| apply yd;rfl
| intro _
| refine nv ?_
| apply wct rfl
| apply aH (α:=Leg) (e:=46);rfl
| apply ycp;rfl;exact ap;rfl
| fail)
  all_goals (exact ak [0,1,2,3,4,9,10,11,12,13,8] rfl rfl rfl rfl rfl rfl)
 by_cases hta:aj fr ∧ aj to ∧ inP way 1 3
 rotate_left
 ·
  rw [qy (b:=⟨ba,bi,bb,bl,bt,bn⟩) (fun h => hta h.2)]
  repeat' (first
| intro h9;exfalso;contradiction
| intro h9;exact absurd ⟨by assumption,by assumption,by assumption⟩ hta
| apply al (d:=41) 0 42 2;rfl;rfl;rfl;rfl;rfl
| apply al (d:=41) 1 74 2;rfl;rfl;rfl;rfl;rfl
| apply al (d:=41) 2 135 3;rfl;rfl;rfl;rfl;rfl
| apply al (d:=41) 3 137 5;rfl;rfl;rfl;rfl;rfl
| apply al (d:=41) 4 103 8;rfl;rfl;rfl;rfl;rfl
| apply fZ (d:=9) 46 3;rfl;rfl;rfl
| apply yd;rfl
| intro _
| refine nv ?_
| apply wct rfl
| apply aH (α:=Leg) (e:=46);rfl
| apply ycp;rfl;(first | exact ap | exact aQ | exact aO);rfl
| fail)
  all_goals (exact ak [0,1,2,3,4,9,10,11,12,13,8] rfl rfl rfl rfl rfl rfl)
 have hto:=hok.trades
 have htl:=hto.2
 obtain ⟨k1,k2,k3⟩:=id hta
 have hno:∀ x ∈ [fr,to],aj x:=fun x hx => by simp only [List.mem_cons,List.not_mem_nil,or_false] at hx;rcases hx with rfl | rfl <;> assumption
 dsimp only at hto htl
 have c0:¬ ¬ (BooksOk ⟨ba,bi,bb,bl,bt,bn⟩ ∧ aj fr ∧ aj to ∧ inP way 1 3):=fun k => k ⟨hok,hta⟩
 have hol:=Aw (l:=bt) (fr:=fr) (to:=to)
 by_cases hop:0 < ((tOs bt fr to).length:Int)
 rotate_left
 ·
  rw [wt (b:=⟨ba,bi,bb,bl,bt,bn⟩) c0 hop]
  repeat' (first
| intro h9;exfalso;first | contradiction | omega
| apply yds;rfl
| apply yd;rfl
| apply fZ (d:=9) 46 3;rfl;rfl;rfl
| intro _
| refine nv ?_
| apply wct rfl
| apply wcf rfl
| apply ai;rfl
| apply aH (α:=Leg) (e:=46);rfl
| apply ycp;rfl;(first | exact ap | exact aQ | exact aO);rfl
| apply ycf;rfl;(first | exact jH (by assumption) | exact aR (by exact BooksOk.midB (by assumption)));rfl
| fail)
  all_goals (exact ak [0,1,2,3,4,10,11,12,13,14,8] rfl rfl rfl rfl rfl rfl)
 have c1:¬ ¬ 0 < ((tOs (⟨ba,bi,bb,bl,bt,bn⟩:Books).Trades fr to).length:Int):=fun k => k hop
 repeat' (first
| intro h9;exfalso;first | contradiction | omega
| apply yds;rfl
| apply yd;rfl
| intro _
| refine nv ?_
| apply wcf rfl
| apply ai;rfl
| apply aH (α:=Leg) (e:=46);rfl
| apply ycp;rfl;(first | exact ap | exact aQ | exact aO);rfl
| apply ycf;rfl;(first | exact jH (by assumption) | exact aR (by exact BooksOk.midB (by assumption)));rfl
| fail)
 refine wlp (X:=Int × Books × Int) [3,4,8,12,13,14] [0,1,2,3,4,5,6,7,8,9,10,11,12,13,14] (fun x => [(16,I x.1),(15,I x.2.2)]) (fun x => [(9,ow 42 x.2.1.Accounts),(10,ow 74 x.2.1.Instrs),(11,ow 135 x.2.1.Bals),(12,ow 137 x.2.1.Lots),(13,ow 103 x.2.1.Trades),(14,some ⟨true,30,6,.mx [.row 9 0 x.2.1.Accounts.length,.row 10 0 x.2.1.Instrs.length,.row 11 0 x.2.1.Bals.length,.row 12 0 x.2.1.Lots.length,.row 13 0 x.2.1.Trades.length,.sc (.int .i64 x.2.1.Lot)]⟩)]) (fun x => (0 ≤ x.1 ∧ x.1 ≤ (tOs bt fr to).length) ∧ nsF ⟨ba,bi,bb,bl,bt,bn⟩ way (pf (tOs bt fr to) x.1) = (x.2.1,x.2.2,0) ∧ -(1000000000000000 * x.1) ≤ x.2.2 ∧ x.2.2 ≤ 1000000000000000 * x.1) (fun x => ((tOs bt fr to).length - x.1).toNat) (0,⟨ba,bi,bb,bl,bt,bn⟩,0) ⟨⟨by dsimp only;omega,by dsimp only;omega⟩,rfl,by dsimp only;omega,by dsimp only;omega⟩ rfl rfl (fun _ => rfl) (fun _ => rfl) ⟨rfl,rfl,rfl,rfl,rfl,rfl,rfl,rfl⟩ (fun x hx => ?_)
 obtain ⟨i,⟨oa,oi,ob,ol,ot,on⟩,g⟩:=x
 obtain ⟨h0,hF,hg1,hg2⟩:=hx
 dsimp only at h0 hF hg1 hg2 ⊢
 have hsb:=wX (⟨oa,oi,ob,ol,ot,on⟩:Books) (rd (tOs bt fr to) i) way
 by_cases hil:i < (tOs bt fr to).length
 rotate_left
 ·rw [b6 hil] at hF
  have c2:¬ ¬ (nsF (⟨ba,bi,bb,bl,bt,bn⟩:Books) way (tOs (⟨ba,bi,bb,bl,bt,bn⟩:Books).Trades fr to)).2.2 = 0:=fun k => k (by show (nsF ⟨ba,bi,bb,bl,bt,bn⟩ way (tOs bt fr to)).2.2 = 0;rw [hF])
  by_cases hnk:iQ ⟨ba,bi,bb,bl,bt,bn⟩ (tOs bt fr to) ∧ aq g
  ·have c3:¬ ¬ (iQ (⟨ba,bi,bb,bl,bt,bn⟩:Books) (tOs (⟨ba,bi,bb,bl,bt,bn⟩:Books).Trades fr to) ∧ aq (nsF (⟨ba,bi,bb,bl,bt,bn⟩:Books) way (tOs (⟨ba,bi,bb,bl,bt,bn⟩:Books).Trades fr to)).2.1):=fun k => k (by show iQ ⟨ba,bi,bb,bl,bt,bn⟩ (tOs bt fr to) ∧ aq (nsF ⟨ba,bi,bb,bl,bt,bn⟩ way (tOs bt fr to)).2.1;rw [hF];exact hnk)
   obtain ⟨hn1,hn2⟩:=id hnk
   repeat' (first
| intro h9;exfalso;contradiction
| apply yds;rfl
| intro _
| refine nv ?_
| apply wcf rfl
| apply ah rfl
| apply ai;rfl
| apply ycp;rfl;exact bL;rfl
| apply mT;(iterate 10 rfl);exact mI;(iterate 8 rfl)
| fail)
   all_goals
    rw [ww (b:=⟨ba,bi,bb,bl,bt,bn⟩) c0 c1 c2 c3]
    dsimp only
    rw [hF]
    (first | exact ak [0,1,2,3,4,9,10,11,12,13,15] rfl rfl rfl rfl rfl rfl)
  ·have c3:¬ (iQ (⟨ba,bi,bb,bl,bt,bn⟩:Books) (tOs (⟨ba,bi,bb,bl,bt,bn⟩:Books).Trades fr to) ∧ aq (nsF (⟨ba,bi,bb,bl,bt,bn⟩:Books) way (tOs (⟨ba,bi,bb,bl,bt,bn⟩:Books).Trades fr to)).2.1):=fun k => hnk (by
    have k':iQ ⟨ba,bi,bb,bl,bt,bn⟩ (tOs bt fr to) ∧ aq (nsF ⟨ba,bi,bb,bl,bt,bn⟩ way (tOs bt fr to)).2.1:=k
    rw [hF] at k'
    exact k')
   repeat' (first
| intro h9;exfalso;contradiction
| intro h9;exact absurd ⟨by assumption,by assumption⟩ hnk
| apply yd;rfl
| intro _
| refine nv ?_
| apply wct rfl
| apply wcf rfl
| apply ah rfl
| apply ai;rfl
| apply ycp;rfl;exact bL;rfl
| apply ycf;rfl;(exact aR (by exact BooksOk.midB (by assumption)));rfl
| apply mT;(iterate 10 rfl);exact mI;(iterate 8 rfl)
| fail)
   all_goals
    rw [wv (b:=⟨ba,bi,bb,bl,bt,bn⟩) c0 c1 c2 c3]
    (first | exact ak [0,1,2,3,4,16,17,18,19,20,7] rfl rfl rfl rfl rfl rfl)
 by_cases hz:(ag (⟨oa,oi,ob,ol,ot,on⟩:Books) (rd (tOs bt fr to) i) way).2.2 = 0
 rotate_left
 ·have hbad:=A7 (b:=⟨ba,bi,bb,bl,bt,bn⟩) (way:=way) ⟨h0.1,hil⟩ hF hz
  have c2:¬ (nsF (⟨ba,bi,bb,bl,bt,bn⟩:Books) way (tOs (⟨ba,bi,bb,bl,bt,bn⟩:Books).Trades fr to)).2.2 = 0:=fun k => hz (by rw [← hbad];exact k)
  repeat' (first
| intro h9;exfalso;contradiction
| apply yds;rfl
| apply yd;rfl
| intro _
| refine nv ?_
| apply wct rfl
| apply ai;rfl
| apply yne;rfl
| apply yix;rfl;omega
| apply yle;rfl;omega
| refine AG (id:=11) rfl (by kernel_rfl) [(.p,1),(.p,2),(.p,3),(.p,5),(.t,0),(.t,4)] 6 11 [(.p,7),(.p,8),(.p,9),(.p,10),(.o,11),(.l,12),(.p,13),(.p,14)] [(.o,6),(.p,7),(.p,8),(.p,9),(.p,10),(.l,12),(.p,13),(.p,14)] [12] (by kernel_rfl) rfl rfl rfl ?_
| apply oe
| apply ycf;rfl;(first | exact aR (by exact BooksOk.midB (by assumption)) | exact eo);rfl
| fail)
  all_goals
   rw [wu (b:=⟨ba,bi,bb,bl,bt,bn⟩) c0 c1 c2]
   dsimp only
   rw [hbad]
   (first | exact ak [0,1,2,3,4,21,22,23,24,25,7] rfl rfl rfl rfl rfl rfl)
 have hs:=tm (b:=⟨ba,bi,bb,bl,bt,bn⟩) (way:=way) ⟨h0.1,hil⟩
 rw [hF,CJ hz] at hs
 have hy:(0 ≤ i + 1 ∧ i + 1 ≤ (tOs bt fr to).length) ∧ nsF ⟨ba,bi,bb,bl,bt,bn⟩ way (pf (tOs bt fr to) (i + 1)) = ((ag (⟨oa,oi,ob,ol,ot,on⟩:Books) (rd (tOs bt fr to) i) way).1,g + (ag (⟨oa,oi,ob,ol,ot,on⟩:Books) (rd (tOs bt fr to) i) way).2.1,0) ∧ -(1000000000000000 * (i + 1)) ≤ g + (ag (⟨oa,oi,ob,ol,ot,on⟩:Books) (rd (tOs bt fr to) i) way).2.1 ∧ g + (ag (⟨oa,oi,ob,ol,ot,on⟩:Books) (rd (tOs bt fr to) i) way).2.1 ≤ 1000000000000000 * (i + 1):=⟨by omega,hs,by omega,by omega⟩
 repeat' (first
| intro h9;exfalso;contradiction
| apply yds;rfl
| apply yd;rfl
| intro _
| refine nv ?_
| apply wct rfl
| apply wcf rfl
| apply ai;rfl
| apply yne;rfl
| apply yar;rfl;omega
| apply yix;rfl;omega
| apply yle;rfl;omega
| refine AG (id:=11) rfl (by kernel_rfl) [(.p,1),(.p,2),(.p,3),(.p,5),(.t,0),(.t,4)] 6 11 [(.p,7),(.p,8),(.p,9),(.p,10),(.o,11),(.l,12),(.p,13),(.p,14)] [(.o,6),(.p,7),(.p,8),(.p,9),(.p,10),(.l,12),(.p,13),(.p,14)] [12] (by kernel_rfl) rfl rfl rfl ?_
| apply oe
| apply ycf;rfl;exact eo;rfl
| fail)
 all_goals (first | exact aB (i + 1,(ag (⟨oa,oi,ob,ol,ot,on⟩:Books) (rd (tOs bt fr to) i) way).1,g + (ag (⟨oa,oi,ob,ol,ot,on⟩:Books) (rd (tOs bt fr to) i) way).2.1) [0,1,2,3,4,5,6,7,8,15,16,17,18,19,14] ⟨rfl,rfl,rfl,rfl,rfl,rfl,rfl,rfl⟩ hy (by omega) | exact aB (i + 1,(ag (⟨oa,oi,ob,ol,ot,on⟩:Books) (rd (tOs bt fr to) i) way).1,g + (ag (⟨oa,oi,ob,ol,ot,on⟩:Books) (rd (tOs bt fr to) i) way).2.1) [0,1,2,3,4,5,6,7,8,16,17,18,19,20,14] ⟨rfl,rfl,rfl,rfl,rfl,rfl,rfl,rfl⟩ hy (by omega))
end Go.Proofs.YtgehbhkfehmdkaaGreat.Sh
