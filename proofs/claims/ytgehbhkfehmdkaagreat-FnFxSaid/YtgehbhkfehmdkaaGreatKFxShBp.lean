/- What is laid into balances. No condition. -/
import Derived.Test.YtgehbhkfehmdkaaGreatKFxShV
import Derived.Test.YtgehbhkfehmdkaaGreatKFxShBo
set_option maxRecDepth 100000
set_option maxHeartbeats 40000000
set_option linter.unusedSimpArgs false
set_option linter.unusedVariables false
namespace Go.Proofs.YtgehbhkfehmdkaaGreat.Sh
section
open Go.RowKit
noncomputable def woB (l:List Bal) (a c:Int):List Bal:=sel (ic l a c) (del l (bIx l a c)) l
noncomputable def cU (l:List Bal) (a c n:Int):List Bal:=sel (n = 0) (woB l a c) (ins (woB l a c) (bIx l a c) ⟨a,c,n⟩)
theorem mW {l:List Bal} {a c n:Int} (hs:BSd l) (hl:l.length ≤ 4000000):FC Tryz.prog 119 [.c (.row 0 0 l.length),I a,I c,I n] ([ro 135 l]) (.c (.row 1 0 (cU l a c n).length)) ([ro 135 l,ow 135 (cU l a c n)]):=by
 refine ay tk 38 [.tmp 8] Tryz.func119 (by kernel_rfl) rfl rfl rfl rfl rfl rfl rfl ?_
 have hn:=dI l a c
 have hlt:=fun h:ic l a c => (gM hs h).1
 by_cases hh:ic l a c
 ·have h1:=hlt hh
  have h2:=qW (l:=l) (i:=bIx l a c) ⟨hn.1,h1⟩
  have hw:woB l a c = del l (bIx l a c):=al hh
  by_cases hz:n = 0
  ·rw [show cU l a c n = del l (bIx l a c) from (al hz).trans hw]
   repeat' (first
| intro h9;exfalso;contradiction
| apply yds;rfl
| apply yd;rfl
| intro _
| refine nv ?_
| apply wct rfl
| apply wcf rfl
| apply yne;rfl
| apply yar;rfl;omega
| apply ycf;rfl;exact bI (by omega);rfl
| apply zcs;(iterate 10 rfl);exact ea (by assumption);exact fun _ => rfl;exact fun _ => rfl;rfl;rfl;rfl;rfl
| apply ycw  [true];rfl;exact eM (by omega) (by omega);rfl
| fail)
   all_goals exact au [0,1] rfl rfl rfl rfl rfl rfl
  ·rw [show cU l a c n = ins (del l (bIx l a c)) (bIx l a c) ⟨a,c,n⟩ from (a8 hz).trans (by rw [hw])]
   repeat' (first
| intro h9;exfalso;contradiction
| apply yds;rfl
| apply yd;rfl
| intro _
| refine nv ?_
| apply wct rfl
| apply yne;rfl
| apply yar;rfl;omega
| apply aH (α:=Bal) (e:=135);rfl
| apply ycf;rfl;exact bI (by omega);rfl
| apply zcs;(iterate 10 rfl);exact ea (by assumption);exact fun _ => rfl;exact fun _ => rfl;rfl;rfl;rfl;rfl
| apply ycw  [true];rfl;exact eM (by omega) (by omega);rfl
| apply ycw  [true,true];rfl;exact eN (by omega) (by omega);rfl
| fail)
   all_goals exact au [0,3] rfl rfl rfl rfl rfl rfl
 ·have hw:woB l a c = l:=a8 hh
  by_cases hz:n = 0
  ·rw [show cU l a c n = l from (al hz).trans hw]
   repeat' (first
| intro h9;exfalso;contradiction
| apply yds;rfl
| apply yd;rfl
| intro _
| refine nv ?_
| apply wcf rfl
| apply yne;rfl
| apply ycf;rfl;exact bI (by omega);rfl
| apply zcs;(iterate 10 rfl);exact ea (by assumption);exact fun _ => rfl;exact fun _ => rfl;rfl;rfl;rfl;rfl
| fail)
   all_goals exact au [0,1] rfl rfl rfl rfl rfl rfl
  ·rw [show cU l a c n = ins l (bIx l a c) ⟨a,c,n⟩ from (a8 hz).trans (by rw [hw])]
   repeat' (first
| intro h9;exfalso;contradiction
| apply yds;rfl
| apply yd;rfl
| intro _
| refine nv ?_
| apply wct rfl
| apply wcf rfl
| apply yne;rfl
| apply aH (α:=Bal) (e:=135);rfl
| apply ycf;rfl;exact bI (by omega);rfl
| apply zcs;(iterate 10 rfl);exact ea (by assumption);exact fun _ => rfl;exact fun _ => rfl;rfl;rfl;rfl;rfl
| apply ycw  [true,true];rfl;exact eN (by omega) (by omega);rfl
| fail)
   all_goals exact au [0,3] rfl rfl rfl rfl rfl rfl
theorem dZ {α:Type} {p:α → Prop} {l:List α} (h:∀ x ∈ l,p x):flt p l = l:=List.filter_eq_self.2 fun x hx => kM (h x hx)
def neB (a c:Int) (y:Bal):Prop:=¬ (y.Account = a ∧ y.Instr = c)
theorem rr {a c:Int} {y:Bal} (h:bef y.Account y.Instr a c):neB a c y:=fun e => by unfold bef at h;omega
theorem gx {l:List Bal} {a c:Int}:∀ y ∈ pf l (bIx l a c),neB a c y:=fun y hy => by
 obtain ⟨j,hj,rfl⟩:=bj hy
 have hn:=dI l a c
 rw [bO hn] at hj
 rw [rH ⟨hj.1,hj.2⟩]
 exact rr (mB hj.1 hj.2)
theorem y4 {l:List Bal} {k i:Int} (h:0 ≤ k ∧ k ≤ i):pf l i = pf l k ++ (l.drop k.toNat).take (i - k).toNat:=by
 unfold pf
 rw [show i.toNat = k.toNat + (i - k).toNat from by omega,List.take_add]
theorem yB {l:List Bal} {a c i:Int} (h:bIx l a c ≤ i):bIx l a c ≤ ((flt (neB a c) (pf l i)).length:Int):=by
 have hn:=dI l a c
 rw [y4 ⟨hn.1,h⟩,aQ,dZ gx,List.length_append]
 have:=bO hn
 omega
theorem vQ {α:Type} {l m:List α} {k:Int} {x:α} (h:k ≤ l.length):ins (l ++ m) k x = ins l k x ++ m:=by
 have h1:k.toNat ≤ l.length:=by omega
 unfold ins
 rw [List.take_append_of_le_length h1,List.drop_append_of_le_length h1]
 simp
theorem qj {l m:List Bal} {k:Int} {x:Bal} (h:0 ≤ k ∧ k ≤ l.length):ins (pf l k ++ m) k x = pf l k ++ x :: m:=by
 have h1:(pf l k).length = k.toNat:=by have:=bO h;omega
 unfold ins
 rw [← h1,List.take_left,List.drop_left]
theorem kh {l:List Bal} (hs:BSd l) (a c:Int):flt (neB a c) l = woB l a c:=by
 have hn:=dI l a c
 by_cases hh:ic l a c
 ·rw [woB,al hh]
  obtain ⟨h1,h2⟩:=gM hs hh
  have e:l = pf l (bIx l a c) ++ rd l (bIx l a c) :: l.drop ((bIx l a c).toNat + 1):=by
   have h3:(bIx l a c).toNat < l.length:=by omega
   have e2:rd l (bIx l a c) = l[(bIx l a c).toNat]:=by simp [rd,List.getD_eq_getElem?_getD,h3]
   unfold pf
   rw [e2,← List.drop_eq_getElem_cons h3,List.take_append_drop]
  have hd:∀ y ∈ l.drop ((bIx l a c).toNat + 1),neB a c y:=fun y hy k => by
   obtain ⟨n,hm,rfl⟩:=List.getElem_of_mem hy
   rw [List.length_drop] at hm
   have hl:=hs.lt (i:=bIx l a c) (j:=bIx l a c + 1 + n) hn.1 (by omega) (by omega)
   have e3:rd l (bIx l a c + 1 + n) = (l.drop ((bIx l a c).toNat + 1))[n]:=by
    rw [List.getElem_drop]
    have:(bIx l a c + 1 + (n:Int)).toNat = (bIx l a c).toNat + 1 + n:=by omega
    simp [rd,this,List.getD_eq_getElem?_getD,show (bIx l a c).toNat + 1 + n < l.length from by omega]
   rw [e3,h2.1,h2.2,k.1,k.2] at hl
   unfold bef at hl
   omega
  have e4:flt (neB a c) (rd l (bIx l a c) :: l.drop ((bIx l a c).toNat + 1)) = l.drop ((bIx l a c).toNat + 1):=by
   rw [show rd l (bIx l a c) :: l.drop ((bIx l a c).toNat + 1) = [rd l (bIx l a c)] ++ l.drop ((bIx l a c).toNat + 1) from rfl,aQ,dj (fun k => k h2),dZ hd]
   rfl
  conv => lhs;rw [e]
  rw [aQ,dZ gx,e4]
  rfl
 ·rw [woB,a8 hh]
  exact dZ (fun y hy k => hh ⟨y,hy,k⟩)
theorem iA {l:List Bal} {a c n:Int} (hs:BSd l) (hl:l.length ≤ 4000000):FC Tryz.prog 169 [.c (.row 0 0 l.length),I a,I c,I n] ([ro 135 l]) (.c (.row 1 0 (cU l a c n).length)) ([ro 135 l,ow 135 (cU l a c n)]):=by
 refine ay tk 68 [.tmp 8] Tryz.func169 (by kernel_rfl) rfl rfl rfl rfl rfl rfl rfl ?_
 have hK:=dI l a c
 have hKa:=tf (l:=l) (a:=a) (c:=c)
 by_cases hz:n = 0
 ·rw [show cU l a c n = flt (neB a c) l from (al hz).trans (kh hs a c).symm]
  repeat' (first
| intro h9;exfalso;contradiction
| apply yds;rfl
| apply yd;rfl
| intro _
| refine nv ?_
| apply aj;rfl
| apply aH (α:=Bal) (e:=135);rfl
| fail)
  refine wlp (X:=Int × List Bal) [0,1,2,10,11] [0,1,2] (fun x => [(12,I x.1),(9,.c (.row 1 0 x.2.length))]) (fun x => [(1,ow 135 x.2)]) (fun x => (0 ≤ x.1 ∧ x.1 ≤ l.length) ∧ x.2 = flt (neB a c) (pf l x.1)) (fun x => (l.length - x.1).toNat) (0,[]) ⟨⟨by dsimp only;omega,by dsimp only;omega⟩,rfl⟩ rfl rfl (fun _ => rfl) (fun _ => rfl) ⟨rfl,rfl,rfl,rfl,rfl,rfl,rfl,rfl⟩ (fun x hx => ?_)
  obtain ⟨i,xs⟩:=x
  obtain ⟨h0,h2⟩:=hx
  dsimp only at h0 h2 ⊢
  have hxl:xs.length ≤ 4000000:=by rw [h2];have:=cL (neB a c) (pf l i);have:=bO h0;omega
  repeat' (first
| apply yds;rfl
| apply yd;rfl
| intro _
| refine nv ?_
| apply wct rfl
| apply wcf rfl
| apply ah rfl
| apply aj;rfl
| apply yne;rfl
| apply yar;rfl;omega
| apply yix;rfl;omega
| apply yle;rfl;omega
| apply aH (α:=Bal) (e:=135);rfl
| apply yap;rfl;(((try simp only [lE,lM]);(try dsimp only);omega))
| fail)
  all_goals first
   | exact aB (i + 1,xs ++ [rd l i]) [0,5,2] ⟨rfl,rfl,rfl,rfl,rfl,rfl,rfl,rfl⟩ ⟨⟨by dsimp only;omega,by dsimp only;omega⟩,by dsimp only;rw [bB ⟨h0.1,by assumption⟩,dM (p:=neB a c) (fun k => by first | exact absurd k.1 (by assumption) | exact absurd k.2 (by assumption)),h2]⟩ (by first | omega | (dsimp only;omega))
   | exact aB (i + 1,xs) [0,1,2] ⟨rfl,rfl,rfl,rfl,rfl,rfl,rfl,rfl⟩ ⟨⟨by dsimp only;omega,by dsimp only;omega⟩,by dsimp only;rw [bB ⟨h0.1,by assumption⟩,dj (p:=neB a c) (fun k => k ⟨by assumption,by assumption⟩),List.append_nil,h2]⟩ (by first | omega | (dsimp only;omega))
   | (rw [show flt (neB a c) l = xs from by rw [h2,b8 (by assumption)]]
      exact au [0,1] rfl rfl rfl rfl rfl rfl)
 ·rw [show cU l a c n = ins (flt (neB a c) l) (bIx l a c) ⟨a,c,n⟩ from (a8 hz).trans (by rw [kh hs a c])]
  repeat' (first
| intro h9;exfalso;contradiction
| apply yds;rfl
| apply yd;rfl
| intro _
| refine nv ?_
| apply aj;rfl
| apply aH (α:=Bal) (e:=135);rfl
| fail)
  refine wlp (X:=Int × Bool × List Bal) [0,1,2,11] [0,1,2] (fun x => [(12,I x.1),(10,B x.2.1),(9,.c (.row 1 0 x.2.2.length))]) (fun x => [(1,ow 135 x.2.2)]) (fun x => (0 ≤ x.1 ∧ x.1 ≤ l.length) ∧ (x.2.1 = false → x.1 ≤ bIx l a c ∧ x.2.2 = pf l x.1) ∧ (x.2.1 = true → bIx l a c < x.1 ∧ x.2.2 = ins (flt (neB a c) (pf l x.1)) (bIx l a c) ⟨a,c,n⟩)) (fun x => (l.length - x.1).toNat) (0,false,[]) ⟨⟨by dsimp only;omega,by dsimp only;omega⟩,fun _ => ⟨hK.1,rfl⟩,fun h => by cases h⟩ rfl rfl (fun _ => rfl) (fun _ => rfl) ⟨rfl,rfl,rfl,rfl,rfl,rfl,rfl,rfl⟩ (fun x hx => ?_)
  obtain ⟨i,put,xs⟩:=x
  obtain ⟨h0,hf,ht⟩:=hx
  dsimp only at h0 hf ht ⊢
  have hpl:=bO h0
  cases put
  ·obtain ⟨h1,h2⟩:=hf rfl
   have hxl:xs.length ≤ 4000000:=by rw [h2];omega
   clear hf ht
   have hlt:¬ bef (rd l i).Account (rd l i).Instr a c → bIx l a c = i:=fun hb => by
    by_cases hq:i < bIx l a c
    ·exact absurd (mB h0.1 hq) hb
    ·omega
   have hge:i < l.length → bef (rd l i).Account (rd l i).Instr a c → i ≠ bIx l a c:=fun h hb e => by
    have:=hKa (by omega)
    rw [← e] at this
    exact this hb
   repeat' (first
| apply yds;rfl
| apply yd;rfl
| intro _
| refine nv ?_
| apply wct rfl
| apply wcf rfl
| apply ah rfl
| apply aj;rfl
| apply yne;rfl
| apply yar;rfl;omega
| apply yix;rfl;omega
| apply yle;rfl;omega
| apply aH (α:=Bal) (e:=135);rfl
| apply yap;rfl;(((try simp only [lE,lM]);(try dsimp only);omega))
| apply ycp;rfl;exact eW;rfl
| fail)
   all_goals first
    | (have e:=hlt (by assumption)
       exact aB (i + 1,true,xs ++ [⟨a,c,n⟩] ++ [rd l i]) [0,7,2] ⟨rfl,rfl,rfl,rfl,rfl,rfl,rfl,rfl⟩ ⟨⟨by dsimp only;omega,by dsimp only;omega⟩,fun h => (by cases h),fun _ => ⟨by dsimp only;omega,by dsimp only;rw [bB ⟨h0.1,by assumption⟩,dM (p:=neB a c) (fun k => by first | exact absurd k.1 (by assumption) | exact absurd k.2 (by assumption)),h2,← e,dZ gx,qj hK,List.append_assoc];rfl⟩⟩ (by first | omega | (dsimp only;omega)))
    | (have e:=hlt (by assumption)
       exact aB (i + 1,true,xs ++ [⟨a,c,n⟩]) [0,5,2] ⟨rfl,rfl,rfl,rfl,rfl,rfl,rfl,rfl⟩ ⟨⟨by dsimp only;omega,by dsimp only;omega⟩,fun h => (by cases h),fun _ => ⟨by dsimp only;omega,by dsimp only;rw [bB ⟨h0.1,by assumption⟩,dj (p:=neB a c) (fun k => k ⟨by assumption,by assumption⟩),h2,← e,dZ gx,qj hK]⟩⟩ (by first | omega | (dsimp only;omega)))
    | (have e:=hge (by assumption) (by assumption)
       exact aB (i + 1,false,xs ++ [rd l i]) [0,5,2] ⟨rfl,rfl,rfl,rfl,rfl,rfl,rfl,rfl⟩ ⟨⟨by dsimp only;omega,by dsimp only;omega⟩,fun _ => ⟨by dsimp only;omega,by dsimp only;rw [h2,bL ⟨h0.1,by assumption⟩]⟩,fun h => (by cases h)⟩ (by first | omega | (dsimp only;omega)))
    | (exfalso
       have q:=rr (by assumption:bef (rd l i).Account (rd l i).Instr a c)
       exact q ⟨by assumption,by assumption⟩)
    | (rw [show ins (flt (neB a c) l) (bIx l a c) ⟨a,c,n⟩ = xs ++ [⟨a,c,n⟩] from by
        have e:bIx l a c = l.length:=by omega
        have e2:pf l (bIx l a c) = l:=b8 (by omega)
        have e3:=gx (l:=l) (a:=a) (c:=c)
        rw [e2] at e3
        rw [dZ e3,iQ e,h2,b8 (by assumption)]]
       exact au [0,4] rfl rfl rfl rfl rfl rfl)
  ·obtain ⟨h1,h2⟩:=ht rfl
   have hfl:=yB (l:=l) (a:=a) (c:=c) (i:=i) (by omega)
   have hxl:xs.length ≤ 4000001:=by rw [h2,dE ⟨hK.1,hfl⟩];have:=cL (neB a c) (pf l i);omega
   clear hf ht
   repeat' (first
| apply yds;rfl
| apply yd;rfl
| intro _
| refine nv ?_
| apply wct rfl
| apply wcf rfl
| apply ah rfl
| apply aj;rfl
| apply yne;rfl
| apply yar;rfl;omega
| apply yix;rfl;omega
| apply yle;rfl;omega
| apply aH (α:=Bal) (e:=135);rfl
| apply yap;rfl;(((try simp only [lE,lM]);(try dsimp only);omega))
| fail)
   all_goals first
    | exact aB (i + 1,true,xs ++ [rd l i]) [0,5,2] ⟨rfl,rfl,rfl,rfl,rfl,rfl,rfl,rfl⟩ ⟨⟨by dsimp only;omega,by dsimp only;omega⟩,fun h => (by cases h),fun _ => ⟨by dsimp only;omega,by dsimp only;rw [bB ⟨h0.1,by assumption⟩,dM (p:=neB a c) (fun k => by first | exact absurd k.1 (by assumption) | exact absurd k.2 (by assumption)),vQ hfl,h2]⟩⟩ (by first | omega | (dsimp only;omega))
    | exact aB (i + 1,true,xs) [0,1,2] ⟨rfl,rfl,rfl,rfl,rfl,rfl,rfl,rfl⟩ ⟨⟨by dsimp only;omega,by dsimp only;omega⟩,fun h => (by cases h),fun _ => ⟨by dsimp only;omega,by dsimp only;rw [bB ⟨h0.1,by assumption⟩,dj (p:=neB a c) (fun k => k ⟨by assumption,by assumption⟩),List.append_nil,h2]⟩⟩ (by first | omega | (dsimp only;omega))
    | (rw [show ins (flt (neB a c) l) (bIx l a c) ⟨a,c,n⟩ = xs from by rw [h2,b8 (by assumption)]]
       exact au [0,1] rfl rfl rfl rfl rfl rfl)
end
section
open Go.RowKit
def l4 (a c n:Int):Prop:=ag a ∧ ag c ∧ ai n
def bQ (g:List Leg):Prop:=g.length ≤ 160 ∧ ∀ x ∈ g,l4 x.Account x.Instr x.Amount
def eR (c:Int) (x:Leg):Int:=if x.Instr = c then x.Amount else 0
def bf (g:List Leg) (c:Int):Int:=ak (eR c) g
def co (g:List Leg):Prop:=bQ g ∧ ∀ x ∈ g,bf g x.Instr = 0
theorem ux {c:Int} {x:Leg} (h:x.Instr = c):eR c x = x.Amount:=if_pos h
theorem uw {c:Int} {x:Leg} (h:¬ x.Instr = c):eR c x = 0:=if_neg h
theorem oR {g:List Leg} (h:bQ g) (c:Int):∀ x ∈ g,-1000000000000000 ≤ eR c x ∧ eR c x ≤ 1000000000000000:=fun x hx => by
 have:=(h.2 x hx).2.2
 unfold ai inP at this
 unfold eR
 split <;> omega
theorem jU {a c n:Int}:FC Tryz.prog 228 [.agg [.sc (.int .i64 a),.sc (.int .i64 c),.sc (.int .i64 n)]] ([]) (B (dB (¬ l4 a c n))) ([]):=by
 refine ay tk 19 [.tmp 2] Tryz.func228 (by kernel_rfl) rfl rfl rfl rfl rfl rfl rfl ?_
 repeat' (first
| apply yds;rfl
| intro _
| refine nv ?_
| apply ycp;rfl;(first | exact dx | exact dC);rfl
| fail)
 all_goals first
  | exact aV [] rfl rfl rfl rfl rfl rfl (fun k => k ⟨by assumption,by assumption,by assumption⟩)
  | exact bG [] rfl rfl rfl rfl rfl rfl (fun k => by obtain ⟨k1,k2,k3⟩:=k;contradiction)
theorem fc {l:List Leg}:FC Tryz.prog 234 [.c (.row 0 0 l.length),.c (.fn 228 [])] ([ro 46 l]) (sel (∃ x ∈ l,¬ l4 x.Account x.Instr x.Amount) (I (fIx l (fun x => ¬ l4 x.Account x.Instr x.Amount))) (I (-1))) (sel (∃ x ∈ l,¬ l4 x.Account x.Instr x.Amount) [ro 46 l] [ro 46 l]):=by
 refine ay tk 19 [.tmp 4] Tryz.func234 (by kernel_rfl) rfl rfl rfl rfl rfl rfl rfl ?_
 refine cw l 0 rfl (fun hl => ?_)
 repeat' (first
| apply yds;rfl
| apply yd;rfl
| refine nv ?_
| fail)
 refine wlp (X:=Int) [0,1,7] [0] (fun i => [(8,I i)]) (fun _ => []) (fun i => 0 ≤ i ∧ i ≤ l.length ∧ ∀ j:Int,0 ≤ j → j < i → ¬ (fun x => ¬ l4 x.Account x.Instr x.Amount) (rd l j)) (fun i => (l.length - i).toNat) 0 ⟨by omega,by omega,fun j h0 h1 => by omega⟩ rfl rfl (fun _ => rfl) (fun _ => rfl) ⟨rfl,rfl,rfl,rfl,rfl,rfl,rfl,rfl⟩ (fun i hi => ?_)
 obtain ⟨h0,hi,hall⟩:=hi
 skip
 repeat' (first
| apply yds;rfl
| apply yd;rfl
| apply ycp;rfl;exact jU;rfl
| intro _
| refine nv ?_
| apply wct rfl
| apply wcf rfl
| apply ah rfl
| apply aj;rfl
| apply yar;rfl;omega
| apply yix;rfl;omega
| apply yle;rfl;omega
| fail)
 all_goals first
  | (refine fv (X':=I i) (hs':=[ro 46 l]) [0] rfl rfl rfl rfl rfl rfl ?_ ?_
     ·rw [al ⟨rd l i,az ⟨by omega,by omega⟩,by assumption⟩,ii ⟨by omega,by omega⟩ hall (by assumption)]
     ·rw [al ⟨rd l i,az ⟨by omega,by omega⟩,by assumption⟩])
  | exact cD (hJ (by assumption) hall) [0] rfl rfl rfl rfl rfl rfl
  | exact aB (i + 1) [0] ⟨rfl,rfl,rfl,rfl,rfl,rfl,rfl,rfl⟩ ⟨by omega,by omega,ax hall (by assumption)⟩ (by first | omega | (dsimp only;omega))
theorem eu {l:List Leg}:FC Tryz.prog 122 [.c (.row 0 0 l.length),.c (.fn 228 [])] ([ro 46 l]) (B (dB (∃ x ∈ l,¬ l4 x.Account x.Instr x.Amount))) ([ro 46 l]):=by
 refine ay tk 9 [.tmp 4] Tryz.func122 (by kernel_rfl) rfl rfl rfl rfl rfl rfl rfl ?_
 have hn:=cK l (fun x => ¬ l4 x.Account x.Instr x.Amount)
 repeat' (first
| apply yds;rfl
| apply yd;rfl
| intro _
| refine nv ?_
| apply aj;rfl
| apply zcs;(iterate 10 rfl);exact fc;exact fun _ => rfl;exact fun _ => rfl;rfl;rfl;rfl;rfl
| fail)
 all_goals first
  | exact bG [0] rfl rfl rfl rfl rfl rfl (by assumption)
  | exact aV [0] rfl rfl rfl rfl rfl rfl (by assumption)
  | (exfalso;omega)
theorem dD {g:List Leg}:FC Tryz.prog 116 [.c (.row 0 0 g.length)] ([ro 46 g]) (B (dB (bQ g))) ([ro 46 g]):=by
 refine ay tk 11 [.tmp 2] Tryz.func116 (by kernel_rfl) rfl rfl rfl rfl rfl rfl rfl ?_
 repeat' (first
| apply yds;rfl
| apply yd;rfl
| intro _
| refine nv ?_
| apply aj;rfl
| apply ycp;rfl;exact eu;rfl
| fail)
 all_goals first
  | exact bG [0] rfl rfl rfl rfl rfl rfl ⟨by omega,fun x hx => Classical.byContradiction fun k => absurd (⟨x,hx,k⟩:∃ x ∈ g,¬ l4 x.Account x.Instr x.Amount) (by assumption)⟩
  | exact aV [0] rfl rfl rfl rfl rfl rfl (fun h => by have:=h.1;omega)
  | exact aV [0] rfl rfl rfl rfl rfl rfl (fun h => by obtain ⟨x,hx,k⟩:∃ x ∈ g,¬ l4 x.Account x.Instr x.Amount:=(by assumption);exact k (h.2 x hx))
theorem cV {g:List Leg}:FC Tryz.prog 304 [.c (.row 0 0 g.length)] ([ro 46 g]) (B (dB (bQ g))) ([ro 46 g]):=by
 refine ay tk 38 [.tmp 2] Tryz.func304 (by kernel_rfl) rfl rfl rfl rfl rfl rfl rfl ?_
 repeat' (first
| apply yds;rfl
| apply yd;rfl
| intro _
| refine nv ?_
| apply wct rfl
| apply wcf rfl
| apply aj;rfl
| fail)
 rotate_left
 ·refine wlp (X:=Int) [0] [0] (fun i => [(3,I i)]) (fun _ => []) (fun i => 0 ≤ i ∧ i ≤ g.length ∧ ∀ j:Int,0 ≤ j → j < i → l4 (rd g j).Account (rd g j).Instr (rd g j).Amount) (fun i => (g.length - i).toNat) 0 ⟨by omega,by omega,fun j h0 h1 => by omega⟩ rfl rfl (fun _ => rfl) (fun _ => rfl) ⟨rfl,rfl,rfl,rfl,rfl,rfl,rfl,rfl⟩ (fun i hi => ?_)
  obtain ⟨h0,hi,hall⟩:=hi
  repeat' (first
| apply yds;rfl
| apply yd;rfl
| intro _
| refine nv ?_
| apply wct rfl
| apply wcf rfl
| apply ah rfl
| apply aj;rfl
| apply yar;rfl;omega
| apply yix;rfl;omega
| apply yle;rfl;omega
| apply ycp;rfl;(first | exact aG | exact bz);rfl
| fail)
  all_goals first
   | exact aB (i + 1) [0] ⟨rfl,rfl,rfl,rfl,rfl,rfl,rfl,rfl⟩ ⟨by omega,by omega,ax hall ⟨by assumption,by assumption,by assumption⟩⟩ (by first | omega | (dsimp only;omega))
   | exact bG [0] rfl rfl rfl rfl rfl rfl ⟨by omega,all_rd.1 fun j h1 h2 => hall j h1 (by omega)⟩
   | exact aV [0] rfl rfl rfl rfl rfl rfl (fun h => by obtain ⟨e1,e2,e3⟩:=h.2 _ (az (l:=g) (i:=i) ⟨h0,by assumption⟩);contradiction)
 all_goals exact aV [0] rfl rfl rfl rfl rfl rfl (fun h => by have:=h.1;omega)
theorem jF {g:List Leg}:FC Tryz.prog 26 [.c (.row 0 0 g.length)] ([ro 46 g]) (B (dB (co g))) ([ro 46 g]):=by
 refine ay tk 36 [.tmp 2] Tryz.func26 (by kernel_rfl) rfl rfl rfl rfl rfl rfl rfl ?_
 repeat' (first
| apply yds;rfl
| apply yd;rfl
| intro _
| refine nv ?_
| apply wct rfl
| apply wcf rfl
| apply ycp;rfl;exact dD;rfl
| fail)
 rotate_left
 ·exact aV [0] rfl rfl rfl rfl rfl rfl (fun h => absurd h.1 (by assumption))
 rename_i hf
 have hl:=hf.1
 refine wlp (X:=Int) [0,11,12] [0] (fun i => [(13,I i)]) (fun _ => []) (fun i => 0 ≤ i ∧ i ≤ g.length ∧ ∀ j:Int,0 ≤ j → j < i → bf g (rd g j).Instr = 0) (fun i => (g.length - i).toNat) 0 ⟨by omega,by omega,fun j h0 h1 => by omega⟩ rfl rfl (fun _ => rfl) (fun _ => rfl) ⟨rfl,rfl,rfl,rfl,rfl,rfl,rfl,rfl⟩ (fun i hi => ?_)
 obtain ⟨h0,hi,hall⟩:=hi
 repeat' (first
| apply yds;rfl
| apply yd;rfl
| intro _
| refine nv ?_
| apply wct rfl
| apply wcf rfl
| apply ah rfl
| apply aj;rfl
| apply yix;rfl;omega
| apply yle;rfl;omega
| fail)
 rotate_left
 ·exact bG [0] rfl rfl rfl rfl rfl rfl ⟨hf,all_rd.1 fun j h1 h2 => hall j h1 (by omega)⟩
 rename_i hil
 refine wlp (X:=Int × Int) [0,4,11,12,13,17,18] [0,1] (fun x => [(19,I x.1),(5,I x.2)]) (fun _ => []) (fun x => (0 ≤ x.1 ∧ x.1 ≤ g.length) ∧ x.2 = bf (pf g x.1) (rd g i).Instr) (fun x => (g.length - x.1).toNat) (0,0) ⟨⟨by dsimp only;omega,by dsimp only;omega⟩,rfl⟩ rfl rfl (fun _ => rfl) (fun _ => rfl) ⟨rfl,rfl,rfl,rfl,rfl,rfl,rfl,rfl⟩ (fun x hx => ?_)
 obtain ⟨k,n⟩:=x
 obtain ⟨k0,hn⟩:=hx
 dsimp only at k0 hn ⊢
 have hb:=eC (oR hf (rd g i).Instr) k0
 rw [show ak (eR (rd g i).Instr) (pf g k) = n from hn.symm] at hb
 have hs:=fun h:k < g.length => cq (f:=eR (rd g i).Instr) (l:=g) (i:=k) ⟨k0.1,h⟩
 have hb2:=fun h:k < g.length => (hf.2 _ (az (l:=g) (i:=k) ⟨k0.1,h⟩)).2.2
 unfold ai inP at hb2
 repeat' (first
| apply yds;rfl
| apply yd;rfl
| apply yar;rfl;(have h1:=hb2 (by assumption);omega)
| intro _
| refine nv ?_
| apply wct rfl
| apply wcf rfl
| apply ah rfl
| apply aj;rfl
| apply yne;rfl
| apply yar;rfl;omega
| apply yix;rfl;omega
| apply yle;rfl;omega
| fail)
 all_goals first
  | (rename_i h e
     exact aB (k + 1,_) [0,1] ⟨rfl,rfl,rfl,rfl,rfl,rfl,rfl,rfl⟩ ⟨⟨by dsimp only;omega,by dsimp only;omega⟩,by dsimp only;rw [bf,hs h,ux e,hn];rfl⟩ (by first | omega | (dsimp only;omega)))
  | (rename_i h e
     exact aB (k + 1,_) [0,1] ⟨rfl,rfl,rfl,rfl,rfl,rfl,rfl,rfl⟩ ⟨⟨by dsimp only;omega,by dsimp only;omega⟩,by dsimp only;rw [bf,hs h,uw e,hn,Int.add_zero];rfl⟩ (by first | omega | (dsimp only;omega)))
  | (have e:n = bf g (rd g i).Instr:=hn.trans (congrArg (fun x => bf x (rd g i).Instr) (b8 (i:=k) (by assumption)))
     first
     | exact aV [0] rfl rfl rfl rfl rfl rfl (fun h => absurd (e.trans (h.2 _ (az (l:=g) (i:=i) ⟨h0,hil⟩))) (by assumption))
     | exact aB (i + 1) [0] ⟨rfl,rfl,rfl,rfl,rfl,rfl,rfl,rfl⟩ ⟨by omega,by omega,ax hall (e.symm.trans (by first | assumption | omega))⟩ (by first | omega | (dsimp only;omega)))
theorem jL {g:List Leg}:FC Tryz.prog 305 [.c (.row 0 0 g.length)] ([ro 46 g]) (B (dB (co g))) ([ro 46 g]):=by
 refine ay tk 41 [.tmp 2] Tryz.func305 (by kernel_rfl) rfl rfl rfl rfl rfl rfl rfl ?_
 repeat' (first
| apply yd;rfl
| intro _
| refine nv ?_
| apply wct rfl
| apply wcf rfl
| apply ycp;rfl;exact cV;rfl
| fail)
 rotate_left
 ·exact aV [0] rfl rfl rfl rfl rfl rfl (fun h => absurd h.1 (by assumption))
 rename_i hf
 have hl:=hf.1
 refine wlp (X:=Int) [0] [0] (fun i => [(3,I i)]) (fun _ => []) (fun i => 0 ≤ i ∧ i ≤ g.length ∧ ∀ j:Int,0 ≤ j → j < i → bf g (rd g j).Instr = 0) (fun i => (g.length - i).toNat) 0 ⟨by omega,by omega,fun j h0 h1 => by omega⟩ rfl rfl (fun _ => rfl) (fun _ => rfl) ⟨rfl,rfl,rfl,rfl,rfl,rfl,rfl,rfl⟩ (fun i hi => ?_)
 obtain ⟨h0,hi,hall⟩:=hi
 repeat' (first
| apply yds;rfl
| apply yd;rfl
| intro _
| refine nv ?_
| apply wct rfl
| apply wcf rfl
| apply ah rfl
| apply aj;rfl
| fail)
 rotate_left
 ·exact bG [0] rfl rfl rfl rfl rfl rfl ⟨hf,all_rd.1 fun j h1 h2 => hall j h1 (by omega)⟩
 rename_i hil
 refine wlp (X:=Int × Int) [0,3] [0] (fun x => [(5,I x.1),(4,I x.2)]) (fun _ => []) (fun x => (0 ≤ x.1 ∧ x.1 ≤ g.length) ∧ x.2 = bf (pf g x.1) (rd g i).Instr) (fun x => (g.length - x.1).toNat) (0,0) ⟨⟨by dsimp only;omega,by dsimp only;omega⟩,rfl⟩ rfl rfl (fun _ => rfl) (fun _ => rfl) ⟨rfl,rfl,rfl,rfl,rfl,rfl,rfl,rfl⟩ (fun x hx => ?_)
 obtain ⟨k,n⟩:=x
 obtain ⟨k0,hn⟩:=hx
 dsimp only at k0 hn ⊢
 have hb:=eC (oR hf (rd g i).Instr) k0
 rw [show ak (eR (rd g i).Instr) (pf g k) = n from hn.symm] at hb
 have hs:=fun h:k < g.length => cq (f:=eR (rd g i).Instr) (l:=g) (i:=k) ⟨k0.1,h⟩
 have hb2:=fun h:k < g.length => (hf.2 _ (az (l:=g) (i:=k) ⟨k0.1,h⟩)).2.2
 unfold ai inP at hb2
 repeat' (first
| apply yds;rfl
| apply yd;rfl
| apply yar;rfl;(have h1:=hb2 (by assumption);omega)
| intro _
| refine nv ?_
| apply wct rfl
| apply wcf rfl
| apply ah rfl
| apply aj;rfl
| apply yne;rfl
| apply yar;rfl;omega
| apply yix;rfl;omega
| apply yle;rfl;omega
| refine zdq (id:=10) rfl (by kernel_rfl) [(.p,0),(.p,1),(.p,2),(.p,3),(.p,5),(.p,6),(.p,7),(.p,8),(.t,4),(.t,9),(.p,10)] [] (by kernel_rfl) rfl ?_
| fail)
 all_goals first
  | (rename_i h e
     exact aB (k + 1,_) [0] ⟨rfl,rfl,rfl,rfl,rfl,rfl,rfl,rfl⟩ ⟨⟨by dsimp only;omega,by dsimp only;omega⟩,by dsimp only;rw [bf,hs h,ux e,hn];rfl⟩ (by first | omega | (dsimp only;omega)))
  | (rename_i h e
     exact aB (k + 1,_) [0] ⟨rfl,rfl,rfl,rfl,rfl,rfl,rfl,rfl⟩ ⟨⟨by dsimp only;omega,by dsimp only;omega⟩,by dsimp only;rw [bf,hs h,uw e,hn,Int.add_zero];rfl⟩ (by first | omega | (dsimp only;omega)))
  | (have e:n = bf g (rd g i).Instr:=hn.trans (congrArg (fun x => bf x (rd g i).Instr) (b8 (i:=k) (by assumption)))
     first
     | exact aV [0] rfl rfl rfl rfl rfl rfl (fun h => absurd (e.trans (h.2 _ (az (l:=g) (i:=i) ⟨h0,hil⟩))) (by assumption))
     | exact aB (i + 1) [0] ⟨rfl,rfl,rfl,rfl,rfl,rfl,rfl,rfl⟩ ⟨by omega,by omega,ax hall (e.symm.trans (by first | assumption | omega))⟩ (by first | omega | (dsimp only;omega)))
theorem qC {a b:Int} (ha:ai a) (hb:ai b):FC Tryz.prog 306 [I a,I b] ([]) (sel (ai (a + b)) (.tup [I (a + b),B true]) (.tup [I 0,B false])) (sel (ai (a + b)) [] []):=by
 refine ay tk 18 [.tmp 4,.tmp 5] Tryz.func306 (by kernel_rfl) rfl rfl rfl rfl rfl rfl rfl ?_
 have ha2:=ha
 have hb2:=hb
 unfold ai inP at ha2 hb2
 repeat' (first
| apply yds;rfl
| apply yd;rfl
| intro _
| refine nv ?_
| apply yar;rfl;omega
| apply ycp;rfl;exact bz;rfl
| apply yc;rfl;exact i6;rfl;exact fun _ => rfl
| apply zcs;(iterate 10 rfl);exact i7;exact fun _ => rfl;exact fun _ => rfl;rfl;rfl;rfl;rfl
| fail)
 all_goals first
  | (exfalso;contradiction)
  | exact jl (by assumption) [] rfl rfl rfl rfl rfl rfl
  | exact cD (by assumption) [] rfl rfl rfl rfl rfl rfl
end
section
open Go.RowKit
def kE (x y:Bal):Prop:=bef x.Account x.Instr y.Account y.Instr
theorem it {α:Type} [Enc α] {l:List α} {i:Int} (h:i.toNat < l.length):rd l i = l[i.toNat]:=by simp [rd,List.getD_eq_getElem?_getD,h]
theorem BSd_iff {l:List Bal}:BSd l ↔ l.Pairwise kE:=by
 constructor
 ·intro h
  rw [List.pairwise_iff_getElem]
  intro i j hi hj hij
  have:=h.lt (i:=i) (j:=j) (by omega) (by omega) (by omega)
  rw [it (l:=l) (i:=i) (by omega),it (l:=l) (i:=j) (by omega)] at this
  exact this
 ·intro h i h0 h1
  rw [List.pairwise_iff_getElem] at h
  have:=h (i - 1).toNat i.toNat (by omega) (by omega) (by omega)
  rw [it (l:=l) (i:=i - 1) (by omega),it (l:=l) (i:=i) (by omega)]
  exact this
theorem cP {l:List Bal} (hs:BSd l) (a c n:Int):cU l a c n = pf l (bIx l a c) ++ (if n = 0 then [] else [⟨a,c,n⟩]) ++ flt (neB a c) (l.drop (bIx l a c).toNat):=by
 have hK:=dI l a c
 have e:flt (neB a c) l = pf l (bIx l a c) ++ flt (neB a c) (l.drop (bIx l a c).toNat):=by
  have e1:l = pf l (bIx l a c) ++ l.drop (bIx l a c).toNat:=(List.take_append_drop _ _).symm
  conv => lhs;rw [e1]
  rw [aQ,dZ gx]
 unfold cU
 rw [← kh hs,e]
 by_cases hz:n = 0
 ·rw [al hz,if_pos hz,List.append_nil]
 ·rw [a8 hz,if_neg hz,qj hK]
  simp
theorem qX {l:List Bal} (hs:BSd l) (a c:Int):∀ y ∈ l.drop (bIx l a c).toNat,¬ bef y.Account y.Instr a c:=by
 intro y hy
 have hK:=dI l a c
 obtain ⟨m,hm,rfl⟩:=List.getElem_of_mem hy
 rw [List.length_drop] at hm
 have e3:(l.drop (bIx l a c).toNat)[m] = rd l (bIx l a c + m):=by
  have:(bIx l a c + (m:Int)).toNat = (bIx l a c).toNat + m:=by omega
  rw [List.getElem_drop,it (by omega)]
  simp only [this]
 rw [e3]
 have ha:=tf (l:=l) (a:=a) (c:=c) (by omega)
 by_cases h0:m = 0
 ·subst h0
  simpa using ha
 ·have:=hs.lt (i:=bIx l a c) (j:=bIx l a c + m) hK.1 (by omega) (by omega)
  intro k
  exact ha (ji this k)
theorem dl {l:List Bal} (hs:BSd l) (a c n:Int):BSd (cU l a c n):=by
 have hp:=BSd_iff.1 hs
 rw [BSd_iff,cP hs]
 have h1:(pf l (bIx l a c)).Pairwise kE:=hp.sublist (List.take_sublist _ _)
 have h2:(flt (neB a c) (l.drop (bIx l a c).toNat)).Pairwise kE:=hp.sublist (List.filter_sublist.trans (List.drop_sublist _ _))
 have h3:∀ y ∈ pf l (bIx l a c),bef y.Account y.Instr a c:=fun y hy => by
  obtain ⟨j,hj,rfl⟩:=bj hy
  have hn:=dI l a c
  rw [bO hn] at hj
  rw [rH ⟨hj.1,hj.2⟩]
  exact mB hj.1 hj.2
 have h4:∀ y ∈ flt (neB a c) (l.drop (bIx l a c).toNat),bef a c y.Account y.Instr:=fun y hy => by
  obtain ⟨hy1,hy2⟩:=flt_mem.1 hy
  have hy3:=qX hs a c y hy1
  unfold neB at hy2
  unfold bef at *
  omega
 have h5:∀ x ∈ pf l (bIx l a c),∀ y ∈ flt (neB a c) (l.drop (bIx l a c).toNat),kE x y:=fun x hx y hy => ji (h3 x hx) (h4 y hy)
 split
 ·rw [List.append_nil,List.pairwise_append]
  exact ⟨h1,h2,h5⟩
 ·rw [List.append_assoc,List.pairwise_append]
  refine ⟨h1,List.pairwise_cons.2 ⟨fun y hy => h4 y hy,h2⟩,fun x hx y hy => ?_⟩
  rcases List.mem_cons.1 hy with rfl | hy
  ·exact h3 x hx
  ·exact h5 x hx y hy
theorem lh {l:List Bal} (hs:BSd l) {a c n:Int} {x:Bal} (h:x ∈ cU l a c n):x ∈ l ∨ x = ⟨a,c,n⟩:=by
 rw [cP hs] at h
 simp only [List.mem_append] at h
 rcases h with (h | h) | h
 ·exact .inl (List.mem_of_mem_take h)
 ·split at h
  ·cases h
  ·exact .inr (List.mem_singleton.1 h)
 ·exact .inl (List.mem_of_mem_drop (flt_mem.1 h).1)
theorem lf {l:List Bal} (hs:BSd l) (a c n:Int):(cU l a c n).length ≤ l.length + 1:=by
 rw [cP hs]
 have h1:=cL (neB a c) (l.drop (bIx l a c).toNat)
 have h2:=bO (dI l a c)
 have hK:=dI l a c
 rw [List.length_drop] at h1
 simp only [List.length_append]
 split
 ·simp only [List.length_nil];omega
 ·simp only [List.length_cons,List.length_nil];omega
noncomputable def i9 (o:List Bal) (g:Leg):List Bal:=cU o g.Account g.Instr (aK o g.Account g.Instr + g.Amount)
noncomputable def pO (l:List Bal) (g:List Leg):List Bal:=g.foldl i9 l
theorem ng {l:List Bal} {g:List Leg} {i:Int} (h:0 ≤ i ∧ i < g.length):pO l (pf g (i + 1)) = i9 (pO l (pf g i)) (rd g i):=by
 rw [bL h,pO,List.foldl_append]
 rfl
def mA (l:List Bal):Prop:=∀ x ∈ l,ai x.Amount
theorem BalsOk.amt {l:List Bal} (h:BalsOk l):mA l:=fun x hx => by
 obtain ⟨i,hi,rfl⟩:=bj hx
 exact (h.1 i hi.1 hi.2).2.2.1
theorem jf {l:List Bal} {a c:Int} (h:aK l a c ≠ 0):∃ x ∈ l,x.Account = a ∧ x.Instr = c ∧ x.Amount = aK l a c:=by
 unfold aK at *
 cases hf:l.find? (fun x => decide (x.Account = a ∧ x.Instr = c)) with
 | none => rw [hf] at h;exact absurd rfl h
 | some x =>
   rw [hf] at h
   have:=List.find?_some hf
   simp only [decide_eq_true_eq] at this
   exact ⟨x,List.mem_of_find?_eq_some hf,this.1,this.2,rfl⟩
theorem je {l:List Bal} (h:mA l) (a c:Int):ai (aK l a c):=by
 by_cases e:aK l a c = 0
 ·rw [e];unfold ai inP;omega
 ·obtain ⟨x,hx,_,_,e2⟩:=jf e
  rw [← e2]
  exact h x hx
theorem ld {l:List Bal} (hs:BSd l) (h:mA l) {a c n:Int} (hn:ai n):mA (cU l a c n):=fun x hx => by
 rcases lh hs hx with h1 | rfl
 ·exact h x h1
 ·exact hn
end
end Go.Proofs.YtgehbhkfehmdkaaGreat.Sh
