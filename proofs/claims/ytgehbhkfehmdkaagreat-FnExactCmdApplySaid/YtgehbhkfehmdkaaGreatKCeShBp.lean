/- What is laid into balances. No condition. -/
import Derived.Test.YtgehbhkfehmdkaaGreatKCeShV
import Derived.Test.YtgehbhkfehmdkaaGreatKCeShB1
set_option maxRecDepth 100000
set_option maxHeartbeats 40000000
set_option linter.unusedSimpArgs false
set_option linter.unusedVariables false
namespace Go.Proofs.YtgehbhkfehmdkaaGreat.Sh
section
open Go.RowKit
noncomputable def woB (l:List Bal) (a c:Int):List Bal:=sel (kH l a c) (del l (bIx l a c)) l
noncomputable def eo (l:List Bal) (a c n:Int):List Bal:=sel (n = 0) (woB l a c) (ins (woB l a c) (bIx l a c) ⟨a,c,n⟩)
theorem qN {l:List Bal} {a c n:Int} (hs:BSd l) (hl:l.length ≤ 4000000):FC Tryz.prog 119 [.c (.row 0 0 l.length),I a,I c,I n] ([ro 135 l]) (.c (.row 1 0 (eo l a c n).length)) ([ro 135 l,ow 135 (eo l a c n)]):=by
 refine al tk 38 [.tmp 8] Tryz.func119 (by kernel_rfl) rfl rfl rfl rfl rfl rfl rfl ?_
 have hn:=eX l a c
 have hlt:=fun h:kH l a c => (jC hs h).1
 by_cases hh:kH l a c
 ·have h1:=hlt hh
  have h2:=uC (l:=l) (i:=bIx l a c) ⟨hn.1,h1⟩
  have hw:woB l a c = del l (bIx l a c):=ap hh
  by_cases hz:n = 0
  ·rw [show eo l a c n = del l (bIx l a c) from (ap hz).trans hw]
   repeat' (first
| intro h9;exfalso;contradiction
| apply yds;rfl
| apply yd;rfl
| intro _
| refine nv ?_
| apply wct rfl
| apply wcf rfl
| apply yne;rfl
| apply yar;rfl;omega
| apply ycf;rfl;exact bX (by omega);rfl
| apply zcs;(iterate 10 rfl);exact fI (by assumption);exact fun _ => rfl;exact fun _ => rfl;rfl;rfl;rfl;rfl
| apply ycw  [true];rfl;exact gC (by omega) (by omega);rfl
| fail)
   all_goals exact ai [0,1] rfl rfl rfl rfl rfl rfl
  ·rw [show eo l a c n = ins (del l (bIx l a c)) (bIx l a c) ⟨a,c,n⟩ from (a8 hz).trans (by rw [hw])]
   repeat' (first
| intro h9;exfalso;contradiction
| apply yds;rfl
| apply yd;rfl
| intro _
| refine nv ?_
| apply wct rfl
| apply yne;rfl
| apply yar;rfl;omega
| apply aG (α:=Bal) (e:=135);rfl
| apply ycf;rfl;exact bX (by omega);rfl
| apply zcs;(iterate 10 rfl);exact fI (by assumption);exact fun _ => rfl;exact fun _ => rfl;rfl;rfl;rfl;rfl
| apply ycw  [true];rfl;exact gC (by omega) (by omega);rfl
| apply ycw  [true,true];rfl;exact gD (by omega) (by omega);rfl
| fail)
   all_goals exact ai [0,3] rfl rfl rfl rfl rfl rfl
 ·have hw:woB l a c = l:=a8 hh
  by_cases hz:n = 0
  ·rw [show eo l a c n = l from (ap hz).trans hw]
   repeat' (first
| intro h9;exfalso;contradiction
| apply yds;rfl
| apply yd;rfl
| intro _
| refine nv ?_
| apply wcf rfl
| apply yne;rfl
| apply ycf;rfl;exact bX (by omega);rfl
| apply zcs;(iterate 10 rfl);exact fI (by assumption);exact fun _ => rfl;exact fun _ => rfl;rfl;rfl;rfl;rfl
| fail)
   all_goals exact ai [0,1] rfl rfl rfl rfl rfl rfl
  ·rw [show eo l a c n = ins l (bIx l a c) ⟨a,c,n⟩ from (a8 hz).trans (by rw [hw])]
   repeat' (first
| intro h9;exfalso;contradiction
| apply yds;rfl
| apply yd;rfl
| intro _
| refine nv ?_
| apply wct rfl
| apply wcf rfl
| apply yne;rfl
| apply aG (α:=Bal) (e:=135);rfl
| apply ycf;rfl;exact bX (by omega);rfl
| apply zcs;(iterate 10 rfl);exact fI (by assumption);exact fun _ => rfl;exact fun _ => rfl;rfl;rfl;rfl;rfl
| apply ycw  [true,true];rfl;exact gD (by omega) (by omega);rfl
| fail)
   all_goals exact ai [0,3] rfl rfl rfl rfl rfl rfl
theorem gO {α:Type} {p:α → Prop} {l:List α} (h:∀ x ∈ l,p x):flt p l = l:=List.filter_eq_self.2 fun x hx => oO (h x hx)
def neB (a c:Int) (y:Bal):Prop:=¬ (y.Account = a ∧ y.Instr = c)
theorem uZ {a c:Int} {y:Bal} (h:bef y.Account y.Instr a c):neB a c y:=fun e => by unfold bef at h;omega
theorem jq {l:List Bal} {a c:Int}:∀ y ∈ pf l (bIx l a c),neB a c y:=fun y hy => by
 obtain ⟨j,hj,rfl⟩:=bL hy
 have hn:=eX l a c
 rw [bU hn] at hj
 rw [vd ⟨hj.1,hj.2⟩]
 exact uZ (ql hj.1 hj.2)
theorem Bg {l:List Bal} {k i:Int} (h:0 ≤ k ∧ k ≤ i):pf l i = pf l k ++ (l.drop k.toNat).take (i - k).toNat:=by
 unfold pf
 rw [show i.toNat = k.toNat + (i - k).toNat from by omega,List.take_add]
theorem BK {l:List Bal} {a c i:Int} (h:bIx l a c ≤ i):bIx l a c ≤ ((flt (neB a c) (pf l i)).length:Int):=by
 have hn:=eX l a c
 rw [Bg ⟨hn.1,h⟩,bK,gO jq,List.length_append]
 have:=bU hn
 omega
theorem zj {α:Type} {l m:List α} {k:Int} {x:α} (h:k ≤ l.length):ins (l ++ m) k x = ins l k x ++ m:=by
 have h1:k.toNat ≤ l.length:=by omega
 unfold ins
 rw [List.take_append_of_le_length h1,List.drop_append_of_le_length h1]
 simp
theorem tS {l m:List Bal} {k:Int} {x:Bal} (h:0 ≤ k ∧ k ≤ l.length):ins (pf l k ++ m) k x = pf l k ++ x :: m:=by
 have h1:(pf l k).length = k.toNat:=by have:=bU h;omega
 unfold ins
 rw [← h1,List.take_left,List.drop_left]
theorem mR {l:List Bal} (hs:BSd l) (a c:Int):flt (neB a c) l = woB l a c:=by
 have hn:=eX l a c
 by_cases hh:kH l a c
 ·rw [woB,ap hh]
  obtain ⟨h1,h2⟩:=jC hs hh
  have e:l = pf l (bIx l a c) ++ rd l (bIx l a c) :: l.drop ((bIx l a c).toNat + 1):=by
   have h3:(bIx l a c).toNat < l.length:=by omega
   have e2:rd l (bIx l a c) = l[(bIx l a c).toNat]:=by simp [rd,List.getD_eq_getElem?_getD,h3]
   unfold pf
   rw [e2,← List.drop_eq_getElem_cons h3,List.take_append_drop]
  have hd:∀ y ∈ l.drop ((bIx l a c).toNat + 1),neB a c y:=fun y hy k => by
   obtain ⟨n,hm,rfl⟩:=List.getElem_of_mem hy
   rw [List.length_drop] at hm
   have hl:=hs.lt (i:=bIx l a c) (j:=bIx l a c + 1 + n) hn.1 (by omega) (by omega)
   have e3:rd l (bIx l a c + 1 + n) = (l.drop ((bIx l a c).toNat + 1))[n]:=by
    rw [List.getElem_drop]
    have:(bIx l a c + 1 + (n:Int)).toNat = (bIx l a c).toNat + 1 + n:=by omega
    simp [rd,this,List.getD_eq_getElem?_getD,show (bIx l a c).toNat + 1 + n < l.length from by omega]
   rw [e3,h2.1,h2.2,k.1,k.2] at hl
   unfold bef at hl
   omega
  have e4:flt (neB a c) (rd l (bIx l a c) :: l.drop ((bIx l a c).toNat + 1)) = l.drop ((bIx l a c).toNat + 1):=by
   rw [show rd l (bIx l a c) :: l.drop ((bIx l a c).toNat + 1) = [rd l (bIx l a c)] ++ l.drop ((bIx l a c).toNat + 1) from rfl,bK,eR (fun k => k h2),gO hd]
   rfl
  conv => lhs;rw [e]
  rw [bK,gO jq,e4]
  rfl
 ·rw [woB,a8 hh]
  exact gO (fun y hy k => hh ⟨y,hy,k⟩)
theorem oG {l:List Bal} {a c n:Int} (hs:BSd l) (hl:l.length ≤ 4000000):FC Tryz.prog 169 [.c (.row 0 0 l.length),I a,I c,I n] ([ro 135 l]) (.c (.row 1 0 (eo l a c n).length)) ([ro 135 l,ow 135 (eo l a c n)]):=by
 refine al tk 68 [.tmp 8] Tryz.func169 (by kernel_rfl) rfl rfl rfl rfl rfl rfl rfl ?_
 have hK:=eX l a c
 have hKa:=wB (l:=l) (a:=a) (c:=c)
 by_cases hz:n = 0
 ·rw [show eo l a c n = flt (neB a c) l from (ap hz).trans (mR hs a c).symm]
  repeat' (first
| intro h9;exfalso;contradiction
| apply yds;rfl
| apply yd;rfl
| intro _
| refine nv ?_
| apply ag;rfl
| apply aG (α:=Bal) (e:=135);rfl
| fail)
  refine wlp (X:=Int × List Bal) [0,1,2,10,11] [0,1,2] (fun x => [(12,I x.1),(9,.c (.row 1 0 x.2.length))]) (fun x => [(1,ow 135 x.2)]) (fun x => (0 ≤ x.1 ∧ x.1 ≤ l.length) ∧ x.2 = flt (neB a c) (pf l x.1)) (fun x => (l.length - x.1).toNat) (0,[]) ⟨⟨by dsimp only;omega,by dsimp only;omega⟩,rfl⟩ rfl rfl (fun _ => rfl) (fun _ => rfl) ⟨rfl,rfl,rfl,rfl,rfl,rfl,rfl,rfl⟩ (fun x hx => ?_)
  obtain ⟨i,xs⟩:=x
  obtain ⟨h0,h2⟩:=hx
  dsimp only at h0 h2 ⊢
  have hxl:xs.length ≤ 4000000:=by rw [h2];have:=cO (neB a c) (pf l i);have:=bU h0;omega
  repeat' (first
| apply yds;rfl
| apply yd;rfl
| intro _
| refine nv ?_
| apply wct rfl
| apply wcf rfl
| apply ae rfl
| apply ag;rfl
| apply yne;rfl
| apply yar;rfl;omega
| apply yix;rfl;omega
| apply yle;rfl;omega
| apply aG (α:=Bal) (e:=135);rfl
| apply yap;rfl;(((try simp only [lE,lM]);(try dsimp only);omega))
| fail)
  all_goals first
   | exact aA (i + 1,xs ++ [rd l i]) [0,5,2] ⟨rfl,rfl,rfl,rfl,rfl,rfl,rfl,rfl⟩ ⟨⟨by dsimp only;omega,by dsimp only;omega⟩,by dsimp only;rw [bB ⟨h0.1,by assumption⟩,fG (p:=neB a c) (fun k => by first | exact absurd k.1 (by assumption) | exact absurd k.2 (by assumption)),h2]⟩ (by first | omega | (dsimp only;omega))
   | exact aA (i + 1,xs) [0,1,2] ⟨rfl,rfl,rfl,rfl,rfl,rfl,rfl,rfl⟩ ⟨⟨by dsimp only;omega,by dsimp only;omega⟩,by dsimp only;rw [bB ⟨h0.1,by assumption⟩,eR (p:=neB a c) (fun k => k ⟨by assumption,by assumption⟩),List.append_nil,h2]⟩ (by first | omega | (dsimp only;omega))
   | (rw [show flt (neB a c) l = xs from by rw [h2,aY (by assumption)]]
      exact ai [0,1] rfl rfl rfl rfl rfl rfl)
 ·rw [show eo l a c n = ins (flt (neB a c) l) (bIx l a c) ⟨a,c,n⟩ from (a8 hz).trans (by rw [mR hs a c])]
  repeat' (first
| intro h9;exfalso;contradiction
| apply yds;rfl
| apply yd;rfl
| intro _
| refine nv ?_
| apply ag;rfl
| apply aG (α:=Bal) (e:=135);rfl
| fail)
  refine wlp (X:=Int × Bool × List Bal) [0,1,2,11] [0,1,2] (fun x => [(12,I x.1),(10,B x.2.1),(9,.c (.row 1 0 x.2.2.length))]) (fun x => [(1,ow 135 x.2.2)]) (fun x => (0 ≤ x.1 ∧ x.1 ≤ l.length) ∧ (x.2.1 = false → x.1 ≤ bIx l a c ∧ x.2.2 = pf l x.1) ∧ (x.2.1 = true → bIx l a c < x.1 ∧ x.2.2 = ins (flt (neB a c) (pf l x.1)) (bIx l a c) ⟨a,c,n⟩)) (fun x => (l.length - x.1).toNat) (0,false,[]) ⟨⟨by dsimp only;omega,by dsimp only;omega⟩,fun _ => ⟨hK.1,rfl⟩,fun h => by cases h⟩ rfl rfl (fun _ => rfl) (fun _ => rfl) ⟨rfl,rfl,rfl,rfl,rfl,rfl,rfl,rfl⟩ (fun x hx => ?_)
  obtain ⟨i,put,xs⟩:=x
  obtain ⟨h0,hf,ht⟩:=hx
  dsimp only at h0 hf ht ⊢
  have hpl:=bU h0
  cases put
  ·obtain ⟨h1,h2⟩:=hf rfl
   have hxl:xs.length ≤ 4000000:=by rw [h2];omega
   clear hf ht
   have hlt:¬ bef (rd l i).Account (rd l i).Instr a c → bIx l a c = i:=fun hb => by
    by_cases hq:i < bIx l a c
    ·exact absurd (ql h0.1 hq) hb
    ·omega
   have hge:i < l.length → bef (rd l i).Account (rd l i).Instr a c → i ≠ bIx l a c:=fun h hb e => by
    have:=hKa (by omega)
    rw [← e] at this
    exact this hb
   repeat' (first
| apply yds;rfl
| apply yd;rfl
| intro _
| refine nv ?_
| apply wct rfl
| apply wcf rfl
| apply ae rfl
| apply ag;rfl
| apply yne;rfl
| apply yar;rfl;omega
| apply yix;rfl;omega
| apply yle;rfl;omega
| apply aG (α:=Bal) (e:=135);rfl
| apply yap;rfl;(((try simp only [lE,lM]);(try dsimp only);omega))
| apply ycp;rfl;exact gW;rfl
| fail)
   all_goals first
    | (have e:=hlt (by assumption)
       exact aA (i + 1,true,xs ++ [⟨a,c,n⟩] ++ [rd l i]) [0,7,2] ⟨rfl,rfl,rfl,rfl,rfl,rfl,rfl,rfl⟩ ⟨⟨by dsimp only;omega,by dsimp only;omega⟩,fun h => (by cases h),fun _ => ⟨by dsimp only;omega,by dsimp only;rw [bB ⟨h0.1,by assumption⟩,fG (p:=neB a c) (fun k => by first | exact absurd k.1 (by assumption) | exact absurd k.2 (by assumption)),h2,← e,gO jq,tS hK,List.append_assoc];rfl⟩⟩ (by first | omega | (dsimp only;omega)))
    | (have e:=hlt (by assumption)
       exact aA (i + 1,true,xs ++ [⟨a,c,n⟩]) [0,5,2] ⟨rfl,rfl,rfl,rfl,rfl,rfl,rfl,rfl⟩ ⟨⟨by dsimp only;omega,by dsimp only;omega⟩,fun h => (by cases h),fun _ => ⟨by dsimp only;omega,by dsimp only;rw [bB ⟨h0.1,by assumption⟩,eR (p:=neB a c) (fun k => k ⟨by assumption,by assumption⟩),h2,← e,gO jq,tS hK]⟩⟩ (by first | omega | (dsimp only;omega)))
    | (have e:=hge (by assumption) (by assumption)
       exact aA (i + 1,false,xs ++ [rd l i]) [0,5,2] ⟨rfl,rfl,rfl,rfl,rfl,rfl,rfl,rfl⟩ ⟨⟨by dsimp only;omega,by dsimp only;omega⟩,fun _ => ⟨by dsimp only;omega,by dsimp only;rw [h2,ce ⟨h0.1,by assumption⟩]⟩,fun h => (by cases h)⟩ (by first | omega | (dsimp only;omega)))
    | (exfalso
       have q:=uZ (by assumption:bef (rd l i).Account (rd l i).Instr a c)
       exact q ⟨by assumption,by assumption⟩)
    | (rw [show ins (flt (neB a c) l) (bIx l a c) ⟨a,c,n⟩ = xs ++ [⟨a,c,n⟩] from by
        have e:bIx l a c = l.length:=by omega
        have e2:pf l (bIx l a c) = l:=aY (by omega)
        have e3:=jq (l:=l) (a:=a) (c:=c)
        rw [e2] at e3
        rw [gO e3,d8 e,h2,aY (by assumption)]]
       exact ai [0,4] rfl rfl rfl rfl rfl rfl)
  ·obtain ⟨h1,h2⟩:=ht rfl
   have hfl:=BK (l:=l) (a:=a) (c:=c) (i:=i) (by omega)
   have hxl:xs.length ≤ 4000001:=by rw [h2,bZ ⟨hK.1,hfl⟩];have:=cO (neB a c) (pf l i);omega
   clear hf ht
   repeat' (first
| apply yds;rfl
| apply yd;rfl
| intro _
| refine nv ?_
| apply wct rfl
| apply wcf rfl
| apply ae rfl
| apply ag;rfl
| apply yne;rfl
| apply yar;rfl;omega
| apply yix;rfl;omega
| apply yle;rfl;omega
| apply aG (α:=Bal) (e:=135);rfl
| apply yap;rfl;(((try simp only [lE,lM]);(try dsimp only);omega))
| fail)
   all_goals first
    | exact aA (i + 1,true,xs ++ [rd l i]) [0,5,2] ⟨rfl,rfl,rfl,rfl,rfl,rfl,rfl,rfl⟩ ⟨⟨by dsimp only;omega,by dsimp only;omega⟩,fun h => (by cases h),fun _ => ⟨by dsimp only;omega,by dsimp only;rw [bB ⟨h0.1,by assumption⟩,fG (p:=neB a c) (fun k => by first | exact absurd k.1 (by assumption) | exact absurd k.2 (by assumption)),zj hfl,h2]⟩⟩ (by first | omega | (dsimp only;omega))
    | exact aA (i + 1,true,xs) [0,1,2] ⟨rfl,rfl,rfl,rfl,rfl,rfl,rfl,rfl⟩ ⟨⟨by dsimp only;omega,by dsimp only;omega⟩,fun h => (by cases h),fun _ => ⟨by dsimp only;omega,by dsimp only;rw [bB ⟨h0.1,by assumption⟩,eR (p:=neB a c) (fun k => k ⟨by assumption,by assumption⟩),List.append_nil,h2]⟩⟩ (by first | omega | (dsimp only;omega))
    | (rw [show ins (flt (neB a c) l) (bIx l a c) ⟨a,c,n⟩ = xs from by rw [h2,aY (by assumption)]]
       exact ai [0,1] rfl rfl rfl rfl rfl rfl)
end
section
open Go.RowKit
def nW (a c n:Int):Prop:=aj a ∧ aj c ∧ ak n
def cP (g:List Leg):Prop:=g.length ≤ 160 ∧ ∀ x ∈ g,nW x.Account x.Instr x.Amount
def iE (c:Int) (x:Leg):Int:=if x.Instr = c then x.Amount else 0
def cd (g:List Leg) (c:Int):Int:=ar (iE c) g
def dj (g:List Leg):Prop:=cP g ∧ ∀ x ∈ g,cd g x.Instr = 0
theorem xN {c:Int} {x:Leg} (h:x.Instr = c):iE c x = x.Amount:=if_pos h
theorem xM {c:Int} {x:Leg} (h:¬ x.Instr = c):iE c x = 0:=if_neg h
theorem sO {g:List Leg} (h:cP g) (c:Int):∀ x ∈ g,-1000000000000000 ≤ iE c x ∧ iE c x ≤ 1000000000000000:=fun x hx => by
 have:=(h.2 x hx).2.2
 unfold ak inP at this
 unfold iE
 split <;> omega
theorem mz {a c n:Int}:FC Tryz.prog 228 [.agg [.sc (.int .i64 a),.sc (.int .i64 c),.sc (.int .i64 n)]] ([]) (B (dB (¬ nW a c n))) ([]):=by
 refine al tk 19 [.tmp 2] Tryz.func228 (by kernel_rfl) rfl rfl rfl rfl rfl rfl rfl ?_
 repeat' (first
| apply yds;rfl
| intro _
| refine nv ?_
| apply ycp;rfl;(first | exact bQ | exact cI);rfl
| fail)
 all_goals first
  | exact aQ [] rfl rfl rfl rfl rfl rfl (fun k => k ⟨by assumption,by assumption,by assumption⟩)
  | exact bp [] rfl rfl rfl rfl rfl rfl (fun k => by obtain ⟨k1,k2,k3⟩:=k;contradiction)
theorem i7 {l:List Leg}:FC Tryz.prog 234 [.c (.row 0 0 l.length),.c (.fn 228 [])] ([ro 46 l]) (sel (∃ x ∈ l,¬ nW x.Account x.Instr x.Amount) (I (fIx l (fun x => ¬ nW x.Account x.Instr x.Amount))) (I (-1))) (sel (∃ x ∈ l,¬ nW x.Account x.Instr x.Amount) [ro 46 l] [ro 46 l]):=by
 refine al tk 19 [.tmp 4] Tryz.func234 (by kernel_rfl) rfl rfl rfl rfl rfl rfl rfl ?_
 refine cj l 0 rfl (fun hl => ?_)
 repeat' (first
| apply yds;rfl
| apply yd;rfl
| refine nv ?_
| fail)
 refine wlp (X:=Int) [0,1,7] [0] (fun i => [(8,I i)]) (fun _ => []) (fun i => 0 ≤ i ∧ i ≤ l.length ∧ ∀ j:Int,0 ≤ j → j < i → ¬ (fun x => ¬ nW x.Account x.Instr x.Amount) (rd l j)) (fun i => (l.length - i).toNat) 0 ⟨by omega,by omega,fun j h0 h1 => by omega⟩ rfl rfl (fun _ => rfl) (fun _ => rfl) ⟨rfl,rfl,rfl,rfl,rfl,rfl,rfl,rfl⟩ (fun i hi => ?_)
 obtain ⟨h0,hi,hall⟩:=hi
 skip
 repeat' (first
| apply yds;rfl
| apply yd;rfl
| apply ycp;rfl;exact mz;rfl
| intro _
| refine nv ?_
| apply wct rfl
| apply wcf rfl
| apply ae rfl
| apply ag;rfl
| apply yar;rfl;omega
| apply yix;rfl;omega
| apply yle;rfl;omega
| fail)
 all_goals first
  | (refine cy (X':=I i) (hs':=[ro 46 l]) [0] rfl rfl rfl rfl rfl rfl ?_ ?_
     ·rw [ap ⟨rd l i,ax ⟨by omega,by omega⟩,by assumption⟩,dZ ⟨by omega,by omega⟩ hall (by assumption)]
     ·rw [ap ⟨rd l i,ax ⟨by omega,by omega⟩,by assumption⟩])
  | exact bS (eS (by assumption) hall) [0] rfl rfl rfl rfl rfl rfl
  | exact aA (i + 1) [0] ⟨rfl,rfl,rfl,rfl,rfl,rfl,rfl,rfl⟩ ⟨by omega,by omega,ay hall (by assumption)⟩ (by first | omega | (dsimp only;omega))
theorem fS {l:List Leg}:FC Tryz.prog 122 [.c (.row 0 0 l.length),.c (.fn 228 [])] ([ro 46 l]) (B (dB (∃ x ∈ l,¬ nW x.Account x.Instr x.Amount))) ([ro 46 l]):=by
 refine al tk 9 [.tmp 4] Tryz.func122 (by kernel_rfl) rfl rfl rfl rfl rfl rfl rfl ?_
 have hn:=bW l (fun x => ¬ nW x.Account x.Instr x.Amount)
 repeat' (first
| apply yds;rfl
| apply yd;rfl
| intro _
| refine nv ?_
| apply ag;rfl
| apply zcs;(iterate 10 rfl);exact i7;exact fun _ => rfl;exact fun _ => rfl;rfl;rfl;rfl;rfl
| fail)
 all_goals first
  | exact bp [0] rfl rfl rfl rfl rfl rfl (by assumption)
  | exact aQ [0] rfl rfl rfl rfl rfl rfl (by assumption)
  | (exfalso;omega)
theorem eJ {g:List Leg}:FC Tryz.prog 116 [.c (.row 0 0 g.length)] ([ro 46 g]) (B (dB (cP g))) ([ro 46 g]):=by
 refine al tk 11 [.tmp 2] Tryz.func116 (by kernel_rfl) rfl rfl rfl rfl rfl rfl rfl ?_
 repeat' (first
| apply yds;rfl
| apply yd;rfl
| intro _
| refine nv ?_
| apply ag;rfl
| apply ycp;rfl;exact fS;rfl
| fail)
 all_goals first
  | exact bp [0] rfl rfl rfl rfl rfl rfl ⟨by omega,fun x hx => Classical.byContradiction fun k => absurd (⟨x,hx,k⟩:∃ x ∈ g,¬ nW x.Account x.Instr x.Amount) (by assumption)⟩
  | exact aQ [0] rfl rfl rfl rfl rfl rfl (fun h => by have:=h.1;omega)
  | exact aQ [0] rfl rfl rfl rfl rfl rfl (fun h => by obtain ⟨x,hx,k⟩:∃ x ∈ g,¬ nW x.Account x.Instr x.Amount:=(by assumption);exact k (h.2 x hx))
theorem dA {g:List Leg}:FC Tryz.prog 304 [.c (.row 0 0 g.length)] ([ro 46 g]) (B (dB (cP g))) ([ro 46 g]):=by
 refine al tk 38 [.tmp 2] Tryz.func304 (by kernel_rfl) rfl rfl rfl rfl rfl rfl rfl ?_
 repeat' (first
| apply yds;rfl
| apply yd;rfl
| intro _
| refine nv ?_
| apply wct rfl
| apply wcf rfl
| apply ag;rfl
| fail)
 rotate_left
 ·refine wlp (X:=Int) [0] [0] (fun i => [(3,I i)]) (fun _ => []) (fun i => 0 ≤ i ∧ i ≤ g.length ∧ ∀ j:Int,0 ≤ j → j < i → nW (rd g j).Account (rd g j).Instr (rd g j).Amount) (fun i => (g.length - i).toNat) 0 ⟨by omega,by omega,fun j h0 h1 => by omega⟩ rfl rfl (fun _ => rfl) (fun _ => rfl) ⟨rfl,rfl,rfl,rfl,rfl,rfl,rfl,rfl⟩ (fun i hi => ?_)
  obtain ⟨h0,hi,hall⟩:=hi
  repeat' (first
| apply yds;rfl
| apply yd;rfl
| intro _
| refine nv ?_
| apply wct rfl
| apply wcf rfl
| apply ae rfl
| apply ag;rfl
| apply yar;rfl;omega
| apply yix;rfl;omega
| apply yle;rfl;omega
| apply ycp;rfl;(first | exact aK | exact cg);rfl
| fail)
  all_goals first
   | exact aA (i + 1) [0] ⟨rfl,rfl,rfl,rfl,rfl,rfl,rfl,rfl⟩ ⟨by omega,by omega,ay hall ⟨by assumption,by assumption,by assumption⟩⟩ (by first | omega | (dsimp only;omega))
   | exact bp [0] rfl rfl rfl rfl rfl rfl ⟨by omega,all_rd.1 fun j h1 h2 => hall j h1 (by omega)⟩
   | exact aQ [0] rfl rfl rfl rfl rfl rfl (fun h => by obtain ⟨e1,e2,e3⟩:=h.2 _ (ax (l:=g) (i:=i) ⟨h0,by assumption⟩);contradiction)
 all_goals exact aQ [0] rfl rfl rfl rfl rfl rfl (fun h => by have:=h.1;omega)
theorem mn {g:List Leg}:FC Tryz.prog 26 [.c (.row 0 0 g.length)] ([ro 46 g]) (B (dB (dj g))) ([ro 46 g]):=by
 refine al tk 36 [.tmp 2] Tryz.func26 (by kernel_rfl) rfl rfl rfl rfl rfl rfl rfl ?_
 repeat' (first
| apply yds;rfl
| apply yd;rfl
| intro _
| refine nv ?_
| apply wct rfl
| apply wcf rfl
| apply ycp;rfl;exact eJ;rfl
| fail)
 rotate_left
 ·exact aQ [0] rfl rfl rfl rfl rfl rfl (fun h => absurd h.1 (by assumption))
 rename_i hf
 have hl:=hf.1
 refine wlp (X:=Int) [0,11,12] [0] (fun i => [(13,I i)]) (fun _ => []) (fun i => 0 ≤ i ∧ i ≤ g.length ∧ ∀ j:Int,0 ≤ j → j < i → cd g (rd g j).Instr = 0) (fun i => (g.length - i).toNat) 0 ⟨by omega,by omega,fun j h0 h1 => by omega⟩ rfl rfl (fun _ => rfl) (fun _ => rfl) ⟨rfl,rfl,rfl,rfl,rfl,rfl,rfl,rfl⟩ (fun i hi => ?_)
 obtain ⟨h0,hi,hall⟩:=hi
 repeat' (first
| apply yds;rfl
| apply yd;rfl
| intro _
| refine nv ?_
| apply wct rfl
| apply wcf rfl
| apply ae rfl
| apply ag;rfl
| apply yix;rfl;omega
| apply yle;rfl;omega
| fail)
 rotate_left
 ·exact bp [0] rfl rfl rfl rfl rfl rfl ⟨hf,all_rd.1 fun j h1 h2 => hall j h1 (by omega)⟩
 rename_i hil
 refine wlp (X:=Int × Int) [0,4,11,12,13,17,18] [0,1] (fun x => [(19,I x.1),(5,I x.2)]) (fun _ => []) (fun x => (0 ≤ x.1 ∧ x.1 ≤ g.length) ∧ x.2 = cd (pf g x.1) (rd g i).Instr) (fun x => (g.length - x.1).toNat) (0,0) ⟨⟨by dsimp only;omega,by dsimp only;omega⟩,rfl⟩ rfl rfl (fun _ => rfl) (fun _ => rfl) ⟨rfl,rfl,rfl,rfl,rfl,rfl,rfl,rfl⟩ (fun x hx => ?_)
 obtain ⟨k,n⟩:=x
 obtain ⟨k0,hn⟩:=hx
 dsimp only at k0 hn ⊢
 have hb:=eV (sO hf (rd g i).Instr) k0
 rw [show ar (iE (rd g i).Instr) (pf g k) = n from hn.symm] at hb
 have hs:=fun h:k < g.length => cM (f:=iE (rd g i).Instr) (l:=g) (i:=k) ⟨k0.1,h⟩
 have hb2:=fun h:k < g.length => (hf.2 _ (ax (l:=g) (i:=k) ⟨k0.1,h⟩)).2.2
 unfold ak inP at hb2
 repeat' (first
| apply yds;rfl
| apply yd;rfl
| apply yar;rfl;(have h1:=hb2 (by assumption);omega)
| intro _
| refine nv ?_
| apply wct rfl
| apply wcf rfl
| apply ae rfl
| apply ag;rfl
| apply yne;rfl
| apply yar;rfl;omega
| apply yix;rfl;omega
| apply yle;rfl;omega
| fail)
 all_goals first
  | (rename_i h e
     exact aA (k + 1,_) [0,1] ⟨rfl,rfl,rfl,rfl,rfl,rfl,rfl,rfl⟩ ⟨⟨by dsimp only;omega,by dsimp only;omega⟩,by dsimp only;rw [cd,hs h,xN e,hn];rfl⟩ (by first | omega | (dsimp only;omega)))
  | (rename_i h e
     exact aA (k + 1,_) [0,1] ⟨rfl,rfl,rfl,rfl,rfl,rfl,rfl,rfl⟩ ⟨⟨by dsimp only;omega,by dsimp only;omega⟩,by dsimp only;rw [cd,hs h,xM e,hn,Int.add_zero];rfl⟩ (by first | omega | (dsimp only;omega)))
  | (have e:n = cd g (rd g i).Instr:=hn.trans (congrArg (fun x => cd x (rd g i).Instr) (aY (i:=k) (by assumption)))
     first
     | exact aQ [0] rfl rfl rfl rfl rfl rfl (fun h => absurd (e.trans (h.2 _ (ax (l:=g) (i:=i) ⟨h0,hil⟩))) (by assumption))
     | exact aA (i + 1) [0] ⟨rfl,rfl,rfl,rfl,rfl,rfl,rfl,rfl⟩ ⟨by omega,by omega,ay hall (e.symm.trans (by first | assumption | omega))⟩ (by first | omega | (dsimp only;omega)))
theorem mq {g:List Leg}:FC Tryz.prog 305 [.c (.row 0 0 g.length)] ([ro 46 g]) (B (dB (dj g))) ([ro 46 g]):=by
 refine al tk 41 [.tmp 2] Tryz.func305 (by kernel_rfl) rfl rfl rfl rfl rfl rfl rfl ?_
 repeat' (first
| apply yd;rfl
| intro _
| refine nv ?_
| apply wct rfl
| apply wcf rfl
| apply ycp;rfl;exact dA;rfl
| fail)
 rotate_left
 ·exact aQ [0] rfl rfl rfl rfl rfl rfl (fun h => absurd h.1 (by assumption))
 rename_i hf
 have hl:=hf.1
 refine wlp (X:=Int) [0] [0] (fun i => [(3,I i)]) (fun _ => []) (fun i => 0 ≤ i ∧ i ≤ g.length ∧ ∀ j:Int,0 ≤ j → j < i → cd g (rd g j).Instr = 0) (fun i => (g.length - i).toNat) 0 ⟨by omega,by omega,fun j h0 h1 => by omega⟩ rfl rfl (fun _ => rfl) (fun _ => rfl) ⟨rfl,rfl,rfl,rfl,rfl,rfl,rfl,rfl⟩ (fun i hi => ?_)
 obtain ⟨h0,hi,hall⟩:=hi
 repeat' (first
| apply yds;rfl
| apply yd;rfl
| intro _
| refine nv ?_
| apply wct rfl
| apply wcf rfl
| apply ae rfl
| apply ag;rfl
| fail)
 rotate_left
 ·exact bp [0] rfl rfl rfl rfl rfl rfl ⟨hf,all_rd.1 fun j h1 h2 => hall j h1 (by omega)⟩
 rename_i hil
 refine wlp (X:=Int × Int) [0,3] [0] (fun x => [(5,I x.1),(4,I x.2)]) (fun _ => []) (fun x => (0 ≤ x.1 ∧ x.1 ≤ g.length) ∧ x.2 = cd (pf g x.1) (rd g i).Instr) (fun x => (g.length - x.1).toNat) (0,0) ⟨⟨by dsimp only;omega,by dsimp only;omega⟩,rfl⟩ rfl rfl (fun _ => rfl) (fun _ => rfl) ⟨rfl,rfl,rfl,rfl,rfl,rfl,rfl,rfl⟩ (fun x hx => ?_)
 obtain ⟨k,n⟩:=x
 obtain ⟨k0,hn⟩:=hx
 dsimp only at k0 hn ⊢
 have hb:=eV (sO hf (rd g i).Instr) k0
 rw [show ar (iE (rd g i).Instr) (pf g k) = n from hn.symm] at hb
 have hs:=fun h:k < g.length => cM (f:=iE (rd g i).Instr) (l:=g) (i:=k) ⟨k0.1,h⟩
 have hb2:=fun h:k < g.length => (hf.2 _ (ax (l:=g) (i:=k) ⟨k0.1,h⟩)).2.2
 unfold ak inP at hb2
 repeat' (first
| apply yds;rfl
| apply yd;rfl
| apply yar;rfl;(have h1:=hb2 (by assumption);omega)
| intro _
| refine nv ?_
| apply wct rfl
| apply wcf rfl
| apply ae rfl
| apply ag;rfl
| apply yne;rfl
| apply yar;rfl;omega
| apply yix;rfl;omega
| apply yle;rfl;omega
| refine zdq (id:=10) rfl (by kernel_rfl) [(.p,0),(.p,1),(.p,2),(.p,3),(.p,5),(.p,6),(.p,7),(.p,8),(.t,4),(.t,9),(.p,10)] [] (by kernel_rfl) rfl ?_
| fail)
 all_goals first
  | (rename_i h e
     exact aA (k + 1,_) [0] ⟨rfl,rfl,rfl,rfl,rfl,rfl,rfl,rfl⟩ ⟨⟨by dsimp only;omega,by dsimp only;omega⟩,by dsimp only;rw [cd,hs h,xN e,hn];rfl⟩ (by first | omega | (dsimp only;omega)))
  | (rename_i h e
     exact aA (k + 1,_) [0] ⟨rfl,rfl,rfl,rfl,rfl,rfl,rfl,rfl⟩ ⟨⟨by dsimp only;omega,by dsimp only;omega⟩,by dsimp only;rw [cd,hs h,xM e,hn,Int.add_zero];rfl⟩ (by first | omega | (dsimp only;omega)))
  | (have e:n = cd g (rd g i).Instr:=hn.trans (congrArg (fun x => cd x (rd g i).Instr) (aY (i:=k) (by assumption)))
     first
     | exact aQ [0] rfl rfl rfl rfl rfl rfl (fun h => absurd (e.trans (h.2 _ (ax (l:=g) (i:=i) ⟨h0,hil⟩))) (by assumption))
     | exact aA (i + 1) [0] ⟨rfl,rfl,rfl,rfl,rfl,rfl,rfl,rfl⟩ ⟨by omega,by omega,ay hall (e.symm.trans (by first | assumption | omega))⟩ (by first | omega | (dsimp only;omega)))
theorem um {a b:Int} (ha:ak a) (hb:ak b):FC Tryz.prog 306 [I a,I b] ([]) (sel (ak (a + b)) (.tup [I (a + b),B true]) (.tup [I 0,B false])) (sel (ak (a + b)) [] []):=by
 refine al tk 18 [.tmp 4,.tmp 5] Tryz.func306 (by kernel_rfl) rfl rfl rfl rfl rfl rfl rfl ?_
 have ha2:=ha
 have hb2:=hb
 unfold ak inP at ha2 hb2
 repeat' (first
| apply yds;rfl
| apply yd;rfl
| intro _
| refine nv ?_
| apply yar;rfl;omega
| apply ycp;rfl;exact cg;rfl
| apply yc;rfl;exact kg;rfl;exact fun _ => rfl
| apply zcs;(iterate 10 rfl);exact kh;exact fun _ => rfl;exact fun _ => rfl;rfl;rfl;rfl;rfl
| fail)
 all_goals first
  | (exfalso;contradiction)
  | exact gM (by assumption) [] rfl rfl rfl rfl rfl rfl
  | exact bS (by assumption) [] rfl rfl rfl rfl rfl rfl
end
section
open Go.RowKit
def oL (x y:Bal):Prop:=bef x.Account x.Instr y.Account y.Instr
theorem kz {α:Type} [Enc α] {l:List α} {i:Int} (h:i.toNat < l.length):rd l i = l[i.toNat]:=by simp [rd,List.getD_eq_getElem?_getD,h]
theorem BSd_iff {l:List Bal}:BSd l ↔ l.Pairwise oL:=by
 constructor
 ·intro h
  rw [List.pairwise_iff_getElem]
  intro i j hi hj hij
  have:=h.lt (i:=i) (j:=j) (by omega) (by omega) (by omega)
  rw [kz (l:=l) (i:=i) (by omega),kz (l:=l) (i:=j) (by omega)] at this
  exact this
 ·intro h i h0 h1
  rw [List.pairwise_iff_getElem] at h
  have:=h (i - 1).toNat i.toNat (by omega) (by omega) (by omega)
  rw [kz (l:=l) (i:=i - 1) (by omega),kz (l:=l) (i:=i) (by omega)]
  exact this
theorem dO {l:List Bal} (hs:BSd l) (a c n:Int):eo l a c n = pf l (bIx l a c) ++ (if n = 0 then [] else [⟨a,c,n⟩]) ++ flt (neB a c) (l.drop (bIx l a c).toNat):=by
 have hK:=eX l a c
 have e:flt (neB a c) l = pf l (bIx l a c) ++ flt (neB a c) (l.drop (bIx l a c).toNat):=by
  have e1:l = pf l (bIx l a c) ++ l.drop (bIx l a c).toNat:=(List.take_append_drop _ _).symm
  conv => lhs;rw [e1]
  rw [bK,gO jq]
 unfold eo
 rw [← mR hs,e]
 by_cases hz:n = 0
 ·rw [ap hz,if_pos hz,List.append_nil]
 ·rw [a8 hz,if_neg hz,tS hK]
  simp
theorem uD {l:List Bal} (hs:BSd l) (a c:Int):∀ y ∈ l.drop (bIx l a c).toNat,¬ bef y.Account y.Instr a c:=by
 intro y hy
 have hK:=eX l a c
 obtain ⟨m,hm,rfl⟩:=List.getElem_of_mem hy
 rw [List.length_drop] at hm
 have e3:(l.drop (bIx l a c).toNat)[m] = rd l (bIx l a c + m):=by
  have:(bIx l a c + (m:Int)).toNat = (bIx l a c).toNat + m:=by omega
  rw [List.getElem_drop,kz (by omega)]
  simp only [this]
 rw [e3]
 have ha:=wB (l:=l) (a:=a) (c:=c) (by omega)
 by_cases h0:m = 0
 ·subst h0
  simpa using ha
 ·have:=hs.lt (i:=bIx l a c) (j:=bIx l a c + m) hK.1 (by omega) (by omega)
  intro k
  exact ha (lB this k)
theorem gx {l:List Bal} (hs:BSd l) (a c n:Int):BSd (eo l a c n):=by
 have hp:=BSd_iff.1 hs
 rw [BSd_iff,dO hs]
 have h1:(pf l (bIx l a c)).Pairwise oL:=hp.sublist (List.take_sublist _ _)
 have h2:(flt (neB a c) (l.drop (bIx l a c).toNat)).Pairwise oL:=hp.sublist (List.filter_sublist.trans (List.drop_sublist _ _))
 have h3:∀ y ∈ pf l (bIx l a c),bef y.Account y.Instr a c:=fun y hy => by
  obtain ⟨j,hj,rfl⟩:=bL hy
  have hn:=eX l a c
  rw [bU hn] at hj
  rw [vd ⟨hj.1,hj.2⟩]
  exact ql hj.1 hj.2
 have h4:∀ y ∈ flt (neB a c) (l.drop (bIx l a c).toNat),bef a c y.Account y.Instr:=fun y hy => by
  obtain ⟨hy1,hy2⟩:=flt_mem.1 hy
  have hy3:=uD hs a c y hy1
  unfold neB at hy2
  unfold bef at *
  omega
 have h5:∀ x ∈ pf l (bIx l a c),∀ y ∈ flt (neB a c) (l.drop (bIx l a c).toNat),oL x y:=fun x hx y hy => lB (h3 x hx) (h4 y hy)
 split
 ·rw [List.append_nil,List.pairwise_append]
  exact ⟨h1,h2,h5⟩
 ·rw [List.append_assoc,List.pairwise_append]
  refine ⟨h1,List.pairwise_cons.2 ⟨fun y hy => h4 y hy,h2⟩,fun x hx y hy => ?_⟩
  rcases List.mem_cons.1 hy with rfl | hy
  ·exact h3 x hx
  ·exact h5 x hx y hy
theorem t5 {l:List Bal} (hs:BSd l) {a c n:Int} {x:Bal} (h:x ∈ eo l a c n):x ∈ l ∨ x = ⟨a,c,n⟩:=by
 rw [dO hs] at h
 simp only [List.mem_append] at h
 rcases h with (h | h) | h
 ·exact .inl (List.mem_of_mem_take h)
 ·split at h
  ·cases h
  ·exact .inr (List.mem_singleton.1 h)
 ·exact .inl (List.mem_of_mem_drop (flt_mem.1 h).1)
theorem oc {l:List Bal} (hs:BSd l) (a c n:Int):(eo l a c n).length ≤ l.length + 1:=by
 rw [dO hs]
 have h1:=cO (neB a c) (l.drop (bIx l a c).toNat)
 have h2:=bU (eX l a c)
 have hK:=eX l a c
 rw [List.length_drop] at h1
 simp only [List.length_append]
 split
 ·simp only [List.length_nil];omega
 ·simp only [List.length_cons,List.length_nil];omega
noncomputable def qd (o:List Bal) (g:Leg):List Bal:=eo o g.Account g.Instr (aW o g.Account g.Instr + g.Amount)
noncomputable def pO (l:List Bal) (g:List Leg):List Bal:=g.foldl qd l
theorem v6 {l:List Bal} {g:List Leg} {i:Int} (h:0 ≤ i ∧ i < g.length):pO l (pf g (i + 1)) = qd (pO l (pf g i)) (rd g i):=by
 rw [ce h,pO,List.foldl_append]
 rfl
def vB (l:List Bal):Prop:=∀ x ∈ l,ak x.Amount
theorem BalsOk.amt {l:List Bal} (h:BalsOk l):vB l:=fun x hx => by
 obtain ⟨i,hi,rfl⟩:=bL hx
 exact (h.1 i hi.1 hi.2).2.2.1
theorem ly {l:List Bal} {a c:Int} (h:aW l a c ≠ 0):∃ x ∈ l,x.Account = a ∧ x.Instr = c ∧ x.Amount = aW l a c:=by
 unfold aW at *
 cases hf:l.find? (fun x => decide (x.Account = a ∧ x.Instr = c)) with
 | none => rw [hf] at h;exact absurd rfl h
 | some x =>
   rw [hf] at h
   have:=List.find?_some hf
   simp only [decide_eq_true_eq] at this
   exact ⟨x,List.mem_of_find?_eq_some hf,this.1,this.2,rfl⟩
theorem pq {l:List Bal} (h:vB l) (a c:Int):ak (aW l a c):=by
 by_cases e:aW l a c = 0
 ·rw [e];unfold ak inP;omega
 ·obtain ⟨x,hx,_,_,e2⟩:=ly e
  rw [← e2]
  exact h x hx
theorem t4 {l:List Bal} (hs:BSd l) (h:vB l) {a c n:Int} (hn:ak n):vB (eo l a c n):=fun x hx => by
 rcases t5 hs hx with h1 | rfl
 ·exact h x h1
 ·exact hn
end
end Go.Proofs.YtgehbhkfehmdkaaGreat.Sh
