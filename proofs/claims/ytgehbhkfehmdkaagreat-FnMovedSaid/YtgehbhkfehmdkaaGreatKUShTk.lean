/- What is taken of lots: the program's side. No condition. -/
import Derived.Test.YtgehbhkfehmdkaaGreatKUShV
import Derived.Test.YtgehbhkfehmdkaaGreatKUShLt
import Derived.Test.YtgehbhkfehmdkaaGreatKUShMu
import Derived.Test.YtgehbhkfehmdkaaGreatKUShSo
import Derived.Test.YtgehbhkfehmdkaaGreatKUShDp
import Derived.Test.YtgehbhkfehmdkaaGreatKUShPo
set_option maxRecDepth 100000
set_option maxHeartbeats 40000000
set_option linter.unusedSimpArgs false
set_option linter.unusedVariables false
namespace Go.Proofs.YtgehbhkfehmdkaaGreat.Sh
section
open Go.RowKit
section
variable {P:Program} {T:TB} {ops:Array Oper} {Q:Exit → St → Prop} {h1:AH} {k:Sk} {ks ks':List Sk} {l:List Oper} {N0 k0 d0:Nat} {e0:List (Nat × AV)} {h0:AH} {ty:TypeId} {pos:String} {af:Array Edge} {g:Option (Nat × Bool)}
theorem zmn {x y:Operand} {ts:Array TypeId} {a b r:Int} (hs0:stK ks = (k,ks')) (hx:ev e0 x = some (I a)) (hy:ev e0 y = some (I b)) (he:(if b < a then b else a) = r) (hg:gd ops ⟨some d0,.call { callee:=.builtin .min,args:=#[x,y],argTypes:=ts },ty,pos,af,g⟩ e0 = some true) (hd:Nat.blt d0 N0 = true)
  (h:ZZ P ops Q h1 ks' l ⟨N0,k0,(d0,I r) :: e0,h0⟩):ZZ P ops Q h1 ks (⟨some d0,.call { callee:=.builtin .min,args:=#[x,y],argTypes:=ts },ty,pos,af,g⟩ :: l) ⟨N0,k0,e0,h0⟩:=⟨by
 rw [aI hs0]
 exact wp (T:=[]) (st:=⟨N0,k0,e0,h0⟩) (dst:=some d0) (v:=I r) (fun t ti h => by cases h) (by subst he;unfold aP;simp only [hx,hy]) hg hd h.out⟩
end
theorem AB {l:Lot} {r:List Lot} {q p:Int} (hg:(1 ≤ l.Qty ∧ l.Qty ≤ 1000000000000000) ∧ 0 ≤ l.Cost ∧ l.Cost ≤ 1000000000000000) (hq:0 ≤ q) (hp:(if l.Qty < q then l.Qty else q) = p) :
  (p < l.Qty → (tkq (l :: r) q).1 = reL l (l.Qty - p) (l.Cost - l.Cost * p / l.Qty) :: (tkq r (q - p)).1) ∧ (¬ p < l.Qty → (tkq (l :: r) q).1 = (tkq r (q - p)).1) ∧ (tkq (l :: r) q).2 = l.Cost * p / l.Qty + (tkq r (q - p)).2:=by
 by_cases h0:q ≤ 0
 ·have e:q = 0:=by omega
  subst e
  rw [if_neg (by omega)] at hp
  subst hp
  rw [pK (Int.le_refl 0),pK (l:=r) (by omega)]
  refine ⟨fun _ => ?_,fun h => by omega,?_⟩
  ·simp [reL]
  ·simp
 by_cases h1:l.Qty ≤ q
 ·have e:p = l.Qty:=by
   rw [← hp]
   by_cases h2:l.Qty < q
   ·rw [if_pos h2]
   ·rw [if_neg h2];omega
  subst e
  rw [uU (by omega) h1]
  refine ⟨fun h => by omega,fun _ => rfl,?_⟩
  rw [pu hg.1.1]
 ·rw [if_neg (by omega)] at hp
  subst hp
  rw [uV (by omega) h1,Int.sub_self,pK (l:=r) (Int.le_refl 0)]
  refine ⟨fun _ => rfl,fun h => by omega,?_⟩
  simp
theorem BB {a b p:Int} (hp:(if b < a then b else a) = p) (ha:0 ≤ a) (hb:1 ≤ b):0 ≤ p ∧ p ≤ b ∧ p ≤ a ∧ (1 ≤ a → 1 ≤ p):=by
 subst hp
 by_cases h:b < a
 ·rw [if_pos h];omega
 ·rw [if_neg h];omega
theorem gN {c p n:Int} (hc:0 ≤ c ∧ c ≤ 1000000000000000) (hp:0 ≤ p ∧ p ≤ n) (hn:1 ≤ n ∧ n ≤ 1000000000000000):fw c p n:=⟨hc,⟨hp.1,by omega⟩,hn,by have:=dq hc.1 hp.1 hp.2 hn.1;omega⟩
theorem lj {own:List Lot} {q0:Int} (hg:LG own) (hq:0 ≤ q0 ∧ q0 ≤ 1000000000000000) (hl:own.length ≤ 1000) (hs:sC own ≤ 1000000000000000):FC Tryz.prog 290 [.c (.row 0 0 own.length),I q0] ([ro 137 own]) (.tup [.c (.row 1 0 (tkq own q0).1.length),I (tkq own q0).2]) ([ro 137 own,ow 137 (tkq own q0).1]):=by
 refine ax tk 62 [.tmp 4,.tmp 5] Tryz.func290 (by kernel_rfl) rfl rfl rfl rfl rfl rfl rfl ?_
 repeat' (first
| apply yds;rfl
| apply yd;rfl
| refine nv ?_
| apply aH (α:=Lot) (e:=137);rfl
| fail)
 refine wlp (X:=Int × Int × Int × List Lot) [15,16] [0,1] (fun x => [(17,I x.1),(1,I x.2.1),(6,I x.2.2.1),(7,.c (.row 1 0 x.2.2.2.length))]) (fun x => [(1,ow 137 x.2.2.2)]) (fun x => (0 ≤ x.1 ∧ x.1 ≤ own.length) ∧ (0 ≤ x.2.1 ∧ x.2.1 ≤ 1000000000000000) ∧ 0 ≤ x.2.2.1 ∧ x.2.2.2 ++ (tkq (own.drop x.1.toNat) x.2.1).1 = (tkq own q0).1 ∧ x.2.2.1 + (tkq (own.drop x.1.toNat) x.2.1).2 = (tkq own q0).2 ∧ x.2.2.2.length ≤ x.1) (fun x => (own.length - x.1).toNat) (0,q0,0,[]) ⟨⟨by dsimp only;omega,by dsimp only;omega⟩,hq,Int.le_refl 0,rfl,by dsimp only;rw [Int.zero_add];rfl,by dsimp only [List.length_nil];omega⟩ rfl rfl (fun _ => rfl) (fun _ => rfl) ⟨rfl,rfl,rfl,rfl,rfl,rfl,rfl,rfl⟩ (fun x hx => ?_)
 obtain ⟨i,q,cost,out⟩:=x
 obtain ⟨h0,h1,hc,ho,ht,hol⟩:=hx
 dsimp only at h0 h1 hc ho ht hol ⊢
 have htot:=fR (q:=q0) hg
 have hrest:0 ≤ (tkq (own.drop i.toNat) q).2:=(fR (fun x hx => hg x (List.mem_of_mem_drop hx))).1
 by_cases hil:i < own.length
 ·have hgi:=hg _ (aA (l:=own) ⟨h0.1,hil⟩)
  obtain ⟨p,hp⟩:∃ p,(if (rd own i).Qty < q then (rd own i).Qty else q) = p:=⟨_,rfl⟩
  obtain ⟨b1,b2,b3,_⟩:=BB hp h1.1 hgi.1.1
  have hmd:=gN (p:=p) hgi.2 ⟨b1,b2⟩ hgi.1
  have hpl:=dq (k:=(rd own i).Cost) (q:=p) (n:=(rd own i).Qty) hgi.2.1 b1 b2 hgi.1.1
  obtain ⟨s1,s2,s3⟩:=AB (r:=own.drop (i + 1).toNat) hgi h1.1 hp
  rw [← dJ ⟨h0.1,hil⟩] at s1 s2 s3
  have hrest2:0 ≤ (tkq (own.drop (i + 1).toNat) (q - p)).2:=(fR (fun x hx => hg x (List.mem_of_mem_drop hx))).1
  repeat' (first
| intro h9;exfalso;contradiction
| apply zmn;rfl;rfl;rfl;assumption;rfl;rfl
| apply yd;rfl
| intro _
| refine nv ?_
| apply wct rfl
| apply wcf rfl
| apply ai;rfl
| apply yar;rfl;omega
| apply yix;rfl;omega
| apply yle;rfl;omega
| apply aH (α:=Lot) (e:=137);rfl
| apply yap;rfl;(((try simp only [lE,lM]);(try dsimp only);omega))
| apply zcs;(iterate 10 rfl);exact sY;exact fun _ => rfl;exact fun _ => rfl;rfl;rfl;rfl;rfl
| fail)
  all_goals first
   | (rename_i hlt
      exact aB (i + 1,q - p,cost + (rd own i).Cost * p / (rd own i).Qty,out ++ [⟨(rd own i).Account,(rd own i).Instr,(rd own i).No,(rd own i).Qty - p,(rd own i).Cost - (rd own i).Cost * p / (rd own i).Qty⟩]) [0,4] ⟨rfl,rfl,rfl,rfl,rfl,rfl,rfl,rfl⟩ ⟨⟨by dsimp only;omega,by dsimp only;omega⟩,⟨by dsimp only;omega,by dsimp only;omega⟩,by dsimp only;omega,by dsimp only;rw [List.append_assoc,← ho,s1 hlt];rfl,by dsimp only;omega,by dsimp only;rw [List.length_append];simp only [List.length_cons,List.length_nil];omega⟩ (by first | omega | (dsimp only;omega)))
   | (rename_i hlt
      exact aB (i + 1,q - p,cost + (rd own i).Cost * p / (rd own i).Qty,out) [0,1] ⟨rfl,rfl,rfl,rfl,rfl,rfl,rfl,rfl⟩ ⟨⟨by dsimp only;omega,by dsimp only;omega⟩,⟨by dsimp only;omega,by dsimp only;omega⟩,by dsimp only;omega,by dsimp only;rw [← ho,s2 hlt],by dsimp only;omega,by dsimp only;omega⟩ (by first | omega | (dsimp only;omega)))
   | trace_state
 ·rw [kc hil] at ho ht
  have e1:out = (tkq own q0).1:=by rw [← ho];simp [tkq]
  have e2:cost = (tkq own q0).2:=by rw [← ht];simp [tkq]
  repeat' (first
| intro h9;exfalso;contradiction
| apply yds;rfl
| intro _
| refine nv ?_
| apply wcf rfl
| apply ah rfl
| apply ai;rfl
| fail)
  all_goals first
   | (rw [← e1,← e2]
      exact ak [0,1] rfl rfl rfl rfl rfl rfl)
   | trace_state
theorem q9 {own:List Lot} {q0:Int} (hg:LG own) (hq:1 ≤ q0 ∧ q0 ≤ sQ own) (hs:sC own ≤ 1000000000000000 ∧ sQ own ≤ 1000000000000000) (hlq:LQ own) (hl:0 < (own.length:Int)):FC Tryz.prog 292 [.c (.row 0 0 own.length),I q0] ([ro 137 own]) (.tup [.c (.row 1 0 (tkL own q0 3).length),I (tkC own q0 3)]) ([ro 137 own,ow 137 (tkL own q0 3)]):=by
 refine ax tk 43 [.tmp 4,.tmp 5] Tryz.func292 (by kernel_rfl) rfl rfl rfl rfl rfl rfl rfl ?_
 have hc0:=hg.sC_nn
 have hmd:=gN (c:=sC own) (p:=q0) (n:=sQ own) ⟨hc0,hs.1⟩ ⟨by omega,hq.2⟩ ⟨by omega,hs.2⟩
 have hpl:=dq (k:=sC own) (q:=q0) (n:=sQ own) hc0 (by omega) hq.2 (by omega)
 rw [show tkC own q0 3 = sC own * q0 / sQ own from aK rfl,show tkL own q0 3 = sel (sQ own = q0) [] [reL (rd own 0) (sQ own - q0) (sC own - sC own * q0 / sQ own)] from au rfl]
 by_cases hq2:sQ own = q0
 ·rw [au hq2]
  repeat' (first
| intro h9;exfalso;contradiction
| apply fZ (d:=4) 137 5;rfl;rfl;rfl
| apply yd;rfl
| intro _
| refine nv ?_
| apply wct rfl
| apply yeq;rfl
| apply yc;rfl;(first | exact cz (by assumption) | exact eD (by assumption));rfl;exact fun _ => rfl
| fail)
  all_goals exact ak [0,2] rfl rfl rfl rfl rfl rfl
 ·rw [ab hq2]
  repeat' (first
| intro h9;exfalso;contradiction
| apply yds;rfl
| apply yd;rfl
| intro _
| refine nv ?_
| apply wcf rfl
| apply yeq;rfl
| apply yar;rfl;omega
| apply yix;rfl;omega
| apply yle;rfl;omega
| apply aH (α:=Lot) (e:=137);rfl
| apply yc;rfl;(first | exact cz (by assumption) | exact eD (by assumption));rfl;exact fun _ => rfl
| fail)
  all_goals exact ak [0,2] rfl rfl rfl rfl rfl rfl
def rvF {α:Type} [Enc α] (l:List α) (i:Int) (k:Int):α:=if k < i ∨ l.length - 1 - i < k then rd l (l.length - 1 - k) else rd l k
theorem As {α:Type} [Enc α] {l:List α} {i:Int} (h:0 ≤ i ∧ i < l.length - 1 - i):swp (mkl l.length (rvF l i)) i (l.length - 1 - i) = mkl l.length (rvF l (i + 1)):=ed (by rw [fQ,ce,ce]) fun k h0 h1 => by
 rw [fQ,ce] at h1
 rw [dC ⟨h0,h1⟩]
 by_cases e1:k = i
 ·subst e1
  rw [mN (by rw [ce];omega) (by rw [ce];omega),dC ⟨by omega,by omega⟩,rvF,rvF,if_neg (by omega),if_pos (by omega)]
 ·by_cases e2:k = l.length - 1 - i
  ·subst e2
   rw [mO (by rw [ce];omega),dC ⟨by omega,by omega⟩,rvF,rvF,if_neg (by omega),if_pos (by omega)]
   congr 1
   omega
  ·rw [lx (by omega) (by omega) h0 e1 e2,dC ⟨h0,h1⟩,rvF,rvF]
   by_cases c1:k < i ∨ l.length - 1 - i < k
   ·rw [if_pos c1,if_pos (by omega)]
   ·rw [if_neg c1,if_neg (by omega)]
theorem BW {α:Type} [Enc α] {l:List α} {i:Int} (h:0 ≤ i) (hi:¬ i < l.length - 1 - i):mkl l.length (rvF l i) = l.reverse:=ed (by rw [ce,List.length_reverse]) fun k h0 h1 => by
 rw [ce] at h1
 have hr:rd l.reverse k = rd l (l.length - 1 - k):=by
  unfold rd
  rw [List.getD_eq_getElem?_getD,List.getD_eq_getElem?_getD,List.getElem?_reverse (by omega)]
  congr 2
  omega
 rw [dC ⟨h0,h1⟩,hr,rvF]
 by_cases c1:k < i ∨ l.length - 1 - i < k
 ·rw [if_pos c1]
 ·rw [if_neg c1]
  congr 1
  omega
theorem Ar {α:Type} [Enc α] (l:List α):mkl l.length (rvF l 0) = l:=ed (ce _ _) fun k h0 h1 => by
 rw [ce] at h1
 rw [dC ⟨h0,h1⟩,rvF,if_neg (by omega)]
theorem m4 {l:List Lot} (hl:l.length ≤ 1000000):FC Tryz.prog 291 [.c (.row 0 0 l.length)] ([ow 137 l]) (.tup []) ([ow 137 l.reverse]):=by
 refine ax tk 28 [] Tryz.func291 (by kernel_rfl) rfl rfl rfl rfl rfl rfl rfl ?_
 have hmk:=ce l.length (rvF l 0)
 repeat' (first
| apply yds;rfl
| refine nv ?_
| apply yar;rfl;omega
| fail)
 refine wlp (X:=Int × Int) [0] [0] (fun x => [(2,I x.1),(3,I x.2)]) (fun x => [(0,ow 137 (mkl l.length (rvF l x.1)))]) (fun x => (0 ≤ x.1 ∧ x.1 ≤ l.length) ∧ x.2 = l.length - 1 - x.1) (fun x => (l.length - x.1).toNat) (0,l.length - 1) ⟨⟨by dsimp only;omega,by dsimp only;omega⟩,by dsimp only;omega⟩ rfl rfl (fun _ => rfl) (fun _ => rfl) (by dsimp only;rw [Ar];exact ⟨rfl,rfl,rfl,rfl,rfl,rfl,rfl,rfl⟩) (fun x hx => ?_)
 obtain ⟨i,j⟩:=x
 obtain ⟨h0,hj⟩:=hx
 dsimp only at h0 hj ⊢
 have hml:=ce l.length (rvF l i)
 subst hj
 by_cases hij:i < l.length - 1 - i
 ·have hst:=As (l:=l) (i:=i) ⟨h0.1,by omega⟩
  repeat' (first
| intro h9;exfalso;contradiction
| apply yds;rfl
| apply yd;rfl
| apply zse;rfl;exact tk;(iterate 6 rfl);(rw [aG];omega);rfl;rfl;rfl;rfl;rfl
| intro _
| refine nv ?_
| apply wct rfl
| apply ai;rfl
| apply yar;rfl;omega
| apply yix;rfl;omega
| apply yle;rfl;omega
| apply zse;rfl;exact tk;(iterate 6 rfl);omega;rfl;rfl;rfl;rfl;rfl
| refine zdq (id:=3) rfl (by kernel_rfl) [(.p,0),(.p,1),(.p,2),(.p,3),(.p,4),(.p,5),(.p,6),(.p,8),(.p,9),(.p,10),(.t,7),(.t,11),(.p,12),(.l,13),(.p,14),(.l,15)] [13,15] (by kernel_rfl) rfl ?_
| fail)
  all_goals
   rw [show upd (upd (mkl l.length (rvF l i)) i ⟨(rd (mkl l.length (rvF l i)) (l.length - 1 - i)).Account,(rd (mkl l.length (rvF l i)) (l.length - 1 - i)).Instr,(rd (mkl l.length (rvF l i)) (l.length - 1 - i)).No,(rd (mkl l.length (rvF l i)) (l.length - 1 - i)).Qty,(rd (mkl l.length (rvF l i)) (l.length - 1 - i)).Cost⟩) (l.length - 1 - i) ⟨(rd (mkl l.length (rvF l i)) i).Account,(rd (mkl l.length (rvF l i)) i).Instr,(rd (mkl l.length (rvF l i)) i).No,(rd (mkl l.length (rvF l i)) i).Qty,(rd (mkl l.length (rvF l i)) i).Cost⟩ = mkl l.length (rvF l (i + 1)) from hst]
   exact aB (i + 1,l.length - 1 - i - 1) [0] ⟨rfl,rfl,rfl,rfl,rfl,rfl,rfl,rfl⟩ ⟨⟨by dsimp only;omega,by dsimp only;omega⟩,by dsimp only;omega⟩ (by first | omega | (dsimp only;omega))
 ·have hfi:=BW (l:=l) h0.1 (by omega)
  repeat' (first
| intro h9;exfalso;contradiction
| apply yds;rfl
| intro _
| refine nv ?_
| apply wcf rfl
| apply ah rfl
| apply ai;rfl
| fail)
  all_goals
   rw [hfi]
   exact ak [0] rfl rfl rfl rfl rfl rfl
theorem jD {a c n q k u v:Int}:FC Tryz.prog 322 [.agg [.sc (.int .i64 a),.sc (.int .i64 c),.sc (.int .i64 n),.sc (.int .i64 q),.sc (.int .i64 k)],.c (.ptr 0 0 0),.c (.ptr 1 0 0)] ([vI u,vI v]) (B (dB (a = u ∧ c = v))) ([vI u,vI v]):=by
 refine ax tk 9 [.tmp 4] Tryz.func322 (by kernel_rfl) rfl rfl rfl rfl rfl rfl rfl ?_
 repeat' (first
| apply yds;rfl
| apply yd;rfl
| intro _
| refine nv ?_
| apply ycp;rfl;exact p7;rfl
| fail)
 all_goals first | exact bF [0,1] rfl rfl rfl rfl rfl rfl (by assumption) | exact b5 [0,1] rfl rfl rfl rfl rfl rfl (by assumption)
theorem j9 {l:List Lot} {u v:Int}:FC Tryz.prog 310 [.c (.row 0 0 l.length),.c (.fn 322 [(1,0,0),(2,0,0)])] ([ro 137 l,vI u,vI v]) (sel (∃ x ∈ l,x.Account = u ∧ x.Instr = v) (I (fIx l (fun x => x.Account = u ∧ x.Instr = v))) (I (-1))) (sel (∃ x ∈ l,x.Account = u ∧ x.Instr = v) [ro 137 l,vI u,vI v] [ro 137 l,vI u,vI v]):=by
 refine ax tk 19 [.tmp 4] Tryz.func310 (by kernel_rfl) rfl rfl rfl rfl rfl rfl rfl ?_
 refine bX l 0 rfl (fun hl => ?_)
 repeat' (first
| apply yds;rfl
| apply yd;rfl
| refine nv ?_
| fail)
 refine wlp (X:=Int) [0,1,7] [0,1,2] (fun i => [(8,I i)]) (fun _ => []) (fun i => 0 ≤ i ∧ i ≤ l.length ∧ ∀ j:Int,0 ≤ j → j < i → ¬ (fun x => x.Account = u ∧ x.Instr = v) (rd l j)) (fun i => (l.length - i).toNat) 0 ⟨by omega,by omega,fun j h0 h1 => by omega⟩ rfl rfl (fun _ => rfl) (fun _ => rfl) ⟨rfl,rfl,rfl,rfl,rfl,rfl,rfl,rfl⟩ (fun i hi => ?_)
 obtain ⟨h0,hi,hall⟩:=hi
 skip
 repeat' (first
| apply yds;rfl
| apply yd;rfl
| apply ycp;rfl;exact jD;rfl
| intro _
| refine nv ?_
| apply wct rfl
| apply wcf rfl
| apply ah rfl
| apply ai;rfl
| apply yar;rfl;omega
| apply yix;rfl;omega
| apply yle;rfl;omega
| fail)
 all_goals first
  | (refine dP (X':=I i) (hs':=[ro 137 l,vI u,vI v]) [0,1,2] rfl rfl rfl rfl rfl rfl ?_ ?_
     ·rw [au ⟨rd l i,aA ⟨by omega,by omega⟩,by assumption⟩,fD ⟨by omega,by omega⟩ hall (by assumption)]
     ·rw [au ⟨rd l i,aA ⟨by omega,by omega⟩,by assumption⟩])
  | exact bQ (iw (by assumption) hall) [0,1,2] rfl rfl rfl rfl rfl rfl
  | exact aB (i + 1) [0,1,2] ⟨rfl,rfl,rfl,rfl,rfl,rfl,rfl,rfl⟩ ⟨by omega,by omega,aD hall (by assumption)⟩ (by first | omega | (dsimp only;omega))
theorem iM {l:List Lot} {u v:Int} (hl:l.length ≤ 1000000):FC Tryz.prog 307 [.c (.row 0 0 l.length),.c (.fn 322 [(1,0,0),(2,0,0)])] ([ow 137 l,vI u,vI v]) (.c (.row 0 0 (flt (fun x => ¬ (x.Account = u ∧ x.Instr = v)) l).length)) ([ow 137 (flt (fun x => ¬ (x.Account = u ∧ x.Instr = v)) l),vI u,vI v]):=by
 refine ax tk 42 [.tmp 4] Tryz.func307 (by kernel_rfl) rfl rfl rfl rfl rfl rfl rfl ?_
 repeat' (first
| apply yds;rfl
| apply yd;rfl
| intro _
| refine nv ?_
| apply wct rfl
| apply wcf rfl
| apply ai;rfl
| apply yar;rfl;omega
| apply zcs;(iterate 10 rfl);exact j9;exact fun _ => rfl;exact fun _ => rfl;rfl;rfl;rfl;rfl
| fail)
 ·rename_i hex hm
  have:=bY l (fun x => x.Account = u ∧ x.Instr = v)
  exfalso;omega
 ·rename_i hex hm
  have hn:=gf hex
  have hn2:=bY l (fun x => x.Account = u ∧ x.Instr = v)
  repeat' (first
| apply yd;rfl
| refine nv ?_
| apply yar;rfl;omega
| fail)
  refine wlp (X:=Int × Int × List Lot) [0,1] [0,1,2] (fun x => [(5,I x.1),(6,I x.2.1)]) (fun x => [(0,ow 137 x.2.2)]) (fun x => DfI l (fun x => x.Account = u ∧ x.Instr = v) x.1 x.2.1 x.2.2) (fun x => (l.length - x.2.1).toNat) (fIx l (fun x => x.Account = u ∧ x.Instr = v),fIx l (fun x => x.Account = u ∧ x.Instr = v) + 1,l) (DfI.init hex) rfl rfl (fun _ => rfl) (fun _ => rfl) ⟨rfl,rfl,rfl,rfl,rfl,rfl,rfl,rfl⟩ (fun x hx => ?_)
  obtain ⟨i,j,xs⟩:=x
  dsimp only at hx ⊢
  obtain ⟨h0,h1,h2⟩:=hx.bnd
  have hlen:=hx.len
  repeat' (first
| apply yds;rfl
| apply yd;rfl
| apply ycp;rfl;exact jD;rfl
| intro _
| refine nv ?_
| apply wct rfl
| apply wcf rfl
| apply ah rfl
| apply ai;rfl
| apply yar;rfl;omega
| apply yix;rfl;omega
| apply yle;rfl;omega
| apply zse;rfl;exact tk;(iterate 6 rfl);omega;rfl;rfl;rfl;rfl;rfl
| apply mU;rfl;exact tk;(iterate 8 rfl);omega;rfl;rfl
| fail)
  ·rename_i h3 h4
   exact aB (i,j + 1,xs) [0,1,2] ⟨rfl,rfl,rfl,rfl,rfl,rfl,rfl,rfl⟩ (hx.skip (by omega) h4) (by first | omega | (dsimp only;omega))
  ·rename_i h3 h4
   exact aB (i + 1,j + 1,upd xs i (rd xs j)) [0,1,2] ⟨rfl,rfl,rfl,rfl,rfl,rfl,rfl,rfl⟩ (hx.keep (by omega) h4) (by first | omega | (dsimp only;omega))
  ·refine Cj rfl tk rfl rfl rfl rfl rfl rfl rfl (by omega) rfl rfl ?_
   repeat' (first
| apply yds;rfl
| apply yd;rfl
| refine nv ?_
| apply mU;rfl;exact tk;(iterate 8 rfl);omega;rfl;rfl
| fail)
   exact dP (X':=.c (.row 0 0 (i.toNat - Int.toNat 0))) (hs':=[ow 137 (xs.take i.toNat),vI u,vI v]) [0,1,2] rfl rfl rfl rfl rfl rfl (by rw [← hx.len2 (by assumption)];rfl) (by rw [hx.fin (by assumption)])
 ·rename_i hex hm
  exact dP (X':=.c (.row 0 0 l.length)) (hs':=[ow 137 l,vI u,vI v]) [0,1,2] rfl rfl rfl rfl rfl rfl (by rw [mi (fun x hx k => hex ⟨x,hx,k⟩)]) (by rw [mi (fun x hx k => hex ⟨x,hx,k⟩)])
 ·exfalso;omega
structure WL (l own:List Lot) (a c:Int) (own':List Lot):Prop where
 pw:l.Pairwise lb2
 pw2:own'.Pairwise lb2
 perm:own.Perm own'
 of_:∀ x ∈ own',x.Account = a ∧ x.Instr = c
theorem WL.sort {l own own':List Lot} {a c:Int} (h:WL l own a c own'):∀ d:List Lot,d.Perm (aY l a c ++ own) → d.Pairwise (fun x y => ¬ lb2 y x) → d = mrg (aY l a c) own':=fun d h1 h2 => yZ h1 h.perm h2 (uy h.pw) h.pw2 (xh h.of_)
theorem iI {l own own':List Lot} {a c:Int} (hw:WL l own a c own') (hl:l.length ≤ 1000000) (hl2:own.length ≤ 1000000):FC Tryz.prog 293 [.c (.row 0 0 l.length),I a,I c,.c (.row 1 0 own.length)] ([ro 137 l,ro 137 own]) (.c (.row 2 0 (mrg (aY l a c) own').length)) ([ro 137 l,ro 137 own,ow 137 (mrg (aY l a c) own')]):=by
 refine ax tk 20 [.tmp 8] Tryz.func293 (by kernel_rfl) rfl rfl rfl rfl rfl rfl rfl ?_
 have hfl:=cV (fun x:Lot => ¬ (x.Account = a ∧ x.Instr = c)) l
 have hso:=hw.sort
 have hml:(mrg (aY l a c) own').length = (aY l a c ++ own).length:=by rw [oy,List.length_append,hw.perm.length_eq]
 repeat' (first
| apply yds;rfl
| apply yd;rfl
| refine nv ?_
| apply yap;rfl;(((try simp only [lE,lM]);(try dsimp only);omega))
| apply ycf;rfl;exact cL (by omega);rfl
| apply ycw  [true];rfl;(first | exact iM (by omega) | exact l9 (by (simp only [List.length_append];omega)) (by assumption));rfl
| fail)
 all_goals exact dP (X':=.c (.row 2 0 (aY l a c ++ own).length)) (hs':=[ro 137 l,ro 137 own,ow 137 (mrg (aY l a c) own')]) [0,1,5] rfl rfl rfl rfl rfl rfl (by rw [hml]) rfl
end
section
open Go.RowKit
noncomputable def cC (l:List Lot) (a c q way:Int):List Lot × Int × Int :=
 sel (¬ (LotsOk l ∧ inP q 1 1000000000000000 ∧ inP way 1 3)) ([],0,1) (sel (sQ (ae l a c) < q) (l,0,2) (mrg (aY l a c) (tkL (ae l a c) q way),tkC (ae l a c) q way,0))
section
variable {l:List Lot} {a c q way:Int}
theorem zX (h:¬ (LotsOk l ∧ inP q 1 1000000000000000 ∧ inP way 1 3)):cC l a c q way = ([],0,1):=by rw [cC,au h]
theorem zY (h:LotsOk l ∧ inP q 1 1000000000000000 ∧ inP way 1 3) (h2:sQ (ae l a c) < q):cC l a c q way = (l,0,2):=by rw [cC,ab (fun k => k h),au h2]
theorem zW (h:LotsOk l ∧ inP q 1 1000000000000000 ∧ inP way 1 3) (h2:¬ sQ (ae l a c) < q):cC l a c q way = (mrg (aY l a c) (tkL (ae l a c) q way),tkC (ae l a c) q way,0):=by rw [cC,ab (fun k => k h),ab h2]
theorem tkL_1 {own:List Lot} {q:Int}:tkL own q 1 = (tkq own q).1 ∧ tkC own q 1 = (tkq own q).2:=⟨by rw [tkL,ab (by decide),ab (by decide)],by rw [tkC,aC (by decide),aC (by decide)]⟩
theorem tkL_2 {own:List Lot} {q:Int}:tkL own q 2 = (tkq own.reverse q).1.reverse ∧ tkC own q 2 = (tkq own.reverse q).2:=⟨by rw [tkL,ab (by decide),au rfl],by rw [tkC,aC (by decide),aK rfl]⟩
theorem LotsOk.wl (h:LotsOk l) {own:List Lot} (hn:0 < ((ae l a c).length:Int)) (hp:own.Perm (tkL (ae l a c) q way)):WL l own a c (tkL (ae l a c) q way):=⟨h.pw,C9 (qK h.pw),hp,C8 (fun x hx => (lotsOf_mem.1 hx).2) hn⟩
end
theorem rq {l:List Lot} {a c q way:Int}:FC Tryz.prog 225 [.c (.row 0 0 l.length),I a,I c,I q,I way] ([ro 137 l]) (.tup [.c (.row 1 0 (cC l a c q way).1.length),I (cC l a c q way).2.1,I (cC l a c q way).2.2]) ([ro 137 l,ow 137 (cC l a c q way).1]):=by
 refine ax tk 78 [.tmp 10,.tmp 11,.tmp 12] Tryz.func225 (by kernel_rfl) rfl rfl rfl rfl rfl rfl rfl ?_
 by_cases hok:LotsOk l ∧ inP q 1 1000000000000000 ∧ inP way 1 3
 rotate_left
 ·
  rw [zX hok]
  repeat' (first
| intro h9;exact absurd ⟨by assumption,by assumption,by assumption⟩ hok
| apply fZ (d:=10) 137 5;rfl;rfl;rfl
| apply yd;rfl
| intro _
| refine nv ?_
| apply wct rfl
| apply ycp;rfl;(first | exact bZ | exact bm);rfl
| fail)
  all_goals exact ak [0,2] rfl rfl rfl rfl rfl rfl
 obtain ⟨h1,h2,h3⟩:=id hok
 have hll:=h1.1.2
 have hlq:=h1.q
 have h2':=h2
 have h3':=h3
 unfold inP at h2' h3'
 by_cases hsh:sQ (ae l a c) < q
 ·
  rw [zY hok hsh]
  repeat' (first
| intro h9;exfalso;contradiction
| apply yds;rfl
| apply yd;rfl
| intro _
| refine nv ?_
| apply wct rfl
| apply wcf rfl
| apply ai;rfl
| apply ycp;rfl;(first | exact bZ | exact bm);rfl
| apply ycf;rfl;(first | exact dx (by omega) | exact cL (by omega));rfl
| apply yc;rfl;exact cz (by exact LQ.of (by assumption));rfl;exact fun _ => rfl
| fail)
  all_goals exact ak [0,2] rfl rfl rfl rfl rfl rfl
 rw [zW hok hsh]
 have hown:=h1.own a c
 have hln:=rM (l:=ae l a c) (by omega)
 have hlo:(ae l a c).length ≤ l.length:=cV _ _
 have hg:LG (ae l a c):=h1.LG.flt _
 have hlq2:LQ (ae l a c):=LQ.of hlq
 by_cases w3:way = 3
 ·subst w3
  have hw:=h1.wl (a:=a) (c:=c) (q:=q) (way:=3) hln (.refl _)
  have hwl:=wg (q:=q) (way:=3) hln
  repeat' (first
| intro h9;exfalso;contradiction
| apply yds;rfl
| apply yd;rfl
| intro _
| refine nv ?_
| apply wct rfl
| apply wcf rfl
| apply ai;rfl
| apply ycp;rfl;(first | exact bZ | exact bm);rfl
| apply ycf;rfl;(first | exact dx (by omega) | exact q9 (by assumption) (by omega) (by omega) (by assumption) (by omega) | exact iI (by assumption) (by omega) (by omega));rfl
| apply yc;rfl;exact cz (by assumption);rfl;exact fun _ => rfl
| fail)
  all_goals exact ak [0,3] rfl rfl rfl rfl rfl rfl
 by_cases w2:way = 2
 ·subst w2
  have hg2:=hg.rev
  have hlr:(ae l a c).reverse.length = (ae l a c).length:=List.length_reverse
  have hcr:=pB (ae l a c)
  have hw:=h1.wl (a:=a) (c:=c) (q:=q) (way:=2) (own:=(tkq (ae l a c).reverse q).1) hln (by rw [tkL_2.1];exact (List.reverse_perm _).symm)
  have hwl:=pJ (ae l a c).reverse q
  rw [tkL_2.2]
  repeat' (first
| intro h9;exfalso;contradiction
| apply yds;rfl
| apply yd;rfl
| intro _
| refine nv ?_
| apply wct rfl
| apply wcf rfl
| apply ai;rfl
| apply ycp;rfl;(first | exact bZ | exact bm);rfl
| apply ycf;rfl;(exact dx (by omega));rfl
| apply yc;rfl;exact cz (by assumption);rfl;exact fun _ => rfl
| apply ycw  [true];rfl;exact m4 (by omega);rfl
| fail)
  rw [← hlr]
  repeat' (first
| apply yds;rfl
| refine nv ?_
| apply ycf;rfl;(first | exact lj (by assumption) (by omega) (by omega) (by omega) | exact iI (by assumption) (by omega) (by omega));rfl
| fail)
  all_goals exact ak [0,3] rfl rfl rfl rfl rfl rfl
 ·have w1:way = 1:=by omega
  subst w1
  have hw:=h1.wl (a:=a) (c:=c) (q:=q) (way:=1) (own:=(tkq (ae l a c) q).1) hln (by rw [tkL_1.1])
  have hwl:=pJ (ae l a c) q
  rw [tkL_1.2]
  repeat' (first
| intro h9;exfalso;contradiction
| apply yds;rfl
| apply yd;rfl
| intro _
| refine nv ?_
| apply wct rfl
| apply wcf rfl
| apply ai;rfl
| apply ycp;rfl;(first | exact bZ | exact bm);rfl
| apply ycf;rfl;(first | exact dx (by omega) | exact lj (by assumption) (by omega) (by omega) (by omega) | exact iI (by assumption) (by omega) (by omega));rfl
| apply yc;rfl;exact cz (by assumption);rfl;exact fun _ => rfl
| fail)
  all_goals exact ak [0,3] rfl rfl rfl rfl rfl rfl
end
section
open Go.RowKit
theorem et {a b:Int}:FC Tryz.prog 314 [I a,I b] ([]) (I (pick (a < b) a b)) ([]):=by
 refine ax tk 10 [.tmp 4] Tryz.func314 (by kernel_rfl) rfl rfl rfl rfl rfl rfl rfl ?_
 repeat' (first
| apply yds;rfl
| apply yd;rfl
| intro _
| refine nv ?_
| apply wct rfl
| apply wcf rfl
| apply ai;rfl
| fail)
 all_goals first | exact du [] rfl rfl rfl rfl rfl rfl (aK (by assumption)) | exact du [] rfl rfl rfl rfl rfl rfl (aC (by assumption))
theorem CB {a b:List Lot} {i k:Int} (hi:0 ≤ i ∧ i < a.length) (hk:¬ k < b.length ∨ (0 ≤ k ∧ lb2 (rd a i) (rd b k))):mrg (a.drop i.toNat) (b.drop k.toNat) = rd a i :: mrg (a.drop (i + 1).toNat) (b.drop k.toNat):=by
 rw [dJ hi]
 by_cases h:k < b.length
 ·obtain ⟨h0,h1⟩:=hk.resolve_left (fun q => q h)
  rw [dJ ⟨h0,h⟩,vD h1]
 ·rw [kc h,kx,kx]
theorem CC {a b:List Lot} {i k:Int} (hk:0 ≤ k ∧ k < b.length) (hi:¬ i < a.length ∨ (0 ≤ i ∧ ¬ lb2 (rd a i) (rd b k))):mrg (a.drop i.toNat) (b.drop k.toNat) = rd b k :: mrg (a.drop i.toNat) (b.drop (k + 1).toNat):=by
 rw [dJ hk]
 by_cases h:i < a.length
 ·obtain ⟨h0,h1⟩:=hi.resolve_left (fun q => q h)
  rw [dJ ⟨h0,h⟩,vE h1]
 ·rw [kc h,kT,kT]
theorem dg {a b:List Lot} (ha:a.length ≤ 1000000) (hb:b.length ≤ 1000000):FC Tryz.prog 248 [.c (.row 0 0 a.length),.c (.row 1 0 b.length)] ([ro 137 a,ro 137 b]) (.c (.row 2 0 (mrg a b).length)) ([ro 137 a,ro 137 b,ow 137 (mrg a b)]):=by
 refine ax tk 59 [.tmp 4] Tryz.func248 (by kernel_rfl) rfl rfl rfl rfl rfl rfl rfl ?_
 repeat' (first
| apply yds;rfl
| apply yd;rfl
| refine nv ?_
| apply aH (α:=Lot) (e:=137);rfl
| fail)
 refine wlp (X:=Int × Int × List Lot) [0,1] [0,1,2] (fun x => [(6,I x.1),(7,I x.2.1),(5,.c (.row 2 0 x.2.2.length))]) (fun x => [(2,ow 137 x.2.2)]) (fun x => (0 ≤ x.1 ∧ x.1 ≤ a.length) ∧ (0 ≤ x.2.1 ∧ x.2.1 ≤ b.length) ∧ x.2.2 ++ mrg (a.drop x.1.toNat) (b.drop x.2.1.toNat) = mrg a b ∧ (x.2.2.length:Int) = x.1 + x.2.1) (fun x => (a.length + b.length - x.1 - x.2.1).toNat) (0,0,[]) ⟨⟨by dsimp only;omega,by dsimp only;omega⟩,⟨by dsimp only;omega,by dsimp only;omega⟩,rfl,rfl⟩ rfl rfl (fun _ => rfl) (fun _ => rfl) ⟨rfl,rfl,rfl,rfl,rfl,rfl,rfl,rfl⟩ (fun x hx => ?_)
 obtain ⟨i,k,out⟩:=x
 obtain ⟨h0,k0,ho,hl⟩:=hx
 dsimp only at h0 k0 ho hl ⊢
 have hA:=fun h1 h2 => CB (a:=a) (b:=b) (i:=i) (k:=k) ⟨h0.1,h1⟩ h2
 have hB:=fun h1 h2 => CC (a:=a) (b:=b) (i:=i) (k:=k) ⟨k0.1,h1⟩ h2
 repeat' (first
| intro h9;exfalso;first | contradiction | omega
| apply yds;rfl
| apply yd;rfl
| intro _
| refine nv ?_
| apply wct rfl
| apply wcf rfl
| apply ah rfl
| apply ai;rfl
| apply yar;rfl;omega
| apply yix;rfl;omega
| apply yle;rfl;omega
| apply aH (α:=Lot) (e:=137);rfl
| apply yap;rfl;(((try simp only [lE,lM]);(try dsimp only);omega))
| refine zdq (id:=4) rfl (by kernel_rfl) [(.p,0),(.p,1),(.p,2),(.p,3),(.p,4),(.p,5),(.p,6),(.p,7),(.p,8),(.p,9),(.p,10),(.p,11),(.p,12),(.p,14),(.p,15),(.p,16),(.t,13),(.t,17),(.o,18),(.p,19),(.p,20)] [] (by kernel_rfl) rfl ?_
| apply ycp;rfl;exact lv;rfl
| fail)
 all_goals first
  | exact aB (i + 1,k,out ++ [rd a i]) [0,1,4] ⟨rfl,rfl,rfl,rfl,rfl,rfl,rfl,rfl⟩ ⟨⟨by dsimp only;omega,by dsimp only;omega⟩,⟨by dsimp only;omega,by dsimp only;omega⟩,by dsimp only;rw [List.append_assoc,← ho,hA (by omega) (by first | exact .inl (by omega) | exact .inr ⟨k0.1,by assumption⟩)];rfl,by dsimp only;rw [List.length_append];simp only [List.length_cons,List.length_nil];omega⟩ (by first | omega | (dsimp only;omega))
  | exact aB (i,k + 1,out ++ [rd b k]) [0,1,4] ⟨rfl,rfl,rfl,rfl,rfl,rfl,rfl,rfl⟩ ⟨⟨by dsimp only;omega,by dsimp only;omega⟩,⟨by dsimp only;omega,by dsimp only;omega⟩,by dsimp only;rw [List.append_assoc,← ho,hB (by omega) (by first | exact .inl (by omega) | exact .inr ⟨h0.1,by assumption⟩)];rfl,by dsimp only;rw [List.length_append];simp only [List.length_cons,List.length_nil];omega⟩ (by first | omega | (dsimp only;omega))
  | (rw [show mrg a b = out from by rw [← ho,kc (by omega),kc (by omega),kT,List.append_nil]]
     exact ak [0,1,2] rfl rfl rfl rfl rfl rfl)
  | trace_state
theorem tQ {own:List Lot} {q0:Int} (hg:LG own) (hq:1 ≤ q0 ∧ q0 ≤ sQ own) (hs:sC own ≤ 1000000000000000 ∧ sQ own ≤ 1000000000000000) (hlq:LQ own) (hl:0 < (own.length:Int)):FC Tryz.prog 313 [.c (.row 0 0 own.length),I q0] ([ro 137 own]) (.tup [.c (.row 1 0 (tkL own q0 3).length),I (tkC own q0 3)]) ([ro 137 own,ow 137 (tkL own q0 3)]):=by
 refine ax tk 43 [.tmp 4,.tmp 5] Tryz.func313 (by kernel_rfl) rfl rfl rfl rfl rfl rfl rfl ?_
 have hc0:=hg.sC_nn
 have hmd:=gN (c:=sC own) (p:=q0) (n:=sQ own) ⟨hc0,hs.1⟩ ⟨by omega,hq.2⟩ ⟨by omega,hs.2⟩
 have hpl:=dq (k:=sC own) (q:=q0) (n:=sQ own) hc0 (by omega) hq.2 (by omega)
 rw [show tkC own q0 3 = sC own * q0 / sQ own from aK rfl,show tkL own q0 3 = sel (sQ own = q0) [] [reL (rd own 0) (sQ own - q0) (sC own - sC own * q0 / sQ own)] from au rfl]
 by_cases hq2:sQ own = q0
 ·rw [au hq2]
  repeat' (first
| intro h9;exfalso;contradiction
| apply yds;rfl
| apply yd;rfl
| intro _
| refine nv ?_
| apply wct rfl
| apply yeq;rfl
| apply aH (α:=Lot) (e:=137);rfl
| apply yc;rfl;(first | exact eu (by assumption) | exact kG (by assumption) | exact bC (by assumption));rfl;exact fun _ => rfl
| fail)
  all_goals exact ak [0,1] rfl rfl rfl rfl rfl rfl
 ·rw [ab hq2]
  repeat' (first
| intro h9;exfalso;contradiction
| apply yds;rfl
| apply yd;rfl
| intro _
| refine nv ?_
| apply wcf rfl
| apply yeq;rfl
| apply yar;rfl;omega
| apply yix;rfl;omega
| apply yle;rfl;omega
| apply aH (α:=Lot) (e:=137);rfl
| apply yc;rfl;(first | exact eu (by assumption) | exact kG (by assumption) | exact bC (by assumption));rfl;exact fun _ => rfl
| fail)
  all_goals exact ak [0,2] rfl rfl rfl rfl rfl rfl
end
section
open Go.RowKit
theorem uT {cb:List By} (hl:cb.length ≤ 1048576):FE Tryz.prog 153 [.c (.row 0 0 cb.length)] ([ro 5 cb]) (fun v9 h9 => ∃ h:Int,(True) ∧ v9 = .c (.ptr 1 0 0) ∧ h9 = [ro 5 cb,cu 236 0 cb.length 0 h]):=by
 refine dl tk 32 [.tmp 2] Tryz.func153 (by kernel_rfl) rfl rfl rfl rfl rfl rfl rfl ?_
 repeat' (first
| apply yds;rfl
| apply yd;rfl
| refine nv ?_
| apply yar;rfl;omega
| fail)
 refine wlp (X:=Int × Int) [0] [0] (fun p => [(4,I p.1),(3,I p.2)]) (fun _ => []) (fun p => 0 ≤ p.1 ∧ p.1 ≤ cb.length) (fun p => (cb.length - p.1).toNat) (0,11029 + cb.length) ⟨by dsimp only;omega,by dsimp only;omega⟩ rfl rfl (fun _ => rfl) (fun _ => rfl) ⟨rfl,rfl,rfl,rfl,rfl,rfl,rfl,rfl⟩ (fun p hp => ?_)
 obtain ⟨i,h⟩:=p
 obtain ⟨h0,h1⟩:=hp
 dsimp only at h0 h1 ⊢
 repeat' (first
| apply yds;rfl
| apply yd;rfl
| intro _
| refine nv ?_
| apply wct rfl
| apply wcf rfl
| apply ah rfl
| apply ai;rfl
| apply yar;rfl;omega
| apply yix;rfl;omega
| apply yle;rfl;omega
| apply zaw;rfl;rfl;rfl;rfl;trivial;rfl;rfl
| apply zcv;rfl;exact tk;(iterate 6 rfl)
| fail)
 all_goals first | exact df [0,1] ⟨_,trivial,rfl,rfl⟩ rfl rfl rfl rfl rfl rfl | exact aB (i + 1,_) [0] ⟨rfl,rfl,rfl,rfl,rfl,rfl,rfl,rfl⟩ ⟨by dsimp only;omega,by dsimp only;omega⟩ (by omega)
theorem tO {cb:List By} {ci ch:Int} (hi:0 ≤ ci):FE Tryz.prog 262 [.c (.ptr 0 0 0)] ([cu 236 1 cb.length ci ch,ro 5 cb]) (fun v9 h9 => ∃ x i h:Int,(0 ≤ i ∧ 0 ≤ x ∧ x ≤ 255) ∧ v9 = I x ∧ h9 = [cu 236 1 cb.length i h,ro 5 cb]):=by
 refine dl tk 58 [.tmp 2] Tryz.func262 (by kernel_rfl) rfl rfl rfl rfl rfl rfl rfl ?_
 refine bX cb 1 rfl (fun hl => ?_)
 repeat' (first
| apply yds;rfl
| apply yd;rfl
| intro _
| refine nv ?_
| apply wct rfl
| apply wcf rfl
| apply ai;rfl
| apply yar;rfl;omega
| apply yix;rfl;omega
| apply yle;rfl;omega
| apply zaw;rfl;rfl;rfl;rfl;trivial;rfl;rfl
| apply zsh;rfl;rfl;rfl;rfl;omega;rfl;rfl
| apply zcv;rfl;exact tk;(iterate 6 rfl)
| refine zdq (id:=2) rfl (by kernel_rfl) [(.p,0),(.p,1),(.p,2),(.p,5),(.p,6),(.p,7),(.t,3),(.p,4),(.t,8),(.p,9),(.p,10),(.p,11),(.p,12)] [] (by kernel_rfl) rfl ?_
| refine zdq (id:=3) rfl (by kernel_rfl) [(.p,0),(.p,1),(.p,2),(.p,4),(.p,5),(.p,6),(.t,3),(.t,7),(.p,8),(.p,9)] [] (by kernel_rfl) rfl ?_
| refine zdq (id:=4) rfl (by kernel_rfl) [(.p,0),(.p,1),(.p,2),(.p,3),(.p,5),(.p,6),(.p,7),(.t,4),(.t,8),(.p,9),(.t,10),(.p,11),(.p,12),(.p,13),(.p,14)] [] (by kernel_rfl) rfl ?_
| fail)
 all_goals exact df [0,1] ⟨_,_,_,⟨by omega,Bc _⟩,rfl,rfl⟩ rfl rfl rfl rfl rfl rfl
theorem xn {i x n:Int} (h:0 ≤ i ∧ 0 ≤ x) (hn:¬ n ≤ 0):0 ≤ i ∧ 0 ≤ x.tmod n ∧ (0 < n → x.tmod n < n) ∧ (n ≤ 0 → x.tmod n = 0) :=
 ⟨h.1,Int.tmod_nonneg n h.2,fun q => Int.tmod_lt_of_pos x q,fun q => absurd q hn⟩
theorem bc {cb:List By} {ci ch n:Int} (hi:0 ≤ ci):FE Tryz.prog 165 [.c (.ptr 0 0 0),I n] ([cu 236 1 cb.length ci ch,ro 5 cb]) (fun v9 h9 => ∃ x i h:Int,(0 ≤ i ∧ 0 ≤ x ∧ (0 < n → x < n) ∧ (n ≤ 0 → x = 0)) ∧ v9 = I x ∧ h9 = [cu 236 1 cb.length i h,ro 5 cb]):=by
 refine dl tk 37 [.tmp 4] Tryz.func165 (by kernel_rfl) rfl rfl rfl rfl rfl rfl rfl ?_
 repeat' (first
| apply yd;rfl
| intro _
| refine nv ?_
| apply wct rfl
| apply wcf rfl
| apply ai;rfl
| apply yar;rfl;omega
| apply zaw;rfl;rfl;rfl;rfl;((show (_:Int) ≠ _;omega));rfl;rfl
| apply zce false [true];(iterate 10 rfl);exact tO (by omega);rfl;rfl;rintro _ _ ⟨x,i,h,hq,rfl,rfl⟩ <;> refine ⟨_,_,rfl,rfl,?_⟩
| fail)
 all_goals first | exact df [0,1] ⟨_,_,_,by omega,rfl,rfl⟩ rfl rfl rfl rfl rfl rfl | exact df [0,1] ⟨_,_,_,xn (by omega) (by omega),rfl,rfl⟩ rfl rfl rfl rfl rfl rfl
theorem cI {cb:List By} {ci ch n:Int} (hi:0 ≤ ci):FE Tryz.prog 205 [.c (.ptr 0 0 0),I n] ([cu 236 1 cb.length ci ch,ro 5 cb]) (fun v9 h9 => ∃ (z:Bool) (i h:Int),(0 ≤ i) ∧ v9 = B z ∧ h9 = [cu 236 1 cb.length i h,ro 5 cb]):=by
 refine dl tk 9 [.tmp 4] Tryz.func205 (by kernel_rfl) rfl rfl rfl rfl rfl rfl rfl ?_
 repeat' (first
| apply yds;rfl
| apply yd;rfl
| intro _
| refine nv ?_
| apply yeq;rfl
| apply zce false [true];(iterate 10 rfl);exact bc (by omega);rfl;rfl;rintro _ _ ⟨x,i,h,hq,rfl,rfl⟩ <;> refine ⟨_,_,rfl,rfl,?_⟩
| fail)
 all_goals exact df [0,1] ⟨_,_,_,by omega,rfl,rfl⟩ rfl rfl rfl rfl rfl rfl
theorem bN {cb:List By} {ci ch:Int} {xs:List Int} (hi:0 ≤ ci) (hx:0 < (xs.length:Int)):FE Tryz.prog 213 [.c (.ptr 0 0 0),.c (.row 1 0 xs.length)] ([cu 236 2 cb.length ci ch,ro 3 xs,ro 5 cb]) (fun v9 h9 => ∃ x i h:Int,(0 ≤ i) ∧ v9 = I x ∧ h9 = [cu 236 2 cb.length i h,ro 3 xs,ro 5 cb]):=by
 refine dl tk 12 [.tmp 4] Tryz.func213 (by kernel_rfl) rfl rfl rfl rfl rfl rfl rfl ?_
 repeat' (first
| apply yds;rfl
| apply yd;rfl
| refine nv ?_
| apply yix;rfl;omega
| apply yle;rfl;omega
| apply zce false [true];(iterate 10 rfl);exact bc (by omega);rfl;rfl;rintro _ _ ⟨x,i,h,hq,rfl,rfl⟩ <;> refine ⟨_,_,rfl,rfl,?_⟩
| fail)
 all_goals exact df [0,1,2] ⟨_,_,_,by omega,rfl,rfl⟩ rfl rfl rfl rfl rfl rfl
theorem tP {cb:List By} {lo hi:Int} (hl:cb.length ≤ 1048576) (hb:0 ≤ lo ∧ lo ≤ 1000000 ∧ 0 ≤ hi):FE Tryz.prog 154 [.c (.row 0 0 cb.length),I lo,I hi] ([ro 5 cb]) (fun v9 h9 => ∃ x:Int,(0 ≤ x ∧ x ≤ hi) ∧ v9 = I x ∧ h9 = [ro 5 cb]):=by
 refine dl tk 18 [.tmp 6] Tryz.func154 (by kernel_rfl) rfl rfl rfl rfl rfl rfl rfl ?_
 have hq:IntKind.i64.wrap ((cb.length:Int).tdiv 4) = (cb.length:Int) / 4:=by
  rw [Int.tdiv_eq_ediv_of_nonneg (by omega),IntKind.wrap_i64]
  omega
 repeat' (first
| apply yds;rfl
| apply yd;rfl
| intro _
| refine nv ?_
| apply wct rfl
| apply wcf rfl
| apply ai;rfl
| apply yar;rfl;omega
| apply zaw;rfl;rfl;rfl;rfl;((show (_:Int) ≠ _;omega));rfl;rfl
| fail)
 all_goals exact df [0] ⟨_,by omega,rfl,rfl⟩ rfl rfl rfl rfl rfl rfl
theorem uR {x:Int}:FC Tryz.prog 319 [I x] ([]) (I (pick (x < 0) (IntKind.i64.wrap (0 - x)) x)) ([]):=by
 refine ax tk 8 [.tmp 2] Tryz.func319 (by kernel_rfl) rfl rfl rfl rfl rfl rfl rfl ?_
 repeat' (first
| apply yds;rfl
| apply yd;rfl
| intro _
| refine nv ?_
| apply wct rfl
| apply wcf rfl
| apply ai;rfl
| apply D0;rfl;rfl;rfl;rfl
| fail)
 all_goals first | exact du [] rfl rfl rfl rfl rfl rfl (by rw [aK (by assumption)]) | exact du [] rfl rfl rfl rfl rfl rfl (by rw [aC (by assumption)])
theorem uS {a b:Int}:FC Tryz.prog 320 [I a,I b] ([]) (I (pick (a > b) a b)) ([]):=by
 refine ax tk 10 [.tmp 4] Tryz.func320 (by kernel_rfl) rfl rfl rfl rfl rfl rfl rfl ?_
 repeat' (first
| apply yds;rfl
| apply yd;rfl
| intro _
| refine nv ?_
| apply wct rfl
| apply wcf rfl
| apply ai;rfl
| fail)
 all_goals first | exact du [] rfl rfl rfl rfl rfl rfl (by rw [aK (by assumption)]) | exact du [] rfl rfl rfl rfl rfl rfl (by rw [aC (by assumption)])
theorem ea {cb:List By} {ci ch:Int} (hi:0 ≤ ci):FE Tryz.prog 316 [.c (.ptr 0 0 0)] ([cu 236 1 cb.length ci ch,ro 5 cb]) (fun v9 h9 => ∃ x i h:Int,(0 ≤ i) ∧ v9 = I x ∧ h9 = [cu 236 1 cb.length i h,ro 5 cb]):=by
 refine dl tk 11 [.tmp 2] Tryz.func316 (by kernel_rfl) rfl rfl rfl rfl rfl rfl rfl ?_
 repeat' (first
| apply yd;rfl
| refine nv ?_
| apply wct rfl
| apply wcf rfl
| apply yar;rfl;omega
| apply aH (α:=Int) (e:=3);rfl
| apply zce false [true];(iterate 10 rfl);exact cI (by omega);rfl;rfl;rintro _ _ ⟨(_ | _),i,h,hq,rfl,rfl⟩ <;> refine ⟨_,_,rfl,rfl,?_⟩
| apply zce false [true];(iterate 10 rfl);(first | exact bN (by omega) (by decide) | exact bc (by omega));rfl;rfl;rintro _ _ ⟨x,i,h,hq,rfl,rfl⟩ <;> refine ⟨_,_,rfl,rfl,?_⟩
| fail)
 all_goals exact df [0,1] ⟨_,_,_,by omega,rfl,rfl⟩ rfl rfl rfl rfl rfl rfl
theorem tM {ba:List Account} {bi:List Instr} {bb:List Bal} {bl:List Lot} {bt:List Trade} {bn:Int} {cb:List By} {ci ch kd:Int} (hi:0 ≤ ci) (hm:ba.length ≤ 8589934592 ∧ bi.length ≤ 8589934592 ∧ bb.length ≤ 8589934592 ∧ bl.length ≤ 8589934592 ∧ bt.length ≤ 8589934592):FE Tryz.prog 283 [.c (.ptr 0 0 0),bkV 1 ⟨ba,bi,bb,bl,bt,bn⟩,I kd] ([cu 236 6 cb.length ci ch] ++ bkR ⟨ba,bi,bb,bl,bt,bn⟩ ++ [ro 5 cb]) (fun v9 h9 => ∃ x i h:Int,(0 ≤ i) ∧ v9 = I x ∧ h9 = [cu 236 6 cb.length i h] ++ bkR ⟨ba,bi,bb,bl,bt,bn⟩ ++ [ro 5 cb]):=by
 refine dl tk 46 [.tmp 6] Tryz.func283 (by kernel_rfl) rfl rfl rfl rfl rfl rfl rfl ?_
 repeat' (first
| apply yds;rfl
| apply yd;rfl
| refine nv ?_
| apply aH (α:=Int) (e:=3);rfl
| fail)
 refine wlp (X:=Int × List Int) [0,2,4] [0,1,2,3,4,5,6,7,8] (fun p => [(8,I p.1),(7,.c (.row 8 0 p.2.length))]) (fun p => [(8,ow 3 p.2)]) (fun p => 0 ≤ p.1 ∧ p.1 ≤ ba.length ∧ (p.2.length:Int) ≤ p.1) (fun p => (ba.length - p.1).toNat) (0,[]) ⟨by dsimp only;omega,by dsimp only;omega,by dsimp only [List.length_nil];omega⟩ rfl rfl (fun _ => rfl) (fun _ => rfl) ⟨rfl,rfl,rfl,rfl,rfl,rfl,rfl,rfl⟩ (fun p hp => ?_)
 obtain ⟨i,xs⟩:=p
 obtain ⟨h0,h1,h2⟩:=hp
 dsimp only at h0 h1 h2 ⊢
 repeat' (first
| apply yds;rfl
| apply yd;rfl
| intro _
| refine nv ?_
| apply wct rfl
| apply wcf rfl
| apply ah rfl
| apply ai;rfl
| apply yar;rfl;omega
| apply yix;rfl;omega
| apply yle;rfl;omega
| apply aH (α:=Int) (e:=3);rfl
| apply yap;rfl;(((try simp only [lE,lM]);(try dsimp only);omega))
| apply zce false [true];(iterate 10 rfl);exact cI (by omega);rfl;rfl;rintro _ _ ⟨(_ | _),i,h,hq,rfl,rfl⟩ <;> refine ⟨_,_,rfl,rfl,?_⟩
| apply zce false [true];(iterate 10 rfl);(first | exact ea (by omega) | exact bN (by omega) (by omega));rfl;rfl;rintro _ _ ⟨x,i,h,hq,rfl,rfl⟩ <;> refine ⟨_,_,rfl,rfl,?_⟩
| fail)
 all_goals first | exact df [0,1,2,3,4,5,6] ⟨_,_,_,by omega,rfl,rfl⟩ rfl rfl rfl rfl rfl rfl | exact aB (i + 1,xs ++ [_]) [0,1,2,3,4,5,6,7,10] ⟨rfl,rfl,rfl,rfl,rfl,rfl,rfl,rfl⟩ ⟨by dsimp only;omega,by dsimp only;omega,by dsimp only;simp only [List.length_append,List.length_cons,List.length_nil];omega⟩ (by omega) | exact aB (i + 1,xs) [0,1,2,3,4,5,6,7,8] ⟨rfl,rfl,rfl,rfl,rfl,rfl,rfl,rfl⟩ ⟨by dsimp only;omega,by dsimp only;omega,by dsimp only;omega⟩ (by omega)
theorem qq {ba:List Account} {bi:List Instr} {bb:List Bal} {bl:List Lot} {bt:List Trade} {bn:Int} {cb:List By} {ci ch kd:Int} (hi:0 ≤ ci) (hm:ba.length ≤ 8589934592 ∧ bi.length ≤ 8589934592 ∧ bb.length ≤ 8589934592 ∧ bl.length ≤ 8589934592 ∧ bt.length ≤ 8589934592):FE Tryz.prog 284 [.c (.ptr 0 0 0),bkV 1 ⟨ba,bi,bb,bl,bt,bn⟩,I kd] ([cu 236 6 cb.length ci ch] ++ bkR ⟨ba,bi,bb,bl,bt,bn⟩ ++ [ro 5 cb]) (fun v9 h9 => ∃ x i h:Int,(0 ≤ i) ∧ v9 = I x ∧ h9 = [cu 236 6 cb.length i h] ++ bkR ⟨ba,bi,bb,bl,bt,bn⟩ ++ [ro 5 cb]):=by
 refine dl tk 46 [.tmp 6] Tryz.func284 (by kernel_rfl) rfl rfl rfl rfl rfl rfl rfl ?_
 repeat' (first
| apply yds;rfl
| apply yd;rfl
| refine nv ?_
| apply aH (α:=Int) (e:=3);rfl
| fail)
 refine wlp (X:=Int × List Int) [0,2,4] [0,1,2,3,4,5,6,7,8] (fun p => [(8,I p.1),(7,.c (.row 8 0 p.2.length))]) (fun p => [(8,ow 3 p.2)]) (fun p => 0 ≤ p.1 ∧ p.1 ≤ bi.length ∧ (p.2.length:Int) ≤ p.1) (fun p => (bi.length - p.1).toNat) (0,[]) ⟨by dsimp only;omega,by dsimp only;omega,by dsimp only [List.length_nil];omega⟩ rfl rfl (fun _ => rfl) (fun _ => rfl) ⟨rfl,rfl,rfl,rfl,rfl,rfl,rfl,rfl⟩ (fun p hp => ?_)
 obtain ⟨i,xs⟩:=p
 obtain ⟨h0,h1,h2⟩:=hp
 dsimp only at h0 h1 h2 ⊢
 repeat' (first
| apply yds;rfl
| apply yd;rfl
| intro _
| refine nv ?_
| apply wct rfl
| apply wcf rfl
| apply ah rfl
| apply ai;rfl
| apply yar;rfl;omega
| apply yix;rfl;omega
| apply yle;rfl;omega
| apply aH (α:=Int) (e:=3);rfl
| apply yap;rfl;(((try simp only [lE,lM]);(try dsimp only);omega))
| apply zce false [true];(iterate 10 rfl);exact cI (by omega);rfl;rfl;rintro _ _ ⟨(_ | _),i,h,hq,rfl,rfl⟩ <;> refine ⟨_,_,rfl,rfl,?_⟩
| apply zce false [true];(iterate 10 rfl);(first | exact ea (by omega) | exact bN (by omega) (by omega));rfl;rfl;rintro _ _ ⟨x,i,h,hq,rfl,rfl⟩ <;> refine ⟨_,_,rfl,rfl,?_⟩
| fail)
 all_goals first | exact df [0,1,2,3,4,5,6] ⟨_,_,_,by omega,rfl,rfl⟩ rfl rfl rfl rfl rfl rfl | exact aB (i + 1,xs ++ [_]) [0,1,2,3,4,5,6,7,10] ⟨rfl,rfl,rfl,rfl,rfl,rfl,rfl,rfl⟩ ⟨by dsimp only;omega,by dsimp only;omega,by dsimp only;simp only [List.length_append,List.length_cons,List.length_nil];omega⟩ (by omega) | exact aB (i + 1,xs) [0,1,2,3,4,5,6,7,8] ⟨rfl,rfl,rfl,rfl,rfl,rfl,rfl,rfl⟩ ⟨by dsimp only;omega,by dsimp only;omega,by dsimp only;omega⟩ (by omega)
theorem rW {ba:List Account} {bi:List Instr} {bb:List Bal} {bl:List Lot} {bt:List Trade} {bn:Int} {cb:List By} {ci ch ac ins:Int} (hi:0 ≤ ci):FE Tryz.prog 285 [.c (.ptr 0 0 0),bkV 1 ⟨ba,bi,bb,bl,bt,bn⟩,I ac,I ins] ([cu 236 6 cb.length ci ch] ++ bkR ⟨ba,bi,bb,bl,bt,bn⟩ ++ [ro 5 cb]) (fun v9 h9 => ∃ x i h:Int,(0 ≤ i) ∧ v9 = I x ∧ h9 = [cu 236 6 cb.length i h] ++ bkR ⟨ba,bi,bb,bl,bt,bn⟩ ++ [ro 5 cb]):=by
 refine dl tk 34 [.tmp 8] Tryz.func285 (by kernel_rfl) rfl rfl rfl rfl rfl rfl rfl ?_
 repeat' (first
| apply yds;rfl
| apply yd;rfl
| intro _
| refine nv ?_
| apply wct rfl
| apply wcf rfl
| apply yeq;rfl
| apply yar;rfl;omega
| apply yc;rfl;exact fK;rfl;exact fun _ => rfl
| apply zce false [true];(iterate 10 rfl);exact bc (by omega);rfl;rfl;rintro _ _ ⟨x,i,h,hq,rfl,rfl⟩ <;> refine ⟨_,_,rfl,rfl,?_⟩
| apply ycq;rfl;(first | exact uR | exact et | exact uS);rfl
| apply zaw;rfl;rfl;rfl;rfl;trivial;rfl;rfl
| fail)
 all_goals exact df [0,1,2,3,4,5,6] ⟨_,_,_,by omega,rfl,rfl⟩ rfl rfl rfl rfl rfl rfl
end
end Go.Proofs.YtgehbhkfehmdkaaGreat.Sh
