/- What is taken of lots: the program's side. No condition. -/
import Derived.Test.YtgehbhkfehmdkaaGreatKCeShV
import Derived.Test.YtgehbhkfehmdkaaGreatKCeShSrt
import Derived.Test.YtgehbhkfehmdkaaGreatKCeShMu
import Derived.Test.YtgehbhkfehmdkaaGreatKCeShLt
set_option maxRecDepth 100000
set_option maxHeartbeats 40000000
set_option linter.unusedSimpArgs false
set_option linter.unusedVariables false
namespace Go.Proofs.YtgehbhkfehmdkaaGreat.Sh
section
open Go.RowKit
section
variable {P:Program} {T:TB} {ops:Array Oper} {Q:Exit → St → Prop} {h1:AH} {k:Sk} {ks ks':List Sk} {l:List Oper} {N0 k0 d0:Nat} {e0:List (Nat × AV)} {h0:AH} {ty:TypeId} {pos:String} {af:Array Edge} {g:Option (Nat × Bool)}
theorem zmn {x y:Operand} {ts:Array TypeId} {a b r:Int} (hs0:stK ks = (k,ks')) (hx:ev e0 x = some (I a)) (hy:ev e0 y = some (I b)) (he:(if b < a then b else a) = r) (hg:gd ops ⟨some d0,.call { callee:=.builtin .min,args:=#[x,y],argTypes:=ts },ty,pos,af,g⟩ e0 = some true) (hd:Nat.blt d0 N0 = true)
  (h:ZZ P ops Q h1 ks' l ⟨N0,k0,(d0,I r) :: e0,h0⟩):ZZ P ops Q h1 ks (⟨some d0,.call { callee:=.builtin .min,args:=#[x,y],argTypes:=ts },ty,pos,af,g⟩ :: l) ⟨N0,k0,e0,h0⟩:=⟨by
 rw [aM hs0]
 exact wp (T:=[]) (st:=⟨N0,k0,e0,h0⟩) (dst:=some d0) (v:=I r) (fun t ti h => by cases h) (by subst he;unfold aP;simp only [hx,hy]) hg hd h.out⟩
end
theorem Af {l:Lot} {r:List Lot} {q p:Int} (hg:(1 ≤ l.Qty ∧ l.Qty ≤ 1000000000000000) ∧ 0 ≤ l.Cost ∧ l.Cost ≤ 1000000000000000) (hq:0 ≤ q) (hp:(if l.Qty < q then l.Qty else q) = p) :
  (p < l.Qty → (tkq (l :: r) q).1 = reL l (l.Qty - p) (l.Cost - l.Cost * p / l.Qty) :: (tkq r (q - p)).1) ∧ (¬ p < l.Qty → (tkq (l :: r) q).1 = (tkq r (q - p)).1) ∧ (tkq (l :: r) q).2 = l.Cost * p / l.Qty + (tkq r (q - p)).2:=by
 by_cases h0:q ≤ 0
 ·have e:q = 0:=by omega
  subst e
  rw [if_neg (by omega)] at hp
  subst hp
  rw [pn (Int.le_refl 0),pn (l:=r) (by omega)]
  refine ⟨fun _ => ?_,fun h => by omega,?_⟩
  ·simp [reL]
  ·simp
 by_cases h1:l.Qty ≤ q
 ·have e:p = l.Qty:=by
   rw [← hp]
   by_cases h2:l.Qty < q
   ·rw [if_pos h2]
   ·rw [if_neg h2];omega
  subst e
  rw [wb (by omega) h1]
  refine ⟨fun h => by omega,fun _ => rfl,?_⟩
  rw [sY hg.1.1]
 ·rw [if_neg (by omega)] at hp
  subst hp
  rw [wc (by omega) h1,Int.sub_self,pn (l:=r) (Int.le_refl 0)]
  refine ⟨fun _ => rfl,fun h => by omega,?_⟩
  simp
theorem B8 {a b p:Int} (hp:(if b < a then b else a) = p) (ha:0 ≤ a) (hb:1 ≤ b):0 ≤ p ∧ p ≤ b ∧ p ≤ a ∧ (1 ≤ a → 1 ≤ p):=by
 subst hp
 by_cases h:b < a
 ·rw [if_pos h];omega
 ·rw [if_neg h];omega
theorem fw {c p n:Int} (hc:0 ≤ c ∧ c ≤ 1000000000000000) (hp:0 ≤ p ∧ p ≤ n) (hn:1 ≤ n ∧ n ≤ 1000000000000000):dD c p n:=⟨hc,⟨hp.1,by omega⟩,hn,by have:=dh hc.1 hp.1 hp.2 hn.1;omega⟩
theorem kd {own:List Lot} {q0:Int} (hg:LG own) (hq:0 ≤ q0 ∧ q0 ≤ 1000000000000000) (hl:own.length ≤ 1000) (hs:sC own ≤ 1000000000000000):FC Tryz.prog 290 [.c (.row 0 0 own.length),I q0] ([ro 137 own]) (.tup [.c (.row 1 0 (tkq own q0).1.length),I (tkq own q0).2]) ([ro 137 own,ow 137 (tkq own q0).1]):=by
 refine al tk 62 [.tmp 4,.tmp 5] Tryz.func290 (by kernel_rfl) rfl rfl rfl rfl rfl rfl rfl ?_
 repeat' (first
| apply yds;rfl
| apply yd;rfl
| refine nv ?_
| apply aG (α:=Lot) (e:=137);rfl
| fail)
 refine wlp (X:=Int × Int × Int × List Lot) [15,16] [0,1] (fun x => [(17,I x.1),(1,I x.2.1),(6,I x.2.2.1),(7,.c (.row 1 0 x.2.2.2.length))]) (fun x => [(1,ow 137 x.2.2.2)]) (fun x => (0 ≤ x.1 ∧ x.1 ≤ own.length) ∧ (0 ≤ x.2.1 ∧ x.2.1 ≤ 1000000000000000) ∧ 0 ≤ x.2.2.1 ∧ x.2.2.2 ++ (tkq (own.drop x.1.toNat) x.2.1).1 = (tkq own q0).1 ∧ x.2.2.1 + (tkq (own.drop x.1.toNat) x.2.1).2 = (tkq own q0).2 ∧ x.2.2.2.length ≤ x.1) (fun x => (own.length - x.1).toNat) (0,q0,0,[]) ⟨⟨by dsimp only;omega,by dsimp only;omega⟩,hq,Int.le_refl 0,rfl,by dsimp only;rw [Int.zero_add];rfl,by dsimp only [List.length_nil];omega⟩ rfl rfl (fun _ => rfl) (fun _ => rfl) ⟨rfl,rfl,rfl,rfl,rfl,rfl,rfl,rfl⟩ (fun x hx => ?_)
 obtain ⟨i,q,cost,out⟩:=x
 obtain ⟨h0,h1,hc,ho,ht,hol⟩:=hx
 dsimp only at h0 h1 hc ho ht hol ⊢
 have htot:=eO (q:=q0) hg
 have hrest:0 ≤ (tkq (own.drop i.toNat) q).2:=(eO (fun x hx => hg x (List.mem_of_mem_drop hx))).1
 by_cases hil:i < own.length
 ·have hgi:=hg _ (ax (l:=own) ⟨h0.1,hil⟩)
  obtain ⟨p,hp⟩:∃ p,(if (rd own i).Qty < q then (rd own i).Qty else q) = p:=⟨_,rfl⟩
  obtain ⟨b1,b2,b3,_⟩:=B8 hp h1.1 hgi.1.1
  have hmd:=fw (p:=p) hgi.2 ⟨b1,b2⟩ hgi.1
  have hpl:=dh (k:=(rd own i).Cost) (q:=p) (n:=(rd own i).Qty) hgi.2.1 b1 b2 hgi.1.1
  obtain ⟨s1,s2,s3⟩:=Af (r:=own.drop (i + 1).toNat) hgi h1.1 hp
  rw [← dz ⟨h0.1,hil⟩] at s1 s2 s3
  have hrest2:0 ≤ (tkq (own.drop (i + 1).toNat) (q - p)).2:=(eO (fun x hx => hg x (List.mem_of_mem_drop hx))).1
  repeat' (first
| intro h9;exfalso;contradiction
| apply zmn;rfl;rfl;rfl;assumption;rfl;rfl
| apply yd;rfl
| intro _
| refine nv ?_
| apply wct rfl
| apply wcf rfl
| apply ag;rfl
| apply yar;rfl;omega
| apply yix;rfl;omega
| apply yle;rfl;omega
| apply aG (α:=Lot) (e:=137);rfl
| apply yap;rfl;(((try simp only [lE,lM]);(try dsimp only);omega))
| apply zcs;(iterate 10 rfl);exact je;exact fun _ => rfl;exact fun _ => rfl;rfl;rfl;rfl;rfl
| fail)
  all_goals first
   | (rename_i hlt
      exact aA (i + 1,q - p,cost + (rd own i).Cost * p / (rd own i).Qty,out ++ [⟨(rd own i).Account,(rd own i).Instr,(rd own i).No,(rd own i).Qty - p,(rd own i).Cost - (rd own i).Cost * p / (rd own i).Qty⟩]) [0,4] ⟨rfl,rfl,rfl,rfl,rfl,rfl,rfl,rfl⟩ ⟨⟨by dsimp only;omega,by dsimp only;omega⟩,⟨by dsimp only;omega,by dsimp only;omega⟩,by dsimp only;omega,by dsimp only;rw [List.append_assoc,← ho,s1 hlt];rfl,by dsimp only;omega,by dsimp only;rw [List.length_append];simp only [List.length_cons,List.length_nil];omega⟩ (by first | omega | (dsimp only;omega)))
   | (rename_i hlt
      exact aA (i + 1,q - p,cost + (rd own i).Cost * p / (rd own i).Qty,out) [0,1] ⟨rfl,rfl,rfl,rfl,rfl,rfl,rfl,rfl⟩ ⟨⟨by dsimp only;omega,by dsimp only;omega⟩,⟨by dsimp only;omega,by dsimp only;omega⟩,by dsimp only;omega,by dsimp only;rw [← ho,s2 hlt],by dsimp only;omega,by dsimp only;omega⟩ (by first | omega | (dsimp only;omega)))
   | trace_state
 ·rw [jc hil] at ho ht
  have e1:out = (tkq own q0).1:=by rw [← ho];simp [tkq]
  have e2:cost = (tkq own q0).2:=by rw [← ht];simp [tkq]
  repeat' (first
| intro h9;exfalso;contradiction
| apply yds;rfl
| intro _
| refine nv ?_
| apply wcf rfl
| apply ae rfl
| apply ag;rfl
| fail)
  all_goals first
   | (rw [← e1,← e2]
      exact ai [0,1] rfl rfl rfl rfl rfl rfl)
   | trace_state
theorem oU {own:List Lot} {q0:Int} (hg:LG own) (hq:1 ≤ q0 ∧ q0 ≤ sQ own) (hs:sC own ≤ 1000000000000000 ∧ sQ own ≤ 1000000000000000) (hlq:LQ own) (hl:0 < (own.length:Int)):FC Tryz.prog 292 [.c (.row 0 0 own.length),I q0] ([ro 137 own]) (.tup [.c (.row 1 0 (tkL own q0 3).length),I (tkC own q0 3)]) ([ro 137 own,ow 137 (tkL own q0 3)]):=by
 refine al tk 43 [.tmp 4,.tmp 5] Tryz.func292 (by kernel_rfl) rfl rfl rfl rfl rfl rfl rfl ?_
 have hc0:=hg.sC_nn
 have hmd:=fw (c:=sC own) (p:=q0) (n:=sQ own) ⟨hc0,hs.1⟩ ⟨by omega,hq.2⟩ ⟨by omega,hs.2⟩
 have hpl:=dh (k:=sC own) (q:=q0) (n:=sQ own) hc0 (by omega) hq.2 (by omega)
 rw [show tkC own q0 3 = sC own * q0 / sQ own from aD rfl,show tkL own q0 3 = sel (sQ own = q0) [] [reL (rd own 0) (sQ own - q0) (sC own - sC own * q0 / sQ own)] from ap rfl]
 by_cases hq2:sQ own = q0
 ·rw [ap hq2]
  repeat' (first
| intro h9;exfalso;contradiction
| apply d5 (d:=4) 137 5;rfl;rfl;rfl
| apply yd;rfl
| intro _
| refine nv ?_
| apply wct rfl
| apply yeq;rfl
| apply yc;rfl;(first | exact cU (by assumption) | exact dl (by assumption));rfl;exact fun _ => rfl
| fail)
  all_goals exact ai [0,2] rfl rfl rfl rfl rfl rfl
 ·rw [a8 hq2]
  repeat' (first
| intro h9;exfalso;contradiction
| apply yds;rfl
| apply yd;rfl
| intro _
| refine nv ?_
| apply wcf rfl
| apply yeq;rfl
| apply yar;rfl;omega
| apply yix;rfl;omega
| apply yle;rfl;omega
| apply aG (α:=Lot) (e:=137);rfl
| apply yc;rfl;(first | exact cU (by assumption) | exact dl (by assumption));rfl;exact fun _ => rfl
| fail)
  all_goals exact ai [0,2] rfl rfl rfl rfl rfl rfl
def rvF {α:Type} [Enc α] (l:List α) (i:Int) (k:Int):α:=if k < i ∨ l.length - 1 - i < k then rd l (l.length - 1 - k) else rd l k
theorem A4 {α:Type} [Enc α] {l:List α} {i:Int} (h:0 ≤ i ∧ i < l.length - 1 - i):swp (mkl l.length (rvF l i)) i (l.length - 1 - i) = mkl l.length (rvF l (i + 1)):=bw (by rw [eN,ck,ck]) fun k h0 h1 => by
 rw [eN,ck] at h1
 rw [dr ⟨h0,h1⟩]
 by_cases e1:k = i
 ·subst e1
  rw [lq (by rw [ck];omega) (by rw [ck];omega),dr ⟨by omega,by omega⟩,rvF,rvF,if_neg (by omega),if_pos (by omega)]
 ·by_cases e2:k = l.length - 1 - i
  ·subst e2
   rw [lr (by rw [ck];omega),dr ⟨by omega,by omega⟩,rvF,rvF,if_neg (by omega),if_pos (by omega)]
   congr 1
   omega
  ·rw [kl (by omega) (by omega) h0 e1 e2,dr ⟨h0,h1⟩,rvF,rvF]
   by_cases c1:k < i ∨ l.length - 1 - i < k
   ·rw [if_pos c1,if_pos (by omega)]
   ·rw [if_neg c1,if_neg (by omega)]
theorem Bm {α:Type} [Enc α] {l:List α} {i:Int} (h:0 ≤ i) (hi:¬ i < l.length - 1 - i):mkl l.length (rvF l i) = l.reverse:=bw (by rw [ck,List.length_reverse]) fun k h0 h1 => by
 rw [ck] at h1
 have hr:rd l.reverse k = rd l (l.length - 1 - k):=by
  unfold rd
  rw [List.getD_eq_getElem?_getD,List.getD_eq_getElem?_getD,List.getElem?_reverse (by omega)]
  congr 2
  omega
 rw [dr ⟨h0,h1⟩,hr,rvF]
 by_cases c1:k < i ∨ l.length - 1 - i < k
 ·rw [if_pos c1]
 ·rw [if_neg c1]
  congr 1
  omega
theorem A3 {α:Type} [Enc α] (l:List α):mkl l.length (rvF l 0) = l:=bw (ck _ _) fun k h0 h1 => by
 rw [ck] at h1
 rw [dr ⟨h0,h1⟩,rvF,if_neg (by omega)]
theorem kD {l:List Lot} (hl:l.length ≤ 1000000):FC Tryz.prog 291 [.c (.row 0 0 l.length)] ([ow 137 l]) (.tup []) ([ow 137 l.reverse]):=by
 refine al tk 28 [] Tryz.func291 (by kernel_rfl) rfl rfl rfl rfl rfl rfl rfl ?_
 have hmk:=ck l.length (rvF l 0)
 repeat' (first
| apply yds;rfl
| refine nv ?_
| apply yar;rfl;omega
| fail)
 refine wlp (X:=Int × Int) [0] [0] (fun x => [(2,I x.1),(3,I x.2)]) (fun x => [(0,ow 137 (mkl l.length (rvF l x.1)))]) (fun x => (0 ≤ x.1 ∧ x.1 ≤ l.length) ∧ x.2 = l.length - 1 - x.1) (fun x => (l.length - x.1).toNat) (0,l.length - 1) ⟨⟨by dsimp only;omega,by dsimp only;omega⟩,by dsimp only;omega⟩ rfl rfl (fun _ => rfl) (fun _ => rfl) (by dsimp only;rw [A3];exact ⟨rfl,rfl,rfl,rfl,rfl,rfl,rfl,rfl⟩) (fun x hx => ?_)
 obtain ⟨i,j⟩:=x
 obtain ⟨h0,hj⟩:=hx
 dsimp only at h0 hj ⊢
 have hml:=ck l.length (rvF l i)
 subst hj
 by_cases hij:i < l.length - 1 - i
 ·have hst:=A4 (l:=l) (i:=i) ⟨h0.1,by omega⟩
  repeat' (first
| intro h9;exfalso;contradiction
| apply yds;rfl
| apply yd;rfl
| apply zse;rfl;exact tk;(iterate 6 rfl);(rw [aF];omega);rfl;rfl;rfl;rfl;rfl
| intro _
| refine nv ?_
| apply wct rfl
| apply ag;rfl
| apply yar;rfl;omega
| apply yix;rfl;omega
| apply yle;rfl;omega
| apply zse;rfl;exact tk;(iterate 6 rfl);omega;rfl;rfl;rfl;rfl;rfl
| refine zdq (id:=3) rfl (by kernel_rfl) [(.p,0),(.p,1),(.p,2),(.p,3),(.p,4),(.p,5),(.p,6),(.p,8),(.p,9),(.p,10),(.t,7),(.t,11),(.p,12),(.l,13),(.p,14),(.l,15)] [13,15] (by kernel_rfl) rfl ?_
| fail)
  all_goals
   rw [show upd (upd (mkl l.length (rvF l i)) i ⟨(rd (mkl l.length (rvF l i)) (l.length - 1 - i)).Account,(rd (mkl l.length (rvF l i)) (l.length - 1 - i)).Instr,(rd (mkl l.length (rvF l i)) (l.length - 1 - i)).No,(rd (mkl l.length (rvF l i)) (l.length - 1 - i)).Qty,(rd (mkl l.length (rvF l i)) (l.length - 1 - i)).Cost⟩) (l.length - 1 - i) ⟨(rd (mkl l.length (rvF l i)) i).Account,(rd (mkl l.length (rvF l i)) i).Instr,(rd (mkl l.length (rvF l i)) i).No,(rd (mkl l.length (rvF l i)) i).Qty,(rd (mkl l.length (rvF l i)) i).Cost⟩ = mkl l.length (rvF l (i + 1)) from hst]
   exact aA (i + 1,l.length - 1 - i - 1) [0] ⟨rfl,rfl,rfl,rfl,rfl,rfl,rfl,rfl⟩ ⟨⟨by dsimp only;omega,by dsimp only;omega⟩,by dsimp only;omega⟩ (by first | omega | (dsimp only;omega))
 ·have hfi:=Bm (l:=l) h0.1 (by omega)
  repeat' (first
| intro h9;exfalso;contradiction
| apply yds;rfl
| intro _
| refine nv ?_
| apply wcf rfl
| apply ae rfl
| apply ag;rfl
| fail)
  all_goals
   rw [hfi]
   exact ai [0] rfl rfl rfl rfl rfl rfl
theorem iT {a c n q k u v:Int}:FC Tryz.prog 322 [.agg [.sc (.int .i64 a),.sc (.int .i64 c),.sc (.int .i64 n),.sc (.int .i64 q),.sc (.int .i64 k)],.c (.ptr 0 0 0),.c (.ptr 1 0 0)] ([vI u,vI v]) (B (dB (a = u ∧ c = v))) ([vI u,vI v]):=by
 refine al tk 9 [.tmp 4] Tryz.func322 (by kernel_rfl) rfl rfl rfl rfl rfl rfl rfl ?_
 repeat' (first
| apply yds;rfl
| apply yd;rfl
| intro _
| refine nv ?_
| apply ycp;rfl;exact nK;rfl
| fail)
 all_goals first | exact bp [0,1] rfl rfl rfl rfl rfl rfl (by assumption) | exact aQ [0,1] rfl rfl rfl rfl rfl rfl (by assumption)
theorem ic {l:List Lot} {u v:Int}:FC Tryz.prog 310 [.c (.row 0 0 l.length),.c (.fn 322 [(1,0,0),(2,0,0)])] ([ro 137 l,vI u,vI v]) (sel (∃ x ∈ l,x.Account = u ∧ x.Instr = v) (I (fIx l (fun x => x.Account = u ∧ x.Instr = v))) (I (-1))) (sel (∃ x ∈ l,x.Account = u ∧ x.Instr = v) [ro 137 l,vI u,vI v] [ro 137 l,vI u,vI v]):=by
 refine al tk 19 [.tmp 4] Tryz.func310 (by kernel_rfl) rfl rfl rfl rfl rfl rfl rfl ?_
 refine cj l 0 rfl (fun hl => ?_)
 repeat' (first
| apply yds;rfl
| apply yd;rfl
| refine nv ?_
| fail)
 refine wlp (X:=Int) [0,1,7] [0,1,2] (fun i => [(8,I i)]) (fun _ => []) (fun i => 0 ≤ i ∧ i ≤ l.length ∧ ∀ j:Int,0 ≤ j → j < i → ¬ (fun x => x.Account = u ∧ x.Instr = v) (rd l j)) (fun i => (l.length - i).toNat) 0 ⟨by omega,by omega,fun j h0 h1 => by omega⟩ rfl rfl (fun _ => rfl) (fun _ => rfl) ⟨rfl,rfl,rfl,rfl,rfl,rfl,rfl,rfl⟩ (fun i hi => ?_)
 obtain ⟨h0,hi,hall⟩:=hi
 skip
 repeat' (first
| apply yds;rfl
| apply yd;rfl
| apply ycp;rfl;exact iT;rfl
| intro _
| refine nv ?_
| apply wct rfl
| apply wcf rfl
| apply ae rfl
| apply ag;rfl
| apply yar;rfl;omega
| apply yix;rfl;omega
| apply yle;rfl;omega
| fail)
 all_goals first
  | (refine cy (X':=I i) (hs':=[ro 137 l,vI u,vI v]) [0,1,2] rfl rfl rfl rfl rfl rfl ?_ ?_
     ·rw [ap ⟨rd l i,ax ⟨by omega,by omega⟩,by assumption⟩,dZ ⟨by omega,by omega⟩ hall (by assumption)]
     ·rw [ap ⟨rd l i,ax ⟨by omega,by omega⟩,by assumption⟩])
  | exact bS (eS (by assumption) hall) [0,1,2] rfl rfl rfl rfl rfl rfl
  | exact aA (i + 1) [0,1,2] ⟨rfl,rfl,rfl,rfl,rfl,rfl,rfl,rfl⟩ ⟨by omega,by omega,ay hall (by assumption)⟩ (by first | omega | (dsimp only;omega))
theorem gT {l:List Lot} {u v:Int} (hl:l.length ≤ 1000000):FC Tryz.prog 307 [.c (.row 0 0 l.length),.c (.fn 322 [(1,0,0),(2,0,0)])] ([ow 137 l,vI u,vI v]) (.c (.row 0 0 (flt (fun x => ¬ (x.Account = u ∧ x.Instr = v)) l).length)) ([ow 137 (flt (fun x => ¬ (x.Account = u ∧ x.Instr = v)) l),vI u,vI v]):=by
 refine al tk 42 [.tmp 4] Tryz.func307 (by kernel_rfl) rfl rfl rfl rfl rfl rfl rfl ?_
 repeat' (first
| apply yds;rfl
| apply yd;rfl
| intro _
| refine nv ?_
| apply wct rfl
| apply wcf rfl
| apply ag;rfl
| apply yar;rfl;omega
| apply zcs;(iterate 10 rfl);exact ic;exact fun _ => rfl;exact fun _ => rfl;rfl;rfl;rfl;rfl
| fail)
 ·rename_i hex hm
  have:=bW l (fun x => x.Account = u ∧ x.Instr = v)
  exfalso;omega
 ·rename_i hex hm
  have hn:=gN hex
  have hn2:=bW l (fun x => x.Account = u ∧ x.Instr = v)
  repeat' (first
| apply yd;rfl
| refine nv ?_
| apply yar;rfl;omega
| fail)
  refine wlp (X:=Int × Int × List Lot) [0,1] [0,1,2] (fun x => [(5,I x.1),(6,I x.2.1)]) (fun x => [(0,ow 137 x.2.2)]) (fun x => DfI l (fun x => x.Account = u ∧ x.Instr = v) x.1 x.2.1 x.2.2) (fun x => (l.length - x.2.1).toNat) (fIx l (fun x => x.Account = u ∧ x.Instr = v),fIx l (fun x => x.Account = u ∧ x.Instr = v) + 1,l) (DfI.init hex) rfl rfl (fun _ => rfl) (fun _ => rfl) ⟨rfl,rfl,rfl,rfl,rfl,rfl,rfl,rfl⟩ (fun x hx => ?_)
  obtain ⟨i,j,xs⟩:=x
  dsimp only at hx ⊢
  obtain ⟨h0,h1,h2⟩:=hx.bnd
  have hlen:=hx.len
  repeat' (first
| apply yds;rfl
| apply yd;rfl
| apply ycp;rfl;exact iT;rfl
| intro _
| refine nv ?_
| apply wct rfl
| apply wcf rfl
| apply ae rfl
| apply ag;rfl
| apply yar;rfl;omega
| apply yix;rfl;omega
| apply yle;rfl;omega
| apply zse;rfl;exact tk;(iterate 6 rfl);omega;rfl;rfl;rfl;rfl;rfl
| apply fh;rfl;exact tk;(iterate 8 rfl);omega;rfl;rfl
| fail)
  ·rename_i h3 h4
   exact aA (i,j + 1,xs) [0,1,2] ⟨rfl,rfl,rfl,rfl,rfl,rfl,rfl,rfl⟩ (hx.skip (by omega) h4) (by first | omega | (dsimp only;omega))
  ·rename_i h3 h4
   exact aA (i + 1,j + 1,upd xs i (rd xs j)) [0,1,2] ⟨rfl,rfl,rfl,rfl,rfl,rfl,rfl,rfl⟩ (hx.keep (by omega) h4) (by first | omega | (dsimp only;omega))
  ·refine Ai rfl tk rfl rfl rfl rfl rfl rfl rfl (by omega) rfl rfl ?_
   repeat' (first
| apply yds;rfl
| apply yd;rfl
| refine nv ?_
| apply fh;rfl;exact tk;(iterate 8 rfl);omega;rfl;rfl
| fail)
   exact cy (X':=.c (.row 0 0 (i.toNat - Int.toNat 0))) (hs':=[ow 137 (xs.take i.toNat),vI u,vI v]) [0,1,2] rfl rfl rfl rfl rfl rfl (by rw [← hx.len2 (by assumption)];rfl) (by rw [hx.fin (by assumption)])
 ·rename_i hex hm
  exact cy (X':=.c (.row 0 0 l.length)) (hs':=[ow 137 l,vI u,vI v]) [0,1,2] rfl rfl rfl rfl rfl rfl (by rw [iA (fun x hx k => hex ⟨x,hx,k⟩)]) (by rw [iA (fun x hx k => hex ⟨x,hx,k⟩)])
 ·exfalso;omega
structure WL (l own:List Lot) (a c:Int) (own':List Lot):Prop where
 pw:l.Pairwise lb2
 pw2:own'.Pairwise lb2
 perm:own.Perm own'
 of_:∀ x ∈ own',x.Account = a ∧ x.Instr = c
theorem WL.sort {l own own':List Lot} {a c:Int} (h:WL l own a c own'):∀ d:List Lot,d.Perm (bh l a c ++ own) → d.Pairwise (fun x y => ¬ lb2 y x) → d = mrg (bh l a c) own':=fun d h1 h2 => yI h1 h.perm h2 (tZ h.pw) h.pw2 (wA h.of_)
theorem dF {l own own':List Lot} {a c:Int} (hw:WL l own a c own') (hl:l.length ≤ 1000000) (hl2:own.length ≤ 1000000):FC Tryz.prog 293 [.c (.row 0 0 l.length),I a,I c,.c (.row 1 0 own.length)] ([ro 137 l,ro 137 own]) (.c (.row 2 0 (mrg (bh l a c) own').length)) ([ro 137 l,ro 137 own,ow 137 (mrg (bh l a c) own')]):=by
 refine al tk 20 [.tmp 8] Tryz.func293 (by kernel_rfl) rfl rfl rfl rfl rfl rfl rfl ?_
 have hfl:=cO (fun x:Lot => ¬ (x.Account = a ∧ x.Instr = c)) l
 have hso:=hw.sort
 have hml:(mrg (bh l a c) own').length = (bh l a c ++ own).length:=by rw [rf,List.length_append,hw.perm.length_eq]
 repeat' (first
| apply yds;rfl
| apply yd;rfl
| refine nv ?_
| apply yap;rfl;(((try simp only [lE,lM]);(try dsimp only);omega))
| apply ycf;rfl;exact bj (by omega);rfl
| apply ycw  [true];rfl;(first | exact gT (by omega) | exact jU (by (simp only [List.length_append];omega)) (by assumption));rfl
| fail)
 all_goals exact cy (X':=.c (.row 2 0 (bh l a c ++ own).length)) (hs':=[ro 137 l,ro 137 own,ow 137 (mrg (bh l a c) own')]) [0,1,5] rfl rfl rfl rfl rfl rfl (by rw [hml]) rfl
end
section
open Go.RowKit
noncomputable def cz (l:List Lot) (a c q way:Int):List Lot × Int × Int :=
 sel (¬ (LotsOk l ∧ inP q 1 1000000000000000 ∧ inP way 1 3)) ([],0,1) (sel (sQ (aa l a c) < q) (l,0,2) (mrg (bh l a c) (tkL (aa l a c) q way),tkC (aa l a c) q way,0))
section
variable {l:List Lot} {a c q way:Int}
theorem B6 (h:¬ (LotsOk l ∧ inP q 1 1000000000000000 ∧ inP way 1 3)):cz l a c q way = ([],0,1):=by rw [cz,ap h]
theorem B7 (h:LotsOk l ∧ inP q 1 1000000000000000 ∧ inP way 1 3) (h2:sQ (aa l a c) < q):cz l a c q way = (l,0,2):=by rw [cz,a8 (fun k => k h),ap h2]
theorem B5 (h:LotsOk l ∧ inP q 1 1000000000000000 ∧ inP way 1 3) (h2:¬ sQ (aa l a c) < q):cz l a c q way = (mrg (bh l a c) (tkL (aa l a c) q way),tkC (aa l a c) q way,0):=by rw [cz,a8 (fun k => k h),a8 h2]
theorem tkL_1 {own:List Lot} {q:Int}:tkL own q 1 = (tkq own q).1 ∧ tkC own q 1 = (tkq own q).2:=⟨by rw [tkL,a8 (by decide),a8 (by decide)],by rw [tkC,aB (by decide),aB (by decide)]⟩
theorem tkL_2 {own:List Lot} {q:Int}:tkL own q 2 = (tkq own.reverse q).1.reverse ∧ tkC own q 2 = (tkq own.reverse q).2:=⟨by rw [tkL,a8 (by decide),ap rfl],by rw [tkC,aB (by decide),aD rfl]⟩
theorem LotsOk.wl (h:LotsOk l) {own:List Lot} (hn:0 < ((aa l a c).length:Int)) (hp:own.Perm (tkL (aa l a c) q way)):WL l own a c (tkL (aa l a c) q way):=⟨h.pw,BA (pW h.pw),hp,Bz (fun x hx => (lotsOf_mem.1 hx).2) hn⟩
end
theorem qJ {l:List Lot} {a c q way:Int}:FC Tryz.prog 225 [.c (.row 0 0 l.length),I a,I c,I q,I way] ([ro 137 l]) (.tup [.c (.row 1 0 (cz l a c q way).1.length),I (cz l a c q way).2.1,I (cz l a c q way).2.2]) ([ro 137 l,ow 137 (cz l a c q way).1]):=by
 refine al tk 78 [.tmp 10,.tmp 11,.tmp 12] Tryz.func225 (by kernel_rfl) rfl rfl rfl rfl rfl rfl rfl ?_
 by_cases hok:LotsOk l ∧ inP q 1 1000000000000000 ∧ inP way 1 3
 rotate_left
 ·
  rw [B6 hok]
  repeat' (first
| intro h9;exact absurd ⟨by assumption,by assumption,by assumption⟩ hok
| apply d5 (d:=10) 137 5;rfl;rfl;rfl
| apply yd;rfl
| intro _
| refine nv ?_
| apply wct rfl
| apply ycp;rfl;(first | exact bD | exact aJ);rfl
| fail)
  all_goals exact ai [0,2] rfl rfl rfl rfl rfl rfl
 obtain ⟨h1,h2,h3⟩:=id hok
 have hll:=h1.1.2
 have hlq:=h1.q
 have h2':=h2
 have h3':=h3
 unfold inP at h2' h3'
 by_cases hsh:sQ (aa l a c) < q
 ·
  rw [B7 hok hsh]
  repeat' (first
| intro h9;exfalso;contradiction
| apply yds;rfl
| apply yd;rfl
| intro _
| refine nv ?_
| apply wct rfl
| apply wcf rfl
| apply ag;rfl
| apply ycp;rfl;(first | exact bD | exact aJ);rfl
| apply ycf;rfl;(first | exact cJ (by omega) | exact bj (by omega));rfl
| apply yc;rfl;exact cU (by exact LQ.of (by assumption));rfl;exact fun _ => rfl
| fail)
  all_goals exact ai [0,2] rfl rfl rfl rfl rfl rfl
 rw [B5 hok hsh]
 have hown:=h1.own a c
 have hln:=ry (l:=aa l a c) (by omega)
 have hlo:(aa l a c).length ≤ l.length:=cO _ _
 have hg:LG (aa l a c):=h1.LG.flt _
 have hlq2:LQ (aa l a c):=LQ.of hlq
 by_cases w3:way = 3
 ·subst w3
  have hw:=h1.wl (a:=a) (c:=c) (q:=q) (way:=3) hln (.refl _)
  have hwl:=vv (q:=q) (way:=3) hln
  repeat' (first
| intro h9;exfalso;contradiction
| apply yds;rfl
| apply yd;rfl
| intro _
| refine nv ?_
| apply wct rfl
| apply wcf rfl
| apply ag;rfl
| apply ycp;rfl;(first | exact bD | exact aJ);rfl
| apply ycf;rfl;(first | exact cJ (by omega) | exact oU (by assumption) (by omega) (by omega) (by assumption) (by omega) | exact dF (by assumption) (by omega) (by omega));rfl
| apply yc;rfl;exact cU (by assumption);rfl;exact fun _ => rfl
| fail)
  all_goals exact ai [0,3] rfl rfl rfl rfl rfl rfl
 by_cases w2:way = 2
 ·subst w2
  have hg2:=hg.rev
  have hlr:(aa l a c).reverse.length = (aa l a c).length:=List.length_reverse
  have hcr:=ui (aa l a c)
  have hw:=h1.wl (a:=a) (c:=c) (q:=q) (way:=2) (own:=(tkq (aa l a c).reverse q).1) hln (by rw [tkL_2.1];exact (List.reverse_perm _).symm)
  have hwl:=oI (aa l a c).reverse q
  rw [tkL_2.2]
  repeat' (first
| intro h9;exfalso;contradiction
| apply yds;rfl
| apply yd;rfl
| intro _
| refine nv ?_
| apply wct rfl
| apply wcf rfl
| apply ag;rfl
| apply ycp;rfl;(first | exact bD | exact aJ);rfl
| apply ycf;rfl;(exact cJ (by omega));rfl
| apply yc;rfl;exact cU (by assumption);rfl;exact fun _ => rfl
| apply ycw  [true];rfl;exact kD (by omega);rfl
| fail)
  rw [← hlr]
  repeat' (first
| apply yds;rfl
| refine nv ?_
| apply ycf;rfl;(first | exact kd (by assumption) (by omega) (by omega) (by omega) | exact dF (by assumption) (by omega) (by omega));rfl
| fail)
  all_goals exact ai [0,3] rfl rfl rfl rfl rfl rfl
 ·have w1:way = 1:=by omega
  subst w1
  have hw:=h1.wl (a:=a) (c:=c) (q:=q) (way:=1) (own:=(tkq (aa l a c) q).1) hln (by rw [tkL_1.1])
  have hwl:=oI (aa l a c) q
  rw [tkL_1.2]
  repeat' (first
| intro h9;exfalso;contradiction
| apply yds;rfl
| apply yd;rfl
| intro _
| refine nv ?_
| apply wct rfl
| apply wcf rfl
| apply ag;rfl
| apply ycp;rfl;(first | exact bD | exact aJ);rfl
| apply ycf;rfl;(first | exact cJ (by omega) | exact kd (by assumption) (by omega) (by omega) (by omega) | exact dF (by assumption) (by omega) (by omega));rfl
| apply yc;rfl;exact cU (by assumption);rfl;exact fun _ => rfl
| fail)
  all_goals exact ai [0,3] rfl rfl rfl rfl rfl rfl
end
section
open Go.RowKit
theorem eG {a b:Int}:FC Tryz.prog 314 [I a,I b] ([]) (I (pick (a < b) a b)) ([]):=by
 refine al tk 10 [.tmp 4] Tryz.func314 (by kernel_rfl) rfl rfl rfl rfl rfl rfl rfl ?_
 repeat' (first
| apply yds;rfl
| apply yd;rfl
| intro _
| refine nv ?_
| apply wct rfl
| apply wcf rfl
| apply ag;rfl
| fail)
 all_goals first | exact bO [] rfl rfl rfl rfl rfl rfl (aD (by assumption)) | exact bO [] rfl rfl rfl rfl rfl rfl (aB (by assumption))
theorem C9 {a b:List Lot} {i k:Int} (hi:0 ≤ i ∧ i < a.length) (hk:¬ k < b.length ∨ (0 ≤ k ∧ lb2 (rd a i) (rd b k))):mrg (a.drop i.toNat) (b.drop k.toNat) = rd a i :: mrg (a.drop (i + 1).toNat) (b.drop k.toNat):=by
 rw [dz hi]
 by_cases h:k < b.length
 ·obtain ⟨h0,h1⟩:=hk.resolve_left (fun q => q h)
  rw [dz ⟨h0,h⟩,uW h1]
 ·rw [jc h,jo,jo]
theorem Ca {a b:List Lot} {i k:Int} (hk:0 ≤ k ∧ k < b.length) (hi:¬ i < a.length ∨ (0 ≤ i ∧ ¬ lb2 (rd a i) (rd b k))):mrg (a.drop i.toNat) (b.drop k.toNat) = rd b k :: mrg (a.drop i.toNat) (b.drop (k + 1).toNat):=by
 rw [dz hk]
 by_cases h:i < a.length
 ·obtain ⟨h0,h1⟩:=hi.resolve_left (fun q => q h)
  rw [dz ⟨h0,h⟩,uX h1]
 ·rw [jc h,jL,jL]
theorem da {a b:List Lot} (ha:a.length ≤ 1000000) (hb:b.length ≤ 1000000):FC Tryz.prog 248 [.c (.row 0 0 a.length),.c (.row 1 0 b.length)] ([ro 137 a,ro 137 b]) (.c (.row 2 0 (mrg a b).length)) ([ro 137 a,ro 137 b,ow 137 (mrg a b)]):=by
 refine al tk 59 [.tmp 4] Tryz.func248 (by kernel_rfl) rfl rfl rfl rfl rfl rfl rfl ?_
 repeat' (first
| apply yds;rfl
| apply yd;rfl
| refine nv ?_
| apply aG (α:=Lot) (e:=137);rfl
| fail)
 refine wlp (X:=Int × Int × List Lot) [0,1] [0,1,2] (fun x => [(6,I x.1),(7,I x.2.1),(5,.c (.row 2 0 x.2.2.length))]) (fun x => [(2,ow 137 x.2.2)]) (fun x => (0 ≤ x.1 ∧ x.1 ≤ a.length) ∧ (0 ≤ x.2.1 ∧ x.2.1 ≤ b.length) ∧ x.2.2 ++ mrg (a.drop x.1.toNat) (b.drop x.2.1.toNat) = mrg a b ∧ (x.2.2.length:Int) = x.1 + x.2.1) (fun x => (a.length + b.length - x.1 - x.2.1).toNat) (0,0,[]) ⟨⟨by dsimp only;omega,by dsimp only;omega⟩,⟨by dsimp only;omega,by dsimp only;omega⟩,rfl,rfl⟩ rfl rfl (fun _ => rfl) (fun _ => rfl) ⟨rfl,rfl,rfl,rfl,rfl,rfl,rfl,rfl⟩ (fun x hx => ?_)
 obtain ⟨i,k,out⟩:=x
 obtain ⟨h0,k0,ho,hl⟩:=hx
 dsimp only at h0 k0 ho hl ⊢
 have hA:=fun h1 h2 => C9 (a:=a) (b:=b) (i:=i) (k:=k) ⟨h0.1,h1⟩ h2
 have hB:=fun h1 h2 => Ca (a:=a) (b:=b) (i:=i) (k:=k) ⟨k0.1,h1⟩ h2
 repeat' (first
| intro h9;exfalso;first | contradiction | omega
| apply yds;rfl
| apply yd;rfl
| intro _
| refine nv ?_
| apply wct rfl
| apply wcf rfl
| apply ae rfl
| apply ag;rfl
| apply yar;rfl;omega
| apply yix;rfl;omega
| apply yle;rfl;omega
| apply aG (α:=Lot) (e:=137);rfl
| apply yap;rfl;(((try simp only [lE,lM]);(try dsimp only);omega))
| refine zdq (id:=4) rfl (by kernel_rfl) [(.p,0),(.p,1),(.p,2),(.p,3),(.p,4),(.p,5),(.p,6),(.p,7),(.p,8),(.p,9),(.p,10),(.p,11),(.p,12),(.p,14),(.p,15),(.p,16),(.t,13),(.t,17),(.o,18),(.p,19),(.p,20)] [] (by kernel_rfl) rfl ?_
| apply ycp;rfl;exact kj;rfl
| fail)
 all_goals first
  | exact aA (i + 1,k,out ++ [rd a i]) [0,1,4] ⟨rfl,rfl,rfl,rfl,rfl,rfl,rfl,rfl⟩ ⟨⟨by dsimp only;omega,by dsimp only;omega⟩,⟨by dsimp only;omega,by dsimp only;omega⟩,by dsimp only;rw [List.append_assoc,← ho,hA (by omega) (by first | exact .inl (by omega) | exact .inr ⟨k0.1,by assumption⟩)];rfl,by dsimp only;rw [List.length_append];simp only [List.length_cons,List.length_nil];omega⟩ (by first | omega | (dsimp only;omega))
  | exact aA (i,k + 1,out ++ [rd b k]) [0,1,4] ⟨rfl,rfl,rfl,rfl,rfl,rfl,rfl,rfl⟩ ⟨⟨by dsimp only;omega,by dsimp only;omega⟩,⟨by dsimp only;omega,by dsimp only;omega⟩,by dsimp only;rw [List.append_assoc,← ho,hB (by omega) (by first | exact .inl (by omega) | exact .inr ⟨h0.1,by assumption⟩)];rfl,by dsimp only;rw [List.length_append];simp only [List.length_cons,List.length_nil];omega⟩ (by first | omega | (dsimp only;omega))
  | (rw [show mrg a b = out from by rw [← ho,jc (by omega),jc (by omega),jL,List.append_nil]]
     exact ai [0,1,2] rfl rfl rfl rfl rfl rfl)
  | trace_state
theorem tg {own:List Lot} {q0:Int} (hg:LG own) (hq:1 ≤ q0 ∧ q0 ≤ sQ own) (hs:sC own ≤ 1000000000000000 ∧ sQ own ≤ 1000000000000000) (hlq:LQ own) (hl:0 < (own.length:Int)):FC Tryz.prog 313 [.c (.row 0 0 own.length),I q0] ([ro 137 own]) (.tup [.c (.row 1 0 (tkL own q0 3).length),I (tkC own q0 3)]) ([ro 137 own,ow 137 (tkL own q0 3)]):=by
 refine al tk 43 [.tmp 4,.tmp 5] Tryz.func313 (by kernel_rfl) rfl rfl rfl rfl rfl rfl rfl ?_
 have hc0:=hg.sC_nn
 have hmd:=fw (c:=sC own) (p:=q0) (n:=sQ own) ⟨hc0,hs.1⟩ ⟨by omega,hq.2⟩ ⟨by omega,hs.2⟩
 have hpl:=dh (k:=sC own) (q:=q0) (n:=sQ own) hc0 (by omega) hq.2 (by omega)
 rw [show tkC own q0 3 = sC own * q0 / sQ own from aD rfl,show tkL own q0 3 = sel (sQ own = q0) [] [reL (rd own 0) (sQ own - q0) (sC own - sC own * q0 / sQ own)] from ap rfl]
 by_cases hq2:sQ own = q0
 ·rw [ap hq2]
  repeat' (first
| intro h9;exfalso;contradiction
| apply yds;rfl
| apply yd;rfl
| intro _
| refine nv ?_
| apply wct rfl
| apply yeq;rfl
| apply aG (α:=Lot) (e:=137);rfl
| apply yc;rfl;(first | exact dQ (by assumption) | exact ms (by assumption) | exact bF (by assumption));rfl;exact fun _ => rfl
| fail)
  all_goals exact ai [0,1] rfl rfl rfl rfl rfl rfl
 ·rw [a8 hq2]
  repeat' (first
| intro h9;exfalso;contradiction
| apply yds;rfl
| apply yd;rfl
| intro _
| refine nv ?_
| apply wcf rfl
| apply yeq;rfl
| apply yar;rfl;omega
| apply yix;rfl;omega
| apply yle;rfl;omega
| apply aG (α:=Lot) (e:=137);rfl
| apply yc;rfl;(first | exact dQ (by assumption) | exact ms (by assumption) | exact bF (by assumption));rfl;exact fun _ => rfl
| fail)
  all_goals exact ai [0,2] rfl rfl rfl rfl rfl rfl
end
end Go.Proofs.YtgehbhkfehmdkaaGreat.Sh
