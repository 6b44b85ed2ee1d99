/- What is taken of lots: LotTake of the specification. No condition. -/
import Derived.Test.YtgehbhkfehmdkaaGreatKUShV
import Derived.Test.YtgehbhkfehmdkaaGreatKUShTk
import Derived.Test.YtgehbhkfehmdkaaGreatKUShDr
import Derived.Test.YtgehbhkfehmdkaaGreatKUShPo
set_option maxRecDepth 100000
set_option maxHeartbeats 40000000
set_option linter.unusedSimpArgs false
set_option linter.unusedVariables false
namespace Go.Proofs.YtgehbhkfehmdkaaGreat.Sh
section
open Go.RowKit
theorem rK {o u:List Lot} {i:Int} {x:Lot} (hu:u = upd o i x) (h:0 ≤ i ∧ i < o.length):[] ++ sub u 0 i ++ sub u (i + 1) u.length = o.take i.toNat ++ o.drop (i.toNat + 1):=by
 subst hu
 unfold sub upd
 rw [List.nil_append,show (i + 1).toNat = i.toNat + 1 from by omega,Int.toNat_natCast,List.take_length]
 rw [List.take_set_of_le (Nat.le_refl _),List.drop_set_of_lt (Nat.lt_succ_self _)]
 simp
theorem x5 {o:List Lot} {x:Lot} (h:0 < (o.length:Int)):upd o 0 x = x :: o.drop 1:=by
 cases o with
 | nil => simp at h
 | cons y r => rfl
theorem tD {o:List Lot} {i:Int} (hi:i = o.length - 1) (h:0 < (o.length:Int)):o.reverse = rd o i :: (o.take i.toNat).reverse:=by
 have h1:i.toNat < o.length:=by omega
 have e:o = o.take i.toNat ++ [rd o i]:=by
  have h2:=dJ (l:=o) (i:=i) ⟨by omega,by omega⟩
  rw [show (i + 1).toNat = o.length from by omega,List.drop_length] at h2
  rw [← h2,List.take_append_drop]
 conv => lhs;rw [e]
 rw [List.reverse_append]
 rfl
theorem za {o:List Lot} {i:Int} {x:Lot} (hi:i = o.length - 1) (h:0 < (o.length:Int)):(upd o i x).reverse = x :: (o.take i.toNat).reverse:=by
 have h2:=tD (o:=upd o i x) (i:=i) (by rw [aG];exact hi) (by rw [aG];exact h)
 rw [h2,bM ⟨by omega,by omega⟩]
 unfold upd
 rw [List.take_set_of_le (Nat.le_refl _)]
theorem tw {o:List Lot} {i:Int} (hi:i = o.length - 1) (h:0 < (o.length:Int)):(o.take i.toNat ++ o.drop (i.toNat + 1)).reverse = (o.take i.toNat).reverse:=by
 rw [List.drop_eq_nil_of_le (by omega),List.append_nil]
structure TkI (own:List Lot) (q0 q c:Int) (o:List Lot):Prop where
 qb:0 ≤ q ∧ q ≤ 1000000000000000
 cb:0 ≤ c
 lg:LG o
 left:(tkq o q).1 = (tkq own q0).1
 cost:c + (tkq o q).2 = (tkq own q0).2
 en:q ≤ sQ o
 len:o.length ≤ 120
section
variable {own r:List Lot} {x:Lot} {q0 q c:Int}
theorem TkI.init (hg:LG own) (hq:0 ≤ q0 ∧ q0 ≤ 1000000000000000) (he:q0 ≤ sQ own) (hl:own.length ≤ 120):TkI own q0 q0 0 own:=⟨hq,Int.le_refl 0,hg,rfl,Int.zero_add _,he,hl⟩
theorem TkI.all (h:TkI own q0 q c (x :: r)) (h0:0 < q) (h1:x.Qty ≤ q):TkI own q0 (q - x.Qty) (c + x.Cost * x.Qty / x.Qty) r:=by
 have hc:=h.lg.cons
 have ht:=uU (r:=r) h0 h1
 have hl:=h.left
 have hk:=h.cost
 have he:=h.en
 rw [ht] at hl hk
 rw [kX] at he
 rw [pu hc.1.1.1]
 exact ⟨⟨by omega,by have:=h.qb;omega⟩,by have:=h.cb;omega,hc.2,hl,by dsimp only at hk;omega,by omega,by have:=h.len;simp only [List.length_cons] at this;omega⟩
theorem TkI.part (h:TkI own q0 q c (x :: r)) (h0:0 < q) (h1:¬ x.Qty ≤ q):TkI own q0 (q - q) (c + x.Cost * q / x.Qty) (reL x (x.Qty - q) (x.Cost - x.Cost * q / x.Qty) :: r):=by
 have hc:=h.lg.cons
 have ht:=uV (r:=r) h0 h1
 have hl:=h.left
 have hk:=h.cost
 have hp:=dq (k:=x.Cost) (q:=q) (n:=x.Qty) hc.1.2.1 (by omega) (by omega) hc.1.1.1
 rw [ht] at hl hk
 have hg:LG (reL x (x.Qty - q) (x.Cost - x.Cost * q / x.Qty) :: r):=fun y hy => by
  rcases List.mem_cons.1 hy with rfl | hy
  ·dsimp only [reL];omega
  ·exact hc.2 y hy
 rw [Int.sub_self]
 exact ⟨by omega,by have:=h.cb;omega,hg,by rw [pK (Int.le_refl 0)];exact hl,by rw [pK (Int.le_refl 0)];dsimp only at hk ⊢;omega,hg.sQ_nn,by have:=h.len;simp only [List.length_cons] at *;omega⟩
theorem TkI.done (h:TkI own q0 q c r) (h0:¬ 0 < q):(tkq own q0).1 = r ∧ (tkq own q0).2 = c:=by
 have hl:=h.left
 have hk:=h.cost
 rw [pK (by omega)] at hl hk
 exact ⟨hl.symm,by dsimp only at hk;omega⟩
end
theorem fi {l:List Lot} {a c q way:Int}:FC Tryz.prog 275 [.c (.row 0 0 l.length),I a,I c,I q,I way] ([ro 137 l]) (.tup [.c (.row 1 0 (cC l a c q way).1.length),I (cC l a c q way).2.1,I (cC l a c q way).2.2]) ([ro 137 l,ow 137 (cC l a c q way).1]):=by
 refine ax tk 131 [.tmp 10,.tmp 11,.tmp 12] Tryz.func275 (by kernel_rfl) rfl rfl rfl rfl rfl rfl rfl ?_
 by_cases hok:LotsOk l ∧ inP q 1 1000000000000000 ∧ inP way 1 3
 rotate_left
 ·
  rw [zX hok]
  repeat' (first
| apply yds;rfl
| apply yd;rfl
| intro h9;exact absurd ⟨by assumption,by assumption,by assumption⟩ hok
| intro _
| refine nv ?_
| apply wct rfl
| apply aH (α:=Lot) (e:=137);rfl
| apply ycp;rfl;(first | exact bB | exact aJ | exact aO);rfl
| fail)
  all_goals exact ak [0,1] rfl rfl rfl rfl rfl rfl
 obtain ⟨h1,h2,h3⟩:=id hok
 have hll:=h1.1.2
 have hlq:=h1.q
 have h2':=h2
 have h3':=h3
 unfold inP at h2' h3'
 have hlo:(ae l a c).length ≤ l.length:=cV _ _
 have hln':(aY l a c).length ≤ l.length:=cV _ _
 have hlq2:LQ (ae l a c):=LQ.of hlq
 by_cases hsh:sQ (ae l a c) < q
 ·
  rw [zY hok hsh]
  repeat' (first
| intro h9;exfalso;contradiction
| apply yds;rfl
| apply yd;rfl
| intro _
| refine nv ?_
| apply wct rfl
| apply wcf rfl
| apply ai;rfl
| apply aH (α:=Lot) (e:=137);rfl
| apply yap;rfl;(((try simp only [lE,lM]);(try dsimp only);omega))
| apply ycp;rfl;(first | exact bB | exact aJ | exact aO);rfl
| apply ycf;rfl;(exact bW (by omega));rfl
| apply yc;rfl;(exact eu (by assumption));rfl;exact fun _ => rfl
| fail)
  all_goals exact ak [0,4] rfl rfl rfl rfl rfl rfl
 rw [zW hok hsh]
 have hown:=h1.own a c
 have hln:=rM (l:=ae l a c) (by omega)
 have hg:LG (ae l a c):=h1.LG.flt _
 have htl:=wg (q:=q) (way:=way) hln
 by_cases w3:way = 3
 ·subst w3
  repeat' (first
| intro h9;exfalso;contradiction
| apply yds;rfl
| apply yd;rfl
| intro _
| refine nv ?_
| apply wct rfl
| apply wcf rfl
| apply ai;rfl
| apply ycp;rfl;(first | exact bB | exact aJ | exact aO);rfl
| apply ycf;rfl;(first | exact bW (by omega) | exact tQ (by assumption) (by omega) (by omega) (by assumption) (by omega) | exact dg (by omega) (by omega));rfl
| apply yc;rfl;(exact eu (by assumption));rfl;exact fun _ => rfl
| fail)
  all_goals exact ak [0,4] rfl rfl rfl rfl rfl rfl
 by_cases w2:way = 2
 ·subst w2
  rw [tkL_2.1,tkL_2.2]
  repeat' (first
| intro h9;exfalso;contradiction
| apply yds;rfl
| apply yd;rfl
| intro _
| refine nv ?_
| apply wcf rfl
| apply ai;rfl
| apply ycp;rfl;(first | exact bB | exact aJ | exact aO);rfl
| apply ycf;rfl;(exact bW (by omega));rfl
| apply yc;rfl;(exact eu (by assumption));rfl;exact fun _ => rfl
| fail)
  refine wlp (X:=Int × Int × List Lot) [4,14] [0,1,2] (fun x => [(3,I x.1),(17,I x.2.1),(13,.c (.row 1 0 x.2.2.length))]) (fun x => [(1,ow 137 x.2.2)]) (fun x => TkI (ae l a c).reverse q x.1 x.2.1 x.2.2.reverse) (fun x => x.1.toNat) (q,0,ae l a c) (TkI.init hg.rev (by omega) (by rw [rN];omega) (by rw [List.length_reverse];omega)) rfl rfl (fun _ => rfl) (fun _ => rfl) ⟨rfl,rfl,rfl,rfl,rfl,rfl,rfl,rfl⟩ (fun x hx => ?_)
  obtain ⟨z,k,o⟩:=x
  dsimp only at hx ⊢
  have hz:=hx.qb
  have hol:=hx.len
  rw [List.length_reverse] at hol
  by_cases hz0:0 < z
  rotate_left
  ·
   obtain ⟨d1,d2⟩:=hx.done hz0
   rw [d1,d2,List.reverse_reverse]
   repeat' (first
| intro h9;exfalso;contradiction
| apply yds;rfl
| apply yd;rfl
| intro _
| refine nv ?_
| apply wcf rfl
| apply ah rfl
| apply ai;rfl
| apply ycf;rfl;(exact dg (by omega) (by omega));rfl
| fail)
   all_goals exact ak [0,3] rfl rfl rfl rfl rfl rfl
  have hop:0 < (o.length:Int):=by have:=rM (l:=o.reverse) (by have:=hx.en;omega);rw [List.length_reverse] at this;omega
  obtain ⟨i,hi⟩:∃ i:Int,i = o.length - 1:=⟨_,rfl⟩
  have hwi:IntKind.i64.wrap ((o.length:Int) - 1) = i:=by rw [← hi];exact wI (by omega)
  have hmem:rd o i ∈ o.reverse:=List.mem_reverse.2 (aA ⟨by omega,by omega⟩)
  have hg0:=hx.lg _ hmem
  have htc:=fR (q:=z) hx.lg
  have htc0:=fR (q:=q) hg.rev
  rw [pB] at htc0
  have hkc:=hx.cost
  have hcb:=hx.cb
  have hd0:o.reverse = rd o i :: (o.take i.toNat).reverse:=tD hi hop
  rw [hd0] at hx
  by_cases hz1:(rd o i).Qty < z
  ·
   have hmd:=gN (c:=(rd o i).Cost) (p:=(rd o i).Qty) (n:=(rd o i).Qty) hg0.2 ⟨by omega,by omega⟩ hg0.1
   have hpl:=dq (k:=(rd o i).Cost) (q:=(rd o i).Qty) (n:=(rd o i).Qty) hg0.2.1 (by omega) (by omega) hg0.1.1
   have hU:upd (upd o i ⟨(rd o i).Account,(rd o i).Instr,(rd o i).No,(rd o i).Qty - (rd o i).Qty,(rd o i).Cost⟩) i ⟨(rd (upd o i ⟨(rd o i).Account,(rd o i).Instr,(rd o i).No,(rd o i).Qty - (rd o i).Qty,(rd o i).Cost⟩) i).Account,(rd (upd o i ⟨(rd o i).Account,(rd o i).Instr,(rd o i).No,(rd o i).Qty - (rd o i).Qty,(rd o i).Cost⟩) i).Instr,(rd (upd o i ⟨(rd o i).Account,(rd o i).Instr,(rd o i).No,(rd o i).Qty - (rd o i).Qty,(rd o i).Cost⟩) i).No,(rd (upd o i ⟨(rd o i).Account,(rd o i).Instr,(rd o i).No,(rd o i).Qty - (rd o i).Qty,(rd o i).Cost⟩) i).Qty,(rd o i).Cost - (rd o i).Cost * (rd o i).Qty / (rd o i).Qty⟩ = upd o i (reL (rd o i) ((rd o i).Qty - (rd o i).Qty) ((rd o i).Cost - (rd o i).Cost * (rd o i).Qty / (rd o i).Qty)):=by
    rw [bM ⟨by omega,by omega⟩]
    unfold upd
    rw [List.set_set]
    rfl
   have hUq:(rd (upd (upd o i ⟨(rd o i).Account,(rd o i).Instr,(rd o i).No,(rd o i).Qty - (rd o i).Qty,(rd o i).Cost⟩) i ⟨(rd (upd o i ⟨(rd o i).Account,(rd o i).Instr,(rd o i).No,(rd o i).Qty - (rd o i).Qty,(rd o i).Cost⟩) i).Account,(rd (upd o i ⟨(rd o i).Account,(rd o i).Instr,(rd o i).No,(rd o i).Qty - (rd o i).Qty,(rd o i).Cost⟩) i).Instr,(rd (upd o i ⟨(rd o i).Account,(rd o i).Instr,(rd o i).No,(rd o i).Qty - (rd o i).Qty,(rd o i).Cost⟩) i).No,(rd (upd o i ⟨(rd o i).Account,(rd o i).Instr,(rd o i).No,(rd o i).Qty - (rd o i).Qty,(rd o i).Cost⟩) i).Qty,(rd o i).Cost - (rd o i).Cost * (rd o i).Qty / (rd o i).Qty⟩) i).Qty = (rd o i).Qty - (rd o i).Qty:=by
    rw [hU,bM ⟨by omega,by omega⟩]
    rfl
   repeat' (first
| intro h9;exfalso;first | contradiction | omega
| apply yds;rfl
| apply yd;rfl
| apply znw;rfl;rfl;rfl;rfl;trivial;assumption;rfl;rfl
| apply yix;rfl;omega
| apply yle;rfl;(first | omega | (simp only [aG];omega))
| apply zse;rfl;exact tk;(iterate 6 rfl);(first | omega | (simp only [aG];omega));rfl;rfl;rfl;rfl;rfl
| intro _
| refine nv ?_
| apply wct rfl
| apply ai;rfl
| apply yar;rfl;omega
| refine zdq (id:=22) rfl (by kernel_rfl) [(.p,1),(.p,2),(.p,3),(.p,5),(.p,6),(.p,7),(.p,8),(.o,0),(.l,4),(.l,9),(.p,10)] [4,9] (by kernel_rfl) rfl ?_
| apply yc;rfl;(exact bC (by assumption));rfl;exact fun _ => rfl
| apply ycq;rfl;exact et;rfl
| fail)
   obtain ⟨u,hu⟩:∃ u,u = upd o i (reL (rd o i) ((rd o i).Qty - (rd o i).Qty) ((rd o i).Cost - (rd o i).Cost * (rd o i).Qty / (rd o i).Qty)):=⟨_,rfl⟩
   have hul:o.length = u.length:=by rw [hu,aG]
   have hs1:=fp (l:=u) (a:=0) (b:=i) ⟨by omega,by omega,by omega⟩
   have hs2:=fp (l:=u) (a:=i + 1) (b:=u.length) ⟨by omega,by omega,by omega⟩
   have hrem:=rK hu ⟨by omega,by omega⟩
   rw [hU,← hu,hul]
   repeat' (first
| apply yds;rfl
| apply yd;rfl
| refine nv ?_
| apply yar;rfl;omega
| apply ysl;rfl;omega
| apply aH (α:=Lot) (e:=137);rfl
| apply yap;rfl;(((try simp only [lE,lM]);(try dsimp only);omega))
| fail)
   all_goals first
    | exact aB (z - (rd o i).Qty,k + (rd o i).Cost * (rd o i).Qty / (rd o i).Qty,[] ++ sub u 0 i ++ sub u (i + 1) u.length) [0,8,2] ⟨rfl,rfl,rfl,rfl,rfl,rfl,rfl,rfl⟩ (by dsimp only;rw [hrem];exact (by rw [tw hi hop];exact hx.all hz0 (by omega))) (by first | omega | (dsimp only;omega))
    | trace_state
  by_cases hz2:(rd o i).Qty = z
  ·subst hz2
   have hmd:=gN (c:=(rd o i).Cost) (p:=(rd o i).Qty) (n:=(rd o i).Qty) hg0.2 ⟨by omega,by omega⟩ hg0.1
   have hpl:=dq (k:=(rd o i).Cost) (q:=(rd o i).Qty) (n:=(rd o i).Qty) hg0.2.1 (by omega) (by omega) hg0.1.1
   have hU:upd (upd o i ⟨(rd o i).Account,(rd o i).Instr,(rd o i).No,(rd o i).Qty - (rd o i).Qty,(rd o i).Cost⟩) i ⟨(rd (upd o i ⟨(rd o i).Account,(rd o i).Instr,(rd o i).No,(rd o i).Qty - (rd o i).Qty,(rd o i).Cost⟩) i).Account,(rd (upd o i ⟨(rd o i).Account,(rd o i).Instr,(rd o i).No,(rd o i).Qty - (rd o i).Qty,(rd o i).Cost⟩) i).Instr,(rd (upd o i ⟨(rd o i).Account,(rd o i).Instr,(rd o i).No,(rd o i).Qty - (rd o i).Qty,(rd o i).Cost⟩) i).No,(rd (upd o i ⟨(rd o i).Account,(rd o i).Instr,(rd o i).No,(rd o i).Qty - (rd o i).Qty,(rd o i).Cost⟩) i).Qty,(rd o i).Cost - (rd o i).Cost * (rd o i).Qty / (rd o i).Qty⟩ = upd o i (reL (rd o i) ((rd o i).Qty - (rd o i).Qty) ((rd o i).Cost - (rd o i).Cost * (rd o i).Qty / (rd o i).Qty)):=by
    rw [bM ⟨by omega,by omega⟩]
    unfold upd
    rw [List.set_set]
    rfl
   have hUq:(rd (upd (upd o i ⟨(rd o i).Account,(rd o i).Instr,(rd o i).No,(rd o i).Qty - (rd o i).Qty,(rd o i).Cost⟩) i ⟨(rd (upd o i ⟨(rd o i).Account,(rd o i).Instr,(rd o i).No,(rd o i).Qty - (rd o i).Qty,(rd o i).Cost⟩) i).Account,(rd (upd o i ⟨(rd o i).Account,(rd o i).Instr,(rd o i).No,(rd o i).Qty - (rd o i).Qty,(rd o i).Cost⟩) i).Instr,(rd (upd o i ⟨(rd o i).Account,(rd o i).Instr,(rd o i).No,(rd o i).Qty - (rd o i).Qty,(rd o i).Cost⟩) i).No,(rd (upd o i ⟨(rd o i).Account,(rd o i).Instr,(rd o i).No,(rd o i).Qty - (rd o i).Qty,(rd o i).Cost⟩) i).Qty,(rd o i).Cost - (rd o i).Cost * (rd o i).Qty / (rd o i).Qty⟩) i).Qty = (rd o i).Qty - (rd o i).Qty:=by
    rw [hU,bM ⟨by omega,by omega⟩]
    rfl
   repeat' (first
| intro h9;exfalso;first | contradiction | omega
| apply yds;rfl
| apply yd;rfl
| apply znw;rfl;rfl;rfl;rfl;trivial;assumption;rfl;rfl
| apply yix;rfl;omega
| apply yle;rfl;(first | omega | (simp only [aG];omega))
| apply zse;rfl;exact tk;(iterate 6 rfl);(first | omega | (simp only [aG];omega));rfl;rfl;rfl;rfl;rfl
| intro _
| refine nv ?_
| apply wct rfl
| apply ai;rfl
| apply yar;rfl;omega
| refine zdq (id:=22) rfl (by kernel_rfl) [(.p,1),(.p,2),(.p,3),(.p,5),(.p,6),(.p,7),(.p,8),(.o,0),(.l,4),(.l,9),(.p,10)] [4,9] (by kernel_rfl) rfl ?_
| apply yc;rfl;(exact bC (by assumption));rfl;exact fun _ => rfl
| apply ycq;rfl;exact et;rfl
| fail)
   obtain ⟨u,hu⟩:∃ u,u = upd o i (reL (rd o i) ((rd o i).Qty - (rd o i).Qty) ((rd o i).Cost - (rd o i).Cost * (rd o i).Qty / (rd o i).Qty)):=⟨_,rfl⟩
   have hul:o.length = u.length:=by rw [hu,aG]
   have hs1:=fp (l:=u) (a:=0) (b:=i) ⟨by omega,by omega,by omega⟩
   have hs2:=fp (l:=u) (a:=i + 1) (b:=u.length) ⟨by omega,by omega,by omega⟩
   have hrem:=rK hu ⟨by omega,by omega⟩
   rw [hU,← hu,hul]
   repeat' (first
| apply yds;rfl
| apply yd;rfl
| refine nv ?_
| apply yar;rfl;omega
| apply ysl;rfl;omega
| apply aH (α:=Lot) (e:=137);rfl
| apply yap;rfl;(((try simp only [lE,lM]);(try dsimp only);omega))
| fail)
   all_goals first
    | exact aB ((rd o i).Qty - (rd o i).Qty,k + (rd o i).Cost * (rd o i).Qty / (rd o i).Qty,[] ++ sub u 0 i ++ sub u (i + 1) u.length) [0,8,2] ⟨rfl,rfl,rfl,rfl,rfl,rfl,rfl,rfl⟩ (by dsimp only;rw [hrem];exact (by rw [tw hi hop];exact hx.all hz0 (by omega))) (by first | omega | (dsimp only;omega))
    | trace_state
  ·
   have hmd:=gN (c:=(rd o i).Cost) (p:=z) (n:=(rd o i).Qty) hg0.2 ⟨by omega,by omega⟩ hg0.1
   have hpl:=dq (k:=(rd o i).Cost) (q:=z) (n:=(rd o i).Qty) hg0.2.1 (by omega) (by omega) hg0.1.1
   have hU:upd (upd o i ⟨(rd o i).Account,(rd o i).Instr,(rd o i).No,(rd o i).Qty - z,(rd o i).Cost⟩) i ⟨(rd (upd o i ⟨(rd o i).Account,(rd o i).Instr,(rd o i).No,(rd o i).Qty - z,(rd o i).Cost⟩) i).Account,(rd (upd o i ⟨(rd o i).Account,(rd o i).Instr,(rd o i).No,(rd o i).Qty - z,(rd o i).Cost⟩) i).Instr,(rd (upd o i ⟨(rd o i).Account,(rd o i).Instr,(rd o i).No,(rd o i).Qty - z,(rd o i).Cost⟩) i).No,(rd (upd o i ⟨(rd o i).Account,(rd o i).Instr,(rd o i).No,(rd o i).Qty - z,(rd o i).Cost⟩) i).Qty,(rd o i).Cost - (rd o i).Cost * z / (rd o i).Qty⟩ = upd o i (reL (rd o i) ((rd o i).Qty - z) ((rd o i).Cost - (rd o i).Cost * z / (rd o i).Qty)):=by
    rw [bM ⟨by omega,by omega⟩]
    unfold upd
    rw [List.set_set]
    rfl
   have hUq:(rd (upd (upd o i ⟨(rd o i).Account,(rd o i).Instr,(rd o i).No,(rd o i).Qty - z,(rd o i).Cost⟩) i ⟨(rd (upd o i ⟨(rd o i).Account,(rd o i).Instr,(rd o i).No,(rd o i).Qty - z,(rd o i).Cost⟩) i).Account,(rd (upd o i ⟨(rd o i).Account,(rd o i).Instr,(rd o i).No,(rd o i).Qty - z,(rd o i).Cost⟩) i).Instr,(rd (upd o i ⟨(rd o i).Account,(rd o i).Instr,(rd o i).No,(rd o i).Qty - z,(rd o i).Cost⟩) i).No,(rd (upd o i ⟨(rd o i).Account,(rd o i).Instr,(rd o i).No,(rd o i).Qty - z,(rd o i).Cost⟩) i).Qty,(rd o i).Cost - (rd o i).Cost * z / (rd o i).Qty⟩) i).Qty = (rd o i).Qty - z:=by
    rw [hU,bM ⟨by omega,by omega⟩]
    rfl
   repeat' (first
| intro h9;exfalso;first | contradiction | omega
| apply yds;rfl
| apply yd;rfl
| apply znw;rfl;rfl;rfl;rfl;trivial;assumption;rfl;rfl
| apply yix;rfl;omega
| apply yle;rfl;(first | omega | (simp only [aG];omega))
| apply zse;rfl;exact tk;(iterate 6 rfl);(first | omega | (simp only [aG];omega));rfl;rfl;rfl;rfl;rfl
| intro _
| refine nv ?_
| apply wct rfl
| apply wcf rfl
| apply ai;rfl
| apply yar;rfl;omega
| apply yc;rfl;(exact bC (by assumption));rfl;exact fun _ => rfl
| apply ycq;rfl;exact et;rfl
| fail)
   obtain ⟨u,hu⟩:∃ u,u = upd o i (reL (rd o i) ((rd o i).Qty - z) ((rd o i).Cost - (rd o i).Cost * z / (rd o i).Qty)):=⟨_,rfl⟩
   have hul:o.length = u.length:=by rw [hu,aG]
   rw [hU,← hu,hul]
   all_goals first
    | exact aB (z - z,k + (rd o i).Cost * z / (rd o i).Qty,u) [0,1,2] ⟨rfl,rfl,rfl,rfl,rfl,rfl,rfl,rfl⟩ (by dsimp only;rw [hu,za hi hop];exact hx.part hz0 (by omega)) (by first | omega | (dsimp only;omega))
    | trace_state
 have w1:way = 1:=by omega
 subst w1
 rw [tkL_1.1,tkL_1.2]
 repeat' (first
| intro h9;exfalso;contradiction
| apply yds;rfl
| apply yd;rfl
| intro _
| refine nv ?_
| apply wcf rfl
| apply ai;rfl
| apply ycp;rfl;(first | exact bB | exact aJ | exact aO);rfl
| apply ycf;rfl;(exact bW (by omega));rfl
| apply yc;rfl;(exact eu (by assumption));rfl;exact fun _ => rfl
| fail)
 refine wlp (X:=Int × Int × List Lot) [4,14] [0,1,2] (fun x => [(3,I x.1),(17,I x.2.1),(13,.c (.row 1 0 x.2.2.length))]) (fun x => [(1,ow 137 x.2.2)]) (fun x => TkI (ae l a c) q x.1 x.2.1 x.2.2) (fun x => x.1.toNat) (q,0,ae l a c) (TkI.init hg (by omega) (by omega) (by omega)) rfl rfl (fun _ => rfl) (fun _ => rfl) ⟨rfl,rfl,rfl,rfl,rfl,rfl,rfl,rfl⟩ (fun x hx => ?_)
 obtain ⟨z,k,o⟩:=x
 dsimp only at hx ⊢
 have hz:=hx.qb
 have hol:=hx.len
 by_cases hz0:0 < z
 rotate_left
 ·
  obtain ⟨d1,d2⟩:=hx.done hz0
  rw [d1,d2]
  repeat' (first
| intro h9;exfalso;contradiction
| apply yds;rfl
| apply yd;rfl
| intro _
| refine nv ?_
| apply wcf rfl
| apply ah rfl
| apply ai;rfl
| apply ycf;rfl;(exact dg (by omega) (by omega));rfl
| fail)
  all_goals exact ak [0,3] rfl rfl rfl rfl rfl rfl
 have hop:0 < (o.length:Int):=by have:=rM (l:=o) (by have:=hx.en;omega);omega
 have hmem:rd o 0 ∈ o:=aA ⟨Int.le_refl 0,hop⟩
 have hg0:=hx.lg _ hmem
 have htc:=fR (q:=z) hx.lg
 have htc0:=fR (q:=q) hg
 have hkc:=hx.cost
 have hcb:=hx.cb
 have hd0:o = rd o 0 :: o.drop 1:=dJ (l:=o) (i:=0) ⟨Int.le_refl 0,hop⟩
 rw [hd0] at hx
 by_cases hz1:(rd o 0).Qty < z
 ·
  have hmd:=gN (c:=(rd o 0).Cost) (p:=(rd o 0).Qty) (n:=(rd o 0).Qty) hg0.2 ⟨by omega,by omega⟩ hg0.1
  have hpl:=dq (k:=(rd o 0).Cost) (q:=(rd o 0).Qty) (n:=(rd o 0).Qty) hg0.2.1 (by omega) (by omega) hg0.1.1
  have hU:upd (upd o 0 ⟨(rd o 0).Account,(rd o 0).Instr,(rd o 0).No,(rd o 0).Qty - (rd o 0).Qty,(rd o 0).Cost⟩) 0 ⟨(rd (upd o 0 ⟨(rd o 0).Account,(rd o 0).Instr,(rd o 0).No,(rd o 0).Qty - (rd o 0).Qty,(rd o 0).Cost⟩) 0).Account,(rd (upd o 0 ⟨(rd o 0).Account,(rd o 0).Instr,(rd o 0).No,(rd o 0).Qty - (rd o 0).Qty,(rd o 0).Cost⟩) 0).Instr,(rd (upd o 0 ⟨(rd o 0).Account,(rd o 0).Instr,(rd o 0).No,(rd o 0).Qty - (rd o 0).Qty,(rd o 0).Cost⟩) 0).No,(rd (upd o 0 ⟨(rd o 0).Account,(rd o 0).Instr,(rd o 0).No,(rd o 0).Qty - (rd o 0).Qty,(rd o 0).Cost⟩) 0).Qty,(rd o 0).Cost - (rd o 0).Cost * (rd o 0).Qty / (rd o 0).Qty⟩ = upd o 0 (reL (rd o 0) ((rd o 0).Qty - (rd o 0).Qty) ((rd o 0).Cost - (rd o 0).Cost * (rd o 0).Qty / (rd o 0).Qty)):=by
   rw [bM ⟨by omega,by omega⟩]
   unfold upd
   rw [List.set_set]
   rfl
  have hUq:(rd (upd (upd o 0 ⟨(rd o 0).Account,(rd o 0).Instr,(rd o 0).No,(rd o 0).Qty - (rd o 0).Qty,(rd o 0).Cost⟩) 0 ⟨(rd (upd o 0 ⟨(rd o 0).Account,(rd o 0).Instr,(rd o 0).No,(rd o 0).Qty - (rd o 0).Qty,(rd o 0).Cost⟩) 0).Account,(rd (upd o 0 ⟨(rd o 0).Account,(rd o 0).Instr,(rd o 0).No,(rd o 0).Qty - (rd o 0).Qty,(rd o 0).Cost⟩) 0).Instr,(rd (upd o 0 ⟨(rd o 0).Account,(rd o 0).Instr,(rd o 0).No,(rd o 0).Qty - (rd o 0).Qty,(rd o 0).Cost⟩) 0).No,(rd (upd o 0 ⟨(rd o 0).Account,(rd o 0).Instr,(rd o 0).No,(rd o 0).Qty - (rd o 0).Qty,(rd o 0).Cost⟩) 0).Qty,(rd o 0).Cost - (rd o 0).Cost * (rd o 0).Qty / (rd o 0).Qty⟩) 0).Qty = (rd o 0).Qty - (rd o 0).Qty:=by
   rw [hU,bM ⟨by omega,by omega⟩]
   rfl
  repeat' (first
| intro h9;exfalso;first | contradiction | omega
| apply yds;rfl
| apply yd;rfl
| apply yix;rfl;omega
| apply yle;rfl;(first | omega | (simp only [aG];omega))
| apply zse;rfl;exact tk;(iterate 6 rfl);(first | omega | (simp only [aG];omega));rfl;rfl;rfl;rfl;rfl
| intro _
| refine nv ?_
| apply wct rfl
| apply wcf rfl
| apply ai;rfl
| apply yar;rfl;omega
| refine zdq (id:=22) rfl (by kernel_rfl) [(.p,1),(.p,2),(.p,3),(.p,5),(.p,6),(.p,7),(.p,8),(.o,0),(.l,4),(.l,9),(.p,10)] [4,9] (by kernel_rfl) rfl ?_
| apply yc;rfl;(exact bC (by assumption));rfl;exact fun _ => rfl
| apply ycq;rfl;exact et;rfl
| fail)
  obtain ⟨u,hu⟩:∃ u,u = upd o 0 (reL (rd o 0) ((rd o 0).Qty - (rd o 0).Qty) ((rd o 0).Cost - (rd o 0).Cost * (rd o 0).Qty / (rd o 0).Qty)):=⟨_,rfl⟩
  have hul:o.length = u.length:=by rw [hu,aG]
  have hs1:=fp (l:=u) (a:=0) (b:=0) ⟨by omega,by omega,by omega⟩
  have hs2:=fp (l:=u) (a:=0 + 1) (b:=u.length) ⟨by omega,by omega,by omega⟩
  have hrem:=rK hu ⟨by omega,by omega⟩
  rw [hU,← hu,hul]
  repeat' (first
| apply yds;rfl
| apply yd;rfl
| refine nv ?_
| apply yar;rfl;omega
| apply ysl;rfl;omega
| apply aH (α:=Lot) (e:=137);rfl
| apply yap;rfl;(((try simp only [lE,lM]);(try dsimp only);omega))
| fail)
  all_goals first
   | exact aB (z - (rd o 0).Qty,k + (rd o 0).Cost * (rd o 0).Qty / (rd o 0).Qty,[] ++ sub u 0 0 ++ sub u (0 + 1) u.length) [0,8,2] ⟨rfl,rfl,rfl,rfl,rfl,rfl,rfl,rfl⟩ (by dsimp only;rw [hrem];exact hx.all hz0 (by omega)) (by first | omega | (dsimp only;omega))
   | trace_state
 by_cases hz2:(rd o 0).Qty = z
 ·subst hz2
  have hmd:=gN (c:=(rd o 0).Cost) (p:=(rd o 0).Qty) (n:=(rd o 0).Qty) hg0.2 ⟨by omega,by omega⟩ hg0.1
  have hpl:=dq (k:=(rd o 0).Cost) (q:=(rd o 0).Qty) (n:=(rd o 0).Qty) hg0.2.1 (by omega) (by omega) hg0.1.1
  have hU:upd (upd o 0 ⟨(rd o 0).Account,(rd o 0).Instr,(rd o 0).No,(rd o 0).Qty - (rd o 0).Qty,(rd o 0).Cost⟩) 0 ⟨(rd (upd o 0 ⟨(rd o 0).Account,(rd o 0).Instr,(rd o 0).No,(rd o 0).Qty - (rd o 0).Qty,(rd o 0).Cost⟩) 0).Account,(rd (upd o 0 ⟨(rd o 0).Account,(rd o 0).Instr,(rd o 0).No,(rd o 0).Qty - (rd o 0).Qty,(rd o 0).Cost⟩) 0).Instr,(rd (upd o 0 ⟨(rd o 0).Account,(rd o 0).Instr,(rd o 0).No,(rd o 0).Qty - (rd o 0).Qty,(rd o 0).Cost⟩) 0).No,(rd (upd o 0 ⟨(rd o 0).Account,(rd o 0).Instr,(rd o 0).No,(rd o 0).Qty - (rd o 0).Qty,(rd o 0).Cost⟩) 0).Qty,(rd o 0).Cost - (rd o 0).Cost * (rd o 0).Qty / (rd o 0).Qty⟩ = upd o 0 (reL (rd o 0) ((rd o 0).Qty - (rd o 0).Qty) ((rd o 0).Cost - (rd o 0).Cost * (rd o 0).Qty / (rd o 0).Qty)):=by
   rw [bM ⟨by omega,by omega⟩]
   unfold upd
   rw [List.set_set]
   rfl
  have hUq:(rd (upd (upd o 0 ⟨(rd o 0).Account,(rd o 0).Instr,(rd o 0).No,(rd o 0).Qty - (rd o 0).Qty,(rd o 0).Cost⟩) 0 ⟨(rd (upd o 0 ⟨(rd o 0).Account,(rd o 0).Instr,(rd o 0).No,(rd o 0).Qty - (rd o 0).Qty,(rd o 0).Cost⟩) 0).Account,(rd (upd o 0 ⟨(rd o 0).Account,(rd o 0).Instr,(rd o 0).No,(rd o 0).Qty - (rd o 0).Qty,(rd o 0).Cost⟩) 0).Instr,(rd (upd o 0 ⟨(rd o 0).Account,(rd o 0).Instr,(rd o 0).No,(rd o 0).Qty - (rd o 0).Qty,(rd o 0).Cost⟩) 0).No,(rd (upd o 0 ⟨(rd o 0).Account,(rd o 0).Instr,(rd o 0).No,(rd o 0).Qty - (rd o 0).Qty,(rd o 0).Cost⟩) 0).Qty,(rd o 0).Cost - (rd o 0).Cost * (rd o 0).Qty / (rd o 0).Qty⟩) 0).Qty = (rd o 0).Qty - (rd o 0).Qty:=by
   rw [hU,bM ⟨by omega,by omega⟩]
   rfl
  repeat' (first
| intro h9;exfalso;first | contradiction | omega
| apply yds;rfl
| apply yd;rfl
| apply yix;rfl;omega
| apply yle;rfl;(first | omega | (simp only [aG];omega))
| apply zse;rfl;exact tk;(iterate 6 rfl);(first | omega | (simp only [aG];omega));rfl;rfl;rfl;rfl;rfl
| intro _
| refine nv ?_
| apply wct rfl
| apply wcf rfl
| apply ai;rfl
| apply yar;rfl;omega
| refine zdq (id:=22) rfl (by kernel_rfl) [(.p,1),(.p,2),(.p,3),(.p,5),(.p,6),(.p,7),(.p,8),(.o,0),(.l,4),(.l,9),(.p,10)] [4,9] (by kernel_rfl) rfl ?_
| apply yc;rfl;(exact bC (by assumption));rfl;exact fun _ => rfl
| apply ycq;rfl;exact et;rfl
| fail)
  obtain ⟨u,hu⟩:∃ u,u = upd o 0 (reL (rd o 0) ((rd o 0).Qty - (rd o 0).Qty) ((rd o 0).Cost - (rd o 0).Cost * (rd o 0).Qty / (rd o 0).Qty)):=⟨_,rfl⟩
  have hul:o.length = u.length:=by rw [hu,aG]
  have hs1:=fp (l:=u) (a:=0) (b:=0) ⟨by omega,by omega,by omega⟩
  have hs2:=fp (l:=u) (a:=0 + 1) (b:=u.length) ⟨by omega,by omega,by omega⟩
  have hrem:=rK hu ⟨by omega,by omega⟩
  rw [hU,← hu,hul]
  repeat' (first
| apply yds;rfl
| apply yd;rfl
| refine nv ?_
| apply yar;rfl;omega
| apply ysl;rfl;omega
| apply aH (α:=Lot) (e:=137);rfl
| apply yap;rfl;(((try simp only [lE,lM]);(try dsimp only);omega))
| fail)
  all_goals first
   | exact aB ((rd o 0).Qty - (rd o 0).Qty,k + (rd o 0).Cost * (rd o 0).Qty / (rd o 0).Qty,[] ++ sub u 0 0 ++ sub u (0 + 1) u.length) [0,8,2] ⟨rfl,rfl,rfl,rfl,rfl,rfl,rfl,rfl⟩ (by dsimp only;rw [hrem];exact hx.all hz0 (by omega)) (by first | omega | (dsimp only;omega))
   | trace_state
 ·
  have hmd:=gN (c:=(rd o 0).Cost) (p:=z) (n:=(rd o 0).Qty) hg0.2 ⟨by omega,by omega⟩ hg0.1
  have hpl:=dq (k:=(rd o 0).Cost) (q:=z) (n:=(rd o 0).Qty) hg0.2.1 (by omega) (by omega) hg0.1.1
  have hU:upd (upd o 0 ⟨(rd o 0).Account,(rd o 0).Instr,(rd o 0).No,(rd o 0).Qty - z,(rd o 0).Cost⟩) 0 ⟨(rd (upd o 0 ⟨(rd o 0).Account,(rd o 0).Instr,(rd o 0).No,(rd o 0).Qty - z,(rd o 0).Cost⟩) 0).Account,(rd (upd o 0 ⟨(rd o 0).Account,(rd o 0).Instr,(rd o 0).No,(rd o 0).Qty - z,(rd o 0).Cost⟩) 0).Instr,(rd (upd o 0 ⟨(rd o 0).Account,(rd o 0).Instr,(rd o 0).No,(rd o 0).Qty - z,(rd o 0).Cost⟩) 0).No,(rd (upd o 0 ⟨(rd o 0).Account,(rd o 0).Instr,(rd o 0).No,(rd o 0).Qty - z,(rd o 0).Cost⟩) 0).Qty,(rd o 0).Cost - (rd o 0).Cost * z / (rd o 0).Qty⟩ = upd o 0 (reL (rd o 0) ((rd o 0).Qty - z) ((rd o 0).Cost - (rd o 0).Cost * z / (rd o 0).Qty)):=by
   rw [bM ⟨by omega,by omega⟩]
   unfold upd
   rw [List.set_set]
   rfl
  have hUq:(rd (upd (upd o 0 ⟨(rd o 0).Account,(rd o 0).Instr,(rd o 0).No,(rd o 0).Qty - z,(rd o 0).Cost⟩) 0 ⟨(rd (upd o 0 ⟨(rd o 0).Account,(rd o 0).Instr,(rd o 0).No,(rd o 0).Qty - z,(rd o 0).Cost⟩) 0).Account,(rd (upd o 0 ⟨(rd o 0).Account,(rd o 0).Instr,(rd o 0).No,(rd o 0).Qty - z,(rd o 0).Cost⟩) 0).Instr,(rd (upd o 0 ⟨(rd o 0).Account,(rd o 0).Instr,(rd o 0).No,(rd o 0).Qty - z,(rd o 0).Cost⟩) 0).No,(rd (upd o 0 ⟨(rd o 0).Account,(rd o 0).Instr,(rd o 0).No,(rd o 0).Qty - z,(rd o 0).Cost⟩) 0).Qty,(rd o 0).Cost - (rd o 0).Cost * z / (rd o 0).Qty⟩) 0).Qty = (rd o 0).Qty - z:=by
   rw [hU,bM ⟨by omega,by omega⟩]
   rfl
  repeat' (first
| intro h9;exfalso;first | contradiction | omega
| apply yds;rfl
| apply yd;rfl
| apply yix;rfl;omega
| apply yle;rfl;(first | omega | (simp only [aG];omega))
| apply zse;rfl;exact tk;(iterate 6 rfl);(first | omega | (simp only [aG];omega));rfl;rfl;rfl;rfl;rfl
| intro _
| refine nv ?_
| apply wct rfl
| apply wcf rfl
| apply ai;rfl
| apply yar;rfl;omega
| apply yc;rfl;(exact bC (by assumption));rfl;exact fun _ => rfl
| apply ycq;rfl;exact et;rfl
| fail)
  obtain ⟨u,hu⟩:∃ u,u = upd o 0 (reL (rd o 0) ((rd o 0).Qty - z) ((rd o 0).Cost - (rd o 0).Cost * z / (rd o 0).Qty)):=⟨_,rfl⟩
  have hul:o.length = u.length:=by rw [hu,aG]
  rw [hU,← hu,hul]
  all_goals first
   | exact aB (z - z,k + (rd o 0).Cost * z / (rd o 0).Qty,u) [0,1,2] ⟨rfl,rfl,rfl,rfl,rfl,rfl,rfl,rfl⟩ (by dsimp only;rw [hu,x5 hop];exact hx.part hz0 (by omega)) (by first | omega | (dsimp only;omega))
   | trace_state
end
section
open Go.RowKit
theorem xN {α:Type} {l:List α} {q:α → Prop} (h:∀ x ∈ l,¬ q x):fIx l q = l.length:=by
 unfold fIx
 rw [List.findIdx_eq_length.2 (fun x hx => rf (h x hx))]
noncomputable def cS (l:List Lot) (x:Lot):List Lot × Int :=
 sel (¬ (LotsOk l ∧ jq x.Account x.Instr x.No x.Qty x.Cost)) ([],1) (sel (¬ LotsOk (mrg l [x])) (l,3) (mrg l [x],0))
section
variable {l:List Lot} {x:Lot}
theorem yg (h:¬ (LotsOk l ∧ jq x.Account x.Instr x.No x.Qty x.Cost)):cS l x = ([],1):=by rw [cS,au h]
theorem yi (h:LotsOk l ∧ jq x.Account x.Instr x.No x.Qty x.Cost) (h2:¬ LotsOk (mrg l [x])):cS l x = (l,3):=by rw [cS,ab (fun k => k h),au h2]
theorem yf (h:LotsOk l ∧ jq x.Account x.Instr x.No x.Qty x.Cost) (h2:LotsOk (mrg l [x])):cS l x = (mrg l [x],0):=by rw [cS,ab (fun k => k h),ab (fun k => k h2)]
theorem yj:LotsOk [x] ↔ jq x.Account x.Instr x.No x.Qty x.Cost:=by
 constructor
 ·intro h
  exact (h.1.1 0 (by omega) (by simp)).1
 ·intro h
  refine ⟨⟨fun i h0 h1 => ?_,by simp⟩,fun y hy => ?_⟩
  ·have e:i = 0:=by simp only [List.length_cons,List.length_nil] at h1;omega
   subst e
   exact ⟨h,fun k => by omega⟩
  ·rw [List.mem_singleton] at hy
   subst hy
   rw [pm]
   have h':=h
   unfold jq inP at h'
   unfold sQ sC
   rw [cT,cT]
   unfold aq inP
   omega
end
theorem rp {l:List Lot} {a c n q k:Int}:FC Tryz.prog 226 [.c (.row 0 0 l.length),.agg [.sc (.int .i64 a),.sc (.int .i64 c),.sc (.int .i64 n),.sc (.int .i64 q),.sc (.int .i64 k)]] ([ro 137 l]) (.tup [.c (.row 1 0 (cS l ⟨a,c,n,q,k⟩).1.length),I (cS l ⟨a,c,n,q,k⟩).2]) ([ro 137 l,ow 137 (cS l ⟨a,c,n,q,k⟩).1]):=by
 refine ax tk 44 [.tmp 4,.tmp 5] Tryz.func226 (by kernel_rfl) rfl rfl rfl rfl rfl rfl rfl ?_
 have hone:=yj (x:=⟨a,c,n,q,k⟩)
 dsimp only at hone
 by_cases hok:LotsOk l ∧ jq a c n q k
 rotate_left
 ·
  rw [yg hok]
  repeat' (first
| intro h9;exact absurd ⟨by assumption,hone.1 (by assumption)⟩ hok
| apply fZ (d:=4) 137 5;rfl;rfl;rfl
| apply yd;rfl
| intro _
| refine nv ?_
| apply wct rfl
| apply aH (α:=Lot) (e:=137);rfl
| apply ycp;rfl;exact bZ;rfl
| fail)
  all_goals first | exact ak [0,3] rfl rfl rfl rfl rfl rfl | exact ak [0,4] rfl rfl rfl rfl rfl rfl
 have hx:=hone.2 hok.2
 obtain ⟨h1,h2⟩:=id hok
 have hll:=h1.1.2
 have hnn:=bY l (fun y => ¬ lb2 y ⟨a,c,n,q,k⟩)
 repeat' (first
| intro h9;exfalso;contradiction
| apply yds;rfl
| apply yd;rfl
| intro _
| refine nv ?_
| apply wcf rfl
| apply aH (α:=Lot) (e:=137);rfl
| apply ycp;rfl;exact bZ;rfl
| fail)
 refine wlp (X:=Int) [0,3] [0,1] (fun i => [(6,I i)]) (fun _ => []) (fun i => (0 ≤ i ∧ i ≤ l.length) ∧ ∀ j:Int,0 ≤ j → j < i → ¬ (fun y => ¬ lb2 y ⟨a,c,n,q,k⟩) (rd l j)) (fun i => (l.length - i).toNat) 0 ⟨⟨by omega,by omega⟩,fun j h0 h1 => by omega⟩ rfl rfl (fun _ => rfl) (fun _ => rfl) ⟨rfl,rfl,rfl,rfl,rfl,rfl,rfl,rfl⟩ (fun i hi => ?_)
 obtain ⟨h0,hall⟩:=hi
 by_cases hil:i < l.length ∧ lb2 (rd l i) ⟨a,c,n,q,k⟩
 ·have hcm:hJ (rd l i).Account (rd l i).Instr (rd l i).No a c n < 0:=lotCmp_lt.2 hil.2
  repeat' (first
| intro h9;exfalso;first | contradiction | omega
| apply yds;rfl
| apply yd;rfl
| intro _
| refine nv ?_
| apply wct rfl
| apply ai;rfl
| apply yar;rfl;omega
| apply yix;rfl;omega
| apply yle;rfl;omega
| refine zdq (id:=4) rfl (by kernel_rfl) [(.p,0),(.p,1),(.p,2),(.p,3),(.p,4),(.p,5),(.p,6),(.p,7),(.t,8),(.t,9),(.o,10),(.p,11),(.p,12)] [] (by kernel_rfl) rfl ?_
| apply yc;rfl;exact eE;rfl;exact fun _ => rfl
| fail)
  all_goals first
   | exact aB (i + 1) [0,1] ⟨rfl,rfl,rfl,rfl,rfl,rfl,rfl,rfl⟩ ⟨⟨by omega,by omega⟩,aD hall (fun k => k hil.2)⟩ (by first | omega | (dsimp only;omega))
   | trace_state
 have hcm:¬ i < l.length ∨ ¬ hJ (rd l i).Account (rd l i).Instr (rd l i).No a c n < 0:=by
  by_cases e:i < l.length
  ·exact .inr (fun k => hil ⟨e,lotCmp_lt.1 k⟩)
  ·exact .inl e
 have e:fIx l (fun y => ¬ lb2 y ⟨a,c,n,q,k⟩) = i:=by
  by_cases e:i < l.length
  ·exact fD ⟨h0.1,e⟩ hall (fun k => hil ⟨e,k⟩)
  ·have hno:=iw (q:=fun y => ¬ lb2 y ⟨a,c,n,q,k⟩) e hall
   rw [xN (fun y hy k => hno ⟨y,hy,k⟩)]
   omega
 have hm:mrg l [⟨a,c,n,q,k⟩] = ins l i ⟨a,c,n,q,k⟩:=by rw [A2,e]
 by_cases hok2:LotsOk (mrg l [⟨a,c,n,q,k⟩])
 ·rw [yf hok hok2]
  rw [hm] at hok2 ⊢
  repeat' (first
| intro h9;exfalso;first | contradiction | omega
| apply yds;rfl
| apply yd;rfl
| intro _
| refine nv ?_
| apply wcf rfl
| apply ah rfl
| apply ai;rfl
| apply yix;rfl;omega
| apply yle;rfl;omega
| apply aH (α:=Lot) (e:=137);rfl
| refine zdq (id:=4) rfl (by kernel_rfl) [(.p,0),(.p,1),(.p,2),(.p,3),(.p,4),(.p,5),(.p,6),(.p,7),(.t,8),(.t,9),(.o,10),(.p,11),(.p,12)] [] (by kernel_rfl) rfl ?_
| refine AG (id:=6) rfl (by kernel_rfl) [(.p,0),(.p,2),(.t,3)] 1 4 [(.o,4),(.l,5),(.p,6)] [(.o,1),(.l,5),(.p,6)] [5] (by kernel_rfl) rfl rfl rfl ?_
| apply oe
| apply ycp;rfl;exact bZ;rfl
| apply yc;rfl;exact eE;rfl;exact fun _ => rfl
| apply ycf;rfl;exact cL (by omega);rfl
| apply ycw  [true,true];rfl;exact iE (by omega) (by omega);rfl
| fail)
  all_goals exact ak [0,4] rfl rfl rfl rfl rfl rfl
 ·rw [yi hok hok2]
  rw [hm] at hok2
  repeat' (first
| intro h9;exfalso;first | contradiction | omega
| apply yds;rfl
| apply yd;rfl
| intro _
| refine nv ?_
| apply wct rfl
| apply wcf rfl
| apply ah rfl
| apply ai;rfl
| apply yix;rfl;omega
| apply yle;rfl;omega
| apply aH (α:=Lot) (e:=137);rfl
| refine zdq (id:=4) rfl (by kernel_rfl) [(.p,0),(.p,1),(.p,2),(.p,3),(.p,4),(.p,5),(.p,6),(.p,7),(.t,8),(.t,9),(.o,10),(.p,11),(.p,12)] [] (by kernel_rfl) rfl ?_
| refine AG (id:=6) rfl (by kernel_rfl) [(.p,0),(.p,2),(.t,3)] 1 4 [(.o,4),(.l,5),(.p,6)] [(.o,1),(.l,5),(.p,6)] [5] (by kernel_rfl) rfl rfl rfl ?_
| apply oe
| apply ycp;rfl;exact bZ;rfl
| apply yc;rfl;exact eE;rfl;exact fun _ => rfl
| apply ycf;rfl;exact cL (by omega);rfl
| apply ycw  [true,true];rfl;exact iE (by omega) (by omega);rfl
| fail)
  all_goals exact ak [0,5] rfl rfl rfl rfl rfl rfl
theorem mH {l:List Lot} {a c n q k:Int}:FC Tryz.prog 264 [.c (.row 0 0 l.length),.agg [.sc (.int .i64 a),.sc (.int .i64 c),.sc (.int .i64 n),.sc (.int .i64 q),.sc (.int .i64 k)]] ([ro 137 l]) (.tup [.c (.row 1 0 (cS l ⟨a,c,n,q,k⟩).1.length),I (cS l ⟨a,c,n,q,k⟩).2]) ([ro 137 l,ow 137 (cS l ⟨a,c,n,q,k⟩).1]):=by
 refine ax tk 27 [.tmp 4,.tmp 5] Tryz.func264 (by kernel_rfl) rfl rfl rfl rfl rfl rfl rfl ?_
 by_cases hok:LotsOk l ∧ jq a c n q k
 rotate_left
 ·
  rw [yg hok]
  repeat' (first
| intro h9;exact absurd ⟨by assumption,by assumption⟩ hok
| apply yd;rfl
| intro _
| refine nv ?_
| apply wct rfl
| apply aH (α:=Lot) (e:=137);rfl
| apply ycp;rfl;(first | exact bB | exact gP);rfl
| fail)
  all_goals exact ak [0,2] rfl rfl rfl rfl rfl rfl
 obtain ⟨h1,h2⟩:=id hok
 have hll:=h1.1.2
 have hml:=oy l [⟨a,c,n,q,k⟩]
 by_cases hok2:LotsOk (mrg l [⟨a,c,n,q,k⟩])
 ·rw [yf hok hok2]
  repeat' (first
| intro h9;exfalso;contradiction
| apply yds;rfl
| apply yd;rfl
| intro _
| refine nv ?_
| apply wcf rfl
| apply aH (α:=Lot) (e:=137);rfl
| apply ycp;rfl;(first | exact bB | exact gP);rfl
| apply ycf;rfl;exact dg (by omega) (by (simp only [List.length_cons,List.length_nil];omega));rfl
| fail)
  all_goals exact ak [0,3] rfl rfl rfl rfl rfl rfl
 ·rw [yi hok hok2]
  repeat' (first
| intro h9;exfalso;contradiction
| apply yds;rfl
| apply yd;rfl
| intro _
| refine nv ?_
| apply wct rfl
| apply wcf rfl
| apply aH (α:=Lot) (e:=137);rfl
| apply yap;rfl;(((try simp only [lE,lM]);(try dsimp only);omega))
| apply ycp;rfl;(first | exact bB | exact gP);rfl
| apply ycf;rfl;exact dg (by omega) (by (simp only [List.length_cons,List.length_nil];omega));rfl
| fail)
  all_goals exact ak [0,5] rfl rfl rfl rfl rfl rfl
end
section
open Go.RowKit
def dW (l:List Lot) (n:Int) (a c q k:Int):Prop:=¬ n ≥ 1000000000 ∧ (cS l ⟨a,c,n + 1,q,k⟩).2 = 0
noncomputable abbrev opL (l:List Lot) (n a c q k:Int):List Lot:=(cS l ⟨a,c,n + 1,q,k⟩).1
theorem gi {ba:List Account} {bi:List Instr} {bb:List Bal} {bl:List Lot} {bt:List Trade} {bn:Int} {a c q k:Int} (hn:0 ≤ bn):FC Tryz.prog 114 [.c (.ptr 0 0 0),I a,I c,I q,I k] ([bkX 1 ⟨ba,bi,bb,bl,bt,bn⟩] ++ bkO ⟨ba,bi,bb,bl,bt,bn⟩) (sel (dW bl bn a c q k) (I 0) (I 7)) (sel (dW bl bn a c q k) ([some ⟨true,30,6,.mx [.row 1 0 ba.length,.row 2 0 bi.length,.row 3 0 bb.length,.row 6 0 (opL bl bn a c q k).length,.row 5 0 bt.length,.sc (.int .i64 (bn + 1))]⟩] ++ bkO ⟨ba,bi,bb,bl,bt,bn⟩ ++ [ow 137 (opL bl bn a c q k)]) ([bkX 1 ⟨ba,bi,bb,bl,bt,bn⟩] ++ bkO ⟨ba,bi,bb,bl,bt,bn⟩)):=by
 refine ax tk 49 [.tmp 10] Tryz.func114 (by kernel_rfl) rfl rfl rfl rfl rfl rfl rfl ?_
 repeat' (first
| apply yds;rfl
| apply yd;rfl
| intro _
| refine nv ?_
| apply wct rfl
| apply wcf rfl
| apply ai;rfl
| apply yne;rfl
| apply yar;rfl;omega
| refine zdq (id:=3) rfl (by kernel_rfl) [(.p,0),(.p,1),(.p,2),(.p,4),(.p,5),(.p,6),(.p,7),(.p,8),(.p,11),(.p,12),(.t,3),(.t,9),(.p,10),(.p,13),(.o,14),(.p,15),(.p,16),(.p,17),(.p,18),(.p,19)] [] (by kernel_rfl) rfl ?_
| apply ycf;rfl;exact rp;rfl
| fail)
 all_goals first
  | (exact bQ (fun h => h.1 (by assumption)) [0,1,2,3,4,5] rfl rfl rfl rfl rfl rfl)
  | (exact bQ (fun h => absurd h.2 (by assumption)) [0,1,2,3,4,5] rfl rfl rfl rfl rfl rfl)
  | (exact iH ⟨by assumption,by assumption⟩ [0,1,2,3,4,5,6] rfl rfl rfl rfl rfl rfl)
  | trace_state
noncomputable abbrev tN (l:List Lot) (a c q w:Int):Int:=(cC l a c q w).2.2
noncomputable abbrev tL (l:List Lot) (a c q w:Int):List Lot:=(cC l a c q w).1
noncomputable abbrev tC (l:List Lot) (a c q w:Int):Int:=(cC l a c q w).2.1
theorem jB {ba:List Account} {bi:List Instr} {bb:List Bal} {bl:List Lot} {bt:List Trade} {bn:Int} {a c q w:Int}:FC Tryz.prog 113 [.c (.ptr 0 0 0),I a,I c,I q,I w] ([bkX 1 ⟨ba,bi,bb,bl,bt,bn⟩] ++ bkO ⟨ba,bi,bb,bl,bt,bn⟩) (sel (tN bl a c q w = 0) (.tup [I (tC bl a c q w),I 0]) (.tup [I 0,I 5])) (sel (tN bl a c q w = 0) ([some ⟨true,30,6,.mx [.row 1 0 ba.length,.row 2 0 bi.length,.row 3 0 bb.length,.row 6 0 (tL bl a c q w).length,.row 5 0 bt.length,.sc (.int .i64 bn)]⟩] ++ bkO ⟨ba,bi,bb,bl,bt,bn⟩ ++ [ow 137 (tL bl a c q w)]) ([bkX 1 ⟨ba,bi,bb,bl,bt,bn⟩] ++ bkO ⟨ba,bi,bb,bl,bt,bn⟩)):=by
 refine ax tk 35 [.tmp 10,.tmp 11] Tryz.func113 (by kernel_rfl) rfl rfl rfl rfl rfl rfl rfl ?_
 repeat' (first
| apply yds;rfl
| apply yd;rfl
| intro _
| refine nv ?_
| apply wct rfl
| apply wcf rfl
| apply yne;rfl
| apply ycf;rfl;exact rq;rfl
| fail)
 all_goals first
  | exact iH (by assumption) [0,1,2,3,4,5,6] rfl rfl rfl rfl rfl rfl
  | exact bQ (by assumption) [0,1,2,3,4,5] rfl rfl rfl rfl rfl rfl
  | trace_state
theorem fW {ba:List Account} {bi:List Instr} {bb:List Bal} {bl:List Lot} {bt:List Trade} {bn:Int} {a c q k:Int} (hn:0 ≤ bn ∧ bn ≤ 1000000000):FC Tryz.prog 172 [bkV 0 ⟨ba,bi,bb,bl,bt,bn⟩,I a,I c,I q,I k] (bkO ⟨ba,bi,bb,bl,bt,bn⟩) (sel (dW bl bn a c q k) (.tup [.agg [.row 0 0 ba.length,.row 1 0 bi.length,.row 2 0 bb.length,.row 5 0 (opL bl bn a c q k).length,.row 4 0 bt.length,.sc (.int .i64 (bn + 1))],I 0]) (.tup [bkV 0 ⟨ba,bi,bb,bl,bt,bn⟩,I 7])) (sel (dW bl bn a c q k) (bkO ⟨ba,bi,bb,bl,bt,bn⟩ ++ [ow 137 (opL bl bn a c q k)]) (bkO ⟨ba,bi,bb,bl,bt,bn⟩)):=by
 refine ax tk 42 [.cell 10 _,.tmp 11] Tryz.func172 (by kernel_rfl) rfl rfl rfl rfl rfl rfl rfl ?_
 repeat' (first
| apply yds;rfl
| apply yd;rfl
| intro _
| refine nv ?_
| apply wct rfl
| apply wcf rfl
| apply yeq;rfl
| apply yne;rfl
| apply yar;rfl;omega
| apply ycf;rfl;exact mH;rfl
| fail)
 all_goals first
  | (exact bQ (fun h => by have:=h.1;omega) [0,1,2,3,4] rfl rfl rfl rfl rfl rfl)
  | (exact bQ (fun h => absurd h.2 (by assumption)) [0,1,2,3,4] rfl rfl rfl rfl rfl rfl)
  | (exact iH ⟨by omega,by assumption⟩ [0,1,2,3,4,7] rfl rfl rfl rfl rfl rfl)
  | trace_state
theorem kJ {ba:List Account} {bi:List Instr} {bb:List Bal} {bl:List Lot} {bt:List Trade} {bn:Int} {fr to c q w pr:Int} (hn:0 ≤ bn ∧ bn ≤ 1000000000) (h1:¬ tN bl fr c q w = 0):FC Tryz.prog 200 [bkV 0 ⟨ba,bi,bb,bl,bt,bn⟩,I fr,I to,I c,I q,I w,I pr] (bkO ⟨ba,bi,bb,bl,bt,bn⟩) (.tup [bkV 0 ⟨ba,bi,bb,bl,bt,bn⟩,I 0,I 5]) (bkO ⟨ba,bi,bb,bl,bt,bn⟩):=by
 refine ax tk 53 [.cell 14 _,.tmp 15,.tmp 16] Tryz.func200 (by kernel_rfl) rfl rfl rfl rfl rfl rfl rfl ?_
 repeat' (first
| intro h9;exfalso;contradiction
| apply yds;rfl
| apply yd;rfl
| intro _
| refine nv ?_
| apply wct rfl
| apply yne;rfl
| apply ycf;rfl;exact fi;rfl
| fail)
 all_goals exact ak [0,1,2,3,4] rfl rfl rfl rfl rfl rfl
theorem kI {ba:List Account} {bi:List Instr} {bb:List Bal} {bl:List Lot} {bt:List Trade} {bn:Int} {fr to c q w pr:Int} (hn:0 ≤ bn ∧ bn ≤ 1000000000) (h1:tN bl fr c q w = 0) (h2:¬ dW (tL bl fr c q w) bn to c q (pick (pr < 0) (tC bl fr c q w) pr)):FC Tryz.prog 200 [bkV 0 ⟨ba,bi,bb,bl,bt,bn⟩,I fr,I to,I c,I q,I w,I pr] (bkO ⟨ba,bi,bb,bl,bt,bn⟩) (.tup [.agg [.row 0 0 ba.length,.row 1 0 bi.length,.row 2 0 bb.length,.row 5 0 (tL bl fr c q w).length,.row 4 0 bt.length,.sc (.int .i64 bn)],I (tC bl fr c q w),I 7]) (bkO ⟨ba,bi,bb,bl,bt,bn⟩ ++ [ow 137 (tL bl fr c q w)]):=by
 refine ax tk 53 [.cell 14 _,.tmp 15,.tmp 16] Tryz.func200 (by kernel_rfl) rfl rfl rfl rfl rfl rfl rfl ?_
 by_cases hp:pr < 0
 ·have hp':pick (pr < 0) (tC bl fr c q w) pr = tC bl fr c q w:=aK hp
  rw [hp'] at h2
  repeat' (first
| intro h9;exfalso;contradiction
| apply yds;rfl
| apply yd;rfl
| intro _
| refine nv ?_
| apply wct rfl
| apply wcf rfl
| apply ai;rfl
| apply yne;rfl
| apply ycf;rfl;exact fi;rfl
| apply jd  [true,true,true,true,true];(iterate 10 rfl);exact fW (by omega);(iterate 6 rfl)
| fail)
  all_goals exact ak [0,1,2,3,4,7] rfl rfl rfl rfl rfl rfl
 ·have hp':pick (pr < 0) (tC bl fr c q w) pr = pr:=aC hp
  rw [hp'] at h2
  repeat' (first
| intro h9;exfalso;contradiction
| apply yds;rfl
| apply yd;rfl
| intro _
| refine nv ?_
| apply wcf rfl
| apply ai;rfl
| apply yne;rfl
| apply ycf;rfl;exact fi;rfl
| apply jd  [true,true,true,true,true];(iterate 10 rfl);exact fW (by omega);(iterate 6 rfl)
| fail)
  all_goals exact ak [0,1,2,3,4,7] rfl rfl rfl rfl rfl rfl
theorem kH {ba:List Account} {bi:List Instr} {bb:List Bal} {bl:List Lot} {bt:List Trade} {bn:Int} {fr to c q w pr:Int} (hn:0 ≤ bn ∧ bn ≤ 1000000000) (h1:tN bl fr c q w = 0) (h2:dW (tL bl fr c q w) bn to c q (pick (pr < 0) (tC bl fr c q w) pr)):FC Tryz.prog 200 [bkV 0 ⟨ba,bi,bb,bl,bt,bn⟩,I fr,I to,I c,I q,I w,I pr] (bkO ⟨ba,bi,bb,bl,bt,bn⟩) (.tup [.agg [.row 0 0 ba.length,.row 1 0 bi.length,.row 2 0 bb.length,.row 5 0 (opL (tL bl fr c q w) bn to c q (pick (pr < 0) (tC bl fr c q w) pr)).length,.row 4 0 bt.length,.sc (.int .i64 (bn + 1))],I (tC bl fr c q w),I 0]) (bkO ⟨ba,bi,bb,bl,bt,bn⟩ ++ [ow 137 (opL (tL bl fr c q w) bn to c q (pick (pr < 0) (tC bl fr c q w) pr))]):=by
 refine ax tk 53 [.cell 14 _,.tmp 15,.tmp 16] Tryz.func200 (by kernel_rfl) rfl rfl rfl rfl rfl rfl rfl ?_
 by_cases hp:pr < 0
 ·have hp':pick (pr < 0) (tC bl fr c q w) pr = tC bl fr c q w:=aK hp
  rw [hp'] at h2 ⊢
  repeat' (first
| intro h9;exfalso;contradiction
| apply yds;rfl
| apply yd;rfl
| intro _
| refine nv ?_
| apply wct rfl
| apply wcf rfl
| apply ai;rfl
| apply yne;rfl
| apply ycf;rfl;exact fi;rfl
| apply jd  [true,true,true,true,true];(iterate 10 rfl);exact fW (by omega);(iterate 6 rfl)
| fail)
  all_goals exact ak [0,1,2,3,4,8] rfl rfl rfl rfl rfl rfl
 ·have hp':pick (pr < 0) (tC bl fr c q w) pr = pr:=aC hp
  rw [hp'] at h2 ⊢
  repeat' (first
| intro h9;exfalso;contradiction
| apply yds;rfl
| apply yd;rfl
| intro _
| refine nv ?_
| apply wcf rfl
| apply ai;rfl
| apply yne;rfl
| apply ycf;rfl;exact fi;rfl
| apply jd  [true,true,true,true,true];(iterate 10 rfl);exact fW (by omega);(iterate 6 rfl)
| fail)
  all_goals exact ak [0,1,2,3,4,8] rfl rfl rfl rfl rfl rfl
end
end Go.Proofs.YtgehbhkfehmdkaaGreat.Sh
