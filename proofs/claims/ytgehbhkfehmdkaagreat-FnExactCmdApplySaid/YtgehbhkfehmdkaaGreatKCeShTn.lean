/- What is taken of lots: LotTake of the specification. No condition. -/
import Derived.Test.YtgehbhkfehmdkaaGreatKCeShV
import Derived.Test.YtgehbhkfehmdkaaGreatKCeShTk
import Derived.Test.YtgehbhkfehmdkaaGreatKCeShDr
set_option maxRecDepth 100000
set_option maxHeartbeats 40000000
set_option linter.unusedSimpArgs false
set_option linter.unusedVariables false
namespace Go.Proofs.YtgehbhkfehmdkaaGreat.Sh
section
open Go.RowKit
theorem rq {o u:List Lot} {i:Int} {x:Lot} (hu:u = upd o i x) (h:0 ≤ i ∧ i < o.length):[] ++ sub u 0 i ++ sub u (i + 1) u.length = o.take i.toNat ++ o.drop (i.toNat + 1):=by
 subst hu
 unfold sub upd
 rw [List.nil_append,show (i + 1).toNat = i.toNat + 1 from by omega,Int.toNat_natCast,List.take_length]
 rw [List.take_set_of_le (Nat.le_refl _),List.drop_set_of_lt (Nat.lt_succ_self _)]
 simp
theorem wg {o:List Lot} {x:Lot} (h:0 < (o.length:Int)):upd o 0 x = x :: o.drop 1:=by
 cases o with
 | nil => simp at h
 | cons y r => rfl
theorem t9 {o:List Lot} {i:Int} (hi:i = o.length - 1) (h:0 < (o.length:Int)):o.reverse = rd o i :: (o.take i.toNat).reverse:=by
 have h1:i.toNat < o.length:=by omega
 have e:o = o.take i.toNat ++ [rd o i]:=by
  have h2:=dz (l:=o) (i:=i) ⟨by omega,by omega⟩
  rw [show (i + 1).toNat = o.length from by omega,List.drop_length] at h2
  rw [← h2,List.take_append_drop]
 conv => lhs;rw [e]
 rw [List.reverse_append]
 rfl
theorem yO {o:List Lot} {i:Int} {x:Lot} (hi:i = o.length - 1) (h:0 < (o.length:Int)):(upd o i x).reverse = x :: (o.take i.toNat).reverse:=by
 have h2:=t9 (o:=upd o i x) (i:=i) (by rw [aF];exact hi) (by rw [aF];exact h)
 rw [h2,bP ⟨by omega,by omega⟩]
 unfold upd
 rw [List.take_set_of_le (Nat.le_refl _)]
theorem t6 {o:List Lot} {i:Int} (hi:i = o.length - 1) (h:0 < (o.length:Int)):(o.take i.toNat ++ o.drop (i.toNat + 1)).reverse = (o.take i.toNat).reverse:=by
 rw [List.drop_eq_nil_of_le (by omega),List.append_nil]
structure TkI (own:List Lot) (q0 q c:Int) (o:List Lot):Prop where
 qb:0 ≤ q ∧ q ≤ 1000000000000000
 cb:0 ≤ c
 lg:LG o
 left:(tkq o q).1 = (tkq own q0).1
 cost:c + (tkq o q).2 = (tkq own q0).2
 en:q ≤ sQ o
 len:o.length ≤ 120
section
variable {own r:List Lot} {x:Lot} {q0 q c:Int}
theorem TkI.init (hg:LG own) (hq:0 ≤ q0 ∧ q0 ≤ 1000000000000000) (he:q0 ≤ sQ own) (hl:own.length ≤ 120):TkI own q0 q0 0 own:=⟨hq,Int.le_refl 0,hg,rfl,Int.zero_add _,he,hl⟩
theorem TkI.all (h:TkI own q0 q c (x :: r)) (h0:0 < q) (h1:x.Qty ≤ q):TkI own q0 (q - x.Qty) (c + x.Cost * x.Qty / x.Qty) r:=by
 have hc:=h.lg.cons
 have ht:=wb (r:=r) h0 h1
 have hl:=h.left
 have hk:=h.cost
 have he:=h.en
 rw [ht] at hl hk
 rw [A6] at he
 rw [sY hc.1.1.1]
 exact ⟨⟨by omega,by have:=h.qb;omega⟩,by have:=h.cb;omega,hc.2,hl,by dsimp only at hk;omega,by omega,by have:=h.len;simp only [List.length_cons] at this;omega⟩
theorem TkI.part (h:TkI own q0 q c (x :: r)) (h0:0 < q) (h1:¬ x.Qty ≤ q):TkI own q0 (q - q) (c + x.Cost * q / x.Qty) (reL x (x.Qty - q) (x.Cost - x.Cost * q / x.Qty) :: r):=by
 have hc:=h.lg.cons
 have ht:=wc (r:=r) h0 h1
 have hl:=h.left
 have hk:=h.cost
 have hp:=dh (k:=x.Cost) (q:=q) (n:=x.Qty) hc.1.2.1 (by omega) (by omega) hc.1.1.1
 rw [ht] at hl hk
 have hg:LG (reL x (x.Qty - q) (x.Cost - x.Cost * q / x.Qty) :: r):=fun y hy => by
  rcases List.mem_cons.1 hy with rfl | hy
  ·dsimp only [reL];omega
  ·exact hc.2 y hy
 rw [Int.sub_self]
 exact ⟨by omega,by have:=h.cb;omega,hg,by rw [pn (Int.le_refl 0)];exact hl,by rw [pn (Int.le_refl 0)];dsimp only at hk ⊢;omega,hg.sQ_nn,by have:=h.len;simp only [List.length_cons] at *;omega⟩
theorem TkI.done (h:TkI own q0 q c r) (h0:¬ 0 < q):(tkq own q0).1 = r ∧ (tkq own q0).2 = c:=by
 have hl:=h.left
 have hk:=h.cost
 rw [pn (by omega)] at hl hk
 exact ⟨hl.symm,by dsimp only at hk;omega⟩
end
theorem eu {l:List Lot} {a c q way:Int}:FC Tryz.prog 275 [.c (.row 0 0 l.length),I a,I c,I q,I way] ([ro 137 l]) (.tup [.c (.row 1 0 (cz l a c q way).1.length),I (cz l a c q way).2.1,I (cz l a c q way).2.2]) ([ro 137 l,ow 137 (cz l a c q way).1]):=by
 refine al tk 131 [.tmp 10,.tmp 11,.tmp 12] Tryz.func275 (by kernel_rfl) rfl rfl rfl rfl rfl rfl rfl ?_
 by_cases hok:LotsOk l ∧ inP q 1 1000000000000000 ∧ inP way 1 3
 rotate_left
 ·
  rw [B6 hok]
  repeat' (first
| apply yds;rfl
| apply yd;rfl
| intro h9;exact absurd ⟨by assumption,by assumption,by assumption⟩ hok
| intro _
| refine nv ?_
| apply wct rfl
| apply aG (α:=Lot) (e:=137);rfl
| apply ycp;rfl;(first | exact bJ | exact aC | exact aI);rfl
| fail)
  all_goals exact ai [0,1] rfl rfl rfl rfl rfl rfl
 obtain ⟨h1,h2,h3⟩:=id hok
 have hll:=h1.1.2
 have hlq:=h1.q
 have h2':=h2
 have h3':=h3
 unfold inP at h2' h3'
 have hlo:(aa l a c).length ≤ l.length:=cO _ _
 have hln':(bh l a c).length ≤ l.length:=cO _ _
 have hlq2:LQ (aa l a c):=LQ.of hlq
 by_cases hsh:sQ (aa l a c) < q
 ·
  rw [B7 hok hsh]
  repeat' (first
| intro h9;exfalso;contradiction
| apply yds;rfl
| apply yd;rfl
| intro _
| refine nv ?_
| apply wct rfl
| apply wcf rfl
| apply ag;rfl
| apply aG (α:=Lot) (e:=137);rfl
| apply yap;rfl;(((try simp only [lE,lM]);(try dsimp only);omega))
| apply ycp;rfl;(first | exact bJ | exact aC | exact aI);rfl
| apply ycf;rfl;(exact cG (by omega));rfl
| apply yc;rfl;(exact dQ (by assumption));rfl;exact fun _ => rfl
| fail)
  all_goals exact ai [0,4] rfl rfl rfl rfl rfl rfl
 rw [B5 hok hsh]
 have hown:=h1.own a c
 have hln:=ry (l:=aa l a c) (by omega)
 have hg:LG (aa l a c):=h1.LG.flt _
 have htl:=vv (q:=q) (way:=way) hln
 by_cases w3:way = 3
 ·subst w3
  repeat' (first
| intro h9;exfalso;contradiction
| apply yds;rfl
| apply yd;rfl
| intro _
| refine nv ?_
| apply wct rfl
| apply wcf rfl
| apply ag;rfl
| apply ycp;rfl;(first | exact bJ | exact aC | exact aI);rfl
| apply ycf;rfl;(first | exact cG (by omega) | exact tg (by assumption) (by omega) (by omega) (by assumption) (by omega) | exact da (by omega) (by omega));rfl
| apply yc;rfl;(exact dQ (by assumption));rfl;exact fun _ => rfl
| fail)
  all_goals exact ai [0,4] rfl rfl rfl rfl rfl rfl
 by_cases w2:way = 2
 ·subst w2
  rw [tkL_2.1,tkL_2.2]
  repeat' (first
| intro h9;exfalso;contradiction
| apply yds;rfl
| apply yd;rfl
| intro _
| refine nv ?_
| apply wcf rfl
| apply ag;rfl
| apply ycp;rfl;(first | exact bJ | exact aC | exact aI);rfl
| apply ycf;rfl;(exact cG (by omega));rfl
| apply yc;rfl;(exact dQ (by assumption));rfl;exact fun _ => rfl
| fail)
  refine wlp (X:=Int × Int × List Lot) [4,14] [0,1,2] (fun x => [(3,I x.1),(17,I x.2.1),(13,.c (.row 1 0 x.2.2.length))]) (fun x => [(1,ow 137 x.2.2)]) (fun x => TkI (aa l a c).reverse q x.1 x.2.1 x.2.2.reverse) (fun x => x.1.toNat) (q,0,aa l a c) (TkI.init hg.rev (by omega) (by rw [Bn];omega) (by rw [List.length_reverse];omega)) rfl rfl (fun _ => rfl) (fun _ => rfl) ⟨rfl,rfl,rfl,rfl,rfl,rfl,rfl,rfl⟩ (fun x hx => ?_)
  obtain ⟨z,k,o⟩:=x
  dsimp only at hx ⊢
  have hz:=hx.qb
  have hol:=hx.len
  rw [List.length_reverse] at hol
  by_cases hz0:0 < z
  rotate_left
  ·
   obtain ⟨d1,d2⟩:=hx.done hz0
   rw [d1,d2,List.reverse_reverse]
   repeat' (first
| intro h9;exfalso;contradiction
| apply yds;rfl
| apply yd;rfl
| intro _
| refine nv ?_
| apply wcf rfl
| apply ae rfl
| apply ag;rfl
| apply ycf;rfl;(exact da (by omega) (by omega));rfl
| fail)
   all_goals exact ai [0,3] rfl rfl rfl rfl rfl rfl
  have hop:0 < (o.length:Int):=by have:=ry (l:=o.reverse) (by have:=hx.en;omega);rw [List.length_reverse] at this;omega
  obtain ⟨i,hi⟩:∃ i:Int,i = o.length - 1:=⟨_,rfl⟩
  have hwi:IntKind.i64.wrap ((o.length:Int) - 1) = i:=by rw [← hi];exact wI (by omega)
  have hmem:rd o i ∈ o.reverse:=List.mem_reverse.2 (ax ⟨by omega,by omega⟩)
  have hg0:=hx.lg _ hmem
  have htc:=eO (q:=z) hx.lg
  have htc0:=eO (q:=q) hg.rev
  rw [ui] at htc0
  have hkc:=hx.cost
  have hcb:=hx.cb
  have hd0:o.reverse = rd o i :: (o.take i.toNat).reverse:=t9 hi hop
  rw [hd0] at hx
  by_cases hz1:(rd o i).Qty < z
  ·
   have hmd:=fw (c:=(rd o i).Cost) (p:=(rd o i).Qty) (n:=(rd o i).Qty) hg0.2 ⟨by omega,by omega⟩ hg0.1
   have hpl:=dh (k:=(rd o i).Cost) (q:=(rd o i).Qty) (n:=(rd o i).Qty) hg0.2.1 (by omega) (by omega) hg0.1.1
   have hU:upd (upd o i ⟨(rd o i).Account,(rd o i).Instr,(rd o i).No,(rd o i).Qty - (rd o i).Qty,(rd o i).Cost⟩) i ⟨(rd (upd o i ⟨(rd o i).Account,(rd o i).Instr,(rd o i).No,(rd o i).Qty - (rd o i).Qty,(rd o i).Cost⟩) i).Account,(rd (upd o i ⟨(rd o i).Account,(rd o i).Instr,(rd o i).No,(rd o i).Qty - (rd o i).Qty,(rd o i).Cost⟩) i).Instr,(rd (upd o i ⟨(rd o i).Account,(rd o i).Instr,(rd o i).No,(rd o i).Qty - (rd o i).Qty,(rd o i).Cost⟩) i).No,(rd (upd o i ⟨(rd o i).Account,(rd o i).Instr,(rd o i).No,(rd o i).Qty - (rd o i).Qty,(rd o i).Cost⟩) i).Qty,(rd o i).Cost - (rd o i).Cost * (rd o i).Qty / (rd o i).Qty⟩ = upd o i (reL (rd o i) ((rd o i).Qty - (rd o i).Qty) ((rd o i).Cost - (rd o i).Cost * (rd o i).Qty / (rd o i).Qty)):=by
    rw [bP ⟨by omega,by omega⟩]
    unfold upd
    rw [List.set_set]
    rfl
   have hUq:(rd (upd (upd o i ⟨(rd o i).Account,(rd o i).Instr,(rd o i).No,(rd o i).Qty - (rd o i).Qty,(rd o i).Cost⟩) i ⟨(rd (upd o i ⟨(rd o i).Account,(rd o i).Instr,(rd o i).No,(rd o i).Qty - (rd o i).Qty,(rd o i).Cost⟩) i).Account,(rd (upd o i ⟨(rd o i).Account,(rd o i).Instr,(rd o i).No,(rd o i).Qty - (rd o i).Qty,(rd o i).Cost⟩) i).Instr,(rd (upd o i ⟨(rd o i).Account,(rd o i).Instr,(rd o i).No,(rd o i).Qty - (rd o i).Qty,(rd o i).Cost⟩) i).No,(rd (upd o i ⟨(rd o i).Account,(rd o i).Instr,(rd o i).No,(rd o i).Qty - (rd o i).Qty,(rd o i).Cost⟩) i).Qty,(rd o i).Cost - (rd o i).Cost * (rd o i).Qty / (rd o i).Qty⟩) i).Qty = (rd o i).Qty - (rd o i).Qty:=by
    rw [hU,bP ⟨by omega,by omega⟩]
    rfl
   repeat' (first
| intro h9;exfalso;first | contradiction | omega
| apply yds;rfl
| apply yd;rfl
| apply znw;rfl;rfl;rfl;rfl;trivial;assumption;rfl;rfl
| apply yix;rfl;omega
| apply yle;rfl;(first | omega | (simp only [aF];omega))
| apply zse;rfl;exact tk;(iterate 6 rfl);(first | omega | (simp only [aF];omega));rfl;rfl;rfl;rfl;rfl
| intro _
| refine nv ?_
| apply wct rfl
| apply ag;rfl
| apply yar;rfl;omega
| refine zdq (id:=22) rfl (by kernel_rfl) [(.p,1),(.p,2),(.p,3),(.p,5),(.p,6),(.p,7),(.p,8),(.o,0),(.l,4),(.l,9),(.p,10)] [4,9] (by kernel_rfl) rfl ?_
| apply yc;rfl;(exact bF (by assumption));rfl;exact fun _ => rfl
| apply ycq;rfl;exact eG;rfl
| fail)
   obtain ⟨u,hu⟩:∃ u,u = upd o i (reL (rd o i) ((rd o i).Qty - (rd o i).Qty) ((rd o i).Cost - (rd o i).Cost * (rd o i).Qty / (rd o i).Qty)):=⟨_,rfl⟩
   have hul:o.length = u.length:=by rw [hu,aF]
   have hs1:=ez (l:=u) (a:=0) (b:=i) ⟨by omega,by omega,by omega⟩
   have hs2:=ez (l:=u) (a:=i + 1) (b:=u.length) ⟨by omega,by omega,by omega⟩
   have hrem:=rq hu ⟨by omega,by omega⟩
   rw [hU,← hu,hul]
   repeat' (first
| apply yds;rfl
| apply yd;rfl
| refine nv ?_
| apply yar;rfl;omega
| apply ysl;rfl;omega
| apply aG (α:=Lot) (e:=137);rfl
| apply yap;rfl;(((try simp only [lE,lM]);(try dsimp only);omega))
| fail)
   all_goals first
    | exact aA (z - (rd o i).Qty,k + (rd o i).Cost * (rd o i).Qty / (rd o i).Qty,[] ++ sub u 0 i ++ sub u (i + 1) u.length) [0,8,2] ⟨rfl,rfl,rfl,rfl,rfl,rfl,rfl,rfl⟩ (by dsimp only;rw [hrem];exact (by rw [t6 hi hop];exact hx.all hz0 (by omega))) (by first | omega | (dsimp only;omega))
    | trace_state
  by_cases hz2:(rd o i).Qty = z
  ·subst hz2
   have hmd:=fw (c:=(rd o i).Cost) (p:=(rd o i).Qty) (n:=(rd o i).Qty) hg0.2 ⟨by omega,by omega⟩ hg0.1
   have hpl:=dh (k:=(rd o i).Cost) (q:=(rd o i).Qty) (n:=(rd o i).Qty) hg0.2.1 (by omega) (by omega) hg0.1.1
   have hU:upd (upd o i ⟨(rd o i).Account,(rd o i).Instr,(rd o i).No,(rd o i).Qty - (rd o i).Qty,(rd o i).Cost⟩) i ⟨(rd (upd o i ⟨(rd o i).Account,(rd o i).Instr,(rd o i).No,(rd o i).Qty - (rd o i).Qty,(rd o i).Cost⟩) i).Account,(rd (upd o i ⟨(rd o i).Account,(rd o i).Instr,(rd o i).No,(rd o i).Qty - (rd o i).Qty,(rd o i).Cost⟩) i).Instr,(rd (upd o i ⟨(rd o i).Account,(rd o i).Instr,(rd o i).No,(rd o i).Qty - (rd o i).Qty,(rd o i).Cost⟩) i).No,(rd (upd o i ⟨(rd o i).Account,(rd o i).Instr,(rd o i).No,(rd o i).Qty - (rd o i).Qty,(rd o i).Cost⟩) i).Qty,(rd o i).Cost - (rd o i).Cost * (rd o i).Qty / (rd o i).Qty⟩ = upd o i (reL (rd o i) ((rd o i).Qty - (rd o i).Qty) ((rd o i).Cost - (rd o i).Cost * (rd o i).Qty / (rd o i).Qty)):=by
    rw [bP ⟨by omega,by omega⟩]
    unfold upd
    rw [List.set_set]
    rfl
   have hUq:(rd (upd (upd o i ⟨(rd o i).Account,(rd o i).Instr,(rd o i).No,(rd o i).Qty - (rd o i).Qty,(rd o i).Cost⟩) i ⟨(rd (upd o i ⟨(rd o i).Account,(rd o i).Instr,(rd o i).No,(rd o i).Qty - (rd o i).Qty,(rd o i).Cost⟩) i).Account,(rd (upd o i ⟨(rd o i).Account,(rd o i).Instr,(rd o i).No,(rd o i).Qty - (rd o i).Qty,(rd o i).Cost⟩) i).Instr,(rd (upd o i ⟨(rd o i).Account,(rd o i).Instr,(rd o i).No,(rd o i).Qty - (rd o i).Qty,(rd o i).Cost⟩) i).No,(rd (upd o i ⟨(rd o i).Account,(rd o i).Instr,(rd o i).No,(rd o i).Qty - (rd o i).Qty,(rd o i).Cost⟩) i).Qty,(rd o i).Cost - (rd o i).Cost * (rd o i).Qty / (rd o i).Qty⟩) i).Qty = (rd o i).Qty - (rd o i).Qty:=by
    rw [hU,bP ⟨by omega,by omega⟩]
    rfl
   repeat' (first
| intro h9;exfalso;first | contradiction | omega
| apply yds;rfl
| apply yd;rfl
| apply znw;rfl;rfl;rfl;rfl;trivial;assumption;rfl;rfl
| apply yix;rfl;omega
| apply yle;rfl;(first | omega | (simp only [aF];omega))
| apply zse;rfl;exact tk;(iterate 6 rfl);(first | omega | (simp only [aF];omega));rfl;rfl;rfl;rfl;rfl
| intro _
| refine nv ?_
| apply wct rfl
| apply ag;rfl
| apply yar;rfl;omega
| refine zdq (id:=22) rfl (by kernel_rfl) [(.p,1),(.p,2),(.p,3),(.p,5),(.p,6),(.p,7),(.p,8),(.o,0),(.l,4),(.l,9),(.p,10)] [4,9] (by kernel_rfl) rfl ?_
| apply yc;rfl;(exact bF (by assumption));rfl;exact fun _ => rfl
| apply ycq;rfl;exact eG;rfl
| fail)
   obtain ⟨u,hu⟩:∃ u,u = upd o i (reL (rd o i) ((rd o i).Qty - (rd o i).Qty) ((rd o i).Cost - (rd o i).Cost * (rd o i).Qty / (rd o i).Qty)):=⟨_,rfl⟩
   have hul:o.length = u.length:=by rw [hu,aF]
   have hs1:=ez (l:=u) (a:=0) (b:=i) ⟨by omega,by omega,by omega⟩
   have hs2:=ez (l:=u) (a:=i + 1) (b:=u.length) ⟨by omega,by omega,by omega⟩
   have hrem:=rq hu ⟨by omega,by omega⟩
   rw [hU,← hu,hul]
   repeat' (first
| apply yds;rfl
| apply yd;rfl
| refine nv ?_
| apply yar;rfl;omega
| apply ysl;rfl;omega
| apply aG (α:=Lot) (e:=137);rfl
| apply yap;rfl;(((try simp only [lE,lM]);(try dsimp only);omega))
| fail)
   all_goals first
    | exact aA ((rd o i).Qty - (rd o i).Qty,k + (rd o i).Cost * (rd o i).Qty / (rd o i).Qty,[] ++ sub u 0 i ++ sub u (i + 1) u.length) [0,8,2] ⟨rfl,rfl,rfl,rfl,rfl,rfl,rfl,rfl⟩ (by dsimp only;rw [hrem];exact (by rw [t6 hi hop];exact hx.all hz0 (by omega))) (by first | omega | (dsimp only;omega))
    | trace_state
  ·
   have hmd:=fw (c:=(rd o i).Cost) (p:=z) (n:=(rd o i).Qty) hg0.2 ⟨by omega,by omega⟩ hg0.1
   have hpl:=dh (k:=(rd o i).Cost) (q:=z) (n:=(rd o i).Qty) hg0.2.1 (by omega) (by omega) hg0.1.1
   have hU:upd (upd o i ⟨(rd o i).Account,(rd o i).Instr,(rd o i).No,(rd o i).Qty - z,(rd o i).Cost⟩) i ⟨(rd (upd o i ⟨(rd o i).Account,(rd o i).Instr,(rd o i).No,(rd o i).Qty - z,(rd o i).Cost⟩) i).Account,(rd (upd o i ⟨(rd o i).Account,(rd o i).Instr,(rd o i).No,(rd o i).Qty - z,(rd o i).Cost⟩) i).Instr,(rd (upd o i ⟨(rd o i).Account,(rd o i).Instr,(rd o i).No,(rd o i).Qty - z,(rd o i).Cost⟩) i).No,(rd (upd o i ⟨(rd o i).Account,(rd o i).Instr,(rd o i).No,(rd o i).Qty - z,(rd o i).Cost⟩) i).Qty,(rd o i).Cost - (rd o i).Cost * z / (rd o i).Qty⟩ = upd o i (reL (rd o i) ((rd o i).Qty - z) ((rd o i).Cost - (rd o i).Cost * z / (rd o i).Qty)):=by
    rw [bP ⟨by omega,by omega⟩]
    unfold upd
    rw [List.set_set]
    rfl
   have hUq:(rd (upd (upd o i ⟨(rd o i).Account,(rd o i).Instr,(rd o i).No,(rd o i).Qty - z,(rd o i).Cost⟩) i ⟨(rd (upd o i ⟨(rd o i).Account,(rd o i).Instr,(rd o i).No,(rd o i).Qty - z,(rd o i).Cost⟩) i).Account,(rd (upd o i ⟨(rd o i).Account,(rd o i).Instr,(rd o i).No,(rd o i).Qty - z,(rd o i).Cost⟩) i).Instr,(rd (upd o i ⟨(rd o i).Account,(rd o i).Instr,(rd o i).No,(rd o i).Qty - z,(rd o i).Cost⟩) i).No,(rd (upd o i ⟨(rd o i).Account,(rd o i).Instr,(rd o i).No,(rd o i).Qty - z,(rd o i).Cost⟩) i).Qty,(rd o i).Cost - (rd o i).Cost * z / (rd o i).Qty⟩) i).Qty = (rd o i).Qty - z:=by
    rw [hU,bP ⟨by omega,by omega⟩]
    rfl
   repeat' (first
| intro h9;exfalso;first | contradiction | omega
| apply yds;rfl
| apply yd;rfl
| apply znw;rfl;rfl;rfl;rfl;trivial;assumption;rfl;rfl
| apply yix;rfl;omega
| apply yle;rfl;(first | omega | (simp only [aF];omega))
| apply zse;rfl;exact tk;(iterate 6 rfl);(first | omega | (simp only [aF];omega));rfl;rfl;rfl;rfl;rfl
| intro _
| refine nv ?_
| apply wct rfl
| apply wcf rfl
| apply ag;rfl
| apply yar;rfl;omega
| apply yc;rfl;(exact bF (by assumption));rfl;exact fun _ => rfl
| apply ycq;rfl;exact eG;rfl
| fail)
   obtain ⟨u,hu⟩:∃ u,u = upd o i (reL (rd o i) ((rd o i).Qty - z) ((rd o i).Cost - (rd o i).Cost * z / (rd o i).Qty)):=⟨_,rfl⟩
   have hul:o.length = u.length:=by rw [hu,aF]
   rw [hU,← hu,hul]
   all_goals first
    | exact aA (z - z,k + (rd o i).Cost * z / (rd o i).Qty,u) [0,1,2] ⟨rfl,rfl,rfl,rfl,rfl,rfl,rfl,rfl⟩ (by dsimp only;rw [hu,yO hi hop];exact hx.part hz0 (by omega)) (by first | omega | (dsimp only;omega))
    | trace_state
 have w1:way = 1:=by omega
 subst w1
 rw [tkL_1.1,tkL_1.2]
 repeat' (first
| intro h9;exfalso;contradiction
| apply yds;rfl
| apply yd;rfl
| intro _
| refine nv ?_
| apply wcf rfl
| apply ag;rfl
| apply ycp;rfl;(first | exact bJ | exact aC | exact aI);rfl
| apply ycf;rfl;(exact cG (by omega));rfl
| apply yc;rfl;(exact dQ (by assumption));rfl;exact fun _ => rfl
| fail)
 refine wlp (X:=Int × Int × List Lot) [4,14] [0,1,2] (fun x => [(3,I x.1),(17,I x.2.1),(13,.c (.row 1 0 x.2.2.length))]) (fun x => [(1,ow 137 x.2.2)]) (fun x => TkI (aa l a c) q x.1 x.2.1 x.2.2) (fun x => x.1.toNat) (q,0,aa l a c) (TkI.init hg (by omega) (by omega) (by omega)) rfl rfl (fun _ => rfl) (fun _ => rfl) ⟨rfl,rfl,rfl,rfl,rfl,rfl,rfl,rfl⟩ (fun x hx => ?_)
 obtain ⟨z,k,o⟩:=x
 dsimp only at hx ⊢
 have hz:=hx.qb
 have hol:=hx.len
 by_cases hz0:0 < z
 rotate_left
 ·
  obtain ⟨d1,d2⟩:=hx.done hz0
  rw [d1,d2]
  repeat' (first
| intro h9;exfalso;contradiction
| apply yds;rfl
| apply yd;rfl
| intro _
| refine nv ?_
| apply wcf rfl
| apply ae rfl
| apply ag;rfl
| apply ycf;rfl;(exact da (by omega) (by omega));rfl
| fail)
  all_goals exact ai [0,3] rfl rfl rfl rfl rfl rfl
 have hop:0 < (o.length:Int):=by have:=ry (l:=o) (by have:=hx.en;omega);omega
 have hmem:rd o 0 ∈ o:=ax ⟨Int.le_refl 0,hop⟩
 have hg0:=hx.lg _ hmem
 have htc:=eO (q:=z) hx.lg
 have htc0:=eO (q:=q) hg
 have hkc:=hx.cost
 have hcb:=hx.cb
 have hd0:o = rd o 0 :: o.drop 1:=dz (l:=o) (i:=0) ⟨Int.le_refl 0,hop⟩
 rw [hd0] at hx
 by_cases hz1:(rd o 0).Qty < z
 ·
  have hmd:=fw (c:=(rd o 0).Cost) (p:=(rd o 0).Qty) (n:=(rd o 0).Qty) hg0.2 ⟨by omega,by omega⟩ hg0.1
  have hpl:=dh (k:=(rd o 0).Cost) (q:=(rd o 0).Qty) (n:=(rd o 0).Qty) hg0.2.1 (by omega) (by omega) hg0.1.1
  have hU:upd (upd o 0 ⟨(rd o 0).Account,(rd o 0).Instr,(rd o 0).No,(rd o 0).Qty - (rd o 0).Qty,(rd o 0).Cost⟩) 0 ⟨(rd (upd o 0 ⟨(rd o 0).Account,(rd o 0).Instr,(rd o 0).No,(rd o 0).Qty - (rd o 0).Qty,(rd o 0).Cost⟩) 0).Account,(rd (upd o 0 ⟨(rd o 0).Account,(rd o 0).Instr,(rd o 0).No,(rd o 0).Qty - (rd o 0).Qty,(rd o 0).Cost⟩) 0).Instr,(rd (upd o 0 ⟨(rd o 0).Account,(rd o 0).Instr,(rd o 0).No,(rd o 0).Qty - (rd o 0).Qty,(rd o 0).Cost⟩) 0).No,(rd (upd o 0 ⟨(rd o 0).Account,(rd o 0).Instr,(rd o 0).No,(rd o 0).Qty - (rd o 0).Qty,(rd o 0).Cost⟩) 0).Qty,(rd o 0).Cost - (rd o 0).Cost * (rd o 0).Qty / (rd o 0).Qty⟩ = upd o 0 (reL (rd o 0) ((rd o 0).Qty - (rd o 0).Qty) ((rd o 0).Cost - (rd o 0).Cost * (rd o 0).Qty / (rd o 0).Qty)):=by
   rw [bP ⟨by omega,by omega⟩]
   unfold upd
   rw [List.set_set]
   rfl
  have hUq:(rd (upd (upd o 0 ⟨(rd o 0).Account,(rd o 0).Instr,(rd o 0).No,(rd o 0).Qty - (rd o 0).Qty,(rd o 0).Cost⟩) 0 ⟨(rd (upd o 0 ⟨(rd o 0).Account,(rd o 0).Instr,(rd o 0).No,(rd o 0).Qty - (rd o 0).Qty,(rd o 0).Cost⟩) 0).Account,(rd (upd o 0 ⟨(rd o 0).Account,(rd o 0).Instr,(rd o 0).No,(rd o 0).Qty - (rd o 0).Qty,(rd o 0).Cost⟩) 0).Instr,(rd (upd o 0 ⟨(rd o 0).Account,(rd o 0).Instr,(rd o 0).No,(rd o 0).Qty - (rd o 0).Qty,(rd o 0).Cost⟩) 0).No,(rd (upd o 0 ⟨(rd o 0).Account,(rd o 0).Instr,(rd o 0).No,(rd o 0).Qty - (rd o 0).Qty,(rd o 0).Cost⟩) 0).Qty,(rd o 0).Cost - (rd o 0).Cost * (rd o 0).Qty / (rd o 0).Qty⟩) 0).Qty = (rd o 0).Qty - (rd o 0).Qty:=by
   rw [hU,bP ⟨by omega,by omega⟩]
   rfl
  repeat' (first
| intro h9;exfalso;first | contradiction | omega
| apply yds;rfl
| apply yd;rfl
| apply yix;rfl;omega
| apply yle;rfl;(first | omega | (simp only [aF];omega))
| apply zse;rfl;exact tk;(iterate 6 rfl);(first | omega | (simp only [aF];omega));rfl;rfl;rfl;rfl;rfl
| intro _
| refine nv ?_
| apply wct rfl
| apply wcf rfl
| apply ag;rfl
| apply yar;rfl;omega
| refine zdq (id:=22) rfl (by kernel_rfl) [(.p,1),(.p,2),(.p,3),(.p,5),(.p,6),(.p,7),(.p,8),(.o,0),(.l,4),(.l,9),(.p,10)] [4,9] (by kernel_rfl) rfl ?_
| apply yc;rfl;(exact bF (by assumption));rfl;exact fun _ => rfl
| apply ycq;rfl;exact eG;rfl
| fail)
  obtain ⟨u,hu⟩:∃ u,u = upd o 0 (reL (rd o 0) ((rd o 0).Qty - (rd o 0).Qty) ((rd o 0).Cost - (rd o 0).Cost * (rd o 0).Qty / (rd o 0).Qty)):=⟨_,rfl⟩
  have hul:o.length = u.length:=by rw [hu,aF]
  have hs1:=ez (l:=u) (a:=0) (b:=0) ⟨by omega,by omega,by omega⟩
  have hs2:=ez (l:=u) (a:=0 + 1) (b:=u.length) ⟨by omega,by omega,by omega⟩
  have hrem:=rq hu ⟨by omega,by omega⟩
  rw [hU,← hu,hul]
  repeat' (first
| apply yds;rfl
| apply yd;rfl
| refine nv ?_
| apply yar;rfl;omega
| apply ysl;rfl;omega
| apply aG (α:=Lot) (e:=137);rfl
| apply yap;rfl;(((try simp only [lE,lM]);(try dsimp only);omega))
| fail)
  all_goals first
   | exact aA (z - (rd o 0).Qty,k + (rd o 0).Cost * (rd o 0).Qty / (rd o 0).Qty,[] ++ sub u 0 0 ++ sub u (0 + 1) u.length) [0,8,2] ⟨rfl,rfl,rfl,rfl,rfl,rfl,rfl,rfl⟩ (by dsimp only;rw [hrem];exact hx.all hz0 (by omega)) (by first | omega | (dsimp only;omega))
   | trace_state
 by_cases hz2:(rd o 0).Qty = z
 ·subst hz2
  have hmd:=fw (c:=(rd o 0).Cost) (p:=(rd o 0).Qty) (n:=(rd o 0).Qty) hg0.2 ⟨by omega,by omega⟩ hg0.1
  have hpl:=dh (k:=(rd o 0).Cost) (q:=(rd o 0).Qty) (n:=(rd o 0).Qty) hg0.2.1 (by omega) (by omega) hg0.1.1
  have hU:upd (upd o 0 ⟨(rd o 0).Account,(rd o 0).Instr,(rd o 0).No,(rd o 0).Qty - (rd o 0).Qty,(rd o 0).Cost⟩) 0 ⟨(rd (upd o 0 ⟨(rd o 0).Account,(rd o 0).Instr,(rd o 0).No,(rd o 0).Qty - (rd o 0).Qty,(rd o 0).Cost⟩) 0).Account,(rd (upd o 0 ⟨(rd o 0).Account,(rd o 0).Instr,(rd o 0).No,(rd o 0).Qty - (rd o 0).Qty,(rd o 0).Cost⟩) 0).Instr,(rd (upd o 0 ⟨(rd o 0).Account,(rd o 0).Instr,(rd o 0).No,(rd o 0).Qty - (rd o 0).Qty,(rd o 0).Cost⟩) 0).No,(rd (upd o 0 ⟨(rd o 0).Account,(rd o 0).Instr,(rd o 0).No,(rd o 0).Qty - (rd o 0).Qty,(rd o 0).Cost⟩) 0).Qty,(rd o 0).Cost - (rd o 0).Cost * (rd o 0).Qty / (rd o 0).Qty⟩ = upd o 0 (reL (rd o 0) ((rd o 0).Qty - (rd o 0).Qty) ((rd o 0).Cost - (rd o 0).Cost * (rd o 0).Qty / (rd o 0).Qty)):=by
   rw [bP ⟨by omega,by omega⟩]
   unfold upd
   rw [List.set_set]
   rfl
  have hUq:(rd (upd (upd o 0 ⟨(rd o 0).Account,(rd o 0).Instr,(rd o 0).No,(rd o 0).Qty - (rd o 0).Qty,(rd o 0).Cost⟩) 0 ⟨(rd (upd o 0 ⟨(rd o 0).Account,(rd o 0).Instr,(rd o 0).No,(rd o 0).Qty - (rd o 0).Qty,(rd o 0).Cost⟩) 0).Account,(rd (upd o 0 ⟨(rd o 0).Account,(rd o 0).Instr,(rd o 0).No,(rd o 0).Qty - (rd o 0).Qty,(rd o 0).Cost⟩) 0).Instr,(rd (upd o 0 ⟨(rd o 0).Account,(rd o 0).Instr,(rd o 0).No,(rd o 0).Qty - (rd o 0).Qty,(rd o 0).Cost⟩) 0).No,(rd (upd o 0 ⟨(rd o 0).Account,(rd o 0).Instr,(rd o 0).No,(rd o 0).Qty - (rd o 0).Qty,(rd o 0).Cost⟩) 0).Qty,(rd o 0).Cost - (rd o 0).Cost * (rd o 0).Qty / (rd o 0).Qty⟩) 0).Qty = (rd o 0).Qty - (rd o 0).Qty:=by
   rw [hU,bP ⟨by omega,by omega⟩]
   rfl
  repeat' (first
| intro h9;exfalso;first | contradiction | omega
| apply yds;rfl
| apply yd;rfl
| apply yix;rfl;omega
| apply yle;rfl;(first | omega | (simp only [aF];omega))
| apply zse;rfl;exact tk;(iterate 6 rfl);(first | omega | (simp only [aF];omega));rfl;rfl;rfl;rfl;rfl
| intro _
| refine nv ?_
| apply wct rfl
| apply wcf rfl
| apply ag;rfl
| apply yar;rfl;omega
| refine zdq (id:=22) rfl (by kernel_rfl) [(.p,1),(.p,2),(.p,3),(.p,5),(.p,6),(.p,7),(.p,8),(.o,0),(.l,4),(.l,9),(.p,10)] [4,9] (by kernel_rfl) rfl ?_
| apply yc;rfl;(exact bF (by assumption));rfl;exact fun _ => rfl
| apply ycq;rfl;exact eG;rfl
| fail)
  obtain ⟨u,hu⟩:∃ u,u = upd o 0 (reL (rd o 0) ((rd o 0).Qty - (rd o 0).Qty) ((rd o 0).Cost - (rd o 0).Cost * (rd o 0).Qty / (rd o 0).Qty)):=⟨_,rfl⟩
  have hul:o.length = u.length:=by rw [hu,aF]
  have hs1:=ez (l:=u) (a:=0) (b:=0) ⟨by omega,by omega,by omega⟩
  have hs2:=ez (l:=u) (a:=0 + 1) (b:=u.length) ⟨by omega,by omega,by omega⟩
  have hrem:=rq hu ⟨by omega,by omega⟩
  rw [hU,← hu,hul]
  repeat' (first
| apply yds;rfl
| apply yd;rfl
| refine nv ?_
| apply yar;rfl;omega
| apply ysl;rfl;omega
| apply aG (α:=Lot) (e:=137);rfl
| apply yap;rfl;(((try simp only [lE,lM]);(try dsimp only);omega))
| fail)
  all_goals first
   | exact aA ((rd o 0).Qty - (rd o 0).Qty,k + (rd o 0).Cost * (rd o 0).Qty / (rd o 0).Qty,[] ++ sub u 0 0 ++ sub u (0 + 1) u.length) [0,8,2] ⟨rfl,rfl,rfl,rfl,rfl,rfl,rfl,rfl⟩ (by dsimp only;rw [hrem];exact hx.all hz0 (by omega)) (by first | omega | (dsimp only;omega))
   | trace_state
 ·
  have hmd:=fw (c:=(rd o 0).Cost) (p:=z) (n:=(rd o 0).Qty) hg0.2 ⟨by omega,by omega⟩ hg0.1
  have hpl:=dh (k:=(rd o 0).Cost) (q:=z) (n:=(rd o 0).Qty) hg0.2.1 (by omega) (by omega) hg0.1.1
  have hU:upd (upd o 0 ⟨(rd o 0).Account,(rd o 0).Instr,(rd o 0).No,(rd o 0).Qty - z,(rd o 0).Cost⟩) 0 ⟨(rd (upd o 0 ⟨(rd o 0).Account,(rd o 0).Instr,(rd o 0).No,(rd o 0).Qty - z,(rd o 0).Cost⟩) 0).Account,(rd (upd o 0 ⟨(rd o 0).Account,(rd o 0).Instr,(rd o 0).No,(rd o 0).Qty - z,(rd o 0).Cost⟩) 0).Instr,(rd (upd o 0 ⟨(rd o 0).Account,(rd o 0).Instr,(rd o 0).No,(rd o 0).Qty - z,(rd o 0).Cost⟩) 0).No,(rd (upd o 0 ⟨(rd o 0).Account,(rd o 0).Instr,(rd o 0).No,(rd o 0).Qty - z,(rd o 0).Cost⟩) 0).Qty,(rd o 0).Cost - (rd o 0).Cost * z / (rd o 0).Qty⟩ = upd o 0 (reL (rd o 0) ((rd o 0).Qty - z) ((rd o 0).Cost - (rd o 0).Cost * z / (rd o 0).Qty)):=by
   rw [bP ⟨by omega,by omega⟩]
   unfold upd
   rw [List.set_set]
   rfl
  have hUq:(rd (upd (upd o 0 ⟨(rd o 0).Account,(rd o 0).Instr,(rd o 0).No,(rd o 0).Qty - z,(rd o 0).Cost⟩) 0 ⟨(rd (upd o 0 ⟨(rd o 0).Account,(rd o 0).Instr,(rd o 0).No,(rd o 0).Qty - z,(rd o 0).Cost⟩) 0).Account,(rd (upd o 0 ⟨(rd o 0).Account,(rd o 0).Instr,(rd o 0).No,(rd o 0).Qty - z,(rd o 0).Cost⟩) 0).Instr,(rd (upd o 0 ⟨(rd o 0).Account,(rd o 0).Instr,(rd o 0).No,(rd o 0).Qty - z,(rd o 0).Cost⟩) 0).No,(rd (upd o 0 ⟨(rd o 0).Account,(rd o 0).Instr,(rd o 0).No,(rd o 0).Qty - z,(rd o 0).Cost⟩) 0).Qty,(rd o 0).Cost - (rd o 0).Cost * z / (rd o 0).Qty⟩) 0).Qty = (rd o 0).Qty - z:=by
   rw [hU,bP ⟨by omega,by omega⟩]
   rfl
  repeat' (first
| intro h9;exfalso;first | contradiction | omega
| apply yds;rfl
| apply yd;rfl
| apply yix;rfl;omega
| apply yle;rfl;(first | omega | (simp only [aF];omega))
| apply zse;rfl;exact tk;(iterate 6 rfl);(first | omega | (simp only [aF];omega));rfl;rfl;rfl;rfl;rfl
| intro _
| refine nv ?_
| apply wct rfl
| apply wcf rfl
| apply ag;rfl
| apply yar;rfl;omega
| apply yc;rfl;(exact bF (by assumption));rfl;exact fun _ => rfl
| apply ycq;rfl;exact eG;rfl
| fail)
  obtain ⟨u,hu⟩:∃ u,u = upd o 0 (reL (rd o 0) ((rd o 0).Qty - z) ((rd o 0).Cost - (rd o 0).Cost * z / (rd o 0).Qty)):=⟨_,rfl⟩
  have hul:o.length = u.length:=by rw [hu,aF]
  rw [hU,← hu,hul]
  all_goals first
   | exact aA (z - z,k + (rd o 0).Cost * z / (rd o 0).Qty,u) [0,1,2] ⟨rfl,rfl,rfl,rfl,rfl,rfl,rfl,rfl⟩ (by dsimp only;rw [hu,wg hop];exact hx.part hz0 (by omega)) (by first | omega | (dsimp only;omega))
   | trace_state
end
section
open Go.RowKit
theorem x9 {α:Type} {l:List α} {q:α → Prop} (h:∀ x ∈ l,¬ q x):fIx l q = l.length:=by
 unfold fIx
 rw [List.findIdx_eq_length.2 (fun x hx => tJ (h x hx))]
noncomputable def d9 (l:List Lot) (x:Lot):List Lot × Int :=
 sel (¬ (LotsOk l ∧ kY x.Account x.Instr x.No x.Qty x.Cost)) ([],1) (sel (¬ LotsOk (mrg l [x])) (l,3) (mrg l [x],0))
section
variable {l:List Lot} {x:Lot}
theorem B3 (h:¬ (LotsOk l ∧ kY x.Account x.Instr x.No x.Qty x.Cost)):d9 l x = ([],1):=by rw [d9,ap h]
theorem B4 (h:LotsOk l ∧ kY x.Account x.Instr x.No x.Qty x.Cost) (h2:¬ LotsOk (mrg l [x])):d9 l x = (l,3):=by rw [d9,a8 (fun k => k h),ap h2]
theorem B2 (h:LotsOk l ∧ kY x.Account x.Instr x.No x.Qty x.Cost) (h2:LotsOk (mrg l [x])):d9 l x = (mrg l [x],0):=by rw [d9,a8 (fun k => k h),a8 (fun k => k h2)]
theorem xS:LotsOk [x] ↔ kY x.Account x.Instr x.No x.Qty x.Cost:=by
 constructor
 ·intro h
  exact (h.1.1 0 (by omega) (by simp)).1
 ·intro h
  refine ⟨⟨fun i h0 h1 => ?_,by simp⟩,fun y hy => ?_⟩
  ·have e:i = 0:=by simp only [List.length_cons,List.length_nil] at h1;omega
   subst e
   exact ⟨h,fun k => by omega⟩
  ·rw [List.mem_singleton] at hy
   subst hy
   rw [nX]
   have h':=h
   unfold kY inP at h'
   unfold sQ sC
   rw [dx,dx]
   unfold ak inP
   omega
end
theorem qI {l:List Lot} {a c n q k:Int}:FC Tryz.prog 226 [.c (.row 0 0 l.length),.agg [.sc (.int .i64 a),.sc (.int .i64 c),.sc (.int .i64 n),.sc (.int .i64 q),.sc (.int .i64 k)]] ([ro 137 l]) (.tup [.c (.row 1 0 (d9 l ⟨a,c,n,q,k⟩).1.length),I (d9 l ⟨a,c,n,q,k⟩).2]) ([ro 137 l,ow 137 (d9 l ⟨a,c,n,q,k⟩).1]):=by
 refine al tk 44 [.tmp 4,.tmp 5] Tryz.func226 (by kernel_rfl) rfl rfl rfl rfl rfl rfl rfl ?_
 have hone:=xS (x:=⟨a,c,n,q,k⟩)
 dsimp only at hone
 by_cases hok:LotsOk l ∧ kY a c n q k
 rotate_left
 ·
  rw [B3 hok]
  repeat' (first
| intro h9;exact absurd ⟨by assumption,hone.1 (by assumption)⟩ hok
| apply d5 (d:=4) 137 5;rfl;rfl;rfl
| apply yd;rfl
| intro _
| refine nv ?_
| apply wct rfl
| apply aG (α:=Lot) (e:=137);rfl
| apply ycp;rfl;exact bD;rfl
| fail)
  all_goals first | exact ai [0,3] rfl rfl rfl rfl rfl rfl | exact ai [0,4] rfl rfl rfl rfl rfl rfl
 have hx:=hone.2 hok.2
 obtain ⟨h1,h2⟩:=id hok
 have hll:=h1.1.2
 have hnn:=bW l (fun y => ¬ lb2 y ⟨a,c,n,q,k⟩)
 repeat' (first
| intro h9;exfalso;contradiction
| apply yds;rfl
| apply yd;rfl
| intro _
| refine nv ?_
| apply wcf rfl
| apply aG (α:=Lot) (e:=137);rfl
| apply ycp;rfl;exact bD;rfl
| fail)
 refine wlp (X:=Int) [0,3] [0,1] (fun i => [(6,I i)]) (fun _ => []) (fun i => (0 ≤ i ∧ i ≤ l.length) ∧ ∀ j:Int,0 ≤ j → j < i → ¬ (fun y => ¬ lb2 y ⟨a,c,n,q,k⟩) (rd l j)) (fun i => (l.length - i).toNat) 0 ⟨⟨by omega,by omega⟩,fun j h0 h1 => by omega⟩ rfl rfl (fun _ => rfl) (fun _ => rfl) ⟨rfl,rfl,rfl,rfl,rfl,rfl,rfl,rfl⟩ (fun i hi => ?_)
 obtain ⟨h0,hall⟩:=hi
 by_cases hil:i < l.length ∧ lb2 (rd l i) ⟨a,c,n,q,k⟩
 ·have hcm:fM (rd l i).Account (rd l i).Instr (rd l i).No a c n < 0:=lotCmp_lt.2 hil.2
  repeat' (first
| intro h9;exfalso;first | contradiction | omega
| apply yds;rfl
| apply yd;rfl
| intro _
| refine nv ?_
| apply wct rfl
| apply ag;rfl
| apply yar;rfl;omega
| apply yix;rfl;omega
| apply yle;rfl;omega
| refine zdq (id:=4) rfl (by kernel_rfl) [(.p,0),(.p,1),(.p,2),(.p,3),(.p,4),(.p,5),(.p,6),(.p,7),(.t,8),(.t,9),(.o,10),(.p,11),(.p,12)] [] (by kernel_rfl) rfl ?_
| apply yc;rfl;exact ed;rfl;exact fun _ => rfl
| fail)
  all_goals first
   | exact aA (i + 1) [0,1] ⟨rfl,rfl,rfl,rfl,rfl,rfl,rfl,rfl⟩ ⟨⟨by omega,by omega⟩,ay hall (fun k => k hil.2)⟩ (by first | omega | (dsimp only;omega))
   | trace_state
 have hcm:¬ i < l.length ∨ ¬ fM (rd l i).Account (rd l i).Instr (rd l i).No a c n < 0:=by
  by_cases e:i < l.length
  ·exact .inr (fun k => hil ⟨e,lotCmp_lt.1 k⟩)
  ·exact .inl e
 have e:fIx l (fun y => ¬ lb2 y ⟨a,c,n,q,k⟩) = i:=by
  by_cases e:i < l.length
  ·exact dZ ⟨h0.1,e⟩ hall (fun k => hil ⟨e,k⟩)
  ·have hno:=eS (q:=fun y => ¬ lb2 y ⟨a,c,n,q,k⟩) e hall
   rw [x9 (fun y hy k => hno ⟨y,hy,k⟩)]
   omega
 have hm:mrg l [⟨a,c,n,q,k⟩] = ins l i ⟨a,c,n,q,k⟩:=by rw [zG,e]
 by_cases hok2:LotsOk (mrg l [⟨a,c,n,q,k⟩])
 ·rw [B2 hok hok2]
  rw [hm] at hok2 ⊢
  repeat' (first
| intro h9;exfalso;first | contradiction | omega
| apply yds;rfl
| apply yd;rfl
| intro _
| refine nv ?_
| apply wcf rfl
| apply ae rfl
| apply ag;rfl
| apply yix;rfl;omega
| apply yle;rfl;omega
| apply aG (α:=Lot) (e:=137);rfl
| refine zdq (id:=4) rfl (by kernel_rfl) [(.p,0),(.p,1),(.p,2),(.p,3),(.p,4),(.p,5),(.p,6),(.p,7),(.t,8),(.t,9),(.o,10),(.p,11),(.p,12)] [] (by kernel_rfl) rfl ?_
| refine rO (id:=6) rfl (by kernel_rfl) [(.p,0),(.p,2),(.t,3)] 1 4 [(.o,4),(.l,5),(.p,6)] [(.o,1),(.l,5),(.p,6)] [5] (by kernel_rfl) rfl rfl rfl ?_
| apply fv
| apply ycp;rfl;exact bD;rfl
| apply yc;rfl;exact ed;rfl;exact fun _ => rfl
| apply ycf;rfl;exact bj (by omega);rfl
| apply ycw  [true,true];rfl;exact gE (by omega) (by omega);rfl
| fail)
  all_goals exact ai [0,4] rfl rfl rfl rfl rfl rfl
 ·rw [B4 hok hok2]
  rw [hm] at hok2
  repeat' (first
| intro h9;exfalso;first | contradiction | omega
| apply yds;rfl
| apply yd;rfl
| intro _
| refine nv ?_
| apply wct rfl
| apply wcf rfl
| apply ae rfl
| apply ag;rfl
| apply yix;rfl;omega
| apply yle;rfl;omega
| apply aG (α:=Lot) (e:=137);rfl
| refine zdq (id:=4) rfl (by kernel_rfl) [(.p,0),(.p,1),(.p,2),(.p,3),(.p,4),(.p,5),(.p,6),(.p,7),(.t,8),(.t,9),(.o,10),(.p,11),(.p,12)] [] (by kernel_rfl) rfl ?_
| refine rO (id:=6) rfl (by kernel_rfl) [(.p,0),(.p,2),(.t,3)] 1 4 [(.o,4),(.l,5),(.p,6)] [(.o,1),(.l,5),(.p,6)] [5] (by kernel_rfl) rfl rfl rfl ?_
| apply fv
| apply ycp;rfl;exact bD;rfl
| apply yc;rfl;exact ed;rfl;exact fun _ => rfl
| apply ycf;rfl;exact bj (by omega);rfl
| apply ycw  [true,true];rfl;exact gE (by omega) (by omega);rfl
| fail)
  all_goals exact ai [0,5] rfl rfl rfl rfl rfl rfl
theorem rK {l:List Lot} {a c n q k:Int}:FC Tryz.prog 264 [.c (.row 0 0 l.length),.agg [.sc (.int .i64 a),.sc (.int .i64 c),.sc (.int .i64 n),.sc (.int .i64 q),.sc (.int .i64 k)]] ([ro 137 l]) (.tup [.c (.row 1 0 (d9 l ⟨a,c,n,q,k⟩).1.length),I (d9 l ⟨a,c,n,q,k⟩).2]) ([ro 137 l,ow 137 (d9 l ⟨a,c,n,q,k⟩).1]):=by
 refine al tk 27 [.tmp 4,.tmp 5] Tryz.func264 (by kernel_rfl) rfl rfl rfl rfl rfl rfl rfl ?_
 by_cases hok:LotsOk l ∧ kY a c n q k
 rotate_left
 ·
  rw [B3 hok]
  repeat' (first
| intro h9;exact absurd ⟨by assumption,by assumption⟩ hok
| apply yd;rfl
| intro _
| refine nv ?_
| apply wct rfl
| apply aG (α:=Lot) (e:=137);rfl
| apply ycp;rfl;(first | exact bJ | exact fA);rfl
| fail)
  all_goals exact ai [0,2] rfl rfl rfl rfl rfl rfl
 obtain ⟨h1,h2⟩:=id hok
 have hll:=h1.1.2
 have hml:=rf l [⟨a,c,n,q,k⟩]
 by_cases hok2:LotsOk (mrg l [⟨a,c,n,q,k⟩])
 ·rw [B2 hok hok2]
  repeat' (first
| intro h9;exfalso;contradiction
| apply yds;rfl
| apply yd;rfl
| intro _
| refine nv ?_
| apply wcf rfl
| apply aG (α:=Lot) (e:=137);rfl
| apply ycp;rfl;(first | exact bJ | exact fA);rfl
| apply ycf;rfl;exact da (by omega) (by (simp only [List.length_cons,List.length_nil];omega));rfl
| fail)
  all_goals exact ai [0,3] rfl rfl rfl rfl rfl rfl
 ·rw [B4 hok hok2]
  repeat' (first
| intro h9;exfalso;contradiction
| apply yds;rfl
| apply yd;rfl
| intro _
| refine nv ?_
| apply wct rfl
| apply wcf rfl
| apply aG (α:=Lot) (e:=137);rfl
| apply yap;rfl;(((try simp only [lE,lM]);(try dsimp only);omega))
| apply ycp;rfl;(first | exact bJ | exact fA);rfl
| apply ycf;rfl;exact da (by omega) (by (simp only [List.length_cons,List.length_nil];omega));rfl
| fail)
  all_goals exact ai [0,5] rfl rfl rfl rfl rfl rfl
end
end Go.Proofs.YtgehbhkfehmdkaaGreat.Sh
