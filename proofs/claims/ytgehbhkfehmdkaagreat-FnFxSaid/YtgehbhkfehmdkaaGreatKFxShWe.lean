/- Weights and what they get: both sides. No condition. -/
import Derived.Test.YtgehbhkfehmdkaaGreatKFxShV
import Derived.Test.YtgehbhkfehmdkaaGreatKFxShSo
import Derived.Test.YtgehbhkfehmdkaaGreatKFxShMu
import Derived.Test.YtgehbhkfehmdkaaGreatKFxShBo
import Derived.Test.YtgehbhkfehmdkaaGreatKFxShLo
import Derived.Test.YtgehbhkfehmdkaaGreatKFxShDr
set_option maxRecDepth 100000
set_option maxHeartbeats 40000000
set_option linter.unusedSimpArgs false
set_option linter.unusedVariables false
namespace Go.Proofs.YtgehbhkfehmdkaaGreat.Sh
section
open Go.RowKit
theorem xf {l:List Int} (h:∀ x ∈ l,inP x 0 1000000000000000) {i:Int} (hi:0 ≤ i ∧ i ≤ l.length):-1000000000000000 * i ≤ ak id (pf l i) ∧ ak id (pf l i) ≤ 1000000000000000 * i:=eC (fun x hx => by have:=h x hx;unfold inP at this;show -1000000000000000 ≤ x ∧ x ≤ 1000000000000000;omega) hi
theorem shareable.md {t i:Int} {ws:List Int} (h:shareable t ws) (hi:0 ≤ i ∧ i < ws.length):cO t (rd ws i) (ak id ws):=⟨h.2,h.1.2.1 _ (az hi),h.1.2.2,Int.le_trans (h.q (az hi)).2 h.2.2⟩
theorem lv {ws:List Int} (hb:∀ x ∈ ws,inP x 0 1000000000000000) (hl:(ws.length:Int) ≤ 1000):FC Tryz.prog 303 [.c (.row 0 0 ws.length)] ([ro 3 ws]) (I (ak id ws)) ([ro 3 ws]):=by
 refine ay tk 18 [.tmp 2] Tryz.func303 (by kernel_rfl) rfl rfl rfl rfl rfl rfl rfl ?_
 repeat' (first
| apply yd;rfl
| refine nv ?_
| fail)
 refine wlp (X:=Int × Int) [0] [0] (fun x => [(4,I x.1),(3,I x.2)]) (fun _ => []) (fun x => (0 ≤ x.1 ∧ x.1 ≤ ws.length) ∧ x.2 = ak id (pf ws x.1)) (fun x => (ws.length - x.1).toNat) (0,0) ⟨by dsimp only;omega,rfl⟩ rfl rfl (fun _ => rfl) (fun _ => rfl) ⟨rfl,rfl,rfl,rfl,rfl,rfl,rfl,rfl⟩ (fun x hx => ?_)
 obtain ⟨i,n⟩:=x
 obtain ⟨h0,hn⟩:=hx
 dsimp only at h0 hn ⊢
 have hbd:=xf hb h0
 rw [← hn] at hbd
 have hm:=fun (h:i < ws.length) => (by have:=hb _ (az ⟨h0.1,h⟩);unfold inP at this;exact this:0 ≤ rd ws i ∧ rd ws i ≤ 1000000000000000)
 repeat' (first
| apply yds;rfl
| apply yd;rfl
| apply yar;rfl;(have h1:=hm (by assumption);omega)
| intro _
| refine nv ?_
| apply wct rfl
| apply wcf rfl
| apply ah rfl
| apply aj;rfl
| apply yix;rfl;omega
| apply yle;rfl;omega
| fail)
 all_goals first
  | exact aB (i + 1,_) [0] ⟨rfl,rfl,rfl,rfl,rfl,rfl,rfl,rfl⟩ ⟨by dsimp only;omega,by dsimp only;rw [cq ⟨h0.1,by assumption⟩,hn];rfl⟩ (by first | omega | (dsimp only;omega))
  | (rw [b8 (by assumption)] at hn
     exact cW [0] rfl rfl rfl rfl rfl rfl hn.symm)
  | trace_state
theorem eB {ws:List Int}:FC Tryz.prog 242 [.c (.row 0 0 ws.length)] ([ro 3 ws]) (B (dB (mw ws))) ([ro 3 ws]):=by
 refine ay tk 23 [.tmp 2] Tryz.func242 (by kernel_rfl) rfl rfl rfl rfl rfl rfl rfl ?_
 repeat' (first
| apply yds;rfl
| apply yd;rfl
| intro _
| refine nv ?_
| apply wct rfl
| apply wcf rfl
| apply ycp;rfl;exact aF;rfl
| fail)
 all_goals first | exact aV [0] rfl rfl rfl rfl rfl rfl (fun k => absurd k.1 (by assumption)) | skip
 have hlen:inP (ws.length:Int) 1 40:=by assumption
 have hln:(ws.length:Int) ≤ 40:=hlen.2
 refine wlp (X:=Int) [0] [0] (fun i => [(3,I i)]) (fun _ => []) (fun i => 0 ≤ i ∧ i ≤ ws.length ∧ ∀ j:Int,0 ≤ j → j < i → inP (rd ws j) 0 1000000000000000) (fun i => (ws.length - i).toNat) 0 ⟨by omega,by omega,fun j h0 h1 => by omega⟩ rfl rfl (fun _ => rfl) (fun _ => rfl) ⟨rfl,rfl,rfl,rfl,rfl,rfl,rfl,rfl⟩ (fun i hi => ?_)
 obtain ⟨h0,hi,hall⟩:=hi
 by_cases hil:i < ws.length
 ·
  repeat' (first
| apply yds;rfl
| apply yd;rfl
| intro _
| refine nv ?_
| apply wct rfl
| apply wcf rfl
| apply ah rfl
| apply aj;rfl
| apply yar;rfl;omega
| apply yix;rfl;omega
| apply yle;rfl;omega
| apply ycp;rfl;exact aA;rfl
| fail)
  all_goals first
   | exact aB (i + 1) [0] ⟨rfl,rfl,rfl,rfl,rfl,rfl,rfl,rfl⟩ ⟨by omega,by omega,ax hall (by assumption)⟩ (by first | omega | (dsimp only;omega))
   | exact aV [0] rfl rfl rfl rfl rfl rfl (fun k => absurd (k.2.1 _ (az ⟨h0,hil⟩)) (by assumption))
   | (exfalso;contradiction)
   | trace_state
 ·have hb:∀ x ∈ ws,inP x 0 1000000000000000:=fun x hx => by
   obtain ⟨j,hj,rfl⟩:=bj hx
   exact hall j hj.1 (by omega)
  repeat' (first
| apply yds;rfl
| apply yd;rfl
| intro _
| refine nv ?_
| apply wct rfl
| apply wcf rfl
| apply ah rfl
| apply aj;rfl
| apply yar;rfl;omega
| apply yix;rfl;omega
| apply yle;rfl;omega
| apply ycp;rfl;exact aA;rfl
| apply yc;rfl;exact lv (by assumption) (by unfold inP at *;omega);rfl;exact fun _ => rfl
| fail)
  all_goals first
   | exact bG [0] rfl rfl rfl rfl rfl rfl ⟨hlen,hb,by assumption⟩
   | exact aV [0] rfl rfl rfl rfl rfl rfl (fun k => absurd k.2.2 (by assumption))
   | (exfalso;contradiction)
   | trace_state
theorem fR {t i:Int} {ws:List Int} (h:shareable t ws) (hi:0 ≤ i ∧ i < ws.length):FC Tryz.prog 243 [I t,.c (.row 0 0 ws.length),I i] ([ro 3 ws]) (.tup [I (t * rd ws i / ak id ws),I (t * rd ws i % ak id ws),B true]) ([ro 3 ws]):=by
 refine ay tk 36 [.tmp 6,.tmp 7,.tmp 8] Tryz.func243 (by kernel_rfl) rfl rfl rfl rfl rfl rfl rfl ?_
 have hw:=h.1
 have ht:=h.2
 have hb:=h.1.2.1
 have hmd:=h.md hi
 have hln:=h.1.1
 have hii:inP i 0 (ws.length - 1):=⟨by omega,by omega⟩
 unfold inP at hln
 repeat' (first
| intro h9;exfalso;contradiction
| apply yds;rfl
| apply yd;rfl
| intro _
| refine nv ?_
| apply wcf rfl
| apply yar;rfl;omega
| apply yix;rfl;omega
| apply yle;rfl;omega
| refine zdq (id:=3) rfl (by kernel_rfl) [(.p,0),(.p,1),(.p,2),(.p,3),(.p,5),(.t,4),(.o,6),(.o,7),(.p,8),(.p,9),(.p,10),(.p,11),(.p,12),(.p,13)] [] (by kernel_rfl) rfl ?_
| apply ycp;rfl;(first | exact eB | exact aA | exact aF);rfl
| apply yc;rfl;(first | exact lv (by assumption) (by unfold inP at *;omega) | exact b5 (by assumption));rfl;exact fun _ => rfl
| fail)
 all_goals exact au [0] rfl rfl rfl rfl rfl rfl
end
section
open Go.RowKit
noncomputable def stb (g:Int → Int) (l:List Int) (a b:Int):List Int:=@dite _ (∃ l',Mv l l' a b ∧ RS g l' a b) (Classical.propDecidable _) (fun h => Classical.choose h) (fun _ => l)
theorem yq {g:Int → Int} {l:List Int} {a b:Int} (h:∃ l',Mv l l' a b ∧ RS g l' a b):Mv l (stb g l a b) a b ∧ RS g (stb g l a b) a b:=by
 rw [stb,dif_pos h]
 exact Classical.choose_spec h
def Rng (l:List Int) (n:Nat):Prop:=∀ i:Int,0 ≤ i → i < l.length → 0 ≤ rd l i ∧ rd l i < n
theorem Rng.mv {l u:List Int} {n:Nat} {a b:Int} (h:Rng l n) (hm:Mv l u a b) (h0:0 ≤ a) (hb:b ≤ l.length):Rng u n:=fun i i0 i1 => by
 rw [hm.len] at i1
 by_cases c:a ≤ i ∧ i < b
 ·obtain ⟨j,hj,e⟩:=hm.to i c.1 c.2
  rw [e]
  exact h j (by omega) (by omega)
 ·rw [hm.out i i0 c]
  exact h i i0 i1
end
section
open Go.RowKit
theorem uR (g:Int → Int):ed g 0 = []:=List.length_eq_zero_iff.1 (iW g 0)
theorem iU {α:Type} {f:Int → α} {i:Int} (h:0 ≤ i):mkl (i + 1).toNat f = mkl i.toNat f ++ [f i]:=by
 rw [show (i + 1).toNat = i.toNat + 1 from by omega]
 unfold mkl
 rw [List.range_succ,List.map_append]
 show _ ++ [f (i.toNat:Int)] = _
 rw [Int.toNat_of_nonneg h]
theorem wA {u v:List Int} {p:Int} (h:0 ≤ p ∧ p < u.length):rd (u ++ v) p = rd u p:=by
 unfold rd
 rw [List.getD_eq_getElem?_getD,List.getD_eq_getElem?_getD,List.getElem?_append_left (by omega)]
theorem vR {u:List Int} {k x:Int} (h:0 ≤ k ∧ k ≤ u.length):[] ++ sub u 0 k ++ [x] ++ sub u k u.length = ins u k x:=by
 unfold sub ins
 rw [List.nil_append,Int.toNat_natCast,List.take_length]
 simp
theorem jY {t:Int} {ws:List Int} (h:shareable t ws):FC Tryz.prog 244 [I t,.c (.row 0 0 ws.length)] ([ro 3 ws]) (.c (.row 1 0 (fa t ws).length)) ([ro 3 ws,ow 3 (fa t ws)]):=by
 refine ay tk 75 [.tmp 4] Tryz.func244 (by kernel_rfl) rfl rfl rfl rfl rfl rfl rfl ?_
 have hw:=h.1
 have ht:=h.2
 have hln:(1:Int) ≤ ws.length ∧ (ws.length:Int) ≤ 40:=h.1.1
 repeat' (first
| intro h9;exfalso;contradiction
| apply yds;rfl
| apply yd;rfl
| intro _
| refine nv ?_
| apply wcf rfl
| apply aH (α:=Int) (e:=3);rfl
| apply ycp;rfl;(first | exact eB | exact aA);rfl
| fail)
 refine wlp (X:=Int × List Int × List Int) [0,1] [0,1,2] (fun x => [(7,I x.1),(5,.c (.row 1 0 x.2.1.length)),(6,.c (.row 2 0 x.2.2.length))]) (fun x => [(1,ow 3 x.2.1),(2,ow 3 x.2.2)]) (fun x => (0 ≤ x.1 ∧ x.1 ≤ ws.length) ∧ x.2.1 = ed (shG t ws) x.1.toNat ∧ x.2.2 = mkl x.1.toNat (shG t ws)) (fun x => (ws.length - x.1).toNat) (0,[],[]) ⟨by dsimp only;omega,(uR _).symm,rfl⟩ rfl rfl (fun _ => rfl) (fun _ => rfl) ⟨rfl,rfl,rfl,rfl,rfl,rfl,rfl,rfl⟩ (fun x hx => ?_)
 obtain ⟨i,u,v⟩:=x
 obtain ⟨h0,hu,hv⟩:=hx
 dsimp only at h0 hu hv ⊢
 by_cases hil:i < ws.length
 rotate_left
 ·
  repeat' (first
| intro h9;exfalso;contradiction
| apply yds;rfl
| intro _
| refine nv ?_
| apply wcf rfl
| apply ah rfl
| apply aj;rfl
| fail)
  all_goals
   rw [show u = fa t ws from by rw [hu,fa,show i.toNat = ws.length from by omega]]
   exact au [0,1] rfl rfl rfl rfl rfl rfl
 have hul:(u.length:Int) = i:=by rw [hu,iW];omega
 have hvl:(v.length:Int) = i:=by rw [hv,gP];omega
 have hv2:v ++ [t * rd ws i % ak id ws] = mkl (i + 1).toNat (shG t ws):=by rw [iU h0.1,← hv];rfl
 have hrng:=fun (p:Int) (h1:0 ≤ p) (h2:p < i) => (by rw [hu];have:=gw (g:=shG t ws) (n:=i.toNat) (i:=p) ⟨h1,by omega⟩;omega:0 ≤ rd u p ∧ rd u p < i)
 have hrd:=fun (p:Int) (h1:0 ≤ p) (h2:p < i) => (by rw [wA (by have:=hrng p h1 h2;omega),hv,fF (by have:=hrng p h1 h2;omega)]:rd (v ++ [t * rd ws i % ak id ws]) (rd u p) = shG t ws (rd u p))
 repeat' (first
| intro h9;exfalso;contradiction
| apply yds;rfl
| apply yd;rfl
| intro _
| refine nv ?_
| apply wct rfl
| apply aj;rfl
| apply aH (α:=Int) (e:=3);rfl
| apply yap;rfl;(((try simp only [lE,lM]);(try dsimp only);omega))
| apply yc;rfl;exact fR (by assumption) (by omega);rfl;exact fun _ => rfl
| fail)
 refine wlp (X:=Int) [0,1,5,7,9] [0,1,4] (fun k => [(11,I k),(6,.c (.row 2 0 (v ++ [t * rd ws i % ak id ws]).length))]) (fun _ => []) (fun k => (0 ≤ k ∧ k ≤ i) ∧ ∀ p:Int,k ≤ p → p < i → shG t ws (rd u p) < t * rd ws i % ak id ws) (fun k => k.toNat) u.length ⟨⟨by omega,by omega⟩,fun p h1 h2 => by omega⟩ rfl rfl (fun _ => rfl) (fun _ => rfl) ⟨rfl,rfl,rfl,rfl,rfl,rfl,rfl,rfl⟩ (fun k hk => ?_)
 obtain ⟨k0,hlow⟩:=hk
 have hr1:=fun (h1:0 < k) => hrng (k - 1) (by omega) (by omega)
 have hr2:=fun (h1:0 < k) => hrd (k - 1) (by omega) (by omega)
 have hs1:=dF (l:=u) (a:=0) (b:=k) ⟨by omega,by omega,by omega⟩
 have hs2:=dF (l:=u) (a:=k) (b:=u.length) ⟨by omega,by omega,by omega⟩
 have e:(i.toNat:Int) = i:=by omega
 have hins:=fun (hq:k = 0 ∨ ¬ rd (v ++ [t * rd ws i % ak id ws]) (rd u (k - 1)) < t * rd ws i % ak id ws) => (by
  have:=sR (g:=shG t ws) (n:=i.toNat) (k:=k) ⟨k0.1,by omega⟩ (by
   rcases hq with q | q
   ·exact .inl q
   ·by_cases hk:k = 0
    ·exact .inl hk
    ·right
     rw [e,← hu,← hr2 (by omega)]
     exact q) (by rw [e,← hu];exact hlow)
  rw [← hu,e,← show (i + 1).toNat = i.toNat + 1 from by omega] at this
  rw [vR (by omega)]
  exact this:[] ++ sub u 0 k ++ [i] ++ sub u k u.length = ed (shG t ws) (i + 1).toNat)
 repeat' (first
| apply yds;rfl
| apply yd;rfl
| intro _
| refine nv ?_
| apply wct rfl
| apply wcf rfl
| apply ah rfl
| apply aj;rfl
| apply yar;rfl;omega
| apply yix;rfl;(first | omega | ((try simp only [lE,lM]);(try dsimp only);omega))
| apply yle;rfl;(first | omega | ((try simp only [lE,lM]);(try dsimp only);omega))
| apply ysl;rfl;omega
| apply aH (α:=Int) (e:=3);rfl
| apply yap;rfl;(((try simp only [lE,lM]);(try dsimp only);omega))
| fail)
 all_goals first
  | exact aB (k - 1) [0,1,2] ⟨rfl,rfl,rfl,rfl,rfl,rfl,rfl,rfl⟩ ⟨by omega,fun p h1 h2 => by
     by_cases hp:p = k - 1
     ·rw [hp,← hr2 (by omega)];assumption
     ·exact hlow p (by omega) h2⟩ (by first | omega | (dsimp only;omega))
  | exact aB (i + 1,[] ++ sub u 0 k ++ [i] ++ sub u k u.length,v ++ [t * rd ws i % ak id ws]) [0,9,2] ⟨rfl,rfl,rfl,rfl,rfl,rfl,rfl,rfl⟩ ⟨by dsimp only;omega,hins (by first | exact .inl (by omega) | exact .inr (by assumption)),hv2⟩ (by first | omega | (dsimp only;omega))
  | trace_state
end
section
open Go.RowKit
def Up (l:List Int) (a b:Int):Prop:=∀ i j:Int,a ≤ i → i < j → j < b → rd l i < rd l j
theorem Up.ds {l:List Int} {a b:Int} (h:Up l a b):DS l a b:=fun i j h0 h1 h2 => by have:=h i j h0 h1 h2;omega
theorem Up.sub {l:List Int} {a b a2 b2:Int} (h:Up l a b) (h0:a ≤ a2) (h1:b2 ≤ b):Up l a2 b2:=fun i j k0 k1 k2 => h i j (by omega) k1 (by omega)
theorem Up.ok {g:Int → Int} {l:List Int} {a b:Int} (h:Up l a b) (h0:0 ≤ a) (hb:b ≤ l.length):Mv l (stb g l a b) a b ∧ RS g (stb g l a b) a b:=yq (vd h0 hb h.ds)
theorem Up.mv {l u:List Int} {a b c:Int} (h:Up l a c) (hm:Mv l u a b) (h0:0 ≤ a ∧ a ≤ b):Up u b c:=fun i j k0 k1 k2 => by
 rw [hm.out i (by omega) (by omega),hm.out j (by omega) (by omega)]
 exact h i j (by omega) k1 k2
end
section
open Go.RowKit
theorem uZ {l:List Int} {f:Int → Int} {i:Int} (h:0 ≤ i ∧ i < l.length):rd (l.map f) i = f (rd l i):=by
 unfold rd
 rw [List.getD_eq_getElem?_getD,List.getD_eq_getElem?_getD,List.getElem?_map,List.getElem?_eq_getElem (by omega:i.toNat < l.length)]
 rfl
theorem rP {t i:Int} {ws:List Int} (h:shareable t ws) (hi:0 ≤ i ∧ i < ws.length):0 ≤ rd (er t ws) i ∧ rd (er t ws) i ≤ 1000000000000000:=by
 rw [er,uZ hi]
 have h1:=h.q (az hi)
 have h2:=h.2.2
 show 0 ≤ t * rd ws i / ak id ws ∧ t * rd ws i / ak id ws ≤ _
 omega
theorem wG {t:Int} {ws:List Int} (h:shareable t ws):∀ x ∈ er t ws,inP x 0 1000000000000000:=fun x hx => by
 obtain ⟨j,hj,rfl⟩:=bj hx
 rw [et] at hj
 exact rP h hj
theorem mt {t i:Int} {ws:List Int} (hi:0 ≤ i ∧ i < ws.length):pf (er t ws) (i + 1) = pf (er t ws) i ++ [t * rd ws i / ak id ws]:=by
 rw [bL (by rw [et];exact hi),er,uZ hi]
 rfl
noncomputable def gU (t:Int) (ws:List Int) (k:Int):List Int:=(pf (fa t ws) k).foldl inc (er t ws)
theorem gp (t:Int) (ws:List Int) (k:Int):(gU t ws k).length = ws.length:=by rw [gU,oN,et]
theorem jo {t:Int} {ws:List Int} {k:Int} (h:0 ≤ k ∧ k < ws.length):gU t ws (k + 1) = upd (gU t ws k) (rd (fa t ws) k) (rd (gU t ws k) (rd (fa t ws) k) + 1):=sB (by rw [ms];exact h)
theorem js {t:Int} {ws:List Int} {k:Int} (h:0 ≤ k ∧ k < ws.length):0 ≤ rd (fa t ws) k ∧ rd (fa t ws) k < ws.length:=gw h
theorem mX {t:Int} {ws:List Int} (h:shareable t ws):∀ k:Nat,(k:Int) ≤ ws.length → ∀ j:Int,0 ≤ j → j < ws.length → 0 ≤ rd (gU t ws k) j ∧ rd (gU t ws k) j ≤ 1000000000000000 + k
 | 0,_,j,h0,h1 => by
   have:=rP h ⟨h0,h1⟩
   show 0 ≤ rd (er t ws) j ∧ rd (er t ws) j ≤ _
   omega
 | k + 1,hk,j,h0,h1 => by
   have ih:=mX h k (by omega)
   have hr:=js (t:=t) (ws:=ws) (k:=k) ⟨by omega,by omega⟩
   have i1:=ih _ hr.1 hr.2
   have i2:=ih j h0 h1
   have e:((k + 1:Nat):Int) = (k:Int) + 1:=by omega
   rw [e,jo ⟨by omega,by omega⟩]
   by_cases c:j = rd (fa t ws) k
   ·rw [c,bC (by rw [gp];exact hr)]
    omega
   ·rw [eo hr.1 h0 c]
    omega
theorem gC {t:Int} {ws:List Int} (h:shareable t ws):FC Tryz.prog 135 [I t,.c (.row 0 0 ws.length)] ([ro 3 ws]) (.tup [.c (.row 1 0 (shs t ws).length),B true]) ([ro 3 ws,ow 3 (shs t ws)]):=by
 refine ay tk 69 [.tmp 4,.tmp 5] Tryz.func135 (by kernel_rfl) rfl rfl rfl rfl rfl rfl rfl ?_
 have hw:=h.1
 have ht:=h.2
 have hln:(1:Int) ≤ ws.length ∧ (ws.length:Int) ≤ 40:=h.1.1
 have htb:0 ≤ t ∧ t ≤ 1000000000000000:=h.2
 repeat' (first
| intro h9;exfalso;contradiction
| apply yds;rfl
| apply yd;rfl
| intro _
| refine nv ?_
| apply wcf rfl
| apply aH (α:=Int) (e:=3);rfl
| apply ycp;rfl;(first | exact eB | exact aA);rfl
| fail)
 refine wlp (X:=Int × List Int × Int) [0,1] [0,1] (fun x => [(8,I x.1),(6,.c (.row 1 0 x.2.1.length)),(7,I x.2.2)]) (fun x => [(1,ow 3 x.2.1)]) (fun x => (0 ≤ x.1 ∧ x.1 ≤ ws.length) ∧ x.2.1 = pf (er t ws) x.1 ∧ x.2.2 = t - ak id (pf (er t ws) x.1)) (fun x => (ws.length - x.1).toNat) (0,[],t) ⟨by dsimp only;omega,rfl,by show t = t - 0;omega⟩ rfl rfl (fun _ => rfl) (fun _ => rfl) ⟨rfl,rfl,rfl,rfl,rfl,rfl,rfl,rfl⟩ (fun x hx => ?_)
 obtain ⟨i,u,n⟩:=x
 obtain ⟨h0,hu,hn⟩:=hx
 dsimp only at h0 hu hn ⊢
 have hul:(u.length:Int) = i:=by rw [hu];exact bO (by rw [et];exact h0)
 have hbd:=xf (wG h) (i:=i) (by rw [et];exact h0)
 by_cases hil:i < ws.length
 ·
  have hq:=h.q (az ⟨h0.1,hil⟩)
  have hu2:u ++ [t * rd ws i / ak id ws] = pf (er t ws) (i + 1):=by rw [mt ⟨h0.1,hil⟩,hu]
  have hn2:n - t * rd ws i / ak id ws = t - ak id (pf (er t ws) (i + 1)):=by
   rw [mt ⟨h0.1,hil⟩,bh,cZ,hn]
   simp only [id]
   omega
  repeat' (first
| intro h9;exfalso;contradiction
| apply yds;rfl
| apply yd;rfl
| intro _
| refine nv ?_
| apply wct rfl
| apply aj;rfl
| apply yar;rfl;omega
| apply aH (α:=Int) (e:=3);rfl
| apply yap;rfl;(((try simp only [lE,lM]);(try dsimp only);omega))
| apply yc;rfl;exact fR (by assumption) (by omega);rfl;exact fun _ => rfl
| fail)
  all_goals first
   | exact aB (i + 1,u ++ [t * rd ws i / ak id ws],n - t * rd ws i / ak id ws) [0,3] ⟨rfl,rfl,rfl,rfl,rfl,rfl,rfl,rfl⟩ ⟨by dsimp only;omega,hu2,hn2⟩ (by first | omega | (dsimp only;omega))
   | trace_state
 have hpa:pf (er t ws) i = er t ws:=b8 (by rw [et];exact hil)
 rw [hpa] at hu hn
 have hn':n = cR t ws:=hn
 have hmo:=h.more
 have hol:=ms t ws
 repeat' (first
| intro h9;exfalso;contradiction
| apply yds;rfl
| apply yd;rfl
| intro _
| refine nv ?_
| apply wcf rfl
| apply ah rfl
| apply aj;rfl
| apply ycf;rfl;exact jY (by assumption);rfl
| fail)
 subst hu
 subst hn'
 refine wlp (X:=Int) [7,12] [0,1,2] (fun k => [(13,I k),(6,.c (.row 1 0 (gU t ws k).length))]) (fun k => [(1,ow 3 (gU t ws k))]) (fun k => 0 ≤ k ∧ k ≤ cR t ws) (fun k => (cR t ws - k).toNat) 0 ⟨by omega,by omega⟩ rfl rfl (fun _ => rfl) (fun _ => rfl) ⟨rfl,rfl,rfl,rfl,rfl,rfl,rfl,rfl⟩ (fun k k0 => ?_)
 have hil2:=gp t ws k
 by_cases hk:k < cR t ws
 ·
  have hr:=js (t:=t) (ws:=ws) (k:=k) ⟨k0.1,by omega⟩
  have hb:=mX h k.toNat (by omega) _ hr.1 hr.2
  rw [show ((k.toNat:Nat):Int) = k from by omega] at hb
  have hU:=(jo (t:=t) (ws:=ws) ⟨k0.1,by omega⟩:gU t ws (k + 1) = _).symm
  have hL:(gU t ws k).length = (gU t ws (k + 1)).length:=by rw [gp,gp]
  repeat' (first
| intro h9;exfalso;contradiction
| apply yds;rfl
| apply yd;rfl
| intro _
| refine nv ?_
| apply wct rfl
| apply aj;rfl
| apply yar;rfl;omega
| apply yix;rfl;omega
| apply yle;rfl;omega
| apply zse;rfl;exact tk;(iterate 6 rfl);omega;rfl;rfl;rfl;rfl;rfl
| refine zdq (id:=15) rfl (by kernel_rfl) [(.p,0),(.p,1),(.p,2),(.p,3),(.p,5),(.p,6),(.p,7),(.p,8),(.t,4),(.t,9),(.p,10),(.t,11),(.p,12),(.p,13),(.l,14)] [14] (by kernel_rfl) rfl ?_
| fail)
  all_goals first
   | (rw [hU,hL]
      exact aB (k + 1) [0,1,2] ⟨rfl,rfl,rfl,rfl,rfl,rfl,rfl,rfl⟩ ⟨by omega,by omega⟩ (by first | omega | (dsimp only;omega)))
   | trace_state
 ·
  obtain rfl:k = cR t ws:=by omega
  repeat' (first
| intro h9;exfalso;contradiction
| apply yds;rfl
| intro _
| refine nv ?_
| apply wcf rfl
| apply ah rfl
| apply aj;rfl
| fail)
  all_goals first
   | exact au [0,1] rfl rfl rfl rfl rfl rfl
   | trace_state
end
end Go.Proofs.YtgehbhkfehmdkaaGreat.Sh
