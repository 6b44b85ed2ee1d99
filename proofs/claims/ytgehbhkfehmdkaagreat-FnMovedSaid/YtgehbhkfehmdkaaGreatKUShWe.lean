/- Weights and what they get: both sides. No condition. -/
import Derived.Test.YtgehbhkfehmdkaaGreatKUShV
import Derived.Test.YtgehbhkfehmdkaaGreatKUShSo
import Derived.Test.YtgehbhkfehmdkaaGreatKUShMu
import Derived.Test.YtgehbhkfehmdkaaGreatKUShBo
import Derived.Test.YtgehbhkfehmdkaaGreatKUShLo
import Derived.Test.YtgehbhkfehmdkaaGreatKUShDr
set_option maxRecDepth 100000
set_option maxHeartbeats 40000000
set_option linter.unusedSimpArgs false
set_option linter.unusedVariables false
namespace Go.Proofs.YtgehbhkfehmdkaaGreat.Sh
section
open Go.RowKit
theorem xg {l:List Int} {p:Int → Prop} (h:¬ ∃ x ∈ l,¬ p x):∀ x ∈ l,p x:=fun x hx => Classical.byContradiction fun k => h ⟨x,hx,k⟩
theorem zk {l:List Int} (h:∀ x ∈ l,inP x 0 1000000000000000) {i:Int} (hi:0 ≤ i ∧ i ≤ l.length):-1000000000000000 * i ≤ ao id (pf l i) ∧ ao id (pf l i) ≤ 1000000000000000 * i:=fY (fun x hx => by have:=h x hx;unfold inP at this;show -1000000000000000 ≤ x ∧ x ≤ 1000000000000000;omega) hi
theorem shareable.md {t i:Int} {ws:List Int} (h:shareable t ws) (hi:0 ≤ i ∧ i < ws.length):fw t (rd ws i) (ao id ws):=⟨h.2,h.1.2.1 _ (aA hi),h.1.2.2,Int.le_trans (h.q (aA hi)).2 h.2.2⟩
theorem nh {n:Int}:FC Tryz.prog 329 [I n] ([]) (B (dB (¬ inP n 0 1000000000000000))) ([]):=by
 refine ax tk 6 [.tmp 2] Tryz.func329 (by kernel_rfl) rfl rfl rfl rfl rfl rfl rfl ?_
 repeat' (first
| apply yds;rfl
| apply yd;rfl
| intro _
| refine nv ?_
| apply ycp;rfl;exact bm;rfl
| fail)
 all_goals first | exact bF [] rfl rfl rfl rfl rfl rfl (by assumption) | exact b5 [] rfl rfl rfl rfl rfl rfl (fun k => k (by assumption))
theorem ja {l:List Int}:FC Tryz.prog 261 [.c (.row 0 0 l.length),.c (.fn 329 [])] ([ro 3 l]) (sel (∃ x ∈ l,¬ inP x 0 1000000000000000) (I (fIx l (fun x => ¬ inP x 0 1000000000000000))) (I (-1))) (sel (∃ x ∈ l,¬ inP x 0 1000000000000000) [ro 3 l] [ro 3 l]):=by
 refine ax tk 19 [.tmp 4] Tryz.func261 (by kernel_rfl) rfl rfl rfl rfl rfl rfl rfl ?_
 refine bX l 0 rfl (fun hl => ?_)
 repeat' (first
| apply yds;rfl
| apply yd;rfl
| refine nv ?_
| fail)
 refine wlp (X:=Int) [0,1,7] [0] (fun i => [(8,I i)]) (fun _ => []) (fun i => 0 ≤ i ∧ i ≤ l.length ∧ ∀ j:Int,0 ≤ j → j < i → ¬ (fun x => ¬ inP x 0 1000000000000000) (rd l j)) (fun i => (l.length - i).toNat) 0 ⟨by omega,by omega,fun j h0 h1 => by omega⟩ rfl rfl (fun _ => rfl) (fun _ => rfl) ⟨rfl,rfl,rfl,rfl,rfl,rfl,rfl,rfl⟩ (fun i hi => ?_)
 obtain ⟨h0,hi,hall⟩:=hi
 skip
 repeat' (first
| apply yds;rfl
| apply yd;rfl
| apply ycp;rfl;exact nh;rfl
| intro _
| refine nv ?_
| apply wct rfl
| apply wcf rfl
| apply ah rfl
| apply ai;rfl
| apply yar;rfl;omega
| apply yix;rfl;omega
| apply yle;rfl;omega
| fail)
 all_goals first
  | (refine dP (X':=I i) (hs':=[ro 3 l]) [0] rfl rfl rfl rfl rfl rfl ?_ ?_
     ·rw [au ⟨rd l i,aA ⟨by omega,by omega⟩,by assumption⟩,fD ⟨by omega,by omega⟩ hall (by assumption)]
     ·rw [au ⟨rd l i,aA ⟨by omega,by omega⟩,by assumption⟩])
  | exact bQ (iw (by assumption) hall) [0] rfl rfl rfl rfl rfl rfl
  | exact aB (i + 1) [0] ⟨rfl,rfl,rfl,rfl,rfl,rfl,rfl,rfl⟩ ⟨by omega,by omega,aD hall (by assumption)⟩ (by first | omega | (dsimp only;omega))
theorem ic {l:List Int}:FC Tryz.prog 161 [.c (.row 0 0 l.length),.c (.fn 329 [])] ([ro 3 l]) (B (dB (∃ x ∈ l,¬ inP x 0 1000000000000000))) ([ro 3 l]):=by
 refine ax tk 9 [.tmp 4] Tryz.func161 (by kernel_rfl) rfl rfl rfl rfl rfl rfl rfl ?_
 have hn:=bY l (fun x => ¬ inP x 0 1000000000000000)
 repeat' (first
| apply yds;rfl
| apply yd;rfl
| intro _
| refine nv ?_
| apply ai;rfl
| apply zcs;(iterate 10 rfl);exact ja;exact fun _ => rfl;exact fun _ => rfl;rfl;rfl;rfl;rfl
| fail)
 all_goals first
  | exact bF [0] rfl rfl rfl rfl rfl rfl (by assumption)
  | exact b5 [0] rfl rfl rfl rfl rfl rfl (by assumption)
  | (exfalso;omega)
theorem jn {ws:List Int} (hb:∀ x ∈ ws,inP x 0 1000000000000000) (hl:(ws.length:Int) ≤ 1000):FC Tryz.prog 139 [.c (.row 0 0 ws.length)] ([ro 3 ws]) (I (ao id ws)) ([ro 3 ws]):=by
 refine ax tk 17 [.tmp 2] Tryz.func139 (by kernel_rfl) rfl rfl rfl rfl rfl rfl rfl ?_
 repeat' (first
| apply yds;rfl
| apply yd;rfl
| refine nv ?_
| fail)
 refine wlp (X:=Int × Int) [6,7] [0] (fun x => [(8,I x.1),(3,I x.2)]) (fun _ => []) (fun x => (0 ≤ x.1 ∧ x.1 ≤ ws.length) ∧ x.2 = ao id (pf ws x.1)) (fun x => (ws.length - x.1).toNat) (0,0) ⟨by dsimp only;omega,rfl⟩ rfl rfl (fun _ => rfl) (fun _ => rfl) ⟨rfl,rfl,rfl,rfl,rfl,rfl,rfl,rfl⟩ (fun x hx => ?_)
 obtain ⟨i,n⟩:=x
 obtain ⟨h0,hn⟩:=hx
 dsimp only at h0 hn ⊢
 have hbd:=zk hb h0
 rw [← hn] at hbd
 have hm:=fun (h:i < ws.length) => (by have:=hb _ (aA ⟨h0.1,h⟩);unfold inP at this;exact this:0 ≤ rd ws i ∧ rd ws i ≤ 1000000000000000)
 repeat' (first
| apply yds;rfl
| apply yd;rfl
| apply yar;rfl;(have h1:=hm (by assumption);omega)
| intro _
| refine nv ?_
| apply wct rfl
| apply wcf rfl
| apply ah rfl
| apply ai;rfl
| apply yix;rfl;omega
| apply yle;rfl;omega
| fail)
 all_goals first
  | exact aB (i + 1,_) [0] ⟨rfl,rfl,rfl,rfl,rfl,rfl,rfl,rfl⟩ ⟨by dsimp only;omega,by dsimp only;rw [bU ⟨h0.1,by assumption⟩,hn];rfl⟩ (by first | omega | (dsimp only;omega))
  | (rw [b6 (by assumption)] at hn
     exact du [0] rfl rfl rfl rfl rfl rfl hn.symm)
  | trace_state
theorem pH {ws:List Int} (hb:∀ x ∈ ws,inP x 0 1000000000000000) (hl:(ws.length:Int) ≤ 1000):FC Tryz.prog 303 [.c (.row 0 0 ws.length)] ([ro 3 ws]) (I (ao id ws)) ([ro 3 ws]):=by
 refine ax tk 18 [.tmp 2] Tryz.func303 (by kernel_rfl) rfl rfl rfl rfl rfl rfl rfl ?_
 repeat' (first
| apply yd;rfl
| refine nv ?_
| fail)
 refine wlp (X:=Int × Int) [0] [0] (fun x => [(4,I x.1),(3,I x.2)]) (fun _ => []) (fun x => (0 ≤ x.1 ∧ x.1 ≤ ws.length) ∧ x.2 = ao id (pf ws x.1)) (fun x => (ws.length - x.1).toNat) (0,0) ⟨by dsimp only;omega,rfl⟩ rfl rfl (fun _ => rfl) (fun _ => rfl) ⟨rfl,rfl,rfl,rfl,rfl,rfl,rfl,rfl⟩ (fun x hx => ?_)
 obtain ⟨i,n⟩:=x
 obtain ⟨h0,hn⟩:=hx
 dsimp only at h0 hn ⊢
 have hbd:=zk hb h0
 rw [← hn] at hbd
 have hm:=fun (h:i < ws.length) => (by have:=hb _ (aA ⟨h0.1,h⟩);unfold inP at this;exact this:0 ≤ rd ws i ∧ rd ws i ≤ 1000000000000000)
 repeat' (first
| apply yds;rfl
| apply yd;rfl
| apply yar;rfl;(have h1:=hm (by assumption);omega)
| intro _
| refine nv ?_
| apply wct rfl
| apply wcf rfl
| apply ah rfl
| apply ai;rfl
| apply yix;rfl;omega
| apply yle;rfl;omega
| fail)
 all_goals first
  | exact aB (i + 1,_) [0] ⟨rfl,rfl,rfl,rfl,rfl,rfl,rfl,rfl⟩ ⟨by dsimp only;omega,by dsimp only;rw [bU ⟨h0.1,by assumption⟩,hn];rfl⟩ (by first | omega | (dsimp only;omega))
  | (rw [b6 (by assumption)] at hn
     exact du [0] rfl rfl rfl rfl rfl rfl hn.symm)
  | trace_state
theorem oZ {ws:List Int}:FC Tryz.prog 300 [.c (.row 0 0 ws.length)] ([ro 3 ws]) (B (dB (nH ws))) ([ro 3 ws]):=by
 refine ax tk 14 [.tmp 2] Tryz.func300 (by kernel_rfl) rfl rfl rfl rfl rfl rfl rfl ?_
 repeat' (first
| apply yds;rfl
| apply yd;rfl
| intro _
| refine nv ?_
| apply wct rfl
| apply wcf rfl
| apply ycp;rfl;(first | exact bm | exact ic);rfl
| apply yc;rfl;(exact jn (by exact xg (by assumption)) (by unfold inP at *;omega));rfl;exact fun _ => rfl
| fail)
 all_goals first
  | exact bF [0] rfl rfl rfl rfl rfl rfl ⟨by assumption,xg (by assumption),by assumption⟩
  | exact b5 [0] rfl rfl rfl rfl rfl rfl (fun k => absurd k.1 (by assumption))
  | exact b5 [0] rfl rfl rfl rfl rfl rfl (fun k => absurd k.2.2 (by assumption))
  | (have hx:∃ x ∈ ws,¬ inP x 0 1000000000000000:=by assumption
     exact b5 [0] rfl rfl rfl rfl rfl rfl (fun k => by obtain ⟨x,hx,hn⟩:=hx;exact hn (k.2.1 x hx)))
  | trace_state
theorem ii {ws:List Int}:FC Tryz.prog 242 [.c (.row 0 0 ws.length)] ([ro 3 ws]) (B (dB (nH ws))) ([ro 3 ws]):=by
 refine ax tk 23 [.tmp 2] Tryz.func242 (by kernel_rfl) rfl rfl rfl rfl rfl rfl rfl ?_
 repeat' (first
| apply yds;rfl
| apply yd;rfl
| intro _
| refine nv ?_
| apply wct rfl
| apply wcf rfl
| apply ycp;rfl;exact aO;rfl
| fail)
 all_goals first | exact b5 [0] rfl rfl rfl rfl rfl rfl (fun k => absurd k.1 (by assumption)) | skip
 have hlen:inP (ws.length:Int) 1 40:=by assumption
 have hln:(ws.length:Int) ≤ 40:=hlen.2
 refine wlp (X:=Int) [0] [0] (fun i => [(3,I i)]) (fun _ => []) (fun i => 0 ≤ i ∧ i ≤ ws.length ∧ ∀ j:Int,0 ≤ j → j < i → inP (rd ws j) 0 1000000000000000) (fun i => (ws.length - i).toNat) 0 ⟨by omega,by omega,fun j h0 h1 => by omega⟩ rfl rfl (fun _ => rfl) (fun _ => rfl) ⟨rfl,rfl,rfl,rfl,rfl,rfl,rfl,rfl⟩ (fun i hi => ?_)
 obtain ⟨h0,hi,hall⟩:=hi
 by_cases hil:i < ws.length
 ·
  repeat' (first
| apply yds;rfl
| apply yd;rfl
| intro _
| refine nv ?_
| apply wct rfl
| apply wcf rfl
| apply ah rfl
| apply ai;rfl
| apply yar;rfl;omega
| apply yix;rfl;omega
| apply yle;rfl;omega
| apply ycp;rfl;exact aJ;rfl
| fail)
  all_goals first
   | exact aB (i + 1) [0] ⟨rfl,rfl,rfl,rfl,rfl,rfl,rfl,rfl⟩ ⟨by omega,by omega,aD hall (by assumption)⟩ (by first | omega | (dsimp only;omega))
   | exact b5 [0] rfl rfl rfl rfl rfl rfl (fun k => absurd (k.2.1 _ (aA ⟨h0,hil⟩)) (by assumption))
   | (exfalso;contradiction)
   | trace_state
 ·have hb:∀ x ∈ ws,inP x 0 1000000000000000:=fun x hx => by
   obtain ⟨j,hj,rfl⟩:=bw hx
   exact hall j hj.1 (by omega)
  repeat' (first
| apply yds;rfl
| apply yd;rfl
| intro _
| refine nv ?_
| apply wct rfl
| apply wcf rfl
| apply ah rfl
| apply ai;rfl
| apply yar;rfl;omega
| apply yix;rfl;omega
| apply yle;rfl;omega
| apply ycp;rfl;exact aJ;rfl
| apply yc;rfl;exact pH (by assumption) (by unfold inP at *;omega);rfl;exact fun _ => rfl
| fail)
  all_goals first
   | exact bF [0] rfl rfl rfl rfl rfl rfl ⟨hlen,hb,by assumption⟩
   | exact b5 [0] rfl rfl rfl rfl rfl rfl (fun k => absurd k.2.2 (by assumption))
   | (exfalso;contradiction)
   | trace_state
theorem gY {t:Int} {ws:List Int}:FC Tryz.prog 238 [I t,.c (.row 0 0 ws.length)] ([ro 3 ws]) (B (dB (shareable t ws))) ([ro 3 ws]):=by
 refine ax tk 11 [.tmp 4] Tryz.func238 (by kernel_rfl) rfl rfl rfl rfl rfl rfl rfl ?_
 repeat' (first
| apply yds;rfl
| apply yd;rfl
| intro _
| refine nv ?_
| apply ycp;rfl;(first | exact oZ | exact bm);rfl
| fail)
 all_goals first
  | exact bF [0] rfl rfl rfl rfl rfl rfl ⟨by assumption,by assumption⟩
  | exact b5 [0] rfl rfl rfl rfl rfl rfl (fun k => absurd k.1 (by assumption))
  | exact b5 [0] rfl rfl rfl rfl rfl rfl (fun k => absurd k.2 (by assumption))
  | trace_state
theorem jC {t i:Int} {ws:List Int} (h:shareable t ws) (hi:0 ≤ i ∧ i < ws.length):FC Tryz.prog 239 [I t,.c (.row 0 0 ws.length),I i] ([ro 3 ws]) (.tup [I (t * rd ws i / ao id ws),I (t * rd ws i % ao id ws),B true]) ([ro 3 ws]):=by
 refine ax tk 32 [.tmp 6,.tmp 7,.tmp 8] Tryz.func239 (by kernel_rfl) rfl rfl rfl rfl rfl rfl rfl ?_
 have hw:=h.1
 have ht:=h.2
 have hb:=h.1.2.1
 have hmd:=h.md hi
 have hln:=h.1.1
 have hii:inP i 0 (ws.length - 1):=⟨by omega,by omega⟩
 unfold inP at hln
 repeat' (first
| intro h9;exfalso;contradiction
| apply yds;rfl
| apply yd;rfl
| intro _
| refine nv ?_
| apply wcf rfl
| apply yar;rfl;omega
| apply yix;rfl;omega
| apply yle;rfl;omega
| refine zdq (id:=3) rfl (by kernel_rfl) [(.p,0),(.p,1),(.p,2),(.p,3),(.p,5),(.t,4),(.o,6),(.o,7),(.p,8),(.p,9),(.p,10),(.p,11),(.p,12),(.p,13)] [] (by kernel_rfl) rfl ?_
| apply ycp;rfl;(first | exact gY | exact bm);rfl
| apply yc;rfl;(first | exact jn (by assumption) (by unfold inP at *;omega) | exact eD (by assumption));rfl;exact fun _ => rfl
| fail)
 all_goals exact ak [0] rfl rfl rfl rfl rfl rfl
theorem jG {t i:Int} {ws:List Int} (h:shareable t ws) (hi:0 ≤ i ∧ i < ws.length):FC Tryz.prog 243 [I t,.c (.row 0 0 ws.length),I i] ([ro 3 ws]) (.tup [I (t * rd ws i / ao id ws),I (t * rd ws i % ao id ws),B true]) ([ro 3 ws]):=by
 refine ax tk 36 [.tmp 6,.tmp 7,.tmp 8] Tryz.func243 (by kernel_rfl) rfl rfl rfl rfl rfl rfl rfl ?_
 have hw:=h.1
 have ht:=h.2
 have hb:=h.1.2.1
 have hmd:=h.md hi
 have hln:=h.1.1
 have hii:inP i 0 (ws.length - 1):=⟨by omega,by omega⟩
 unfold inP at hln
 repeat' (first
| intro h9;exfalso;contradiction
| apply yds;rfl
| apply yd;rfl
| intro _
| refine nv ?_
| apply wcf rfl
| apply yar;rfl;omega
| apply yix;rfl;omega
| apply yle;rfl;omega
| refine zdq (id:=3) rfl (by kernel_rfl) [(.p,0),(.p,1),(.p,2),(.p,3),(.p,5),(.t,4),(.o,6),(.o,7),(.p,8),(.p,9),(.p,10),(.p,11),(.p,12),(.p,13)] [] (by kernel_rfl) rfl ?_
| apply ycp;rfl;(first | exact ii | exact aJ | exact aO);rfl
| apply yc;rfl;(first | exact pH (by assumption) (by unfold inP at *;omega) | exact bC (by assumption));rfl;exact fun _ => rfl
| fail)
 all_goals exact ak [0] rfl rfl rfl rfl rfl rfl
end
section
open Go.RowKit
def vO (r n:Nat):Option AO:=some ⟨false,37,1,.mx [.row r 0 n]⟩
noncomputable def stb (g:Int → Int) (l:List Int) (a b:Int):List Int:=@dite _ (∃ l',Mv l l' a b ∧ RS g l' a b) (Classical.propDecidable _) (fun h => Classical.choose h) (fun _ => l)
theorem gp {g:Int → Int} {l u:List Int} {a b:Int} (h0:0 ≤ a) (hb:b ≤ l.length) (h1:Mv l u a b) (h2:RS g u a b):u = stb g l a b:=by
 have hx:∃ l',Mv l l' a b ∧ RS g l' a b:=⟨u,h1,h2⟩
 rw [stb,dif_pos hx]
 exact RS.uniq h0 hb h1 (Classical.choose_spec hx).1 h2 (Classical.choose_spec hx).2
theorem nF {g:Int → Int} {l:List Int} {a b:Int} (h:∃ l',Mv l l' a b ∧ RS g l' a b):Mv l (stb g l a b) a b ∧ RS g (stb g l a b) a b:=by
 rw [stb,dif_pos h]
 exact Classical.choose_spec h
def Rng (l:List Int) (n:Nat):Prop:=∀ i:Int,0 ≤ i → i < l.length → 0 ≤ rd l i ∧ rd l i < n
theorem Rng.mv {l u:List Int} {n:Nat} {a b:Int} (h:Rng l n) (hm:Mv l u a b) (h0:0 ≤ a) (hb:b ≤ l.length):Rng u n:=fun i i0 i1 => by
 rw [hm.len] at i1
 by_cases c:a ≤ i ∧ i < b
 ·obtain ⟨j,hj,e⟩:=hm.to i c.1 c.2
  rw [e]
  exact h j (by omega) (by omega)
 ·rw [hm.out i i0 c]
  exact h i i0 i1
theorem mA {p:Prop}:0 ≤ pick p 1 0:=by
 by_cases h:p
 ·rw [aK h];decide
 ·rw [aC h];decide
theorem b7 {ov:List Int} {a b:Int} (ha:0 ≤ a ∧ a < ov.length) (hb:0 ≤ b ∧ b < ov.length):FC Tryz.prog 302 [I a,I b,.c (.ptr 0 0 0)] ([vO 1 ov.length,ro 3 ov]) (sel (rd ov a > rd ov b) (I (-1)) (I (pick (rd ov a < rd ov b) 1 0))) (sel (rd ov a > rd ov b) [vO 1 ov.length,ro 3 ov] [vO 1 ov.length,ro 3 ov]):=by
 refine ax tk 26 [.tmp 5] Tryz.func302 (by kernel_rfl) rfl rfl rfl rfl rfl rfl rfl ?_
 repeat' (first
| apply yds;rfl
| apply yd;rfl
| intro _
| refine nv ?_
| apply wct rfl
| apply wcf rfl
| apply ai;rfl
| apply yix;rfl;omega
| apply yle;rfl;omega
| refine zdq (id:=1) rfl (by kernel_rfl) [(.p,1),(.p,5),(.t,0),(.p,2),(.t,3),(.t,4),(.p,6),(.t,7),(.p,8),(.p,9)] [] (by kernel_rfl) rfl ?_
| refine zdq (id:=3) rfl (by kernel_rfl) [(.p,1),(.p,5),(.t,0),(.p,2),(.t,3),(.t,4),(.p,6),(.t,7),(.p,8),(.p,9)] [] (by kernel_rfl) rfl ?_
| fail)
 all_goals first
  | exact iH (by assumption) [0,1] rfl rfl rfl rfl rfl rfl
  | (refine dP (X':=I 1) (hs':=[vO 1 ov.length,ro 3 ov]) [0,1] rfl rfl rfl rfl rfl rfl ?_ ?_
     ·rw [ab (by assumption),aK (by assumption)]
     ·rw [ab (by assumption)])
  | (refine dP (X':=I 0) (hs':=[vO 1 ov.length,ro 3 ov]) [0,1] rfl rfl rfl rfl rfl rfl ?_ ?_
     ·rw [ab (by assumption),aC (by assumption)]
     ·rw [ab (by assumption)])
  | trace_state
theorem cY {l ov:List Int} {z:Nat} {a b:Int} (hz:l.length = z) (h0:0 ≤ a ∧ a ≤ b) (hb:b ≤ l.length ∧ l.length ≤ 1000) (hr:Rng l ov.length) (hs:∀ i j:Int,a ≤ i → i < j → j < b → rd l i < rd l j):FC Tryz.prog 339 [.c (.row 0 0 z),I a,I b,.c (.fn 302 [(1,0,0)])] ([ow 3 l,vO 2 ov.length,ro 3 ov]) (.tup []) ([ow 3 (stb (rd ov) l a b),vO 2 ov.length,ro 3 ov]):=by
 refine ax tk 53 [] Tryz.func339 (by kernel_rfl) rfl rfl rfl rfl rfl rfl rfl ?_
 repeat' (first
| apply yd;rfl
| refine nv ?_
| apply yar;rfl;omega
| fail)
 refine wlp (X:=Int × List Int) [0,1,2,3] [0,1,2] (fun x => [(8,I x.1)]) (fun x => [(0,ow 3 x.2)]) (fun x => (a + 1 ≤ x.1 ∧ (x.1 ≤ b ∨ x.1 = a + 1 ∧ x.2 = l)) ∧ Mv l x.2 a x.1 ∧ RS (rd ov) x.2 a x.1) (fun x => (b - x.1).toNat) (a + 1,l) ⟨⟨by dsimp only;omega,.inr ⟨rfl,rfl⟩⟩,.refl _ _ _,fun p q k0 k1 k2 => by dsimp only at k2;omega⟩ rfl rfl (fun _ => rfl) (fun _ => rfl) ⟨rfl,rfl,rfl,rfl,rfl,rfl,rfl,rfl⟩ (fun x hx => ?_)
 obtain ⟨i,u⟩:=x
 obtain ⟨⟨h1,h2⟩,hm,hrs⟩:=hx
 dsimp only at h1 h2 hm hrs ⊢
 have hul:u.length = l.length:=hm.len
 by_cases hib:i < b
 rotate_left
 ·
  have hst:u = stb (rd ov) l a b:=by
   rcases h2 with h | ⟨h,e⟩
   ·rw [show i = b from by omega] at hm hrs
    exact gp h0.1 hb.1 hm hrs
   ·rw [e]
    exact gp h0.1 hb.1 (.refl _ _ _) (fun p q k0 k1 k2 => by omega)
  repeat' (first
| intro h9;exfalso;contradiction
| apply yds;rfl
| intro _
| refine nv ?_
| apply wcf rfl
| apply ah rfl
| apply ai;rfl
| fail)
  all_goals
   rw [hst]
   exact ak [0,1,2] rfl rfl rfl rfl rfl rfl
 have hru:Rng u ov.length:=by
  rcases h2 with h | ⟨h,e⟩
  ·exact hr.mv hm h0.1 (by omega)
  ·rw [e];exact hr
 have hlt:∀ p:Int,a ≤ p → p < i → rd u p < rd u i:=fun p k0 k1 => by
  obtain ⟨j,hj,e⟩:=hm.to p k0 k1
  rw [e,hm.out i (by omega) (by omega)]
  exact hs j i hj.1 hj.2 hib
 have hin:InI (rd ov) u u a i i:=.init ⟨h0.1,by omega,by omega⟩ hrs hlt
 repeat' (first
| intro h9;exfalso;contradiction
| apply yds;rfl
| intro _
| refine nv ?_
| apply wct rfl
| apply ai;rfl
| fail)
 refine wlp (X:=Int × List Int) [0,1,2,3,8] [0,1,2] (fun x => [(9,I x.1)]) (fun x => [(0,ow 3 x.2)]) (fun x => InI (rd ov) u x.2 a i x.1) (fun x => (x.1 - a).toNat) (i,u) hin rfl rfl (fun _ => rfl) (fun _ => rfl) ⟨rfl,rfl,rfl,rfl,rfl,rfl,rfl,rfl⟩ (fun x hx => ?_)
 obtain ⟨j,v⟩:=x
 dsimp only at hx ⊢
 have hjb:=hx.bnd
 have hvl:v.length = u.length:=hx.mv.len
 have hrv:=hru.mv hx.mv h0.1 (by omega)
 have hj0:=hrv j (by omega) (by omega)
 have hj1:=fun (h:a < j) => hrv (j - 1) (by omega) (by omega)
 have hpk:0 ≤ pick (rd ov (rd v j) < rd ov (rd v (j - 1))) 1 0:=mA
 have hfin:=fun (hq:j = a ∨ ¬ rd ov (rd v j) > rd ov (rd v (j - 1))) => (⟨⟨by omega,.inl (by omega)⟩,(hm.wide h0.1 (Int.le_refl _) (by omega)).trans hx.mv,hx.fin hq⟩:(a + 1 ≤ i + 1 ∧ (i + 1 ≤ b ∨ i + 1 = a + 1 ∧ v = l)) ∧ Mv l v a (i + 1) ∧ RS (rd ov) v a (i + 1))
 repeat' (first
| intro h9;exfalso;first | contradiction | omega
| apply yds;rfl
| apply yd;rfl
| apply zcs;(iterate 10 rfl);exact b7 (by omega) (by omega);exact fun _ => rfl;exact fun _ => rfl;rfl;rfl;rfl;rfl
| apply yix;rfl;omega
| apply yle;rfl;omega
| apply zse;rfl;exact tk;(iterate 6 rfl);(first | omega | (simp only [aG];omega));rfl;rfl;rfl;rfl;rfl
| intro _
| refine nv ?_
| apply wct rfl
| apply wcf rfl
| apply ah rfl
| apply ai;rfl
| apply yar;rfl;omega
| refine zdq (id:=4) rfl (by kernel_rfl) [(.p,0),(.p,1),(.p,2),(.p,3),(.p,4),(.p,5),(.p,6),(.p,7),(.p,9),(.p,10),(.p,11),(.p,12),(.t,8),(.t,13),(.o,14),(.p,15),(.p,16)] [] (by kernel_rfl) rfl ?_
| refine zdq (id:=6) rfl (by kernel_rfl) [(.p,0),(.p,1),(.p,2),(.p,3),(.p,4),(.p,5),(.p,6),(.p,7),(.p,8),(.p,10),(.p,11),(.p,12),(.t,9),(.t,13),(.p,14),(.l,15),(.p,16),(.l,17)] [15,17] (by kernel_rfl) rfl ?_
| fail)
 all_goals first
  | exact aB (j - 1,swp v j (j - 1)) [0,1,2] ⟨rfl,rfl,rfl,rfl,rfl,rfl,rfl,rfl⟩ (hx.step (by omega) (by assumption)) (by first | omega | (dsimp only;omega))
  | exact aB (i + 1,v) [0,1,2] ⟨rfl,rfl,rfl,rfl,rfl,rfl,rfl,rfl⟩ (hfin (by first | exact .inl (by omega) | exact .inr (by assumption))) (by first | omega | (dsimp only;omega))
  | (exfalso;omega)
  | trace_state
end
section
open Go.RowKit
theorem cG {l ov:List Int} {z:Nat} {a b n:Int} (hz:l.length = z) (h0:0 ≤ a ∧ 0 ≤ n ∧ a + n ≤ b) (hb:b + n ≤ l.length ∧ l.length ≤ 1000):FC Tryz.prog 362 [.c (.row 0 0 z),I a,I b,I n,.c (.fn 302 [(1,0,0)])] ([ow 3 l,vO 2 ov.length,ro 3 ov]) (.tup []) ([ow 3 (swr l a b n),vO 2 ov.length,ro 3 ov]):=by
 refine ax tk 38 [] Tryz.func362 (by kernel_rfl) rfl rfl rfl rfl rfl rfl rfl ?_
 repeat' (first
| apply yd;rfl
| refine nv ?_
| fail)
 refine wlp (X:=Int) [0,1,2,3] [0,1,2] (fun i => [(10,I i)]) (fun i => [(0,ow 3 (swr l a b i))]) (fun i => 0 ≤ i ∧ i ≤ n) (fun i => (n - i).toNat) 0 ⟨by omega,by omega⟩ rfl rfl (fun _ => rfl) (fun _ => rfl) (by rw [CK];exact ⟨rfl,rfl,rfl,rfl,rfl,rfl,rfl,rfl⟩) (fun i hi => ?_)
 have hml:=cH (l:=l) (x:=a) (y:=b) (n:=i)
 by_cases hin:i < n
 rotate_left
 ·
  obtain rfl:i = n:=by omega
  repeat' (first
| intro h9;exfalso;contradiction
| apply yds;rfl
| intro _
| refine nv ?_
| apply wcf rfl
| apply ah rfl
| apply ai;rfl
| fail)
  all_goals exact ak [0,1,2] rfl rfl rfl rfl rfl rfl
 have hst:upd (upd (swr l a b i) (a + i) (rd (swr l a b i) (b + i))) (b + i) (rd (swr l a b i) (a + i)) = swr l a b (i + 1):=z4 ⟨h0.1,hi.1,by omega,by omega⟩
 repeat' (first
| intro h9;exfalso;contradiction
| apply yds;rfl
| apply yd;rfl
| apply yix;rfl;omega
| apply yle;rfl;omega
| apply zse;rfl;exact tk;(iterate 6 rfl);(first | omega | (simp only [aG];omega));rfl;rfl;rfl;rfl;rfl
| intro _
| refine nv ?_
| apply wct rfl
| apply ai;rfl
| apply yar;rfl;omega
| refine zdq (id:=3) rfl (by kernel_rfl) [(.p,0),(.p,1),(.p,2),(.p,3),(.p,4),(.p,5),(.p,6),(.p,7),(.p,8),(.p,9),(.p,10),(.p,11),(.p,12),(.p,14),(.p,15),(.p,16),(.p,17),(.p,18),(.t,13),(.t,19),(.p,20),(.l,21),(.p,22),(.l,23)] [21,23] (by kernel_rfl) rfl ?_
| fail)
 all_goals first
  | (rw [hst]
     exact aB (i + 1) [0,1,2] ⟨rfl,rfl,rfl,rfl,rfl,rfl,rfl,rfl⟩ ⟨by omega,by omega⟩ (by first | omega | (dsimp only;omega)))
  | trace_state
theorem bv {l ov:List Int} {z:Nat} {a m b:Int} (hz:l.length = z) (h0:0 ≤ a ∧ a < m ∧ m < b) (hb:b ≤ l.length ∧ l.length ≤ 1000):FC Tryz.prog 354 [.c (.row 0 0 z),I a,I m,I b,.c (.fn 302 [(1,0,0)])] ([ow 3 l,vO 2 ov.length,ro 3 ov]) (.tup []) ([ow 3 (rot l a m b),vO 2 ov.length,ro 3 ov]):=by
 refine ax tk 58 [] Tryz.func354 (by kernel_rfl) rfl rfl rfl rfl rfl rfl rfl ?_
 repeat' (first
| apply yds;rfl
| apply yd;rfl
| refine nv ?_
| apply yar;rfl;omega
| fail)
 refine wlp (X:=Int × Int × List Int) [0,2,4] [0,1,2] (fun x => [(10,I x.1),(11,I x.2.1)]) (fun x => [(0,ow 3 x.2.2)]) (fun x => (0 < x.1 ∧ x.1 ≤ m - a ∧ 0 < x.2.1 ∧ x.2.1 ≤ b - m) ∧ x.2.2.length = l.length ∧ rot x.2.2 (m - x.1) m (m + x.2.1) = rot l a m b) (fun x => (x.1 + x.2.1).toNat) (m - a,b - m,l) ⟨⟨by dsimp only;omega,by dsimp only;omega,by dsimp only;omega,by dsimp only;omega⟩,rfl,by dsimp only;rw [show m - (m - a) = a from by omega,show m + (b - m) = b from by omega]⟩ rfl rfl (fun _ => rfl) (fun _ => rfl) ⟨rfl,rfl,rfl,rfl,rfl,rfl,rfl,rfl⟩ (fun x hx => ?_)
 obtain ⟨i,j,v⟩:=x
 obtain ⟨⟨i1,i2,j1,j2⟩,hvl,hro⟩:=hx
 dsimp only at i1 i2 j1 j2 hvl hro ⊢
 rcases Int.lt_trichotomy i j with hij | hij | hij
 ·
  have hst:rot (swr v (m - i) (m + j - i) i) (m - i) m (m + (j - i)) = rot l a m b:=by rw [BS ⟨by omega,by omega,hij,by omega⟩];exact hro
  have hsl:=cH (l:=v) (x:=m - i) (y:=m + j - i) (n:=i)
  repeat' (first
| intro h9;exfalso;omega
| apply yds;rfl
| apply yd;rfl
| intro _
| refine nv ?_
| apply wct rfl
| apply wcf rfl
| apply ai;rfl
| apply yne;rfl
| apply yar;rfl;omega
| apply ycw  [true,false,false];rfl;exact cG (by omega) (by omega) (by omega);rfl
| fail)
  all_goals first
   | exact aB (i,j - i,swr v (m - i) (m + j - i) i) [0,1,2] ⟨rfl,rfl,rfl,rfl,rfl,rfl,rfl,rfl⟩ ⟨⟨by dsimp only;omega,by dsimp only;omega,by dsimp only;omega,by dsimp only;omega⟩,by dsimp only;omega,hst⟩ (by first | omega | (dsimp only;omega))
   | (exfalso;omega)
   | trace_state
 ·
  subst hij
  have hst:swr v (m - i) m i = rot l a m b:=by rw [yR ⟨by omega,by omega,by omega⟩];exact hro
  repeat' (first
| intro h9;exfalso;contradiction
| apply yds;rfl
| intro _
| refine nv ?_
| apply wcf rfl
| apply ah rfl
| apply yne;rfl
| apply yar;rfl;omega
| apply ycw  [true,false,false];rfl;exact cG (by omega) (by omega) (by omega);rfl
| fail)
  all_goals first
   | (rw [hst]
      exact ak [0,1,2] rfl rfl rfl rfl rfl rfl)
   | (exfalso;omega)
   | trace_state
 ·
  have hst:rot (swr v (m - i) m j) (m - (i - j)) m (m + j) = rot l a m b:=by rw [show m - (i - j) = m - i + j from by omega,BR ⟨by omega,by omega,hij,by omega⟩];exact hro
  have hsl:=cH (l:=v) (x:=m - i) (y:=m) (n:=j)
  repeat' (first
| intro h9;exfalso;first | contradiction | omega
| apply yds;rfl
| apply yd;rfl
| intro _
| refine nv ?_
| apply wct rfl
| apply ai;rfl
| apply yne;rfl
| apply yar;rfl;omega
| apply ycw  [true,false,false];rfl;exact cG (by omega) (by omega) (by omega);rfl
| fail)
  all_goals first
   | exact aB (i - j,j,swr v (m - i) m j) [0,1,2] ⟨rfl,rfl,rfl,rfl,rfl,rfl,rfl,rfl⟩ ⟨⟨by dsimp only;omega,by dsimp only;omega,by dsimp only;omega,by dsimp only;omega⟩,by dsimp only;omega,hst⟩ (by first | omega | (dsimp only;omega))
   | (exfalso;omega)
   | trace_state
end
section
open Go.RowKit
theorem nS {x:Int}:x.fdiv (2 ^ min (Int.toNat 1) IntKind.u64.bits) = x / 2:=by
 have e:(2:Int) ^ min (Int.toNat 1) IntKind.u64.bits = 2:=rfl
 rw [e,gT (by decide)]
theorem gn {l ov:List Int} {z k:Nat} {a m b:Int} (ih:∀ {l:List Int} {a m b:Int},l.length = z → SM (rd ov) l a m b → Rng l ov.length → (b - a).toNat < k → a < m ∧ m < b → FC Tryz.prog 340 [.c (.row 0 0 z),I a,I m,I b,.c (.fn 302 [(1,0,0)])] ([ow 3 l,vO 2 ov.length,ro 3 ov]) (.tup []) ([ow 3 (stb (rd ov) l a b),vO 2 ov.length,ro 3 ov])) (hz:l.length = z) (hs:SM (rd ov) l a m b) (hr:Rng l ov.length) (hl:l.length ≤ 1000) (hk:(b - a).toNat ≤ k) (hp:a < m ∧ m < b):FC Tryz.prog 340 [.c (.row 0 0 z),I a,I m,I b,.c (.fn 302 [(1,0,0)])] ([ow 3 l,vO 2 ov.length,ro 3 ov]) (.tup []) ([ow 3 (stb (rd ov) l a b),vO 2 ov.length,ro 3 ov]):=by
 refine ax tk 220 [] Tryz.func340 (by kernel_rfl) rfl rfl rfl rfl rfl rfl rfl ?_
 have hbn:=hs.bnd
 by_cases hm1:m - a = 1
 ·
  repeat' (first
| apply yds;rfl
| apply yd;rfl
| intro _
| refine nv ?_
| apply wct rfl
| apply wcf rfl
| apply ai;rfl
| apply yar;rfl;omega
| apply zsh;rfl;rfl;rfl;rfl;omega;rfl;rfl
| apply zcv;rfl;exact tk;(iterate 6 rfl)
| fail)
  all_goals first | (exfalso;omega) | skip
  refine wlp (X:=Int × Int) [0,1,4] [0,1,2] (fun x => [(10,I x.1),(11,I x.2)]) (fun _ => []) (fun x => (m ≤ x.1 ∧ x.1 ≤ x.2 ∧ x.2 ≤ b) ∧ (∀ c:Int,m ≤ c → c < x.1 → so (rd ov) (rd l c) (rd l a)) ∧ ∀ c:Int,x.2 ≤ c → c < b → so (rd ov) (rd l a) (rd l c)) (fun x => (x.2 - x.1).toNat) (m,b) ⟨by dsimp only;omega,fun c c0 c1 => by dsimp only at c1;omega,fun c c0 c1 => by dsimp only at c0;omega⟩ rfl rfl (fun _ => rfl) (fun _ => rfl) ⟨rfl,rfl,rfl,rfl,rfl,rfl,rfl,rfl⟩ (fun x hx => ?_)
  obtain ⟨i,j⟩:=x
  obtain ⟨hij,hA,hB⟩:=hx
  dsimp only at hij hA hB ⊢
  by_cases hlt:i < j
  ·
   have hh:i ≤ (i + j) / 2 ∧ (i + j) / 2 < j:=by omega
   have hr1:=hr a (by omega) (by omega)
   have hr2:=hr ((i + j) / 2) (by omega) (by omega)
   have hcr:=hs.cr a ((i + j) / 2) (by omega) (by omega) (by omega) (by omega)
   have hpk:0 ≤ pick (rd ov (rd l ((i + j) / 2)) < rd ov (rd l a)) 1 0:=mA
   have hup:=fun (q:rd ov (rd l ((i + j) / 2)) > rd ov (rd l a)) => (⟨by omega,fun c c0 c1 => by
     by_cases e:c = (i + j) / 2
     ·rw [e];exact (qQ hcr).2 q
     ·exact gr (hs.r2 c ((i + j) / 2) c0 (by omega) (by omega)) ((qQ hcr).2 q),hB⟩:(m ≤ (i + j) / 2 + 1 ∧ (i + j) / 2 + 1 ≤ j ∧ j ≤ b) ∧ (∀ c:Int,m ≤ c → c < (i + j) / 2 + 1 → so (rd ov) (rd l c) (rd l a)) ∧ ∀ c:Int,j ≤ c → c < b → so (rd ov) (rd l a) (rd l c))
   have hdn:=fun (q:¬ rd ov (rd l ((i + j) / 2)) > rd ov (rd l a)) => (⟨by omega,hA,fun c c0 c1 => by
     by_cases e:c = (i + j) / 2
     ·rw [e];exact (qR hcr).2 q
     ·exact gr ((qR hcr).2 q) (hs.r2 ((i + j) / 2) c (by omega) (by omega) c1)⟩:(m ≤ i ∧ i ≤ (i + j) / 2 ∧ (i + j) / 2 ≤ b) ∧ (∀ c:Int,m ≤ c → c < i → so (rd ov) (rd l c) (rd l a)) ∧ ∀ c:Int,(i + j) / 2 ≤ c → c < b → so (rd ov) (rd l a) (rd l c))
   repeat' (first
| apply yds;rfl
| apply yd;rfl
| apply zsw;rfl;rfl;rfl;rfl;omega;exact nS;rfl;rfl
| apply zcv;rfl;exact tk;rfl;rfl;rfl;(first | exact wU (by omega) | exact wI (by omega));rfl;rfl
| apply zcs;(iterate 10 rfl);exact b7 (by omega) (by omega);exact fun _ => rfl;exact fun _ => rfl;rfl;rfl;rfl;rfl
| apply yix;rfl;omega
| apply yle;rfl;omega
| intro _
| refine nv ?_
| apply wct rfl
| apply wcf rfl
| apply ah rfl
| apply ai;rfl
| apply yar;rfl;omega
| refine zdq (id:=5) rfl (by kernel_rfl) [(.p,0),(.p,1),(.p,2),(.p,3),(.p,5),(.p,6),(.p,7),(.t,4),(.t,8),(.o,9),(.p,10)] [] (by kernel_rfl) rfl ?_
| fail)
   all_goals first
    | exact aB ((i + j) / 2 + 1,j) [0,1,2] ⟨rfl,rfl,rfl,rfl,rfl,rfl,rfl,rfl⟩ (hup (by assumption)) (by first | omega | (dsimp only;omega))
    | exact aB (i,(i + j) / 2) [0,1,2] ⟨rfl,rfl,rfl,rfl,rfl,rfl,rfl,rfl⟩ (hdn (by assumption)) (by first | omega | (dsimp only;omega))
    | (exfalso;omega)
    | trace_state
  obtain rfl:i = j:=by omega
  obtain ⟨f1,f2⟩:=hs.one (by omega) ⟨by omega,hij.2.2⟩ hA hB
  have hfin:=gp hbn.1 hbn.2.2.2 f1 f2
  repeat' (first
| apply yds;rfl
| apply yd;rfl
| apply zsw;rfl;rfl;rfl;rfl;omega;exact nS;rfl;rfl
| apply zcv;rfl;exact tk;rfl;rfl;rfl;(first | exact wU (by omega) | exact wI (by omega));rfl;rfl
| apply zcs;(iterate 10 rfl);exact b7 (by omega) (by omega);exact fun _ => rfl;exact fun _ => rfl;rfl;rfl;rfl;rfl
| apply yix;rfl;omega
| apply yle;rfl;omega
| intro _
| refine nv ?_
| apply wct rfl
| apply wcf rfl
| apply ah rfl
| apply ai;rfl
| apply yar;rfl;omega
| refine zdq (id:=5) rfl (by kernel_rfl) [(.p,0),(.p,1),(.p,2),(.p,3),(.p,5),(.p,6),(.p,7),(.t,4),(.t,8),(.o,9),(.p,10)] [] (by kernel_rfl) rfl ?_
| fail)
  all_goals first | (exfalso;omega) | skip
  refine wlp (X:=Int) [0,10] [0,1,2] (fun k => [(13,I k)]) (fun k => [(0,ow 3 (rot l a m (k + 1)))]) (fun k => a ≤ k ∧ k ≤ i - 1) (fun k => (i - 1 - k).toNat) a ⟨by omega,by omega⟩ rfl rfl (fun _ => rfl) (fun _ => rfl) (by rw [rL (.inr (by omega))];exact ⟨rfl,rfl,rfl,rfl,rfl,rfl,rfl,rfl⟩) (fun k hk => ?_)
  have hml:=bp (l:=l) (a:=a) (m:=m) (b:=k + 1)
  by_cases hki:k < i - 1
  ·
   have hst:upd (upd (rot l a m (k + 1)) k (rd (rot l a m (k + 1)) (k + 1))) (k + 1) (rd (rot l a m (k + 1)) k) = rot l a m (k + 1 + 1):=by
    rw [show m = a + 1 from by omega]
    exact BT ⟨by omega,hk.1,by omega⟩
   repeat' (first
| apply yds;rfl
| apply yd;rfl
| apply yix;rfl;omega
| apply yle;rfl;omega
| apply zse;rfl;exact tk;(iterate 6 rfl);(first | omega | (simp only [aG];omega));rfl;rfl;rfl;rfl;rfl
| intro _
| refine nv ?_
| apply wct rfl
| apply wcf rfl
| apply ah rfl
| apply ai;rfl
| apply yar;rfl;omega
| refine zdq (id:=11) rfl (by kernel_rfl) [(.p,0),(.p,1),(.p,2),(.p,3),(.p,4),(.p,5),(.p,6),(.p,7),(.p,8),(.p,10),(.p,11),(.p,12),(.t,9),(.t,13),(.p,14),(.l,15),(.p,16),(.l,17)] [15,17] (by kernel_rfl) rfl ?_
| fail)
   all_goals first
    | (rw [hst]
       exact aB (k + 1) [0,1,2] ⟨rfl,rfl,rfl,rfl,rfl,rfl,rfl,rfl⟩ ⟨by omega,by omega⟩ (by first | omega | (dsimp only;omega)))
    | (exfalso;omega)
    | trace_state
  ·
   repeat' (first
| apply yds;rfl
| apply yd;rfl
| apply yix;rfl;omega
| apply yle;rfl;omega
| apply zse;rfl;exact tk;(iterate 6 rfl);omega;rfl;rfl;rfl;rfl;rfl
| intro _
| refine nv ?_
| apply wct rfl
| apply wcf rfl
| apply ah rfl
| apply ai;rfl
| apply yar;rfl;omega
| refine zdq (id:=11) rfl (by kernel_rfl) [(.p,0),(.p,1),(.p,2),(.p,3),(.p,4),(.p,5),(.p,6),(.p,7),(.p,8),(.p,10),(.p,11),(.p,12),(.t,9),(.t,13),(.p,14),(.l,15),(.p,16),(.l,17)] [15,17] (by kernel_rfl) rfl ?_
| fail)
   all_goals first
    | (rw [show k + 1 = i from by omega,hfin]
       exact ak [0,1,2] rfl rfl rfl rfl rfl rfl)
    | (exfalso;omega)
    | trace_state
 by_cases hb1:b - m = 1
 ·
  repeat' (first
| apply yds;rfl
| apply yd;rfl
| intro _
| refine nv ?_
| apply wct rfl
| apply wcf rfl
| apply ai;rfl
| apply yar;rfl;omega
| apply zsh;rfl;rfl;rfl;rfl;omega;rfl;rfl
| apply zcv;rfl;exact tk;(iterate 6 rfl)
| fail)
  all_goals first | (exfalso;omega) | skip
  refine wlp (X:=Int × Int) [0,2,4] [0,1,2] (fun x => [(14,I x.1),(15,I x.2)]) (fun _ => []) (fun x => (a ≤ x.1 ∧ x.1 ≤ x.2 ∧ x.2 ≤ m) ∧ (∀ c:Int,a ≤ c → c < x.1 → so (rd ov) (rd l c) (rd l m)) ∧ ∀ c:Int,x.2 ≤ c → c < m → so (rd ov) (rd l m) (rd l c)) (fun x => (x.2 - x.1).toNat) (a,m) ⟨by dsimp only;omega,fun c c0 c1 => by dsimp only at c1;omega,fun c c0 c1 => by dsimp only at c0;omega⟩ rfl rfl (fun _ => rfl) (fun _ => rfl) ⟨rfl,rfl,rfl,rfl,rfl,rfl,rfl,rfl⟩ (fun x hx => ?_)
  obtain ⟨i,j⟩:=x
  obtain ⟨hij,hA,hB⟩:=hx
  dsimp only at hij hA hB ⊢
  by_cases hlt:i < j
  ·
   have hh:i ≤ (i + j) / 2 ∧ (i + j) / 2 < j:=by omega
   have hr1:=hr m (by omega) (by omega)
   have hr2:=hr ((i + j) / 2) (by omega) (by omega)
   have hcr:=hs.cr ((i + j) / 2) m (by omega) (by omega) (by omega) (by omega)
   have hpk:0 ≤ pick (rd ov (rd l m) < rd ov (rd l ((i + j) / 2))) 1 0:=mA
   have hup:=fun (q:¬ rd ov (rd l m) > rd ov (rd l ((i + j) / 2))) => (⟨by omega,fun c c0 c1 => by
     by_cases e:c = (i + j) / 2
     ·rw [e];exact (qR hcr).2 q
     ·exact gr (hs.r1 c ((i + j) / 2) c0 (by omega) (by omega)) ((qR hcr).2 q),hB⟩:(a ≤ (i + j) / 2 + 1 ∧ (i + j) / 2 + 1 ≤ j ∧ j ≤ m) ∧ (∀ c:Int,a ≤ c → c < (i + j) / 2 + 1 → so (rd ov) (rd l c) (rd l m)) ∧ ∀ c:Int,j ≤ c → c < m → so (rd ov) (rd l m) (rd l c))
   have hdn:=fun (q:rd ov (rd l m) > rd ov (rd l ((i + j) / 2))) => (⟨by omega,hA,fun c c0 c1 => by
     by_cases e:c = (i + j) / 2
     ·rw [e];exact (qQ hcr).2 q
     ·exact gr ((qQ hcr).2 q) (hs.r1 ((i + j) / 2) c (by omega) (by omega) c1)⟩:(a ≤ i ∧ i ≤ (i + j) / 2 ∧ (i + j) / 2 ≤ m) ∧ (∀ c:Int,a ≤ c → c < i → so (rd ov) (rd l c) (rd l m)) ∧ ∀ c:Int,(i + j) / 2 ≤ c → c < m → so (rd ov) (rd l m) (rd l c))
   repeat' (first
| apply yds;rfl
| apply yd;rfl
| apply zsw;rfl;rfl;rfl;rfl;omega;exact nS;rfl;rfl
| apply zcv;rfl;exact tk;rfl;rfl;rfl;(first | exact wU (by omega) | exact wI (by omega));rfl;rfl
| apply zcs;(iterate 10 rfl);exact b7 (by omega) (by omega);exact fun _ => rfl;exact fun _ => rfl;rfl;rfl;rfl;rfl
| apply yix;rfl;omega
| apply yle;rfl;omega
| intro _
| refine nv ?_
| apply wct rfl
| apply wcf rfl
| apply ah rfl
| apply ai;rfl
| apply yar;rfl;omega
| refine zdq (id:=17) rfl (by kernel_rfl) [(.p,0),(.p,1),(.p,2),(.p,3),(.p,5),(.p,6),(.p,7),(.t,4),(.t,8),(.o,9),(.p,10),(.p,11)] [] (by kernel_rfl) rfl ?_
| fail)
   all_goals first
    | exact aB ((i + j) / 2 + 1,j) [0,1,2] ⟨rfl,rfl,rfl,rfl,rfl,rfl,rfl,rfl⟩ (hup (by assumption)) (by first | omega | (dsimp only;omega))
    | exact aB (i,(i + j) / 2) [0,1,2] ⟨rfl,rfl,rfl,rfl,rfl,rfl,rfl,rfl⟩ (hdn (by assumption)) (by first | omega | (dsimp only;omega))
    | (exfalso;omega)
    | trace_state
  obtain rfl:i = j:=by omega
  obtain ⟨f1,f2⟩:=hs.last (by omega) ⟨hij.1,hij.2.2⟩ hA hB
  have hfin:=gp hbn.1 hbn.2.2.2 f1 f2
  repeat' (first
| apply yds;rfl
| apply yd;rfl
| apply zsw;rfl;rfl;rfl;rfl;omega;exact nS;rfl;rfl
| apply zcv;rfl;exact tk;rfl;rfl;rfl;(first | exact wU (by omega) | exact wI (by omega));rfl;rfl
| apply zcs;(iterate 10 rfl);exact b7 (by omega) (by omega);exact fun _ => rfl;exact fun _ => rfl;rfl;rfl;rfl;rfl
| apply yix;rfl;omega
| apply yle;rfl;omega
| intro _
| refine nv ?_
| apply wct rfl
| apply wcf rfl
| apply ah rfl
| apply ai;rfl
| apply yar;rfl;omega
| refine zdq (id:=17) rfl (by kernel_rfl) [(.p,0),(.p,1),(.p,2),(.p,3),(.p,5),(.p,6),(.p,7),(.t,4),(.t,8),(.o,9),(.p,10),(.p,11)] [] (by kernel_rfl) rfl ?_
| fail)
  all_goals first | (exfalso;omega) | skip
  refine wlp (X:=Int) [0,14] [0,1,2] (fun k => [(17,I k)]) (fun k => [(0,ow 3 (rot l k m (m + 1)))]) (fun k => i ≤ k ∧ k ≤ m) (fun k => (k - i).toNat) m ⟨by omega,by omega⟩ rfl rfl (fun _ => rfl) (fun _ => rfl) (by rw [rL (.inl rfl)];exact ⟨rfl,rfl,rfl,rfl,rfl,rfl,rfl,rfl⟩) (fun k hk => ?_)
  have hml:=bp (l:=l) (a:=k) (m:=m) (b:=m + 1)
  by_cases hki:i < k
  ·
   have hst:upd (upd (rot l k m (m + 1)) k (rd (rot l k m (m + 1)) (k - 1))) (k - 1) (rd (rot l k m (m + 1)) k) = rot l (k - 1) m (m + 1):=yQ ⟨by omega,hk.2,by omega⟩
   repeat' (first
| apply yds;rfl
| apply yd;rfl
| apply yix;rfl;omega
| apply yle;rfl;omega
| apply zse;rfl;exact tk;(iterate 6 rfl);(first | omega | (simp only [aG];omega));rfl;rfl;rfl;rfl;rfl
| intro _
| refine nv ?_
| apply wct rfl
| apply wcf rfl
| apply ah rfl
| apply ai;rfl
| apply yar;rfl;omega
| refine zdq (id:=23) rfl (by kernel_rfl) [(.p,0),(.p,1),(.p,2),(.p,3),(.p,4),(.p,5),(.p,6),(.p,7),(.p,8),(.p,10),(.p,11),(.p,12),(.t,9),(.t,13),(.p,14),(.l,15),(.p,16),(.l,17)] [15,17] (by kernel_rfl) rfl ?_
| fail)
   all_goals first
    | (rw [hst]
       exact aB (k - 1) [0,1,2] ⟨rfl,rfl,rfl,rfl,rfl,rfl,rfl,rfl⟩ ⟨by omega,by omega⟩ (by first | omega | (dsimp only;omega)))
    | (exfalso;omega)
    | trace_state
  ·
   repeat' (first
| apply yds;rfl
| apply yd;rfl
| apply yix;rfl;omega
| apply yle;rfl;omega
| apply zse;rfl;exact tk;(iterate 6 rfl);omega;rfl;rfl;rfl;rfl;rfl
| intro _
| refine nv ?_
| apply wct rfl
| apply wcf rfl
| apply ah rfl
| apply ai;rfl
| apply yar;rfl;omega
| refine zdq (id:=23) rfl (by kernel_rfl) [(.p,0),(.p,1),(.p,2),(.p,3),(.p,4),(.p,5),(.p,6),(.p,7),(.p,8),(.p,10),(.p,11),(.p,12),(.t,9),(.t,13),(.p,14),(.l,15),(.p,16),(.l,17)] [15,17] (by kernel_rfl) rfl ?_
| fail)
   all_goals first
    | (rw [show k = i from by omega,show m + 1 = b from by omega,hfin]
       exact ak [0,1,2] rfl rfl rfl rfl rfl rfl)
    | (exfalso;omega)
    | trace_state
 by_cases hmm:m > (a + b) / 2
 ·
  repeat' (first
| apply yds;rfl
| apply yd;rfl
| apply zsw;rfl;rfl;rfl;rfl;omega;exact nS;rfl;rfl
| apply zcv;rfl;exact tk;rfl;rfl;rfl;(first | exact wU (by omega) | exact wI (by omega));rfl;rfl
| intro _
| refine nv ?_
| apply wct rfl
| apply wcf rfl
| apply ai;rfl
| apply yar;rfl;omega
| fail)
  all_goals first | (exfalso;omega) | skip
  refine wlp (X:=Int × Int) [0,1,2,3,4,18,19,22] [0,1,2] (fun x => [(20,I x.1),(21,I x.2)]) (fun _ => []) (fun x => (((a + b) / 2 + m - b) ≤ x.1 ∧ x.1 ≤ x.2 ∧ x.2 ≤ ((a + b) / 2)) ∧ (x.1 = ((a + b) / 2 + m - b) ∨ so (rd ov) (rd l (x.1 - 1)) (rd l ((a + b) / 2 + m - x.1))) ∧ (x.2 = ((a + b) / 2) ∨ so (rd ov) (rd l ((a + b) / 2 + m - x.2 - 1)) (rd l x.2))) (fun x => (x.2 - x.1).toNat) (((a + b) / 2 + m - b),((a + b) / 2)) ⟨by dsimp only;omega,.inl rfl,.inl rfl⟩ rfl rfl (fun _ => rfl) (fun _ => rfl) ⟨rfl,rfl,rfl,rfl,rfl,rfl,rfl,rfl⟩ (fun x hx => ?_)
  obtain ⟨s,r⟩:=x
  obtain ⟨hij,hA,hB⟩:=hx
  dsimp only at hij hA hB ⊢
  by_cases hlt:s < r
  ·
   have hh:s ≤ (s + r) / 2 ∧ (s + r) / 2 < r:=by omega
   have hr1:=hr ((s + r) / 2) (by omega) (by omega)
   have hr2:=hr ((a + b) / 2 + m - 1 - (s + r) / 2) (by omega) (by omega)
   have hcr:=hs.cr ((s + r) / 2) ((a + b) / 2 + m - 1 - (s + r) / 2) (by omega) (by omega) (by omega) (by omega)
   have hpk:0 ≤ pick (rd ov (rd l ((a + b) / 2 + m - 1 - (s + r) / 2)) < rd ov (rd l ((s + r) / 2))) 1 0:=mA
   have hup:=fun (q:¬ rd ov (rd l ((a + b) / 2 + m - 1 - (s + r) / 2)) > rd ov (rd l ((s + r) / 2))) => (⟨by omega,.inr (by
     rw [show (s + r) / 2 + 1 - 1 = (s + r) / 2 from by omega,show (a + b) / 2 + m - ((s + r) / 2 + 1) = (a + b) / 2 + m - 1 - (s + r) / 2 from by omega]
     exact (qR hcr).2 q),hB⟩:(((a + b) / 2 + m - b) ≤ (s + r) / 2 + 1 ∧ (s + r) / 2 + 1 ≤ r ∧ r ≤ ((a + b) / 2)) ∧ ((s + r) / 2 + 1 = ((a + b) / 2 + m - b) ∨ so (rd ov) (rd l ((s + r) / 2 + 1 - 1)) (rd l ((a + b) / 2 + m - ((s + r) / 2 + 1)))) ∧ (r = ((a + b) / 2) ∨ so (rd ov) (rd l ((a + b) / 2 + m - r - 1)) (rd l r)))
   have hdn:=fun (q:rd ov (rd l ((a + b) / 2 + m - 1 - (s + r) / 2)) > rd ov (rd l ((s + r) / 2))) => (⟨by omega,hA,.inr (by
     rw [show (a + b) / 2 + m - (s + r) / 2 - 1 = (a + b) / 2 + m - 1 - (s + r) / 2 from by omega]
     exact (qQ hcr).2 q)⟩:(((a + b) / 2 + m - b) ≤ s ∧ s ≤ (s + r) / 2 ∧ (s + r) / 2 ≤ ((a + b) / 2)) ∧ (s = ((a + b) / 2 + m - b) ∨ so (rd ov) (rd l (s - 1)) (rd l ((a + b) / 2 + m - s))) ∧ ((s + r) / 2 = ((a + b) / 2) ∨ so (rd ov) (rd l ((a + b) / 2 + m - (s + r) / 2 - 1)) (rd l ((s + r) / 2))))
   repeat' (first
| apply yds;rfl
| apply yd;rfl
| apply zsw;rfl;rfl;rfl;rfl;omega;exact nS;rfl;rfl
| apply zcv;rfl;exact tk;rfl;rfl;rfl;(first | exact wU (by omega) | exact wI (by omega));rfl;rfl
| apply zcs;(iterate 10 rfl);exact b7 (by omega) (by omega);exact fun _ => rfl;exact fun _ => rfl;rfl;rfl;rfl;rfl
| apply yix;rfl;omega
| apply yle;rfl;omega
| intro _
| refine nv ?_
| apply wct rfl
| apply wcf rfl
| apply ah rfl
| apply ai;rfl
| apply yar;rfl;omega
| refine zdq (id:=35) rfl (by kernel_rfl) [(.p,0),(.p,1),(.p,2),(.p,3),(.p,4),(.p,5),(.p,7),(.p,8),(.p,9),(.t,6),(.t,10),(.o,11),(.p,12),(.p,13)] [] (by kernel_rfl) rfl ?_
| apply ycw  [true,false,false];rfl;(exact bv (by omega) (by omega) (by omega));rfl
| fail)
   all_goals first
    | exact aB ((s + r) / 2 + 1,r) [0,1,2] ⟨rfl,rfl,rfl,rfl,rfl,rfl,rfl,rfl⟩ (hup (by assumption)) (by first | omega | (dsimp only;omega))
    | exact aB (s,(s + r) / 2) [0,1,2] ⟨rfl,rfl,rfl,rfl,rfl,rfl,rfl,rfl⟩ (hdn (by assumption)) (by first | omega | (dsimp only;omega))
    | (exfalso;omega)
    | trace_state
  obtain rfl:s = r:=by omega
  have hSR:SR (rd ov) l a m b s ((a + b) / 2 + m - s) ((a + b) / 2):=⟨hs,by omega,by rcases hA with h | h <;> first | exact .inr (.inr h) | (by_cases hq:s = a <;> first | exact .inl hq | exact .inr (.inl (by omega))),by rcases hB with h | h <;> first | exact .inr (.inr h) | (by_cases hq:s = m <;> first | exact .inl hq | exact .inr (.inl (by omega)))⟩
  have hlo:=hSR.low
  have hhi:=hSR.high
  have hm1:=hSR.mv
  have hr1:=hr.mv hm1 hbn.1 hbn.2.2.2
  obtain ⟨g1,g2⟩:=nF hlo.ex
  have hr2:=hr1.mv g1 hbn.1 (by rw [bp];omega)
  have hh2:=hhi.mv g1 hbn.1
  obtain ⟨g3,g4⟩:=nF hh2.ex
  obtain ⟨f1,f2⟩:=hSR.both g1 g2 g3 g4
  have hfin:=gp hbn.1 hbn.2.2.2 f1 f2
  have e1:=bp (l:=l) (a:=s) (m:=m) (b:=(a + b) / 2 + m - s)
  have e2:=g1.len
  have e3:=g3.len
  have hE1:=fun (q:¬ (s < m ∧ m < (a + b) / 2 + m - s)) => (rL (by omega):rot l s m ((a + b) / 2 + m - s) = l)
  have hE2:=fun (q:¬ (a < s ∧ s < (a + b) / 2)) => (gp hbn.1 (by rw [e1];omega) (.refl _ _ _) (hlo.triv (by omega))).symm
  have hE3:=fun (q:¬ ((a + b) / 2 < (a + b) / 2 + m - s ∧ (a + b) / 2 + m - s < b)) => (gp (by omega) (by rw [e2,e1];omega) (.refl _ _ _) (hh2.triv (by omega))).symm
  by_cases c1:s < m ∧ m < (a + b) / 2 + m - s
  rotate_left
  ·have q1:=hE1 c1
   rw [q1] at hlo hhi hr1 hr2 hh2 hfin e1 e2 e3 hE2 hE3
   repeat' (first
| apply yds;rfl
| apply yd;rfl
| apply zsw;rfl;rfl;rfl;rfl;omega;exact nS;rfl;rfl
| apply zcv;rfl;exact tk;rfl;rfl;rfl;(first | exact wU (by omega) | exact wI (by omega));rfl;rfl
| apply zcs;(iterate 10 rfl);exact b7 (by omega) (by omega);exact fun _ => rfl;exact fun _ => rfl;rfl;rfl;rfl;rfl
| apply yix;rfl;omega
| apply yle;rfl;omega
| intro _
| refine nv ?_
| apply wct rfl
| apply wcf rfl
| apply ah rfl
| apply ai;rfl
| apply yar;rfl;omega
| refine zdq (id:=35) rfl (by kernel_rfl) [(.p,0),(.p,1),(.p,2),(.p,3),(.p,4),(.p,5),(.p,7),(.p,8),(.p,9),(.t,6),(.t,10),(.o,11),(.p,12),(.p,13)] [] (by kernel_rfl) rfl ?_
| apply ycw  [true,false,false];rfl;(exact bv (by omega) (by omega) (by omega));rfl
| apply ycw [true,false,false];rfl;(exact ih (by omega) (by assumption) (by assumption) (by omega) (by omega));rfl
| fail)
   all_goals first
    | (exfalso;omega)
    | (first
       | (rw [hfin]
          exact ak [0,1,2] rfl rfl rfl rfl rfl rfl)
       | (have q:=hE2 (by omega)
          rw [q] at hfin
          rw [hfin]
          exact ak [0,1,2] rfl rfl rfl rfl rfl rfl)
       | (have q:=hE3 (by omega)
          rw [q] at hfin
          rw [hfin]
          exact ak [0,1,2] rfl rfl rfl rfl rfl rfl)
       | (have q:=hE3 (by omega)
          have q2:=hE2 (by omega)
          rw [q,q2] at hfin
          rw [← hfin]
          exact ak [0,1,2] rfl rfl rfl rfl rfl rfl))
    | trace_state
  ·
   repeat' (first
| apply yds;rfl
| apply yd;rfl
| apply zsw;rfl;rfl;rfl;rfl;omega;exact nS;rfl;rfl
| apply zcv;rfl;exact tk;rfl;rfl;rfl;(first | exact wU (by omega) | exact wI (by omega));rfl;rfl
| apply zcs;(iterate 10 rfl);exact b7 (by omega) (by omega);exact fun _ => rfl;exact fun _ => rfl;rfl;rfl;rfl;rfl
| apply yix;rfl;omega
| apply yle;rfl;omega
| intro _
| refine nv ?_
| apply wct rfl
| apply wcf rfl
| apply ah rfl
| apply ai;rfl
| apply yar;rfl;omega
| refine zdq (id:=35) rfl (by kernel_rfl) [(.p,0),(.p,1),(.p,2),(.p,3),(.p,4),(.p,5),(.p,7),(.p,8),(.p,9),(.t,6),(.t,10),(.o,11),(.p,12),(.p,13)] [] (by kernel_rfl) rfl ?_
| apply ycw  [true,false,false];rfl;(exact bv (by omega) (by omega) (by omega));rfl
| apply ycw [true,false,false];rfl;(exact ih (by omega) (by assumption) (by assumption) (by omega) (by omega));rfl
| fail)
   all_goals first
    | (exfalso;omega)
    | (first
       | (rw [hfin]
          exact ak [0,1,2] rfl rfl rfl rfl rfl rfl)
       | (have q:=hE2 (by omega)
          rw [q] at hfin
          rw [hfin]
          exact ak [0,1,2] rfl rfl rfl rfl rfl rfl)
       | (have q:=hE3 (by omega)
          rw [q] at hfin
          rw [hfin]
          exact ak [0,1,2] rfl rfl rfl rfl rfl rfl)
       | (have q:=hE3 (by omega)
          have q2:=hE2 (by omega)
          rw [q,q2] at hfin
          rw [← hfin]
          exact ak [0,1,2] rfl rfl rfl rfl rfl rfl))
    | trace_state
 ·
  repeat' (first
| apply yds;rfl
| apply yd;rfl
| apply zsw;rfl;rfl;rfl;rfl;omega;exact nS;rfl;rfl
| apply zcv;rfl;exact tk;rfl;rfl;rfl;(first | exact wU (by omega) | exact wI (by omega));rfl;rfl
| intro _
| refine nv ?_
| apply wct rfl
| apply wcf rfl
| apply ai;rfl
| apply yar;rfl;omega
| fail)
  all_goals first | (exfalso;omega) | skip
  refine wlp (X:=Int × Int) [0,1,2,3,4,18,19,22] [0,1,2] (fun x => [(20,I x.1),(21,I x.2)]) (fun _ => []) (fun x => (a ≤ x.1 ∧ x.1 ≤ x.2 ∧ x.2 ≤ m) ∧ (x.1 = a ∨ so (rd ov) (rd l (x.1 - 1)) (rd l ((a + b) / 2 + m - x.1))) ∧ (x.2 = m ∨ so (rd ov) (rd l ((a + b) / 2 + m - x.2 - 1)) (rd l x.2))) (fun x => (x.2 - x.1).toNat) (a,m) ⟨by dsimp only;omega,.inl rfl,.inl rfl⟩ rfl rfl (fun _ => rfl) (fun _ => rfl) ⟨rfl,rfl,rfl,rfl,rfl,rfl,rfl,rfl⟩ (fun x hx => ?_)
  obtain ⟨s,r⟩:=x
  obtain ⟨hij,hA,hB⟩:=hx
  dsimp only at hij hA hB ⊢
  by_cases hlt:s < r
  ·
   have hh:s ≤ (s + r) / 2 ∧ (s + r) / 2 < r:=by omega
   have hr1:=hr ((s + r) / 2) (by omega) (by omega)
   have hr2:=hr ((a + b) / 2 + m - 1 - (s + r) / 2) (by omega) (by omega)
   have hcr:=hs.cr ((s + r) / 2) ((a + b) / 2 + m - 1 - (s + r) / 2) (by omega) (by omega) (by omega) (by omega)
   have hpk:0 ≤ pick (rd ov (rd l ((a + b) / 2 + m - 1 - (s + r) / 2)) < rd ov (rd l ((s + r) / 2))) 1 0:=mA
   have hup:=fun (q:¬ rd ov (rd l ((a + b) / 2 + m - 1 - (s + r) / 2)) > rd ov (rd l ((s + r) / 2))) => (⟨by omega,.inr (by
     rw [show (s + r) / 2 + 1 - 1 = (s + r) / 2 from by omega,show (a + b) / 2 + m - ((s + r) / 2 + 1) = (a + b) / 2 + m - 1 - (s + r) / 2 from by omega]
     exact (qR hcr).2 q),hB⟩:(a ≤ (s + r) / 2 + 1 ∧ (s + r) / 2 + 1 ≤ r ∧ r ≤ m) ∧ ((s + r) / 2 + 1 = a ∨ so (rd ov) (rd l ((s + r) / 2 + 1 - 1)) (rd l ((a + b) / 2 + m - ((s + r) / 2 + 1)))) ∧ (r = m ∨ so (rd ov) (rd l ((a + b) / 2 + m - r - 1)) (rd l r)))
   have hdn:=fun (q:rd ov (rd l ((a + b) / 2 + m - 1 - (s + r) / 2)) > rd ov (rd l ((s + r) / 2))) => (⟨by omega,hA,.inr (by
     rw [show (a + b) / 2 + m - (s + r) / 2 - 1 = (a + b) / 2 + m - 1 - (s + r) / 2 from by omega]
     exact (qQ hcr).2 q)⟩:(a ≤ s ∧ s ≤ (s + r) / 2 ∧ (s + r) / 2 ≤ m) ∧ (s = a ∨ so (rd ov) (rd l (s - 1)) (rd l ((a + b) / 2 + m - s))) ∧ ((s + r) / 2 = m ∨ so (rd ov) (rd l ((a + b) / 2 + m - (s + r) / 2 - 1)) (rd l ((s + r) / 2))))
   repeat' (first
| apply yds;rfl
| apply yd;rfl
| apply zsw;rfl;rfl;rfl;rfl;omega;exact nS;rfl;rfl
| apply zcv;rfl;exact tk;rfl;rfl;rfl;(first | exact wU (by omega) | exact wI (by omega));rfl;rfl
| apply zcs;(iterate 10 rfl);exact b7 (by omega) (by omega);exact fun _ => rfl;exact fun _ => rfl;rfl;rfl;rfl;rfl
| apply yix;rfl;omega
| apply yle;rfl;omega
| intro _
| refine nv ?_
| apply wct rfl
| apply wcf rfl
| apply ah rfl
| apply ai;rfl
| apply yar;rfl;omega
| refine zdq (id:=35) rfl (by kernel_rfl) [(.p,0),(.p,1),(.p,2),(.p,3),(.p,4),(.p,5),(.p,7),(.p,8),(.p,9),(.t,6),(.t,10),(.o,11),(.p,12),(.p,13)] [] (by kernel_rfl) rfl ?_
| apply ycw  [true,false,false];rfl;(exact bv (by omega) (by omega) (by omega));rfl
| fail)
   all_goals first
    | exact aB ((s + r) / 2 + 1,r) [0,1,2] ⟨rfl,rfl,rfl,rfl,rfl,rfl,rfl,rfl⟩ (hup (by assumption)) (by first | omega | (dsimp only;omega))
    | exact aB (s,(s + r) / 2) [0,1,2] ⟨rfl,rfl,rfl,rfl,rfl,rfl,rfl,rfl⟩ (hdn (by assumption)) (by first | omega | (dsimp only;omega))
    | (exfalso;omega)
    | trace_state
  obtain rfl:s = r:=by omega
  have hSR:SR (rd ov) l a m b s ((a + b) / 2 + m - s) ((a + b) / 2):=⟨hs,by omega,by rcases hA with h | h <;> first | exact .inr (.inr h) | (by_cases hq:s = a <;> first | exact .inl hq | exact .inr (.inl (by omega))),by rcases hB with h | h <;> first | exact .inr (.inr h) | (by_cases hq:s = m <;> first | exact .inl hq | exact .inr (.inl (by omega)))⟩
  have hlo:=hSR.low
  have hhi:=hSR.high
  have hm1:=hSR.mv
  have hr1:=hr.mv hm1 hbn.1 hbn.2.2.2
  obtain ⟨g1,g2⟩:=nF hlo.ex
  have hr2:=hr1.mv g1 hbn.1 (by rw [bp];omega)
  have hh2:=hhi.mv g1 hbn.1
  obtain ⟨g3,g4⟩:=nF hh2.ex
  obtain ⟨f1,f2⟩:=hSR.both g1 g2 g3 g4
  have hfin:=gp hbn.1 hbn.2.2.2 f1 f2
  have e1:=bp (l:=l) (a:=s) (m:=m) (b:=(a + b) / 2 + m - s)
  have e2:=g1.len
  have e3:=g3.len
  have hE1:=fun (q:¬ (s < m ∧ m < (a + b) / 2 + m - s)) => (rL (by omega):rot l s m ((a + b) / 2 + m - s) = l)
  have hE2:=fun (q:¬ (a < s ∧ s < (a + b) / 2)) => (gp hbn.1 (by rw [e1];omega) (.refl _ _ _) (hlo.triv (by omega))).symm
  have hE3:=fun (q:¬ ((a + b) / 2 < (a + b) / 2 + m - s ∧ (a + b) / 2 + m - s < b)) => (gp (by omega) (by rw [e2,e1];omega) (.refl _ _ _) (hh2.triv (by omega))).symm
  by_cases c1:s < m ∧ m < (a + b) / 2 + m - s
  rotate_left
  ·have q1:=hE1 c1
   rw [q1] at hlo hhi hr1 hr2 hh2 hfin e1 e2 e3 hE2 hE3
   repeat' (first
| apply yds;rfl
| apply yd;rfl
| apply zsw;rfl;rfl;rfl;rfl;omega;exact nS;rfl;rfl
| apply zcv;rfl;exact tk;rfl;rfl;rfl;(first | exact wU (by omega) | exact wI (by omega));rfl;rfl
| apply zcs;(iterate 10 rfl);exact b7 (by omega) (by omega);exact fun _ => rfl;exact fun _ => rfl;rfl;rfl;rfl;rfl
| apply yix;rfl;omega
| apply yle;rfl;omega
| intro _
| refine nv ?_
| apply wct rfl
| apply wcf rfl
| apply ah rfl
| apply ai;rfl
| apply yar;rfl;omega
| refine zdq (id:=35) rfl (by kernel_rfl) [(.p,0),(.p,1),(.p,2),(.p,3),(.p,4),(.p,5),(.p,7),(.p,8),(.p,9),(.t,6),(.t,10),(.o,11),(.p,12),(.p,13)] [] (by kernel_rfl) rfl ?_
| apply ycw  [true,false,false];rfl;(exact bv (by omega) (by omega) (by omega));rfl
| apply ycw [true,false,false];rfl;(exact ih (by omega) (by assumption) (by assumption) (by omega) (by omega));rfl
| fail)
   all_goals first
    | (exfalso;omega)
    | (first
       | (rw [hfin]
          exact ak [0,1,2] rfl rfl rfl rfl rfl rfl)
       | (have q:=hE2 (by omega)
          rw [q] at hfin
          rw [hfin]
          exact ak [0,1,2] rfl rfl rfl rfl rfl rfl)
       | (have q:=hE3 (by omega)
          rw [q] at hfin
          rw [hfin]
          exact ak [0,1,2] rfl rfl rfl rfl rfl rfl)
       | (have q:=hE3 (by omega)
          have q2:=hE2 (by omega)
          rw [q,q2] at hfin
          rw [← hfin]
          exact ak [0,1,2] rfl rfl rfl rfl rfl rfl))
    | trace_state
  ·
   repeat' (first
| apply yds;rfl
| apply yd;rfl
| apply zsw;rfl;rfl;rfl;rfl;omega;exact nS;rfl;rfl
| apply zcv;rfl;exact tk;rfl;rfl;rfl;(first | exact wU (by omega) | exact wI (by omega));rfl;rfl
| apply zcs;(iterate 10 rfl);exact b7 (by omega) (by omega);exact fun _ => rfl;exact fun _ => rfl;rfl;rfl;rfl;rfl
| apply yix;rfl;omega
| apply yle;rfl;omega
| intro _
| refine nv ?_
| apply wct rfl
| apply wcf rfl
| apply ah rfl
| apply ai;rfl
| apply yar;rfl;omega
| refine zdq (id:=35) rfl (by kernel_rfl) [(.p,0),(.p,1),(.p,2),(.p,3),(.p,4),(.p,5),(.p,7),(.p,8),(.p,9),(.t,6),(.t,10),(.o,11),(.p,12),(.p,13)] [] (by kernel_rfl) rfl ?_
| apply ycw  [true,false,false];rfl;(exact bv (by omega) (by omega) (by omega));rfl
| apply ycw [true,false,false];rfl;(exact ih (by omega) (by assumption) (by assumption) (by omega) (by omega));rfl
| fail)
   all_goals first
    | (exfalso;omega)
    | (first
       | (rw [hfin]
          exact ak [0,1,2] rfl rfl rfl rfl rfl rfl)
       | (have q:=hE2 (by omega)
          rw [q] at hfin
          rw [hfin]
          exact ak [0,1,2] rfl rfl rfl rfl rfl rfl)
       | (have q:=hE3 (by omega)
          rw [q] at hfin
          rw [hfin]
          exact ak [0,1,2] rfl rfl rfl rfl rfl rfl)
       | (have q:=hE3 (by omega)
          have q2:=hE2 (by omega)
          rw [q,q2] at hfin
          rw [← hfin]
          exact ak [0,1,2] rfl rfl rfl rfl rfl rfl))
    | trace_state
theorem mP {ov:List Int} {z:Nat} (h0:z ≤ 1000):∀ (k:Nat) {l:List Int} {a m b:Int},l.length = z → SM (rd ov) l a m b → Rng l ov.length → (b - a).toNat < k → a < m ∧ m < b → FC Tryz.prog 340 [.c (.row 0 0 z),I a,I m,I b,.c (.fn 302 [(1,0,0)])] ([ow 3 l,vO 2 ov.length,ro 3 ov]) (.tup []) ([ow 3 (stb (rd ov) l a b),vO 2 ov.length,ro 3 ov])
 | 0,_,_,_,_,_,_,_,h,_ => absurd h (Nat.not_lt_zero _)
 | k + 1,l,a,m,b,h1,h2,h3,h4,h5 => gn (k:=(b - a).toNat) (fun q1 q2 q3 q4 q5 => mP h0 k q1 q2 q3 (by omega) q5) h1 h2 h3 (by omega) (Nat.le_refl _) h5
theorem jF {l ov:List Int} {z:Nat} {a m b:Int} (hz:l.length = z) (hs:SM (rd ov) l a m b) (hr:Rng l ov.length) (hl:l.length ≤ 1000) (hp:a < m ∧ m < b):FC Tryz.prog 340 [.c (.row 0 0 z),I a,I m,I b,.c (.fn 302 [(1,0,0)])] ([ow 3 l,vO 2 ov.length,ro 3 ov]) (.tup []) ([ow 3 (stb (rd ov) l a b),vO 2 ov.length,ro 3 ov]):=mP (by omega) _ hz hs hr (Nat.lt_succ_self _) hp
end
section
open Go.RowKit
theorem yC (g:Int → Int):gk g 0 = []:=List.length_eq_zero_iff.1 (mw g 0)
theorem iY {α:Type} {f:Int → α} {i:Int} (h:0 ≤ i):mkl (i + 1).toNat f = mkl i.toNat f ++ [f i]:=by
 rw [show (i + 1).toNat = i.toNat + 1 from by omega]
 unfold mkl
 rw [List.range_succ,List.map_append]
 show _ ++ [f (i.toNat:Int)] = _
 rw [Int.toNat_of_nonneg h]
theorem Am {u v:List Int} {p:Int} (h:0 ≤ p ∧ p < u.length):rd (u ++ v) p = rd u p:=by
 unfold rd
 rw [List.getD_eq_getElem?_getD,List.getD_eq_getElem?_getD,List.getElem?_append_left (by omega)]
theorem zR {u:List Int} {k x:Int} (h:0 ≤ k ∧ k ≤ u.length):[] ++ sub u 0 k ++ [x] ++ sub u k u.length = ins u k x:=by
 unfold sub ins
 rw [List.nil_append,Int.toNat_natCast,List.take_length]
 simp
theorem nZ {t:Int} {ws:List Int} (h:shareable t ws):FC Tryz.prog 244 [I t,.c (.row 0 0 ws.length)] ([ro 3 ws]) (.c (.row 1 0 (dY t ws).length)) ([ro 3 ws,ow 3 (dY t ws)]):=by
 refine ax tk 75 [.tmp 4] Tryz.func244 (by kernel_rfl) rfl rfl rfl rfl rfl rfl rfl ?_
 have hw:=h.1
 have ht:=h.2
 have hln:(1:Int) ≤ ws.length ∧ (ws.length:Int) ≤ 40:=h.1.1
 repeat' (first
| intro h9;exfalso;contradiction
| apply yds;rfl
| apply yd;rfl
| intro _
| refine nv ?_
| apply wcf rfl
| apply aH (α:=Int) (e:=3);rfl
| apply ycp;rfl;(first | exact ii | exact aJ);rfl
| fail)
 refine wlp (X:=Int × List Int × List Int) [0,1] [0,1,2] (fun x => [(7,I x.1),(5,.c (.row 1 0 x.2.1.length)),(6,.c (.row 2 0 x.2.2.length))]) (fun x => [(1,ow 3 x.2.1),(2,ow 3 x.2.2)]) (fun x => (0 ≤ x.1 ∧ x.1 ≤ ws.length) ∧ x.2.1 = gk (shG t ws) x.1.toNat ∧ x.2.2 = mkl x.1.toNat (shG t ws)) (fun x => (ws.length - x.1).toNat) (0,[],[]) ⟨by dsimp only;omega,(yC _).symm,rfl⟩ rfl rfl (fun _ => rfl) (fun _ => rfl) ⟨rfl,rfl,rfl,rfl,rfl,rfl,rfl,rfl⟩ (fun x hx => ?_)
 obtain ⟨i,u,v⟩:=x
 obtain ⟨h0,hu,hv⟩:=hx
 dsimp only at h0 hu hv ⊢
 by_cases hil:i < ws.length
 rotate_left
 ·
  repeat' (first
| intro h9;exfalso;contradiction
| apply yds;rfl
| intro _
| refine nv ?_
| apply wcf rfl
| apply ah rfl
| apply ai;rfl
| fail)
  all_goals
   rw [show u = dY t ws from by rw [hu,dY,show i.toNat = ws.length from by omega]]
   exact ak [0,1] rfl rfl rfl rfl rfl rfl
 have hul:(u.length:Int) = i:=by rw [hu,mw];omega
 have hvl:(v.length:Int) = i:=by rw [hv,ce];omega
 have hv2:v ++ [t * rd ws i % ao id ws] = mkl (i + 1).toNat (shG t ws):=by rw [iY h0.1,← hv];rfl
 have hrng:=fun (p:Int) (h1:0 ≤ p) (h2:p < i) => (by rw [hu];have:=i6 (g:=shG t ws) (n:=i.toNat) (i:=p) ⟨h1,by omega⟩;omega:0 ≤ rd u p ∧ rd u p < i)
 have hrd:=fun (p:Int) (h1:0 ≤ p) (h2:p < i) => (by rw [Am (by have:=hrng p h1 h2;omega),hv,dC (by have:=hrng p h1 h2;omega)]:rd (v ++ [t * rd ws i % ao id ws]) (rd u p) = shG t ws (rd u p))
 repeat' (first
| intro h9;exfalso;contradiction
| apply yds;rfl
| apply yd;rfl
| intro _
| refine nv ?_
| apply wct rfl
| apply ai;rfl
| apply aH (α:=Int) (e:=3);rfl
| apply yap;rfl;(((try simp only [lE,lM]);(try dsimp only);omega))
| apply yc;rfl;exact jG (by assumption) (by omega);rfl;exact fun _ => rfl
| fail)
 refine wlp (X:=Int) [0,1,5,7,9] [0,1,4] (fun k => [(11,I k),(6,.c (.row 2 0 (v ++ [t * rd ws i % ao id ws]).length))]) (fun _ => []) (fun k => (0 ≤ k ∧ k ≤ i) ∧ ∀ p:Int,k ≤ p → p < i → shG t ws (rd u p) < t * rd ws i % ao id ws) (fun k => k.toNat) u.length ⟨⟨by omega,by omega⟩,fun p h1 h2 => by omega⟩ rfl rfl (fun _ => rfl) (fun _ => rfl) ⟨rfl,rfl,rfl,rfl,rfl,rfl,rfl,rfl⟩ (fun k hk => ?_)
 obtain ⟨k0,hlow⟩:=hk
 have hr1:=fun (h1:0 < k) => hrng (k - 1) (by omega) (by omega)
 have hr2:=fun (h1:0 < k) => hrd (k - 1) (by omega) (by omega)
 have hs1:=fp (l:=u) (a:=0) (b:=k) ⟨by omega,by omega,by omega⟩
 have hs2:=fp (l:=u) (a:=k) (b:=u.length) ⟨by omega,by omega,by omega⟩
 have e:(i.toNat:Int) = i:=by omega
 have hins:=fun (hq:k = 0 ∨ ¬ rd (v ++ [t * rd ws i % ao id ws]) (rd u (k - 1)) < t * rd ws i % ao id ws) => (by
  have:=wQ (g:=shG t ws) (n:=i.toNat) (k:=k) ⟨k0.1,by omega⟩ (by
   rcases hq with q | q
   ·exact .inl q
   ·by_cases hk:k = 0
    ·exact .inl hk
    ·right
     rw [e,← hu,← hr2 (by omega)]
     exact q) (by rw [e,← hu];exact hlow)
  rw [← hu,e,← show (i + 1).toNat = i.toNat + 1 from by omega] at this
  rw [zR (by omega)]
  exact this:[] ++ sub u 0 k ++ [i] ++ sub u k u.length = gk (shG t ws) (i + 1).toNat)
 repeat' (first
| apply yds;rfl
| apply yd;rfl
| intro _
| refine nv ?_
| apply wct rfl
| apply wcf rfl
| apply ah rfl
| apply ai;rfl
| apply yar;rfl;omega
| apply yix;rfl;(first | omega | ((try simp only [lE,lM]);(try dsimp only);omega))
| apply yle;rfl;(first | omega | ((try simp only [lE,lM]);(try dsimp only);omega))
| apply ysl;rfl;omega
| apply aH (α:=Int) (e:=3);rfl
| apply yap;rfl;(((try simp only [lE,lM]);(try dsimp only);omega))
| fail)
 all_goals first
  | exact aB (k - 1) [0,1,2] ⟨rfl,rfl,rfl,rfl,rfl,rfl,rfl,rfl⟩ ⟨by omega,fun p h1 h2 => by
     by_cases hp:p = k - 1
     ·rw [hp,← hr2 (by omega)];assumption
     ·exact hlow p (by omega) h2⟩ (by first | omega | (dsimp only;omega))
  | exact aB (i + 1,[] ++ sub u 0 k ++ [i] ++ sub u k u.length,v ++ [t * rd ws i % ao id ws]) [0,9,2] ⟨rfl,rfl,rfl,rfl,rfl,rfl,rfl,rfl⟩ ⟨by dsimp only;omega,hins (by first | exact .inl (by omega) | exact .inr (by assumption)),hv2⟩ (by first | omega | (dsimp only;omega))
  | trace_state
end
end Go.Proofs.YtgehbhkfehmdkaaGreat.Sh
