/- The stable sort of places. No condition. -/
import Derived.Test.YtgehbhkfehmdkaaGreatKUShV
import Derived.Test.YtgehbhkfehmdkaaGreatKUShWe
set_option maxRecDepth 100000
set_option maxHeartbeats 40000000
set_option linter.unusedSimpArgs false
set_option linter.unusedVariables false
namespace Go.Proofs.YtgehbhkfehmdkaaGreat.Sh
section
open Go.RowKit
def Up (l:List Int) (a b:Int):Prop:=∀ i j:Int,a ≤ i → i < j → j < b → rd l i < rd l j
theorem Up.ds {l:List Int} {a b:Int} (h:Up l a b):DS l a b:=fun i j h0 h1 h2 => by have:=h i j h0 h1 h2;omega
theorem Up.sub {l:List Int} {a b a2 b2:Int} (h:Up l a b) (h0:a ≤ a2) (h1:b2 ≤ b):Up l a2 b2:=fun i j k0 k1 k2 => h i j (by omega) k1 (by omega)
theorem Up.ok {g:Int → Int} {l:List Int} {a b:Int} (h:Up l a b) (h0:0 ≤ a) (hb:b ≤ l.length):Mv l (stb g l a b) a b ∧ RS g (stb g l a b) a b:=nF (yY h0 hb h.ds)
theorem Up.mv {l u:List Int} {a b c:Int} (h:Up l a c) (hm:Mv l u a b) (h0:0 ≤ a ∧ a ≤ b):Up u b c:=fun i j k0 k1 k2 => by
 rw [hm.out i (by omega) (by omega),hm.out j (by omega) (by omega)]
 exact h i j (by omega) k1 k2
theorem w8 {g:Int → Int} {l:List Int} {a b:Int} (h0:0 ≤ a) (hb:b ≤ l.length) (h:b ≤ a + 1):stb g l a b = l:=(gp h0 hb (.refl _ _ _) (fun i j k0 k1 k2 => by omega)).symm
theorem uY {g:Int → Int} {l:List Int} {c n:Int} (h:Up l 0 n) (hc:0 ≤ c ∧ c ≤ n) (hn:n ≤ l.length):SM g (stb g (stb g l 0 c) c n) 0 c n ∧ Mv l (stb g (stb g l 0 c) c n) 0 n:=by
 obtain ⟨m1,r1⟩:=(h.sub (Int.le_refl 0) hc.2).ok (g:=g) (Int.le_refl 0) (by omega)
 have hl1:=m1.len
 have u1:Up (stb g l 0 c) c n:=h.mv m1 ⟨Int.le_refl 0,hc.1⟩
 obtain ⟨m2,r2⟩:=u1.ok (g:=g) hc.1 (by rw [hl1];exact hn)
 refine ⟨⟨⟨Int.le_refl 0,hc.1,hc.2,by rw [m2.len,hl1];exact hn⟩,fun i j k0 k1 k2 => ?_,r2,fun i j k0 k1 k2 k3 => ?_⟩,(m1.wide (Int.le_refl 0) (Int.le_refl 0) hc.2).trans (m2.wide (Int.le_refl 0) hc.1 (Int.le_refl n))⟩
 ·rw [m2.out i k0 (by omega),m2.out j (by omega) (by omega)]
  exact r1 i j k0 k1 k2
 ·rw [m2.out i k0 (by omega)]
  obtain ⟨p,hp,e1⟩:=m1.to i k0 k1
  obtain ⟨q,hq,e2⟩:=m2.to j k2 k3
  rw [e1,e2,m1.out q (by omega) (by omega)]
  exact h p q hp.1 (by omega) hq.2
theorem AD {g:Int → Int} {l:List Int} {c n:Int} (h:Up l 0 n) (hc:0 ≤ c ∧ c ≤ n) (hn:n ≤ l.length):stb g (stb g (stb g l 0 c) c n) 0 n = stb g l 0 n:=by
 obtain ⟨h1,h2⟩:=uY (g:=g) h hc hn
 obtain ⟨m3,r3⟩:=nF h1.ex
 exact gp (Int.le_refl 0) hn (h2.trans m3) r3
theorem iO {l ov:List Int} {z:Nat} {n:Int} (hz:l.length = z) (hn:n = l.length ∧ l.length ≤ 40) (hr:Rng l ov.length) (hs:Up l 0 n):FC Tryz.prog 330 [.c (.row 0 0 z),I n,.c (.fn 302 [(1,0,0)])] ([ow 3 l,vO 2 ov.length,ro 3 ov]) (.tup []) ([ow 3 (stb (rd ov) l 0 n),vO 2 ov.length,ro 3 ov]):=by
 refine ax tk 63 [] Tryz.func330 (by kernel_rfl) rfl rfl rfl rfl rfl rfl rfl ?_
 repeat' (first
| apply yds;rfl
| apply yd;rfl
| refine nv ?_
| fail)
 refine wlp (X:=Int × Int × List Int) [0,1,2,6] [0,1,2] (fun x => [(7,I x.1),(8,I x.2.1)]) (fun x => [(0,ow 3 x.2.2)]) (fun x => x = (0,20,l) ∨ (20 ≤ n ∧ x = (20,40,stb (rd ov) l 0 20)) ∨ (n = 40 ∧ x = (40,60,stb (rd ov) (stb (rd ov) l 0 20) 20 40))) (fun x => (60 - x.1).toNat) (0,20,l) (.inl rfl) rfl rfl (fun _ => rfl) (fun _ => rfl) ⟨rfl,rfl,rfl,rfl,rfl,rfl,rfl,rfl⟩ (fun x hx => ?_)
 obtain ⟨a,b,u⟩:=x
 have hfa:(0 ≤ a ∧ b = a + 20 ∧ a ≤ 40 ∧ a ≤ n) ∧ u.length = l.length ∧ Rng u ov.length ∧ Up u a n:=by
  rcases hx with h | ⟨h0,h⟩ | ⟨h0,h⟩
  ·cases h
   exact ⟨by omega,rfl,hr,hs⟩
  ·cases h
   obtain ⟨m1,r1⟩:=(hs.sub (Int.le_refl 0) h0).ok (g:=rd ov) (Int.le_refl 0) (by omega)
   exact ⟨by omega,m1.len,hr.mv m1 (Int.le_refl 0) (by omega),hs.mv m1 ⟨Int.le_refl 0,by omega⟩⟩
  ·cases h
   obtain ⟨h1,h2⟩:=uY (g:=rd ov) (c:=20) hs (by omega) (by omega)
   rw [h0] at h1 h2
   exact ⟨by omega,h2.len,hr.mv h2 (Int.le_refl 0) (by omega),fun i j k0 k1 k2 => by omega⟩
 obtain ⟨fa,ful,fur,fup⟩:=hfa
 dsimp only at hx ⊢
 by_cases hbn:b ≤ n
 ·
  have fub:=fup.sub (Int.le_refl a) hbn
  have hnx:(b,b + 20,stb (rd ov) u a b) = (0,20,l) ∨ (20 ≤ n ∧ (b,b + 20,stb (rd ov) u a b) = (20,40,stb (rd ov) l 0 20)) ∨ (n = 40 ∧ (b,b + 20,stb (rd ov) u a b) = (40,60,stb (rd ov) (stb (rd ov) l 0 20) 20 40)):=by
   rcases hx with h | ⟨h0,h⟩ | ⟨h0,h⟩
   ·cases h
    exact .inr (.inl ⟨hbn,rfl⟩)
   ·cases h
    exact .inr (.inr ⟨by omega,rfl⟩)
   ·cases h
    omega
  repeat' (first
| intro h9;exfalso;contradiction
| apply yds;rfl
| apply yd;rfl
| intro _
| refine nv ?_
| apply wct rfl
| apply ai;rfl
| apply yar;rfl;omega
| apply ycw  [true,false,false];rfl;(exact cY (by omega) (by omega) (by omega) (by assumption) (by assumption));rfl
| fail)
  all_goals first
   | exact aB (b,b + 20,stb (rd ov) u a b) [0,1,2] ⟨rfl,rfl,rfl,rfl,rfl,rfl,rfl,rfl⟩ hnx (by first | omega | (dsimp only;omega))
   | (exfalso;omega)
   | trace_state
 have hv:(n ≤ 20 → stb (rd ov) u a n = stb (rd ov) l 0 n) ∧ (20 < n → stb (rd ov) u a n = stb (rd ov) (stb (rd ov) l 0 20) 20 n):=by
  rcases hx with h | ⟨h0,h⟩ | ⟨h0,h⟩
  ·cases h
   exact ⟨fun _ => rfl,fun k => by omega⟩
  ·cases h
   refine ⟨fun k => ?_,fun _ => rfl⟩
   rw [w8 (by omega) (by omega) (by omega),show n = 20 from by omega]
  ·cases h
   refine ⟨fun k => by omega,fun _ => ?_⟩
   rw [w8 (by omega) (by omega) (by omega),h0]
 obtain ⟨fm,_⟩:=fup.ok (g:=rd ov) fa.1 (by omega)
 have fvl:=fm.len
 have fvr:=fur.mv fm fa.1 (by omega)
 repeat' (first
| intro h9;exfalso;contradiction
| apply yds;rfl
| intro _
| refine nv ?_
| apply wcf rfl
| apply ah rfl
| apply ai;rfl
| apply ycw  [true,false,false];rfl;(exact cY (by omega) (by omega) (by omega) (by assumption) (by assumption));rfl
| fail)
 all_goals skip
 generalize hV:stb (rd ov) u a n = v at *
 refine wlp (X:=Int × List Int) [0,1,2] [0,1,2] (fun x => [(6,I x.1)]) (fun x => [(0,ow 3 x.2)]) (fun x => x = (20,v) ∨ x = (40,stb (rd ov) l 0 n)) (fun x => (40 - x.1).toNat) (20,v) (.inl rfl) rfl rfl (fun _ => rfl) (fun _ => rfl) ⟨rfl,rfl,rfl,rfl,rfl,rfl,rfl,rfl⟩ (fun x hx => ?_)
 obtain ⟨bs,w⟩:=x
 dsimp only at hx ⊢
 by_cases hbs:bs < n
 rotate_left
 ·
  have hw:w = stb (rd ov) l 0 n:=by
   rcases hx with h | h
   ·cases h
    exact hv.1 (by omega)
   ·cases h
    rfl
  repeat' (first
| intro h9;exfalso;contradiction
| apply yds;rfl
| intro _
| refine nv ?_
| apply wcf rfl
| apply ah rfl
| apply ai;rfl
| fail)
  all_goals
   rw [hw]
   exact ak [0,1,2] rfl rfl rfl rfl rfl rfl
 have hfw:bs = 20 ∧ SM (rd ov) w 0 20 n ∧ w.length = l.length ∧ Rng w ov.length ∧ stb (rd ov) w 0 n = stb (rd ov) l 0 n:=by
  rcases hx with h | h
  ·cases h
   have e:=hv.2 hbs
   obtain ⟨h1,h2⟩:=uY (g:=rd ov) (c:=20) hs (by omega) (by omega)
   rw [e]
   exact ⟨rfl,h1,h2.len,hr.mv h2 (Int.le_refl 0) (by omega),AD hs (by omega) (by omega)⟩
  ·cases h
   omega
 obtain ⟨rfl,hsm,hwl,hwr,hwf⟩:=hfw
 repeat' (first
| intro h9;exfalso;contradiction
| apply yds;rfl
| apply yd;rfl
| intro _
| refine nv ?_
| apply wct rfl
| apply ai;rfl
| apply yar;rfl;omega
| fail)
 all_goals skip
 refine wlp (X:=Int × Int × List Int) [0,1,2,6] [0,1,2] (fun x => [(7,I x.1),(8,I x.2.1)]) (fun x => [(0,ow 3 x.2.2)]) (fun x => x = (0,40,w) ∨ (n = 40 ∧ x = (40,80,stb (rd ov) w 0 40))) (fun x => (40 - x.1).toNat) (0,40,w) (.inl rfl) rfl rfl (fun _ => rfl) (fun _ => rfl) ⟨rfl,rfl,rfl,rfl,rfl,rfl,rfl,rfl⟩ (fun x hx2 => ?_)
 obtain ⟨a2,b2,w2⟩:=x
 dsimp only at hx2 ⊢
 by_cases hb2:b2 ≤ n
 ·
  have hq:(a2 = 0 ∧ b2 = 40 ∧ n = 40) ∧ w2 = w:=by
   rcases hx2 with h | ⟨h0,h⟩
   ·cases h
    exact ⟨by omega,rfl⟩
   ·cases h
    omega
  obtain ⟨⟨q1,q2,q3⟩,rfl⟩:=hq
  have hs2:SM (rd ov) w2 a2 (a2 + 20) b2:=by rw [q1,q2,← q3];exact hsm
  have hnx:(b2,b2 + 2 * 20,stb (rd ov) w2 a2 b2) = (0,40,w2) ∨ (n = 40 ∧ (b2,b2 + 2 * 20,stb (rd ov) w2 a2 b2) = (40,80,stb (rd ov) w2 0 40)):=.inr ⟨q3,by rw [q1,q2];rfl⟩
  repeat' (first
| intro h9;exfalso;contradiction
| apply yds;rfl
| apply yd;rfl
| intro _
| refine nv ?_
| apply wct rfl
| apply ai;rfl
| apply yar;rfl;omega
| apply ycw [true,false,false];rfl;(exact jF (by omega) (by assumption) (by assumption) (by omega) (by omega));rfl
| fail)
  all_goals first
   | exact aB (b2,b2 + 2 * 20,stb (rd ov) w2 a2 b2) [0,1,2] ⟨rfl,rfl,rfl,rfl,rfl,rfl,rfl,rfl⟩ hnx (by first | omega | (dsimp only;omega))
   | (exfalso;omega)
   | trace_state
 by_cases ha2:a2 = 0
 ·
  have hq:b2 = 40 ∧ w2 = w:=by
   rcases hx2 with h | ⟨h0,h⟩
   ·cases h
    exact ⟨rfl,rfl⟩
   ·cases h
    omega
  obtain ⟨q2,rfl⟩:=hq
  have hs2:SM (rd ov) w2 a2 (a2 + 20) n:=by rw [ha2];exact hsm
  have hf:stb (rd ov) w2 a2 n = stb (rd ov) l 0 n:=by rw [ha2];exact hwf
  repeat' (first
| intro h9;exfalso;first | contradiction | omega
| apply yds;rfl
| apply yd;rfl
| intro _
| refine nv ?_
| apply wct rfl
| apply wcf rfl
| apply ah rfl
| apply ai;rfl
| apply yar;rfl;omega
| apply ycw [true,false,false];rfl;(exact jF (by omega) (by assumption) (by assumption) (by omega) (by omega));rfl
| fail)
  all_goals first
   | (rw [hf]
      exact aB (40,stb (rd ov) l 0 n) [0,1,2] ⟨rfl,rfl,rfl,rfl,rfl,rfl,rfl,rfl⟩ (.inr rfl) (by first | omega | (dsimp only;omega)))
   | (exfalso;omega)
   | trace_state
 ·
  have hq:a2 = 40 ∧ n = 40 ∧ w2 = stb (rd ov) l 0 n:=by
   rcases hx2 with h | ⟨h0,h⟩
   ·cases h
    omega
   ·cases h
    exact ⟨rfl,h0,by rw [← hwf,h0]⟩
  obtain ⟨q1,q2,q3⟩:=hq
  repeat' (first
| intro h9;exfalso;first | contradiction | omega
| apply yds;rfl
| apply yd;rfl
| intro _
| refine nv ?_
| apply wcf rfl
| apply ah rfl
| apply ai;rfl
| apply yar;rfl;omega
| fail)
  all_goals first
   | (rw [q3]
      exact aB (40,stb (rd ov) l 0 n) [0,1,2] ⟨rfl,rfl,rfl,rfl,rfl,rfl,rfl,rfl⟩ (.inr rfl) (by first | omega | (dsimp only;omega)))
   | (exfalso;omega)
   | trace_state
end
section
open Go.RowKit
theorem im {l ov:List Int} {z:Nat} (hz:l.length = z) (hn:l.length ≤ 40) (hr:Rng l ov.length) (hs:Up l 0 z):FC Tryz.prog 301 [.c (.row 0 0 z),.c (.fn 302 [(1,0,0)])] ([ow 3 l,vO 2 ov.length,ro 3 ov]) (.tup []) ([ow 3 (stb (rd ov) l 0 z),vO 2 ov.length,ro 3 ov]):=by
 refine ax tk 9 [] Tryz.func301 (by kernel_rfl) rfl rfl rfl rfl rfl rfl rfl ?_
 repeat' (first
| apply yds;rfl
| refine nv ?_
| apply ycw  [true,false,false];rfl;exact iO (by omega) (by omega) (by assumption) (by assumption);rfl
| fail)
 all_goals first
  | exact ak [0,1,2] rfl rfl rfl rfl rfl rfl
  | trace_state
theorem vw (n:Nat):Up (nk n) 0 n:=fun i j h0 h1 h2 => by rw [fg ⟨h0,by omega⟩,fg ⟨by omega,h2⟩];exact h1
theorem y3 {i:Int} (h:0 ≤ i):nk i.toNat ++ [i] = nk (i + 1).toNat:=(iY (f:=fun i => i) h).symm
theorem y2 (n:Nat) {k:Nat} (h:n ≤ k):Rng (nk n) k:=fun i h0 h1 => by
 rw [eG] at h1
 rw [fg ⟨h0,h1⟩]
 omega
theorem yD {t:Int} {ws:List Int}:stb (rd (mkl ws.length (shG t ws))) (nk ws.length) 0 ws.length = dY t ws:=by
 have hl:=eG ws.length
 obtain ⟨h1,h2⟩:=(vw ws.length).ok (g:=rd (mkl ws.length (shG t ws))) (Int.le_refl 0) (by omega)
 rw [rH h1 h2,dY]
 exact uJ fun i h0 h1 => dC ⟨h0,h1⟩
theorem nU {t:Int} {ws:List Int} (h:shareable t ws):FC Tryz.prog 240 [I t,.c (.row 0 0 ws.length)] ([ro 3 ws]) (.c (.row 1 0 (dY t ws).length)) ([ro 3 ws,ow 3 (dY t ws)]):=by
 refine ax tk 43 [.tmp 4] Tryz.func240 (by kernel_rfl) rfl rfl rfl rfl rfl rfl rfl ?_
 have hw:=h.1
 have ht:=h.2
 have hln:(1:Int) ≤ ws.length ∧ (ws.length:Int) ≤ 40:=h.1.1
 repeat' (first
| intro h9;exfalso;contradiction
| apply yds;rfl
| apply yd;rfl
| intro _
| refine nv ?_
| apply wcf rfl
| apply aH (α:=Int) (e:=3);rfl
| apply ycp;rfl;exact gY;rfl
| fail)
 refine wlp (X:=Int × List Int × List Int) [0,1,6,18] [0,1,2,3] (fun x => [(19,I x.1),(5,.c (.row 1 0 x.2.1.length))]) (fun x => [(1,ow 3 x.2.1),(2,ow 3 x.2.2),(3,some ⟨true,37,1,.mx [.row 2 0 x.2.2.length]⟩)]) (fun x => (0 ≤ x.1 ∧ x.1 ≤ ws.length) ∧ x.2.1 = nk x.1.toNat ∧ x.2.2 = mkl x.1.toNat (shG t ws)) (fun x => (ws.length - x.1).toNat) (0,[],[]) ⟨by dsimp only;omega,rfl,rfl⟩ rfl rfl (fun _ => rfl) (fun _ => rfl) ⟨rfl,rfl,rfl,rfl,rfl,rfl,rfl,rfl⟩ (fun x hx => ?_)
 obtain ⟨i,u,v⟩:=x
 obtain ⟨h0,hu,hv⟩:=hx
 dsimp only at h0 hu hv ⊢
 have hul:(u.length:Int) = i:=by rw [hu,eG];omega
 have hvl:(v.length:Int) = i:=by rw [hv,ce];omega
 by_cases hil:i < ws.length
 ·
  have hu2:u ++ [i] = nk (i + 1).toNat:=by rw [hu];exact y3 h0.1
  have hv2:v ++ [t * rd ws i % ao id ws] = mkl (i + 1).toNat (shG t ws):=by rw [iY h0.1,← hv];rfl
  repeat' (first
| intro h9;exfalso;contradiction
| apply yds;rfl
| apply yd;rfl
| intro _
| refine nv ?_
| apply wct rfl
| apply ai;rfl
| apply yar;rfl;omega
| apply aH (α:=Int) (e:=3);rfl
| apply yap;rfl;(((try simp only [lE,lM]);(try dsimp only);omega))
| apply yc;rfl;exact jC (by assumption) (by omega);rfl;exact fun _ => rfl
| fail)
  all_goals first
   | exact aB (i + 1,u ++ [i],v ++ [t * rd ws i % ao id ws]) [0,5,7,3] ⟨rfl,rfl,rfl,rfl,rfl,rfl,rfl,rfl⟩ ⟨by dsimp only;omega,hu2,hv2⟩ (by first | omega | (dsimp only;omega))
   | trace_state
 have e:i.toNat = ws.length:=by omega
 have hur:Rng u v.length:=by rw [hu];exact y2 _ (by omega)
 have huu:Up u 0 u.length:=by rw [hu,eG];exact vw _
 have hf:stb (rd v) u 0 u.length = dY t ws:=by rw [show (u.length:Int) = ws.length from by omega,hu,hv,e];exact yD
 have hfl:(dY t ws).length = u.length:=by rw [kZ];omega
 repeat' (first
| intro h9;exfalso;contradiction
| apply yds;rfl
| intro _
| refine nv ?_
| apply wcf rfl
| apply ah rfl
| apply ai;rfl
| apply ycw  [true,false,false];rfl;exact im (by omega) (by omega) (by assumption) (by assumption);rfl
| fail)
 all_goals first
  | (rw [hf,← hfl]
     exact ak [0,1] rfl rfl rfl rfl rfl rfl)
  | trace_state
end
section
open Go.RowKit
theorem yM {l:List Int} {f:Int → Int} {i:Int} (h:0 ≤ i ∧ i < l.length):rd (l.map f) i = f (rd l i):=by
 unfold rd
 rw [List.getD_eq_getElem?_getD,List.getD_eq_getElem?_getD,List.getElem?_map,List.getElem?_eq_getElem (by omega:i.toNat < l.length)]
 rfl
theorem w5 {t i:Int} {ws:List Int} (h:shareable t ws) (hi:0 ≤ i ∧ i < ws.length):0 ≤ rd (fx t ws) i ∧ rd (fx t ws) i ≤ 1000000000000000:=by
 rw [fx,yM hi]
 have h1:=h.q (aA hi)
 have h2:=h.2.2
 show 0 ≤ t * rd ws i / ao id ws ∧ t * rd ws i / ao id ws ≤ _
 omega
theorem w4 {t:Int} {ws:List Int} (h:shareable t ws):∀ x ∈ fx t ws,inP x 0 1000000000000000:=fun x hx => by
 obtain ⟨j,hj,rfl⟩:=bw hx
 rw [dE] at hj
 exact w5 h hj
theorem nw {t i:Int} {ws:List Int} (hi:0 ≤ i ∧ i < ws.length):pf (fx t ws) (i + 1) = pf (fx t ws) i ++ [t * rd ws i / ao id ws]:=by
 rw [cg (by rw [dE];exact hi),fx,yM hi]
 rfl
noncomputable def jJ (t:Int) (ws:List Int) (k:Int):List Int:=(pf (dY t ws) k).foldl inc (fx t ws)
theorem iW (t:Int) (ws:List Int) (k:Int):(jJ t ws k).length = ws.length:=by rw [jJ,t5,dE]
theorem kR {t:Int} {ws:List Int} {k:Int} (h:0 ≤ k ∧ k < ws.length):jJ t ws (k + 1) = upd (jJ t ws k) (rd (dY t ws) k) (rd (jJ t ws k) (rd (dY t ws) k) + 1):=wE (by rw [kZ];exact h)
theorem l4 {t:Int} {ws:List Int} {k:Int} (h:0 ≤ k ∧ k < ws.length):0 ≤ rd (dY t ws) k ∧ rd (dY t ws) k < ws.length:=i6 h
theorem ou {t:Int} {ws:List Int} (h:shareable t ws):∀ k:Nat,(k:Int) ≤ ws.length → ∀ j:Int,0 ≤ j → j < ws.length → 0 ≤ rd (jJ t ws k) j ∧ rd (jJ t ws k) j ≤ 1000000000000000 + k
 | 0,_,j,h0,h1 => by
   have:=w5 h ⟨h0,h1⟩
   show 0 ≤ rd (fx t ws) j ∧ rd (fx t ws) j ≤ _
   omega
 | k + 1,hk,j,h0,h1 => by
   have ih:=ou h k (by omega)
   have hr:=l4 (t:=t) (ws:=ws) (k:=k) ⟨by omega,by omega⟩
   have i1:=ih _ hr.1 hr.2
   have i2:=ih j h0 h1
   have e:((k + 1:Nat):Int) = (k:Int) + 1:=by omega
   rw [e,kR ⟨by omega,by omega⟩]
   by_cases c:j = rd (dY t ws) k
   ·rw [c,bM (by rw [iW];exact hr)]
    omega
   ·rw [i9 hr.1 h0 c]
    omega
theorem kF {t:Int} {ws:List Int} (h:shareable t ws):FC Tryz.prog 135 [I t,.c (.row 0 0 ws.length)] ([ro 3 ws]) (.tup [.c (.row 1 0 (shs t ws).length),B true]) ([ro 3 ws,ow 3 (shs t ws)]):=by
 refine ax tk 69 [.tmp 4,.tmp 5] Tryz.func135 (by kernel_rfl) rfl rfl rfl rfl rfl rfl rfl ?_
 have hw:=h.1
 have ht:=h.2
 have hln:(1:Int) ≤ ws.length ∧ (ws.length:Int) ≤ 40:=h.1.1
 have htb:0 ≤ t ∧ t ≤ 1000000000000000:=h.2
 repeat' (first
| intro h9;exfalso;contradiction
| apply yds;rfl
| apply yd;rfl
| intro _
| refine nv ?_
| apply wcf rfl
| apply aH (α:=Int) (e:=3);rfl
| apply ycp;rfl;(first | exact ii | exact aJ);rfl
| fail)
 refine wlp (X:=Int × List Int × Int) [0,1] [0,1] (fun x => [(8,I x.1),(6,.c (.row 1 0 x.2.1.length)),(7,I x.2.2)]) (fun x => [(1,ow 3 x.2.1)]) (fun x => (0 ≤ x.1 ∧ x.1 ≤ ws.length) ∧ x.2.1 = pf (fx t ws) x.1 ∧ x.2.2 = t - ao id (pf (fx t ws) x.1)) (fun x => (ws.length - x.1).toNat) (0,[],t) ⟨by dsimp only;omega,rfl,by show t = t - 0;omega⟩ rfl rfl (fun _ => rfl) (fun _ => rfl) ⟨rfl,rfl,rfl,rfl,rfl,rfl,rfl,rfl⟩ (fun x hx => ?_)
 obtain ⟨i,u,n⟩:=x
 obtain ⟨h0,hu,hn⟩:=hx
 dsimp only at h0 hu hn ⊢
 have hul:(u.length:Int) = i:=by rw [hu];exact bS (by rw [dE];exact h0)
 have hbd:=zk (w4 h) (i:=i) (by rw [dE];exact h0)
 by_cases hil:i < ws.length
 ·
  have hq:=h.q (aA ⟨h0.1,hil⟩)
  have hu2:u ++ [t * rd ws i / ao id ws] = pf (fx t ws) (i + 1):=by rw [nw ⟨h0.1,hil⟩,hu]
  have hn2:n - t * rd ws i / ao id ws = t - ao id (pf (fx t ws) (i + 1)):=by
   rw [nw ⟨h0.1,hil⟩,bk,cT,hn]
   simp only [id]
   omega
  repeat' (first
| intro h9;exfalso;contradiction
| apply yds;rfl
| apply yd;rfl
| intro _
| refine nv ?_
| apply wct rfl
| apply ai;rfl
| apply yar;rfl;omega
| apply aH (α:=Int) (e:=3);rfl
| apply yap;rfl;(((try simp only [lE,lM]);(try dsimp only);omega))
| apply yc;rfl;exact jG (by assumption) (by omega);rfl;exact fun _ => rfl
| fail)
  all_goals first
   | exact aB (i + 1,u ++ [t * rd ws i / ao id ws],n - t * rd ws i / ao id ws) [0,3] ⟨rfl,rfl,rfl,rfl,rfl,rfl,rfl,rfl⟩ ⟨by dsimp only;omega,hu2,hn2⟩ (by first | omega | (dsimp only;omega))
   | trace_state
 have hpa:pf (fx t ws) i = fx t ws:=b6 (by rw [dE];exact hil)
 rw [hpa] at hu hn
 have hn':n = cF t ws:=hn
 have hmo:=h.more
 have hol:=kZ t ws
 repeat' (first
| intro h9;exfalso;contradiction
| apply yds;rfl
| apply yd;rfl
| intro _
| refine nv ?_
| apply wcf rfl
| apply ah rfl
| apply ai;rfl
| apply ycf;rfl;exact nZ (by assumption);rfl
| fail)
 subst hu
 subst hn'
 refine wlp (X:=Int) [7,12] [0,1,2] (fun k => [(13,I k),(6,.c (.row 1 0 (jJ t ws k).length))]) (fun k => [(1,ow 3 (jJ t ws k))]) (fun k => 0 ≤ k ∧ k ≤ cF t ws) (fun k => (cF t ws - k).toNat) 0 ⟨by omega,by omega⟩ rfl rfl (fun _ => rfl) (fun _ => rfl) ⟨rfl,rfl,rfl,rfl,rfl,rfl,rfl,rfl⟩ (fun k k0 => ?_)
 have hil2:=iW t ws k
 by_cases hk:k < cF t ws
 ·
  have hr:=l4 (t:=t) (ws:=ws) (k:=k) ⟨k0.1,by omega⟩
  have hb:=ou h k.toNat (by omega) _ hr.1 hr.2
  rw [show ((k.toNat:Nat):Int) = k from by omega] at hb
  have hU:=(kR (t:=t) (ws:=ws) ⟨k0.1,by omega⟩:jJ t ws (k + 1) = _).symm
  have hL:(jJ t ws k).length = (jJ t ws (k + 1)).length:=by rw [iW,iW]
  repeat' (first
| intro h9;exfalso;contradiction
| apply yds;rfl
| apply yd;rfl
| intro _
| refine nv ?_
| apply wct rfl
| apply ai;rfl
| apply yar;rfl;omega
| apply yix;rfl;omega
| apply yle;rfl;omega
| apply zse;rfl;exact tk;(iterate 6 rfl);omega;rfl;rfl;rfl;rfl;rfl
| refine zdq (id:=15) rfl (by kernel_rfl) [(.p,0),(.p,1),(.p,2),(.p,3),(.p,5),(.p,6),(.p,7),(.p,8),(.t,4),(.t,9),(.p,10),(.t,11),(.p,12),(.p,13),(.l,14)] [14] (by kernel_rfl) rfl ?_
| fail)
  all_goals first
   | (rw [hU,hL]
      exact aB (k + 1) [0,1,2] ⟨rfl,rfl,rfl,rfl,rfl,rfl,rfl,rfl⟩ ⟨by omega,by omega⟩ (by first | omega | (dsimp only;omega)))
   | trace_state
 ·
  obtain rfl:k = cF t ws:=by omega
  repeat' (first
| intro h9;exfalso;contradiction
| apply yds;rfl
| intro _
| refine nv ?_
| apply wcf rfl
| apply ah rfl
| apply ai;rfl
| fail)
  all_goals first
   | exact ak [0,1] rfl rfl rfl rfl rfl rfl
   | trace_state
end
section
open Go.RowKit
theorem Ao {l:List Int} {m k:Int} (h:0 ≤ k ∧ k < m):rd (sub l 0 m) k = rd l k:=by
 unfold rd sub
 rw [List.getD_eq_getElem?_getD,List.getD_eq_getElem?_getD]
 show ((List.drop 0 (List.take m.toNat l))[k.toNat]?).getD _ = _
 rw [List.drop_zero,List.getElem?_take_of_lt (by omega)]
theorem sZ {t:Int} {ws:List Int} (h:shareable t ws):FC Tryz.prog 130 [I t,.c (.row 0 0 ws.length)] ([ro 3 ws]) (.tup [.c (.row 1 0 (shs t ws).length),B true]) ([ro 3 ws,ow 3 (shs t ws)]):=by
 refine ax tk 59 [.tmp 4,.tmp 5] Tryz.func130 (by kernel_rfl) rfl rfl rfl rfl rfl rfl rfl ?_
 have hw:=h.1
 have ht:=h.2
 have hln:(1:Int) ≤ ws.length ∧ (ws.length:Int) ≤ 40:=h.1.1
 have htb:0 ≤ t ∧ t ≤ 1000000000000000:=h.2
 repeat' (first
| intro h9;exfalso;contradiction
| apply yds;rfl
| apply yd;rfl
| intro _
| refine nv ?_
| apply wcf rfl
| apply aH (α:=Int) (e:=3);rfl
| apply ycp;rfl;exact gY;rfl
| fail)
 refine wlp (X:=Int × List Int) [0,1,20] [0,1] (fun x => [(21,I x.1),(6,.c (.row 1 0 x.2.length))]) (fun x => [(1,ow 3 x.2)]) (fun x => (0 ≤ x.1 ∧ x.1 ≤ ws.length) ∧ x.2 = pf (fx t ws) x.1) (fun x => (ws.length - x.1).toNat) (0,[]) ⟨by dsimp only;omega,rfl⟩ rfl rfl (fun _ => rfl) (fun _ => rfl) ⟨rfl,rfl,rfl,rfl,rfl,rfl,rfl,rfl⟩ (fun x hx => ?_)
 obtain ⟨i,u⟩:=x
 obtain ⟨h0,hu⟩:=hx
 dsimp only at h0 hu ⊢
 have hul:(u.length:Int) = i:=by rw [hu];exact bS (by rw [dE];exact h0)
 by_cases hil:i < ws.length
 ·
  have hu2:u ++ [t * rd ws i / ao id ws] = pf (fx t ws) (i + 1):=by rw [nw ⟨h0.1,hil⟩,hu]
  repeat' (first
| intro h9;exfalso;contradiction
| apply yds;rfl
| apply yd;rfl
| intro _
| refine nv ?_
| apply wct rfl
| apply ai;rfl
| apply yar;rfl;omega
| apply aH (α:=Int) (e:=3);rfl
| apply yap;rfl;(((try simp only [lE,lM]);(try dsimp only);omega))
| apply yc;rfl;(exact jC (by assumption) (by omega));rfl;exact fun _ => rfl
| fail)
  all_goals first
   | exact aB (i + 1,u ++ [t * rd ws i / ao id ws]) [0,3] ⟨rfl,rfl,rfl,rfl,rfl,rfl,rfl,rfl⟩ ⟨by dsimp only;omega,hu2⟩ (by first | omega | (dsimp only;omega))
   | trace_state
 have hpa:pf (fx t ws) i = fx t ws:=b6 (by rw [dE];exact hil)
 rw [hpa] at hu
 have hb:∀ x ∈ u,inP x 0 1000000000000000:=by rw [hu];exact w4 h
 have hmo:=h.more
 have hmd:t - ao id u = cF t ws:=by rw [hu];rfl
 have hol:=kZ t ws
 repeat' (first
| intro h9;exfalso;contradiction
| apply yds;rfl
| apply yd;rfl
| intro _
| refine nv ?_
| apply wcf rfl
| apply ah rfl
| apply ai;rfl
| apply yar;rfl;omega
| apply ysl;rfl;omega
| apply yc;rfl;(exact jn (by assumption) (by unfold inP at *;omega));rfl;exact fun _ => rfl
| apply ycf;rfl;exact nU (by assumption);rfl
| fail)
 rw [hmd]
 subst hu
 have hsl:=fp (l:=dY t ws) (a:=0) (b:=cF t ws) ⟨by omega,by omega,by omega⟩
 refine wlp (X:=Int) [6,45,46] [0,1,2,3] (fun k => [(47,I k)]) (fun k => [(1,ow 3 (jJ t ws k))]) (fun k => 0 ≤ k ∧ k ≤ cF t ws) (fun k => (cF t ws - k).toNat) 0 ⟨by omega,by omega⟩ rfl rfl (fun _ => rfl) (fun _ => rfl) ⟨rfl,rfl,rfl,rfl,rfl,rfl,rfl,rfl⟩ (fun k k0 => ?_)
 have hil2:=iW t ws k
 have hql:=dE t ws
 by_cases hk:k < cF t ws
 ·
  have hr:=l4 (t:=t) (ws:=ws) (k:=k) ⟨k0.1,by omega⟩
  have hb2:=ou h k.toNat (by omega) _ hr.1 hr.2
  rw [show ((k.toNat:Nat):Int) = k from by omega] at hb2
  have hrk:=Ao (l:=dY t ws) (m:=cF t ws) (k:=k) ⟨k0.1,hk⟩
  have hU:=(kR (t:=t) (ws:=ws) ⟨k0.1,by omega⟩:jJ t ws (k + 1) = _).symm
  rw [← hrk] at hr hb2 hU
  repeat' (first
| intro h9;exfalso;omega
| apply yds;rfl
| apply yd;rfl
| apply yix;rfl;omega
| apply yle;rfl;omega
| apply zse;rfl;exact tk;(iterate 6 rfl);omega;rfl;rfl;rfl;rfl;rfl
| intro _
| refine nv ?_
| apply wct rfl
| apply ai;rfl
| apply yar;rfl;omega
| fail)
  all_goals first
   | (rw [hU]
      exact aB (k + 1) [0,1,2,3] ⟨rfl,rfl,rfl,rfl,rfl,rfl,rfl,rfl⟩ ⟨by omega,by omega⟩ (by first | omega | (dsimp only;omega)))
   | (exfalso;omega)
   | trace_state
 ·
  obtain rfl:k = cF t ws:=by omega
  have hfl:(fx t ws).length = (shs t ws).length:=by rw [dE,iB]
  repeat' (first
| intro h9;exfalso;omega
| apply yds;rfl
| intro _
| refine nv ?_
| apply wcf rfl
| apply ah rfl
| apply ai;rfl
| fail)
  all_goals first
   | (rw [hfl]
      exact ak [0,1] rfl rfl rfl rfl rfl rfl)
   | (exfalso;omega)
   | trace_state
end
end Go.Proofs.YtgehbhkfehmdkaaGreat.Sh
