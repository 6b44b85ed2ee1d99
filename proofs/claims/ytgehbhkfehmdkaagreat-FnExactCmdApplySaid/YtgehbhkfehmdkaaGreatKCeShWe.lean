/- Weights and what they get: both sides. No condition. -/
import Derived.Test.YtgehbhkfehmdkaaGreatKCeShV
import Derived.Test.YtgehbhkfehmdkaaGreatKCeShLt
import Derived.Test.YtgehbhkfehmdkaaGreatKCeShMu
import Derived.Test.YtgehbhkfehmdkaaGreatKCeShTr
import Derived.Test.YtgehbhkfehmdkaaGreatKCeShLo
import Derived.Test.YtgehbhkfehmdkaaGreatKCeShDr
set_option maxRecDepth 100000
set_option maxHeartbeats 40000000
set_option linter.unusedSimpArgs false
set_option linter.unusedVariables false
namespace Go.Proofs.YtgehbhkfehmdkaaGreat.Sh
section
open Go.RowKit
theorem wz {l:List Int} {p:Int → Prop} (h:¬ ∃ x ∈ l,¬ p x):∀ x ∈ l,p x:=fun x hx => Classical.byContradiction fun k => h ⟨x,hx,k⟩
theorem tv {l:List Int} (h:∀ x ∈ l,inP x 0 1000000000000000) {i:Int} (hi:0 ≤ i ∧ i ≤ l.length):-1000000000000000 * i ≤ ar id (pf l i) ∧ ar id (pf l i) ≤ 1000000000000000 * i:=eV (fun x hx => by have:=h x hx;unfold inP at this;show -1000000000000000 ≤ x ∧ x ≤ 1000000000000000;omega) hi
theorem shareable.md {t i:Int} {ws:List Int} (h:shareable t ws) (hi:0 ≤ i ∧ i < ws.length):dD t (rd ws i) (ar id ws):=⟨h.2,h.1.2.1 _ (ax hi),h.1.2.2,Int.le_trans (h.q (ax hi)).2 h.2.2⟩
theorem lG {n:Int}:FC Tryz.prog 329 [I n] ([]) (B (dB (¬ inP n 0 1000000000000000))) ([]):=by
 refine al tk 6 [.tmp 2] Tryz.func329 (by kernel_rfl) rfl rfl rfl rfl rfl rfl rfl ?_
 repeat' (first
| apply yds;rfl
| apply yd;rfl
| intro _
| refine nv ?_
| apply ycp;rfl;exact aJ;rfl
| fail)
 all_goals first | exact bp [] rfl rfl rfl rfl rfl rfl (by assumption) | exact aQ [] rfl rfl rfl rfl rfl rfl (fun k => k (by assumption))
theorem ii {l:List Int}:FC Tryz.prog 261 [.c (.row 0 0 l.length),.c (.fn 329 [])] ([ro 3 l]) (sel (∃ x ∈ l,¬ inP x 0 1000000000000000) (I (fIx l (fun x => ¬ inP x 0 1000000000000000))) (I (-1))) (sel (∃ x ∈ l,¬ inP x 0 1000000000000000) [ro 3 l] [ro 3 l]):=by
 refine al tk 19 [.tmp 4] Tryz.func261 (by kernel_rfl) rfl rfl rfl rfl rfl rfl rfl ?_
 refine cj l 0 rfl (fun hl => ?_)
 repeat' (first
| apply yds;rfl
| apply yd;rfl
| refine nv ?_
| fail)
 refine wlp (X:=Int) [0,1,7] [0] (fun i => [(8,I i)]) (fun _ => []) (fun i => 0 ≤ i ∧ i ≤ l.length ∧ ∀ j:Int,0 ≤ j → j < i → ¬ (fun x => ¬ inP x 0 1000000000000000) (rd l j)) (fun i => (l.length - i).toNat) 0 ⟨by omega,by omega,fun j h0 h1 => by omega⟩ rfl rfl (fun _ => rfl) (fun _ => rfl) ⟨rfl,rfl,rfl,rfl,rfl,rfl,rfl,rfl⟩ (fun i hi => ?_)
 obtain ⟨h0,hi,hall⟩:=hi
 skip
 repeat' (first
| apply yds;rfl
| apply yd;rfl
| apply ycp;rfl;exact lG;rfl
| intro _
| refine nv ?_
| apply wct rfl
| apply wcf rfl
| apply ae rfl
| apply ag;rfl
| apply yar;rfl;omega
| apply yix;rfl;omega
| apply yle;rfl;omega
| fail)
 all_goals first
  | (refine cy (X':=I i) (hs':=[ro 3 l]) [0] rfl rfl rfl rfl rfl rfl ?_ ?_
     ·rw [ap ⟨rd l i,ax ⟨by omega,by omega⟩,by assumption⟩,dZ ⟨by omega,by omega⟩ hall (by assumption)]
     ·rw [ap ⟨rd l i,ax ⟨by omega,by omega⟩,by assumption⟩])
  | exact bS (eS (by assumption) hall) [0] rfl rfl rfl rfl rfl rfl
  | exact aA (i + 1) [0] ⟨rfl,rfl,rfl,rfl,rfl,rfl,rfl,rfl⟩ ⟨by omega,by omega,ay hall (by assumption)⟩ (by first | omega | (dsimp only;omega))
theorem fX {l:List Int}:FC Tryz.prog 161 [.c (.row 0 0 l.length),.c (.fn 329 [])] ([ro 3 l]) (B (dB (∃ x ∈ l,¬ inP x 0 1000000000000000))) ([ro 3 l]):=by
 refine al tk 9 [.tmp 4] Tryz.func161 (by kernel_rfl) rfl rfl rfl rfl rfl rfl rfl ?_
 have hn:=bW l (fun x => ¬ inP x 0 1000000000000000)
 repeat' (first
| apply yds;rfl
| apply yd;rfl
| intro _
| refine nv ?_
| apply ag;rfl
| apply zcs;(iterate 10 rfl);exact ii;exact fun _ => rfl;exact fun _ => rfl;rfl;rfl;rfl;rfl
| fail)
 all_goals first
  | exact bp [0] rfl rfl rfl rfl rfl rfl (by assumption)
  | exact aQ [0] rfl rfl rfl rfl rfl rfl (by assumption)
  | (exfalso;omega)
theorem iB {ws:List Int} (hb:∀ x ∈ ws,inP x 0 1000000000000000) (hl:(ws.length:Int) ≤ 1000):FC Tryz.prog 139 [.c (.row 0 0 ws.length)] ([ro 3 ws]) (I (ar id ws)) ([ro 3 ws]):=by
 refine al tk 17 [.tmp 2] Tryz.func139 (by kernel_rfl) rfl rfl rfl rfl rfl rfl rfl ?_
 repeat' (first
| apply yds;rfl
| apply yd;rfl
| refine nv ?_
| fail)
 refine wlp (X:=Int × Int) [6,7] [0] (fun x => [(8,I x.1),(3,I x.2)]) (fun _ => []) (fun x => (0 ≤ x.1 ∧ x.1 ≤ ws.length) ∧ x.2 = ar id (pf ws x.1)) (fun x => (ws.length - x.1).toNat) (0,0) ⟨by dsimp only;omega,rfl⟩ rfl rfl (fun _ => rfl) (fun _ => rfl) ⟨rfl,rfl,rfl,rfl,rfl,rfl,rfl,rfl⟩ (fun x hx => ?_)
 obtain ⟨i,n⟩:=x
 obtain ⟨h0,hn⟩:=hx
 dsimp only at h0 hn ⊢
 have hbd:=tv hb h0
 rw [← hn] at hbd
 have hm:=fun (h:i < ws.length) => (by have:=hb _ (ax ⟨h0.1,h⟩);unfold inP at this;exact this:0 ≤ rd ws i ∧ rd ws i ≤ 1000000000000000)
 repeat' (first
| apply yds;rfl
| apply yd;rfl
| apply yar;rfl;(have h1:=hm (by assumption);omega)
| intro _
| refine nv ?_
| apply wct rfl
| apply wcf rfl
| apply ae rfl
| apply ag;rfl
| apply yix;rfl;omega
| apply yle;rfl;omega
| fail)
 all_goals first
  | exact aA (i + 1,_) [0] ⟨rfl,rfl,rfl,rfl,rfl,rfl,rfl,rfl⟩ ⟨by dsimp only;omega,by dsimp only;rw [cM ⟨h0.1,by assumption⟩,hn];rfl⟩ (by first | omega | (dsimp only;omega))
  | (rw [aY (by assumption)] at hn
     exact bO [0] rfl rfl rfl rfl rfl rfl hn.symm)
  | trace_state
theorem oE {ws:List Int} (hb:∀ x ∈ ws,inP x 0 1000000000000000) (hl:(ws.length:Int) ≤ 1000):FC Tryz.prog 303 [.c (.row 0 0 ws.length)] ([ro 3 ws]) (I (ar id ws)) ([ro 3 ws]):=by
 refine al tk 18 [.tmp 2] Tryz.func303 (by kernel_rfl) rfl rfl rfl rfl rfl rfl rfl ?_
 repeat' (first
| apply yd;rfl
| refine nv ?_
| fail)
 refine wlp (X:=Int × Int) [0] [0] (fun x => [(4,I x.1),(3,I x.2)]) (fun _ => []) (fun x => (0 ≤ x.1 ∧ x.1 ≤ ws.length) ∧ x.2 = ar id (pf ws x.1)) (fun x => (ws.length - x.1).toNat) (0,0) ⟨by dsimp only;omega,rfl⟩ rfl rfl (fun _ => rfl) (fun _ => rfl) ⟨rfl,rfl,rfl,rfl,rfl,rfl,rfl,rfl⟩ (fun x hx => ?_)
 obtain ⟨i,n⟩:=x
 obtain ⟨h0,hn⟩:=hx
 dsimp only at h0 hn ⊢
 have hbd:=tv hb h0
 rw [← hn] at hbd
 have hm:=fun (h:i < ws.length) => (by have:=hb _ (ax ⟨h0.1,h⟩);unfold inP at this;exact this:0 ≤ rd ws i ∧ rd ws i ≤ 1000000000000000)
 repeat' (first
| apply yds;rfl
| apply yd;rfl
| apply yar;rfl;(have h1:=hm (by assumption);omega)
| intro _
| refine nv ?_
| apply wct rfl
| apply wcf rfl
| apply ae rfl
| apply ag;rfl
| apply yix;rfl;omega
| apply yle;rfl;omega
| fail)
 all_goals first
  | exact aA (i + 1,_) [0] ⟨rfl,rfl,rfl,rfl,rfl,rfl,rfl,rfl⟩ ⟨by dsimp only;omega,by dsimp only;rw [cM ⟨h0.1,by assumption⟩,hn];rfl⟩ (by first | omega | (dsimp only;omega))
  | (rw [aY (by assumption)] at hn
     exact bO [0] rfl rfl rfl rfl rfl rfl hn.symm)
  | trace_state
theorem nI {ws:List Int}:FC Tryz.prog 300 [.c (.row 0 0 ws.length)] ([ro 3 ws]) (B (dB (m4 ws))) ([ro 3 ws]):=by
 refine al tk 14 [.tmp 2] Tryz.func300 (by kernel_rfl) rfl rfl rfl rfl rfl rfl rfl ?_
 repeat' (first
| apply yds;rfl
| apply yd;rfl
| intro _
| refine nv ?_
| apply wct rfl
| apply wcf rfl
| apply ycp;rfl;(first | exact aJ | exact fX);rfl
| apply yc;rfl;(exact iB (by exact wz (by assumption)) (by unfold inP at *;omega));rfl;exact fun _ => rfl
| fail)
 all_goals first
  | exact bp [0] rfl rfl rfl rfl rfl rfl ⟨by assumption,wz (by assumption),by assumption⟩
  | exact aQ [0] rfl rfl rfl rfl rfl rfl (fun k => absurd k.1 (by assumption))
  | exact aQ [0] rfl rfl rfl rfl rfl rfl (fun k => absurd k.2.2 (by assumption))
  | (have hx:∃ x ∈ ws,¬ inP x 0 1000000000000000:=by assumption
     exact aQ [0] rfl rfl rfl rfl rfl rfl (fun k => by obtain ⟨x,hx,hn⟩:=hx;exact hn (k.2.1 x hx)))
  | trace_state
theorem fY {ws:List Int}:FC Tryz.prog 242 [.c (.row 0 0 ws.length)] ([ro 3 ws]) (B (dB (m4 ws))) ([ro 3 ws]):=by
 refine al tk 23 [.tmp 2] Tryz.func242 (by kernel_rfl) rfl rfl rfl rfl rfl rfl rfl ?_
 repeat' (first
| apply yds;rfl
| apply yd;rfl
| intro _
| refine nv ?_
| apply wct rfl
| apply wcf rfl
| apply ycp;rfl;exact aI;rfl
| fail)
 all_goals first | exact aQ [0] rfl rfl rfl rfl rfl rfl (fun k => absurd k.1 (by assumption)) | skip
 have hlen:inP (ws.length:Int) 1 40:=by assumption
 have hln:(ws.length:Int) ≤ 40:=hlen.2
 refine wlp (X:=Int) [0] [0] (fun i => [(3,I i)]) (fun _ => []) (fun i => 0 ≤ i ∧ i ≤ ws.length ∧ ∀ j:Int,0 ≤ j → j < i → inP (rd ws j) 0 1000000000000000) (fun i => (ws.length - i).toNat) 0 ⟨by omega,by omega,fun j h0 h1 => by omega⟩ rfl rfl (fun _ => rfl) (fun _ => rfl) ⟨rfl,rfl,rfl,rfl,rfl,rfl,rfl,rfl⟩ (fun i hi => ?_)
 obtain ⟨h0,hi,hall⟩:=hi
 by_cases hil:i < ws.length
 ·
  repeat' (first
| apply yds;rfl
| apply yd;rfl
| intro _
| refine nv ?_
| apply wct rfl
| apply wcf rfl
| apply ae rfl
| apply ag;rfl
| apply yar;rfl;omega
| apply yix;rfl;omega
| apply yle;rfl;omega
| apply ycp;rfl;exact aC;rfl
| fail)
  all_goals first
   | exact aA (i + 1) [0] ⟨rfl,rfl,rfl,rfl,rfl,rfl,rfl,rfl⟩ ⟨by omega,by omega,ay hall (by assumption)⟩ (by first | omega | (dsimp only;omega))
   | exact aQ [0] rfl rfl rfl rfl rfl rfl (fun k => absurd (k.2.1 _ (ax ⟨h0,hil⟩)) (by assumption))
   | (exfalso;contradiction)
   | trace_state
 ·have hb:∀ x ∈ ws,inP x 0 1000000000000000:=fun x hx => by
   obtain ⟨j,hj,rfl⟩:=bL hx
   exact hall j hj.1 (by omega)
  repeat' (first
| apply yds;rfl
| apply yd;rfl
| intro _
| refine nv ?_
| apply wct rfl
| apply wcf rfl
| apply ae rfl
| apply ag;rfl
| apply yar;rfl;omega
| apply yix;rfl;omega
| apply yle;rfl;omega
| apply ycp;rfl;exact aC;rfl
| apply yc;rfl;exact oE (by assumption) (by unfold inP at *;omega);rfl;exact fun _ => rfl
| fail)
  all_goals first
   | exact bp [0] rfl rfl rfl rfl rfl rfl ⟨hlen,hb,by assumption⟩
   | exact aQ [0] rfl rfl rfl rfl rfl rfl (fun k => absurd k.2.2 (by assumption))
   | (exfalso;contradiction)
   | trace_state
theorem fJ {t:Int} {ws:List Int}:FC Tryz.prog 238 [I t,.c (.row 0 0 ws.length)] ([ro 3 ws]) (B (dB (shareable t ws))) ([ro 3 ws]):=by
 refine al tk 11 [.tmp 4] Tryz.func238 (by kernel_rfl) rfl rfl rfl rfl rfl rfl rfl ?_
 repeat' (first
| apply yds;rfl
| apply yd;rfl
| intro _
| refine nv ?_
| apply ycp;rfl;(first | exact nI | exact aJ);rfl
| fail)
 all_goals first
  | exact bp [0] rfl rfl rfl rfl rfl rfl ⟨by assumption,by assumption⟩
  | exact aQ [0] rfl rfl rfl rfl rfl rfl (fun k => absurd k.1 (by assumption))
  | exact aQ [0] rfl rfl rfl rfl rfl rfl (fun k => absurd k.2 (by assumption))
  | trace_state
theorem iR {t i:Int} {ws:List Int} (h:shareable t ws) (hi:0 ≤ i ∧ i < ws.length):FC Tryz.prog 239 [I t,.c (.row 0 0 ws.length),I i] ([ro 3 ws]) (.tup [I (t * rd ws i / ar id ws),I (t * rd ws i % ar id ws),B true]) ([ro 3 ws]):=by
 refine al tk 32 [.tmp 6,.tmp 7,.tmp 8] Tryz.func239 (by kernel_rfl) rfl rfl rfl rfl rfl rfl rfl ?_
 have hw:=h.1
 have ht:=h.2
 have hb:=h.1.2.1
 have hmd:=h.md hi
 have hln:=h.1.1
 have hii:inP i 0 (ws.length - 1):=⟨by omega,by omega⟩
 unfold inP at hln
 repeat' (first
| intro h9;exfalso;contradiction
| apply yds;rfl
| apply yd;rfl
| intro _
| refine nv ?_
| apply wcf rfl
| apply yar;rfl;omega
| apply yix;rfl;omega
| apply yle;rfl;omega
| refine zdq (id:=3) rfl (by kernel_rfl) [(.p,0),(.p,1),(.p,2),(.p,3),(.p,5),(.t,4),(.o,6),(.o,7),(.p,8),(.p,9),(.p,10),(.p,11),(.p,12),(.p,13)] [] (by kernel_rfl) rfl ?_
| apply ycp;rfl;(first | exact fJ | exact aJ);rfl
| apply yc;rfl;(first | exact iB (by assumption) (by unfold inP at *;omega) | exact dl (by assumption));rfl;exact fun _ => rfl
| fail)
 all_goals exact ai [0] rfl rfl rfl rfl rfl rfl
theorem iX {t i:Int} {ws:List Int} (h:shareable t ws) (hi:0 ≤ i ∧ i < ws.length):FC Tryz.prog 243 [I t,.c (.row 0 0 ws.length),I i] ([ro 3 ws]) (.tup [I (t * rd ws i / ar id ws),I (t * rd ws i % ar id ws),B true]) ([ro 3 ws]):=by
 refine al tk 36 [.tmp 6,.tmp 7,.tmp 8] Tryz.func243 (by kernel_rfl) rfl rfl rfl rfl rfl rfl rfl ?_
 have hw:=h.1
 have ht:=h.2
 have hb:=h.1.2.1
 have hmd:=h.md hi
 have hln:=h.1.1
 have hii:inP i 0 (ws.length - 1):=⟨by omega,by omega⟩
 unfold inP at hln
 repeat' (first
| intro h9;exfalso;contradiction
| apply yds;rfl
| apply yd;rfl
| intro _
| refine nv ?_
| apply wcf rfl
| apply yar;rfl;omega
| apply yix;rfl;omega
| apply yle;rfl;omega
| refine zdq (id:=3) rfl (by kernel_rfl) [(.p,0),(.p,1),(.p,2),(.p,3),(.p,5),(.t,4),(.o,6),(.o,7),(.p,8),(.p,9),(.p,10),(.p,11),(.p,12),(.p,13)] [] (by kernel_rfl) rfl ?_
| apply ycp;rfl;(first | exact fY | exact aC | exact aI);rfl
| apply yc;rfl;(first | exact oE (by assumption) (by unfold inP at *;omega) | exact bF (by assumption));rfl;exact fun _ => rfl
| fail)
 all_goals exact ai [0] rfl rfl rfl rfl rfl rfl
end
section
open Go.RowKit
def vO (r n:Nat):Option AO:=some ⟨false,37,1,.mx [.row r 0 n]⟩
noncomputable def stb (g:Int → Int) (l:List Int) (a b:Int):List Int:=@dite _ (∃ l',Mv l l' a b ∧ RS g l' a b) (Classical.propDecidable _) (fun h => Classical.choose h) (fun _ => l)
theorem fg {g:Int → Int} {l u:List Int} {a b:Int} (h0:0 ≤ a) (hb:b ≤ l.length) (h1:Mv l u a b) (h2:RS g u a b):u = stb g l a b:=by
 have hx:∃ l',Mv l l' a b ∧ RS g l' a b:=⟨u,h1,h2⟩
 rw [stb,dif_pos hx]
 exact RS.uniq h0 hb h1 (Classical.choose_spec hx).1 h2 (Classical.choose_spec hx).2
theorem m0 {g:Int → Int} {l:List Int} {a b:Int} (h:∃ l',Mv l l' a b ∧ RS g l' a b):Mv l (stb g l a b) a b ∧ RS g (stb g l a b) a b:=by
 rw [stb,dif_pos h]
 exact Classical.choose_spec h
def Rng (l:List Int) (n:Nat):Prop:=∀ i:Int,0 ≤ i → i < l.length → 0 ≤ rd l i ∧ rd l i < n
theorem Rng.mv {l u:List Int} {n:Nat} {a b:Int} (h:Rng l n) (hm:Mv l u a b) (h0:0 ≤ a) (hb:b ≤ l.length):Rng u n:=fun i i0 i1 => by
 rw [hm.len] at i1
 by_cases c:a ≤ i ∧ i < b
 ·obtain ⟨j,hj,e⟩:=hm.to i c.1 c.2
  rw [e]
  exact h j (by omega) (by omega)
 ·rw [hm.out i i0 c]
  exact h i i0 i1
theorem lc {p:Prop}:0 ≤ pick p 1 0:=by
 by_cases h:p
 ·rw [aD h];decide
 ·rw [aB h];decide
theorem aX {ov:List Int} {a b:Int} (ha:0 ≤ a ∧ a < ov.length) (hb:0 ≤ b ∧ b < ov.length):FC Tryz.prog 302 [I a,I b,.c (.ptr 0 0 0)] ([vO 1 ov.length,ro 3 ov]) (sel (rd ov a > rd ov b) (I (-1)) (I (pick (rd ov a < rd ov b) 1 0))) (sel (rd ov a > rd ov b) [vO 1 ov.length,ro 3 ov] [vO 1 ov.length,ro 3 ov]):=by
 refine al tk 26 [.tmp 5] Tryz.func302 (by kernel_rfl) rfl rfl rfl rfl rfl rfl rfl ?_
 repeat' (first
| apply yds;rfl
| apply yd;rfl
| intro _
| refine nv ?_
| apply wct rfl
| apply wcf rfl
| apply ag;rfl
| apply yix;rfl;omega
| apply yle;rfl;omega
| refine zdq (id:=1) rfl (by kernel_rfl) [(.p,1),(.p,5),(.t,0),(.p,2),(.t,3),(.t,4),(.p,6),(.t,7),(.p,8),(.p,9)] [] (by kernel_rfl) rfl ?_
| refine zdq (id:=3) rfl (by kernel_rfl) [(.p,1),(.p,5),(.t,0),(.p,2),(.t,3),(.t,4),(.p,6),(.t,7),(.p,8),(.p,9)] [] (by kernel_rfl) rfl ?_
| fail)
 all_goals first
  | exact gM (by assumption) [0,1] rfl rfl rfl rfl rfl rfl
  | (refine cy (X':=I 1) (hs':=[vO 1 ov.length,ro 3 ov]) [0,1] rfl rfl rfl rfl rfl rfl ?_ ?_
     ·rw [a8 (by assumption),aD (by assumption)]
     ·rw [a8 (by assumption)])
  | (refine cy (X':=I 0) (hs':=[vO 1 ov.length,ro 3 ov]) [0,1] rfl rfl rfl rfl rfl rfl ?_ ?_
     ·rw [a8 (by assumption),aB (by assumption)]
     ·rw [a8 (by assumption)])
  | trace_state
theorem cY {l ov:List Int} {z:Nat} {a b:Int} (hz:l.length = z) (h0:0 ≤ a ∧ a ≤ b) (hb:b ≤ l.length ∧ l.length ≤ 1000) (hr:Rng l ov.length) (hs:∀ i j:Int,a ≤ i → i < j → j < b → rd l i < rd l j):FC Tryz.prog 339 [.c (.row 0 0 z),I a,I b,.c (.fn 302 [(1,0,0)])] ([ow 3 l,vO 2 ov.length,ro 3 ov]) (.tup []) ([ow 3 (stb (rd ov) l a b),vO 2 ov.length,ro 3 ov]):=by
 refine al tk 53 [] Tryz.func339 (by kernel_rfl) rfl rfl rfl rfl rfl rfl rfl ?_
 repeat' (first
| apply yd;rfl
| refine nv ?_
| apply yar;rfl;omega
| fail)
 refine wlp (X:=Int × List Int) [0,1,2,3] [0,1,2] (fun x => [(8,I x.1)]) (fun x => [(0,ow 3 x.2)]) (fun x => (a + 1 ≤ x.1 ∧ (x.1 ≤ b ∨ x.1 = a + 1 ∧ x.2 = l)) ∧ Mv l x.2 a x.1 ∧ RS (rd ov) x.2 a x.1) (fun x => (b - x.1).toNat) (a + 1,l) ⟨⟨by dsimp only;omega,.inr ⟨rfl,rfl⟩⟩,.refl _ _ _,fun p q k0 k1 k2 => by dsimp only at k2;omega⟩ rfl rfl (fun _ => rfl) (fun _ => rfl) ⟨rfl,rfl,rfl,rfl,rfl,rfl,rfl,rfl⟩ (fun x hx => ?_)
 obtain ⟨i,u⟩:=x
 obtain ⟨⟨h1,h2⟩,hm,hrs⟩:=hx
 dsimp only at h1 h2 hm hrs ⊢
 have hul:u.length = l.length:=hm.len
 by_cases hib:i < b
 rotate_left
 ·
  have hst:u = stb (rd ov) l a b:=by
   rcases h2 with h | ⟨h,e⟩
   ·rw [show i = b from by omega] at hm hrs
    exact fg h0.1 hb.1 hm hrs
   ·rw [e]
    exact fg h0.1 hb.1 (.refl _ _ _) (fun p q k0 k1 k2 => by omega)
  repeat' (first
| intro h9;exfalso;contradiction
| apply yds;rfl
| intro _
| refine nv ?_
| apply wcf rfl
| apply ae rfl
| apply ag;rfl
| fail)
  all_goals
   rw [hst]
   exact ai [0,1,2] rfl rfl rfl rfl rfl rfl
 have hru:Rng u ov.length:=by
  rcases h2 with h | ⟨h,e⟩
  ·exact hr.mv hm h0.1 (by omega)
  ·rw [e];exact hr
 have hlt:∀ p:Int,a ≤ p → p < i → rd u p < rd u i:=fun p k0 k1 => by
  obtain ⟨j,hj,e⟩:=hm.to p k0 k1
  rw [e,hm.out i (by omega) (by omega)]
  exact hs j i hj.1 hj.2 hib
 have hin:InI (rd ov) u u a i i:=.init ⟨h0.1,by omega,by omega⟩ hrs hlt
 repeat' (first
| intro h9;exfalso;contradiction
| apply yds;rfl
| intro _
| refine nv ?_
| apply wct rfl
| apply ag;rfl
| fail)
 refine wlp (X:=Int × List Int) [0,1,2,3,8] [0,1,2] (fun x => [(9,I x.1)]) (fun x => [(0,ow 3 x.2)]) (fun x => InI (rd ov) u x.2 a i x.1) (fun x => (x.1 - a).toNat) (i,u) hin rfl rfl (fun _ => rfl) (fun _ => rfl) ⟨rfl,rfl,rfl,rfl,rfl,rfl,rfl,rfl⟩ (fun x hx => ?_)
 obtain ⟨j,v⟩:=x
 dsimp only at hx ⊢
 have hjb:=hx.bnd
 have hvl:v.length = u.length:=hx.mv.len
 have hrv:=hru.mv hx.mv h0.1 (by omega)
 have hj0:=hrv j (by omega) (by omega)
 have hj1:=fun (h:a < j) => hrv (j - 1) (by omega) (by omega)
 have hpk:0 ≤ pick (rd ov (rd v j) < rd ov (rd v (j - 1))) 1 0:=lc
 have hfin:=fun (hq:j = a ∨ ¬ rd ov (rd v j) > rd ov (rd v (j - 1))) => (⟨⟨by omega,.inl (by omega)⟩,(hm.wide h0.1 (Int.le_refl _) (by omega)).trans hx.mv,hx.fin hq⟩:(a + 1 ≤ i + 1 ∧ (i + 1 ≤ b ∨ i + 1 = a + 1 ∧ v = l)) ∧ Mv l v a (i + 1) ∧ RS (rd ov) v a (i + 1))
 repeat' (first
| intro h9;exfalso;first | contradiction | omega
| apply yds;rfl
| apply yd;rfl
| apply zcs;(iterate 10 rfl);exact aX (by omega) (by omega);exact fun _ => rfl;exact fun _ => rfl;rfl;rfl;rfl;rfl
| apply yix;rfl;omega
| apply yle;rfl;omega
| apply zse;rfl;exact tk;(iterate 6 rfl);(first | omega | (simp only [aF];omega));rfl;rfl;rfl;rfl;rfl
| intro _
| refine nv ?_
| apply wct rfl
| apply wcf rfl
| apply ae rfl
| apply ag;rfl
| apply yar;rfl;omega
| refine zdq (id:=4) rfl (by kernel_rfl) [(.p,0),(.p,1),(.p,2),(.p,3),(.p,4),(.p,5),(.p,6),(.p,7),(.p,9),(.p,10),(.p,11),(.p,12),(.t,8),(.t,13),(.o,14),(.p,15),(.p,16)] [] (by kernel_rfl) rfl ?_
| refine zdq (id:=6) rfl (by kernel_rfl) [(.p,0),(.p,1),(.p,2),(.p,3),(.p,4),(.p,5),(.p,6),(.p,7),(.p,8),(.p,10),(.p,11),(.p,12),(.t,9),(.t,13),(.p,14),(.l,15),(.p,16),(.l,17)] [15,17] (by kernel_rfl) rfl ?_
| fail)
 all_goals first
  | exact aA (j - 1,swp v j (j - 1)) [0,1,2] ⟨rfl,rfl,rfl,rfl,rfl,rfl,rfl,rfl⟩ (hx.step (by omega) (by assumption)) (by first | omega | (dsimp only;omega))
  | exact aA (i + 1,v) [0,1,2] ⟨rfl,rfl,rfl,rfl,rfl,rfl,rfl,rfl⟩ (hfin (by first | exact .inl (by omega) | exact .inr (by assumption))) (by first | omega | (dsimp only;omega))
  | (exfalso;omega)
  | trace_state
end
section
open Go.RowKit
theorem cF {l ov:List Int} {z:Nat} {a b n:Int} (hz:l.length = z) (h0:0 ≤ a ∧ 0 ≤ n ∧ a + n ≤ b) (hb:b + n ≤ l.length ∧ l.length ≤ 1000):FC Tryz.prog 362 [.c (.row 0 0 z),I a,I b,I n,.c (.fn 302 [(1,0,0)])] ([ow 3 l,vO 2 ov.length,ro 3 ov]) (.tup []) ([ow 3 (swr l a b n),vO 2 ov.length,ro 3 ov]):=by
 refine al tk 38 [] Tryz.func362 (by kernel_rfl) rfl rfl rfl rfl rfl rfl rfl ?_
 repeat' (first
| apply yd;rfl
| refine nv ?_
| fail)
 refine wlp (X:=Int) [0,1,2,3] [0,1,2] (fun i => [(10,I i)]) (fun i => [(0,ow 3 (swr l a b i))]) (fun i => 0 ≤ i ∧ i ≤ n) (fun i => (n - i).toNat) 0 ⟨by omega,by omega⟩ rfl rfl (fun _ => rfl) (fun _ => rfl) (by rw [Cn];exact ⟨rfl,rfl,rfl,rfl,rfl,rfl,rfl,rfl⟩) (fun i hi => ?_)
 have hml:=cH (l:=l) (x:=a) (y:=b) (n:=i)
 by_cases hin:i < n
 rotate_left
 ·
  obtain rfl:i = n:=by omega
  repeat' (first
| intro h9;exfalso;contradiction
| apply yds;rfl
| intro _
| refine nv ?_
| apply wcf rfl
| apply ae rfl
| apply ag;rfl
| fail)
  all_goals exact ai [0,1,2] rfl rfl rfl rfl rfl rfl
 have hst:upd (upd (swr l a b i) (a + i) (rd (swr l a b i) (b + i))) (b + i) (rd (swr l a b i) (a + i)) = swr l a b (i + 1):=yK ⟨h0.1,hi.1,by omega,by omega⟩
 repeat' (first
| intro h9;exfalso;contradiction
| apply yds;rfl
| apply yd;rfl
| apply yix;rfl;omega
| apply yle;rfl;omega
| apply zse;rfl;exact tk;(iterate 6 rfl);(first | omega | (simp only [aF];omega));rfl;rfl;rfl;rfl;rfl
| intro _
| refine nv ?_
| apply wct rfl
| apply ag;rfl
| apply yar;rfl;omega
| refine zdq (id:=3) rfl (by kernel_rfl) [(.p,0),(.p,1),(.p,2),(.p,3),(.p,4),(.p,5),(.p,6),(.p,7),(.p,8),(.p,9),(.p,10),(.p,11),(.p,12),(.p,14),(.p,15),(.p,16),(.p,17),(.p,18),(.t,13),(.t,19),(.p,20),(.l,21),(.p,22),(.l,23)] [21,23] (by kernel_rfl) rfl ?_
| fail)
 all_goals first
  | (rw [hst]
     exact aA (i + 1) [0,1,2] ⟨rfl,rfl,rfl,rfl,rfl,rfl,rfl,rfl⟩ ⟨by omega,by omega⟩ (by first | omega | (dsimp only;omega)))
  | trace_state
theorem bk {l ov:List Int} {z:Nat} {a m b:Int} (hz:l.length = z) (h0:0 ≤ a ∧ a < m ∧ m < b) (hb:b ≤ l.length ∧ l.length ≤ 1000):FC Tryz.prog 354 [.c (.row 0 0 z),I a,I m,I b,.c (.fn 302 [(1,0,0)])] ([ow 3 l,vO 2 ov.length,ro 3 ov]) (.tup []) ([ow 3 (rot l a m b),vO 2 ov.length,ro 3 ov]):=by
 refine al tk 58 [] Tryz.func354 (by kernel_rfl) rfl rfl rfl rfl rfl rfl rfl ?_
 repeat' (first
| apply yds;rfl
| apply yd;rfl
| refine nv ?_
| apply yar;rfl;omega
| fail)
 refine wlp (X:=Int × Int × List Int) [0,2,4] [0,1,2] (fun x => [(10,I x.1),(11,I x.2.1)]) (fun x => [(0,ow 3 x.2.2)]) (fun x => (0 < x.1 ∧ x.1 ≤ m - a ∧ 0 < x.2.1 ∧ x.2.1 ≤ b - m) ∧ x.2.2.length = l.length ∧ rot x.2.2 (m - x.1) m (m + x.2.1) = rot l a m b) (fun x => (x.1 + x.2.1).toNat) (m - a,b - m,l) ⟨⟨by dsimp only;omega,by dsimp only;omega,by dsimp only;omega,by dsimp only;omega⟩,rfl,by dsimp only;rw [show m - (m - a) = a from by omega,show m + (b - m) = b from by omega]⟩ rfl rfl (fun _ => rfl) (fun _ => rfl) ⟨rfl,rfl,rfl,rfl,rfl,rfl,rfl,rfl⟩ (fun x hx => ?_)
 obtain ⟨i,j,v⟩:=x
 obtain ⟨⟨i1,i2,j1,j2⟩,hvl,hro⟩:=hx
 dsimp only at i1 i2 j1 j2 hvl hro ⊢
 rcases Int.lt_trichotomy i j with hij | hij | hij
 ·
  have hst:rot (swr v (m - i) (m + j - i) i) (m - i) m (m + (j - i)) = rot l a m b:=by rw [Bk ⟨by omega,by omega,hij,by omega⟩];exact hro
  have hsl:=cH (l:=v) (x:=m - i) (y:=m + j - i) (n:=i)
  repeat' (first
| intro h9;exfalso;omega
| apply yds;rfl
| apply yd;rfl
| intro _
| refine nv ?_
| apply wct rfl
| apply wcf rfl
| apply ag;rfl
| apply yne;rfl
| apply yar;rfl;omega
| apply ycw  [true,false,false];rfl;exact cF (by omega) (by omega) (by omega);rfl
| fail)
  all_goals first
   | exact aA (i,j - i,swr v (m - i) (m + j - i) i) [0,1,2] ⟨rfl,rfl,rfl,rfl,rfl,rfl,rfl,rfl⟩ ⟨⟨by dsimp only;omega,by dsimp only;omega,by dsimp only;omega,by dsimp only;omega⟩,by dsimp only;omega,hst⟩ (by first | omega | (dsimp only;omega))
   | (exfalso;omega)
   | trace_state
 ·
  subst hij
  have hst:swr v (m - i) m i = rot l a m b:=by rw [yz ⟨by omega,by omega,by omega⟩];exact hro
  repeat' (first
| intro h9;exfalso;contradiction
| apply yds;rfl
| intro _
| refine nv ?_
| apply wcf rfl
| apply ae rfl
| apply yne;rfl
| apply yar;rfl;omega
| apply ycw  [true,false,false];rfl;exact cF (by omega) (by omega) (by omega);rfl
| fail)
  all_goals first
   | (rw [hst]
      exact ai [0,1,2] rfl rfl rfl rfl rfl rfl)
   | (exfalso;omega)
   | trace_state
 ·
  have hst:rot (swr v (m - i) m j) (m - (i - j)) m (m + j) = rot l a m b:=by rw [show m - (i - j) = m - i + j from by omega,Bj ⟨by omega,by omega,hij,by omega⟩];exact hro
  have hsl:=cH (l:=v) (x:=m - i) (y:=m) (n:=j)
  repeat' (first
| intro h9;exfalso;first | contradiction | omega
| apply yds;rfl
| apply yd;rfl
| intro _
| refine nv ?_
| apply wct rfl
| apply ag;rfl
| apply yne;rfl
| apply yar;rfl;omega
| apply ycw  [true,false,false];rfl;exact cF (by omega) (by omega) (by omega);rfl
| fail)
  all_goals first
   | exact aA (i - j,j,swr v (m - i) m j) [0,1,2] ⟨rfl,rfl,rfl,rfl,rfl,rfl,rfl,rfl⟩ ⟨⟨by dsimp only;omega,by dsimp only;omega,by dsimp only;omega,by dsimp only;omega⟩,by dsimp only;omega,hst⟩ (by first | omega | (dsimp only;omega))
   | (exfalso;omega)
   | trace_state
end
end Go.Proofs.YtgehbhkfehmdkaaGreat.Sh
