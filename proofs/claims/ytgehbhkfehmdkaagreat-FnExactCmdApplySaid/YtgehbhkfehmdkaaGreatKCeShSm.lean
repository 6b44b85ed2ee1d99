/- Two sorted parts made one in place. No condition. -/
import Derived.Test.YtgehbhkfehmdkaaGreatKCeShV
import Derived.Test.YtgehbhkfehmdkaaGreatKCeShWe
set_option maxRecDepth 100000
set_option maxHeartbeats 40000000
set_option linter.unusedSimpArgs false
set_option linter.unusedVariables false
namespace Go.Proofs.YtgehbhkfehmdkaaGreat.Sh
section
open Go.RowKit
theorem mu {x:Int}:x.fdiv (2 ^ min (Int.toNat 1) IntKind.u64.bits) = x / 2:=by
 have e:(2:Int) ^ min (Int.toNat 1) IntKind.u64.bits = 2:=rfl
 rw [e,fE (by decide)]
theorem fe {l ov:List Int} {z k:Nat} {a m b:Int} (ih:∀ {l:List Int} {a m b:Int},l.length = z → SM (rd ov) l a m b → Rng l ov.length → (b - a).toNat < k → a < m ∧ m < b → FC Tryz.prog 340 [.c (.row 0 0 z),I a,I m,I b,.c (.fn 302 [(1,0,0)])] ([ow 3 l,vO 2 ov.length,ro 3 ov]) (.tup []) ([ow 3 (stb (rd ov) l a b),vO 2 ov.length,ro 3 ov])) (hz:l.length = z) (hs:SM (rd ov) l a m b) (hr:Rng l ov.length) (hl:l.length ≤ 1000) (hk:(b - a).toNat ≤ k) (hp:a < m ∧ m < b):FC Tryz.prog 340 [.c (.row 0 0 z),I a,I m,I b,.c (.fn 302 [(1,0,0)])] ([ow 3 l,vO 2 ov.length,ro 3 ov]) (.tup []) ([ow 3 (stb (rd ov) l a b),vO 2 ov.length,ro 3 ov]):=by
 refine al tk 220 [] Tryz.func340 (by kernel_rfl) rfl rfl rfl rfl rfl rfl rfl ?_
 have hbn:=hs.bnd
 by_cases hm1:m - a = 1
 ·
  repeat' (first
| apply yds;rfl
| apply yd;rfl
| intro _
| refine nv ?_
| apply wct rfl
| apply wcf rfl
| apply ag;rfl
| apply yar;rfl;omega
| apply zsh;rfl;rfl;rfl;rfl;omega;rfl;rfl
| apply zcv;rfl;exact tk;(iterate 6 rfl)
| fail)
  all_goals first | (exfalso;omega) | skip
  refine wlp (X:=Int × Int) [0,1,4] [0,1,2] (fun x => [(10,I x.1),(11,I x.2)]) (fun _ => []) (fun x => (m ≤ x.1 ∧ x.1 ≤ x.2 ∧ x.2 ≤ b) ∧ (∀ c:Int,m ≤ c → c < x.1 → so (rd ov) (rd l c) (rd l a)) ∧ ∀ c:Int,x.2 ≤ c → c < b → so (rd ov) (rd l a) (rd l c)) (fun x => (x.2 - x.1).toNat) (m,b) ⟨by dsimp only;omega,fun c c0 c1 => by dsimp only at c1;omega,fun c c0 c1 => by dsimp only at c0;omega⟩ rfl rfl (fun _ => rfl) (fun _ => rfl) ⟨rfl,rfl,rfl,rfl,rfl,rfl,rfl,rfl⟩ (fun x hx => ?_)
  obtain ⟨i,j⟩:=x
  obtain ⟨hij,hA,hB⟩:=hx
  dsimp only at hij hA hB ⊢
  by_cases hlt:i < j
  ·
   have hh:i ≤ (i + j) / 2 ∧ (i + j) / 2 < j:=by omega
   have hr1:=hr a (by omega) (by omega)
   have hr2:=hr ((i + j) / 2) (by omega) (by omega)
   have hcr:=hs.cr a ((i + j) / 2) (by omega) (by omega) (by omega) (by omega)
   have hpk:0 ≤ pick (rd ov (rd l ((i + j) / 2)) < rd ov (rd l a)) 1 0:=lc
   have hup:=fun (q:rd ov (rd l ((i + j) / 2)) > rd ov (rd l a)) => (⟨by omega,fun c c0 c1 => by
     by_cases e:c = (i + j) / 2
     ·rw [e];exact (q9 hcr).2 q
     ·exact fk (hs.r2 c ((i + j) / 2) c0 (by omega) (by omega)) ((q9 hcr).2 q),hB⟩:(m ≤ (i + j) / 2 + 1 ∧ (i + j) / 2 + 1 ≤ j ∧ j ≤ b) ∧ (∀ c:Int,m ≤ c → c < (i + j) / 2 + 1 → so (rd ov) (rd l c) (rd l a)) ∧ ∀ c:Int,j ≤ c → c < b → so (rd ov) (rd l a) (rd l c))
   have hdn:=fun (q:¬ rd ov (rd l ((i + j) / 2)) > rd ov (rd l a)) => (⟨by omega,hA,fun c c0 c1 => by
     by_cases e:c = (i + j) / 2
     ·rw [e];exact (qc hcr).2 q
     ·exact fk ((qc hcr).2 q) (hs.r2 ((i + j) / 2) c (by omega) (by omega) c1)⟩:(m ≤ i ∧ i ≤ (i + j) / 2 ∧ (i + j) / 2 ≤ b) ∧ (∀ c:Int,m ≤ c → c < i → so (rd ov) (rd l c) (rd l a)) ∧ ∀ c:Int,(i + j) / 2 ≤ c → c < b → so (rd ov) (rd l a) (rd l c))
   repeat' (first
| apply yds;rfl
| apply yd;rfl
| apply zsw;rfl;rfl;rfl;rfl;omega;exact mu;rfl;rfl
| apply zcv;rfl;exact tk;rfl;rfl;rfl;(first | exact wU (by omega) | exact wI (by omega));rfl;rfl
| apply zcs;(iterate 10 rfl);exact aX (by omega) (by omega);exact fun _ => rfl;exact fun _ => rfl;rfl;rfl;rfl;rfl
| apply yix;rfl;omega
| apply yle;rfl;omega
| intro _
| refine nv ?_
| apply wct rfl
| apply wcf rfl
| apply ae rfl
| apply ag;rfl
| apply yar;rfl;omega
| refine zdq (id:=5) rfl (by kernel_rfl) [(.p,0),(.p,1),(.p,2),(.p,3),(.p,5),(.p,6),(.p,7),(.t,4),(.t,8),(.o,9),(.p,10)] [] (by kernel_rfl) rfl ?_
| fail)
   all_goals first
    | exact aA ((i + j) / 2 + 1,j) [0,1,2] ⟨rfl,rfl,rfl,rfl,rfl,rfl,rfl,rfl⟩ (hup (by assumption)) (by first | omega | (dsimp only;omega))
    | exact aA (i,(i + j) / 2) [0,1,2] ⟨rfl,rfl,rfl,rfl,rfl,rfl,rfl,rfl⟩ (hdn (by assumption)) (by first | omega | (dsimp only;omega))
    | (exfalso;omega)
    | trace_state
  obtain rfl:i = j:=by omega
  obtain ⟨f1,f2⟩:=hs.one (by omega) ⟨by omega,hij.2.2⟩ hA hB
  have hfin:=fg hbn.1 hbn.2.2.2 f1 f2
  repeat' (first
| apply yds;rfl
| apply yd;rfl
| apply zsw;rfl;rfl;rfl;rfl;omega;exact mu;rfl;rfl
| apply zcv;rfl;exact tk;rfl;rfl;rfl;(first | exact wU (by omega) | exact wI (by omega));rfl;rfl
| apply zcs;(iterate 10 rfl);exact aX (by omega) (by omega);exact fun _ => rfl;exact fun _ => rfl;rfl;rfl;rfl;rfl
| apply yix;rfl;omega
| apply yle;rfl;omega
| intro _
| refine nv ?_
| apply wct rfl
| apply wcf rfl
| apply ae rfl
| apply ag;rfl
| apply yar;rfl;omega
| refine zdq (id:=5) rfl (by kernel_rfl) [(.p,0),(.p,1),(.p,2),(.p,3),(.p,5),(.p,6),(.p,7),(.t,4),(.t,8),(.o,9),(.p,10)] [] (by kernel_rfl) rfl ?_
| fail)
  all_goals first | (exfalso;omega) | skip
  refine wlp (X:=Int) [0,10] [0,1,2] (fun k => [(13,I k)]) (fun k => [(0,ow 3 (rot l a m (k + 1)))]) (fun k => a ≤ k ∧ k ≤ i - 1) (fun k => (i - 1 - k).toNat) a ⟨by omega,by omega⟩ rfl rfl (fun _ => rfl) (fun _ => rfl) (by rw [rx (.inr (by omega))];exact ⟨rfl,rfl,rfl,rfl,rfl,rfl,rfl,rfl⟩) (fun k hk => ?_)
  have hml:=bf (l:=l) (a:=a) (m:=m) (b:=k + 1)
  by_cases hki:k < i - 1
  ·
   have hst:upd (upd (rot l a m (k + 1)) k (rd (rot l a m (k + 1)) (k + 1))) (k + 1) (rd (rot l a m (k + 1)) k) = rot l a m (k + 1 + 1):=by
    rw [show m = a + 1 from by omega]
    exact Bl ⟨by omega,hk.1,by omega⟩
   repeat' (first
| apply yds;rfl
| apply yd;rfl
| apply yix;rfl;omega
| apply yle;rfl;omega
| apply zse;rfl;exact tk;(iterate 6 rfl);(first | omega | (simp only [aF];omega));rfl;rfl;rfl;rfl;rfl
| intro _
| refine nv ?_
| apply wct rfl
| apply wcf rfl
| apply ae rfl
| apply ag;rfl
| apply yar;rfl;omega
| refine zdq (id:=11) rfl (by kernel_rfl) [(.p,0),(.p,1),(.p,2),(.p,3),(.p,4),(.p,5),(.p,6),(.p,7),(.p,8),(.p,10),(.p,11),(.p,12),(.t,9),(.t,13),(.p,14),(.l,15),(.p,16),(.l,17)] [15,17] (by kernel_rfl) rfl ?_
| fail)
   all_goals first
    | (rw [hst]
       exact aA (k + 1) [0,1,2] ⟨rfl,rfl,rfl,rfl,rfl,rfl,rfl,rfl⟩ ⟨by omega,by omega⟩ (by first | omega | (dsimp only;omega)))
    | (exfalso;omega)
    | trace_state
  ·
   repeat' (first
| apply yds;rfl
| apply yd;rfl
| apply yix;rfl;omega
| apply yle;rfl;omega
| apply zse;rfl;exact tk;(iterate 6 rfl);omega;rfl;rfl;rfl;rfl;rfl
| intro _
| refine nv ?_
| apply wct rfl
| apply wcf rfl
| apply ae rfl
| apply ag;rfl
| apply yar;rfl;omega
| refine zdq (id:=11) rfl (by kernel_rfl) [(.p,0),(.p,1),(.p,2),(.p,3),(.p,4),(.p,5),(.p,6),(.p,7),(.p,8),(.p,10),(.p,11),(.p,12),(.t,9),(.t,13),(.p,14),(.l,15),(.p,16),(.l,17)] [15,17] (by kernel_rfl) rfl ?_
| fail)
   all_goals first
    | (rw [show k + 1 = i from by omega,hfin]
       exact ai [0,1,2] rfl rfl rfl rfl rfl rfl)
    | (exfalso;omega)
    | trace_state
 by_cases hb1:b - m = 1
 ·
  repeat' (first
| apply yds;rfl
| apply yd;rfl
| intro _
| refine nv ?_
| apply wct rfl
| apply wcf rfl
| apply ag;rfl
| apply yar;rfl;omega
| apply zsh;rfl;rfl;rfl;rfl;omega;rfl;rfl
| apply zcv;rfl;exact tk;(iterate 6 rfl)
| fail)
  all_goals first | (exfalso;omega) | skip
  refine wlp (X:=Int × Int) [0,2,4] [0,1,2] (fun x => [(14,I x.1),(15,I x.2)]) (fun _ => []) (fun x => (a ≤ x.1 ∧ x.1 ≤ x.2 ∧ x.2 ≤ m) ∧ (∀ c:Int,a ≤ c → c < x.1 → so (rd ov) (rd l c) (rd l m)) ∧ ∀ c:Int,x.2 ≤ c → c < m → so (rd ov) (rd l m) (rd l c)) (fun x => (x.2 - x.1).toNat) (a,m) ⟨by dsimp only;omega,fun c c0 c1 => by dsimp only at c1;omega,fun c c0 c1 => by dsimp only at c0;omega⟩ rfl rfl (fun _ => rfl) (fun _ => rfl) ⟨rfl,rfl,rfl,rfl,rfl,rfl,rfl,rfl⟩ (fun x hx => ?_)
  obtain ⟨i,j⟩:=x
  obtain ⟨hij,hA,hB⟩:=hx
  dsimp only at hij hA hB ⊢
  by_cases hlt:i < j
  ·
   have hh:i ≤ (i + j) / 2 ∧ (i + j) / 2 < j:=by omega
   have hr1:=hr m (by omega) (by omega)
   have hr2:=hr ((i + j) / 2) (by omega) (by omega)
   have hcr:=hs.cr ((i + j) / 2) m (by omega) (by omega) (by omega) (by omega)
   have hpk:0 ≤ pick (rd ov (rd l m) < rd ov (rd l ((i + j) / 2))) 1 0:=lc
   have hup:=fun (q:¬ rd ov (rd l m) > rd ov (rd l ((i + j) / 2))) => (⟨by omega,fun c c0 c1 => by
     by_cases e:c = (i + j) / 2
     ·rw [e];exact (qc hcr).2 q
     ·exact fk (hs.r1 c ((i + j) / 2) c0 (by omega) (by omega)) ((qc hcr).2 q),hB⟩:(a ≤ (i + j) / 2 + 1 ∧ (i + j) / 2 + 1 ≤ j ∧ j ≤ m) ∧ (∀ c:Int,a ≤ c → c < (i + j) / 2 + 1 → so (rd ov) (rd l c) (rd l m)) ∧ ∀ c:Int,j ≤ c → c < m → so (rd ov) (rd l m) (rd l c))
   have hdn:=fun (q:rd ov (rd l m) > rd ov (rd l ((i + j) / 2))) => (⟨by omega,hA,fun c c0 c1 => by
     by_cases e:c = (i + j) / 2
     ·rw [e];exact (q9 hcr).2 q
     ·exact fk ((q9 hcr).2 q) (hs.r1 ((i + j) / 2) c (by omega) (by omega) c1)⟩:(a ≤ i ∧ i ≤ (i + j) / 2 ∧ (i + j) / 2 ≤ m) ∧ (∀ c:Int,a ≤ c → c < i → so (rd ov) (rd l c) (rd l m)) ∧ ∀ c:Int,(i + j) / 2 ≤ c → c < m → so (rd ov) (rd l m) (rd l c))
   repeat' (first
| apply yds;rfl
| apply yd;rfl
| apply zsw;rfl;rfl;rfl;rfl;omega;exact mu;rfl;rfl
| apply zcv;rfl;exact tk;rfl;rfl;rfl;(first | exact wU (by omega) | exact wI (by omega));rfl;rfl
| apply zcs;(iterate 10 rfl);exact aX (by omega) (by omega);exact fun _ => rfl;exact fun _ => rfl;rfl;rfl;rfl;rfl
| apply yix;rfl;omega
| apply yle;rfl;omega
| intro _
| refine nv ?_
| apply wct rfl
| apply wcf rfl
| apply ae rfl
| apply ag;rfl
| apply yar;rfl;omega
| refine zdq (id:=17) rfl (by kernel_rfl) [(.p,0),(.p,1),(.p,2),(.p,3),(.p,5),(.p,6),(.p,7),(.t,4),(.t,8),(.o,9),(.p,10),(.p,11)] [] (by kernel_rfl) rfl ?_
| fail)
   all_goals first
    | exact aA ((i + j) / 2 + 1,j) [0,1,2] ⟨rfl,rfl,rfl,rfl,rfl,rfl,rfl,rfl⟩ (hup (by assumption)) (by first | omega | (dsimp only;omega))
    | exact aA (i,(i + j) / 2) [0,1,2] ⟨rfl,rfl,rfl,rfl,rfl,rfl,rfl,rfl⟩ (hdn (by assumption)) (by first | omega | (dsimp only;omega))
    | (exfalso;omega)
    | trace_state
  obtain rfl:i = j:=by omega
  obtain ⟨f1,f2⟩:=hs.last (by omega) ⟨hij.1,hij.2.2⟩ hA hB
  have hfin:=fg hbn.1 hbn.2.2.2 f1 f2
  repeat' (first
| apply yds;rfl
| apply yd;rfl
| apply zsw;rfl;rfl;rfl;rfl;omega;exact mu;rfl;rfl
| apply zcv;rfl;exact tk;rfl;rfl;rfl;(first | exact wU (by omega) | exact wI (by omega));rfl;rfl
| apply zcs;(iterate 10 rfl);exact aX (by omega) (by omega);exact fun _ => rfl;exact fun _ => rfl;rfl;rfl;rfl;rfl
| apply yix;rfl;omega
| apply yle;rfl;omega
| intro _
| refine nv ?_
| apply wct rfl
| apply wcf rfl
| apply ae rfl
| apply ag;rfl
| apply yar;rfl;omega
| refine zdq (id:=17) rfl (by kernel_rfl) [(.p,0),(.p,1),(.p,2),(.p,3),(.p,5),(.p,6),(.p,7),(.t,4),(.t,8),(.o,9),(.p,10),(.p,11)] [] (by kernel_rfl) rfl ?_
| fail)
  all_goals first | (exfalso;omega) | skip
  refine wlp (X:=Int) [0,14] [0,1,2] (fun k => [(17,I k)]) (fun k => [(0,ow 3 (rot l k m (m + 1)))]) (fun k => i ≤ k ∧ k ≤ m) (fun k => (k - i).toNat) m ⟨by omega,by omega⟩ rfl rfl (fun _ => rfl) (fun _ => rfl) (by rw [rx (.inl rfl)];exact ⟨rfl,rfl,rfl,rfl,rfl,rfl,rfl,rfl⟩) (fun k hk => ?_)
  have hml:=bf (l:=l) (a:=k) (m:=m) (b:=m + 1)
  by_cases hki:i < k
  ·
   have hst:upd (upd (rot l k m (m + 1)) k (rd (rot l k m (m + 1)) (k - 1))) (k - 1) (rd (rot l k m (m + 1)) k) = rot l (k - 1) m (m + 1):=yy ⟨by omega,hk.2,by omega⟩
   repeat' (first
| apply yds;rfl
| apply yd;rfl
| apply yix;rfl;omega
| apply yle;rfl;omega
| apply zse;rfl;exact tk;(iterate 6 rfl);(first | omega | (simp only [aF];omega));rfl;rfl;rfl;rfl;rfl
| intro _
| refine nv ?_
| apply wct rfl
| apply wcf rfl
| apply ae rfl
| apply ag;rfl
| apply yar;rfl;omega
| refine zdq (id:=23) rfl (by kernel_rfl) [(.p,0),(.p,1),(.p,2),(.p,3),(.p,4),(.p,5),(.p,6),(.p,7),(.p,8),(.p,10),(.p,11),(.p,12),(.t,9),(.t,13),(.p,14),(.l,15),(.p,16),(.l,17)] [15,17] (by kernel_rfl) rfl ?_
| fail)
   all_goals first
    | (rw [hst]
       exact aA (k - 1) [0,1,2] ⟨rfl,rfl,rfl,rfl,rfl,rfl,rfl,rfl⟩ ⟨by omega,by omega⟩ (by first | omega | (dsimp only;omega)))
    | (exfalso;omega)
    | trace_state
  ·
   repeat' (first
| apply yds;rfl
| apply yd;rfl
| apply yix;rfl;omega
| apply yle;rfl;omega
| apply zse;rfl;exact tk;(iterate 6 rfl);omega;rfl;rfl;rfl;rfl;rfl
| intro _
| refine nv ?_
| apply wct rfl
| apply wcf rfl
| apply ae rfl
| apply ag;rfl
| apply yar;rfl;omega
| refine zdq (id:=23) rfl (by kernel_rfl) [(.p,0),(.p,1),(.p,2),(.p,3),(.p,4),(.p,5),(.p,6),(.p,7),(.p,8),(.p,10),(.p,11),(.p,12),(.t,9),(.t,13),(.p,14),(.l,15),(.p,16),(.l,17)] [15,17] (by kernel_rfl) rfl ?_
| fail)
   all_goals first
    | (rw [show k = i from by omega,show m + 1 = b from by omega,hfin]
       exact ai [0,1,2] rfl rfl rfl rfl rfl rfl)
    | (exfalso;omega)
    | trace_state
 by_cases hmm:m > (a + b) / 2
 ·
  repeat' (first
| apply yds;rfl
| apply yd;rfl
| apply zsw;rfl;rfl;rfl;rfl;omega;exact mu;rfl;rfl
| apply zcv;rfl;exact tk;rfl;rfl;rfl;(first | exact wU (by omega) | exact wI (by omega));rfl;rfl
| intro _
| refine nv ?_
| apply wct rfl
| apply wcf rfl
| apply ag;rfl
| apply yar;rfl;omega
| fail)
  all_goals first | (exfalso;omega) | skip
  refine wlp (X:=Int × Int) [0,1,2,3,4,18,19,22] [0,1,2] (fun x => [(20,I x.1),(21,I x.2)]) (fun _ => []) (fun x => (((a + b) / 2 + m - b) ≤ x.1 ∧ x.1 ≤ x.2 ∧ x.2 ≤ ((a + b) / 2)) ∧ (x.1 = ((a + b) / 2 + m - b) ∨ so (rd ov) (rd l (x.1 - 1)) (rd l ((a + b) / 2 + m - x.1))) ∧ (x.2 = ((a + b) / 2) ∨ so (rd ov) (rd l ((a + b) / 2 + m - x.2 - 1)) (rd l x.2))) (fun x => (x.2 - x.1).toNat) (((a + b) / 2 + m - b),((a + b) / 2)) ⟨by dsimp only;omega,.inl rfl,.inl rfl⟩ rfl rfl (fun _ => rfl) (fun _ => rfl) ⟨rfl,rfl,rfl,rfl,rfl,rfl,rfl,rfl⟩ (fun x hx => ?_)
  obtain ⟨s,r⟩:=x
  obtain ⟨hij,hA,hB⟩:=hx
  dsimp only at hij hA hB ⊢
  by_cases hlt:s < r
  ·
   have hh:s ≤ (s + r) / 2 ∧ (s + r) / 2 < r:=by omega
   have hr1:=hr ((s + r) / 2) (by omega) (by omega)
   have hr2:=hr ((a + b) / 2 + m - 1 - (s + r) / 2) (by omega) (by omega)
   have hcr:=hs.cr ((s + r) / 2) ((a + b) / 2 + m - 1 - (s + r) / 2) (by omega) (by omega) (by omega) (by omega)
   have hpk:0 ≤ pick (rd ov (rd l ((a + b) / 2 + m - 1 - (s + r) / 2)) < rd ov (rd l ((s + r) / 2))) 1 0:=lc
   have hup:=fun (q:¬ rd ov (rd l ((a + b) / 2 + m - 1 - (s + r) / 2)) > rd ov (rd l ((s + r) / 2))) => (⟨by omega,.inr (by
     rw [show (s + r) / 2 + 1 - 1 = (s + r) / 2 from by omega,show (a + b) / 2 + m - ((s + r) / 2 + 1) = (a + b) / 2 + m - 1 - (s + r) / 2 from by omega]
     exact (qc hcr).2 q),hB⟩:(((a + b) / 2 + m - b) ≤ (s + r) / 2 + 1 ∧ (s + r) / 2 + 1 ≤ r ∧ r ≤ ((a + b) / 2)) ∧ ((s + r) / 2 + 1 = ((a + b) / 2 + m - b) ∨ so (rd ov) (rd l ((s + r) / 2 + 1 - 1)) (rd l ((a + b) / 2 + m - ((s + r) / 2 + 1)))) ∧ (r = ((a + b) / 2) ∨ so (rd ov) (rd l ((a + b) / 2 + m - r - 1)) (rd l r)))
   have hdn:=fun (q:rd ov (rd l ((a + b) / 2 + m - 1 - (s + r) / 2)) > rd ov (rd l ((s + r) / 2))) => (⟨by omega,hA,.inr (by
     rw [show (a + b) / 2 + m - (s + r) / 2 - 1 = (a + b) / 2 + m - 1 - (s + r) / 2 from by omega]
     exact (q9 hcr).2 q)⟩:(((a + b) / 2 + m - b) ≤ s ∧ s ≤ (s + r) / 2 ∧ (s + r) / 2 ≤ ((a + b) / 2)) ∧ (s = ((a + b) / 2 + m - b) ∨ so (rd ov) (rd l (s - 1)) (rd l ((a + b) / 2 + m - s))) ∧ ((s + r) / 2 = ((a + b) / 2) ∨ so (rd ov) (rd l ((a + b) / 2 + m - (s + r) / 2 - 1)) (rd l ((s + r) / 2))))
   repeat' (first
| apply yds;rfl
| apply yd;rfl
| apply zsw;rfl;rfl;rfl;rfl;omega;exact mu;rfl;rfl
| apply zcv;rfl;exact tk;rfl;rfl;rfl;(first | exact wU (by omega) | exact wI (by omega));rfl;rfl
| apply zcs;(iterate 10 rfl);exact aX (by omega) (by omega);exact fun _ => rfl;exact fun _ => rfl;rfl;rfl;rfl;rfl
| apply yix;rfl;omega
| apply yle;rfl;omega
| intro _
| refine nv ?_
| apply wct rfl
| apply wcf rfl
| apply ae rfl
| apply ag;rfl
| apply yar;rfl;omega
| refine zdq (id:=35) rfl (by kernel_rfl) [(.p,0),(.p,1),(.p,2),(.p,3),(.p,4),(.p,5),(.p,7),(.p,8),(.p,9),(.t,6),(.t,10),(.o,11),(.p,12),(.p,13)] [] (by kernel_rfl) rfl ?_
| apply ycw  [true,false,false];rfl;(exact bk (by omega) (by omega) (by omega));rfl
| fail)
   all_goals first
    | exact aA ((s + r) / 2 + 1,r) [0,1,2] ⟨rfl,rfl,rfl,rfl,rfl,rfl,rfl,rfl⟩ (hup (by assumption)) (by first | omega | (dsimp only;omega))
    | exact aA (s,(s + r) / 2) [0,1,2] ⟨rfl,rfl,rfl,rfl,rfl,rfl,rfl,rfl⟩ (hdn (by assumption)) (by first | omega | (dsimp only;omega))
    | (exfalso;omega)
    | trace_state
  obtain rfl:s = r:=by omega
  have hSR:SR (rd ov) l a m b s ((a + b) / 2 + m - s) ((a + b) / 2):=⟨hs,by omega,by rcases hA with h | h <;> first | exact .inr (.inr h) | (by_cases hq:s = a <;> first | exact .inl hq | exact .inr (.inl (by omega))),by rcases hB with h | h <;> first | exact .inr (.inr h) | (by_cases hq:s = m <;> first | exact .inl hq | exact .inr (.inl (by omega)))⟩
  have hlo:=hSR.low
  have hhi:=hSR.high
  have hm1:=hSR.mv
  have hr1:=hr.mv hm1 hbn.1 hbn.2.2.2
  obtain ⟨g1,g2⟩:=m0 hlo.ex
  have hr2:=hr1.mv g1 hbn.1 (by rw [bf];omega)
  have hh2:=hhi.mv g1 hbn.1
  obtain ⟨g3,g4⟩:=m0 hh2.ex
  obtain ⟨f1,f2⟩:=hSR.both g1 g2 g3 g4
  have hfin:=fg hbn.1 hbn.2.2.2 f1 f2
  have e1:=bf (l:=l) (a:=s) (m:=m) (b:=(a + b) / 2 + m - s)
  have e2:=g1.len
  have e3:=g3.len
  have hE1:=fun (q:¬ (s < m ∧ m < (a + b) / 2 + m - s)) => (rx (by omega):rot l s m ((a + b) / 2 + m - s) = l)
  have hE2:=fun (q:¬ (a < s ∧ s < (a + b) / 2)) => (fg hbn.1 (by rw [e1];omega) (.refl _ _ _) (hlo.triv (by omega))).symm
  have hE3:=fun (q:¬ ((a + b) / 2 < (a + b) / 2 + m - s ∧ (a + b) / 2 + m - s < b)) => (fg (by omega) (by rw [e2,e1];omega) (.refl _ _ _) (hh2.triv (by omega))).symm
  by_cases c1:s < m ∧ m < (a + b) / 2 + m - s
  rotate_left
  ·have q1:=hE1 c1
   rw [q1] at hlo hhi hr1 hr2 hh2 hfin e1 e2 e3 hE2 hE3
   repeat' (first
| apply yds;rfl
| apply yd;rfl
| apply zsw;rfl;rfl;rfl;rfl;omega;exact mu;rfl;rfl
| apply zcv;rfl;exact tk;rfl;rfl;rfl;(first | exact wU (by omega) | exact wI (by omega));rfl;rfl
| apply zcs;(iterate 10 rfl);exact aX (by omega) (by omega);exact fun _ => rfl;exact fun _ => rfl;rfl;rfl;rfl;rfl
| apply yix;rfl;omega
| apply yle;rfl;omega
| intro _
| refine nv ?_
| apply wct rfl
| apply wcf rfl
| apply ae rfl
| apply ag;rfl
| apply yar;rfl;omega
| refine zdq (id:=35) rfl (by kernel_rfl) [(.p,0),(.p,1),(.p,2),(.p,3),(.p,4),(.p,5),(.p,7),(.p,8),(.p,9),(.t,6),(.t,10),(.o,11),(.p,12),(.p,13)] [] (by kernel_rfl) rfl ?_
| apply ycw  [true,false,false];rfl;(exact bk (by omega) (by omega) (by omega));rfl
| apply ycw [true,false,false];rfl;(exact ih (by omega) (by assumption) (by assumption) (by omega) (by omega));rfl
| fail)
   all_goals first
    | (exfalso;omega)
    | (first
       | (rw [hfin]
          exact ai [0,1,2] rfl rfl rfl rfl rfl rfl)
       | (have q:=hE2 (by omega)
          rw [q] at hfin
          rw [hfin]
          exact ai [0,1,2] rfl rfl rfl rfl rfl rfl)
       | (have q:=hE3 (by omega)
          rw [q] at hfin
          rw [hfin]
          exact ai [0,1,2] rfl rfl rfl rfl rfl rfl)
       | (have q:=hE3 (by omega)
          have q2:=hE2 (by omega)
          rw [q,q2] at hfin
          rw [← hfin]
          exact ai [0,1,2] rfl rfl rfl rfl rfl rfl))
    | trace_state
  ·
   repeat' (first
| apply yds;rfl
| apply yd;rfl
| apply zsw;rfl;rfl;rfl;rfl;omega;exact mu;rfl;rfl
| apply zcv;rfl;exact tk;rfl;rfl;rfl;(first | exact wU (by omega) | exact wI (by omega));rfl;rfl
| apply zcs;(iterate 10 rfl);exact aX (by omega) (by omega);exact fun _ => rfl;exact fun _ => rfl;rfl;rfl;rfl;rfl
| apply yix;rfl;omega
| apply yle;rfl;omega
| intro _
| refine nv ?_
| apply wct rfl
| apply wcf rfl
| apply ae rfl
| apply ag;rfl
| apply yar;rfl;omega
| refine zdq (id:=35) rfl (by kernel_rfl) [(.p,0),(.p,1),(.p,2),(.p,3),(.p,4),(.p,5),(.p,7),(.p,8),(.p,9),(.t,6),(.t,10),(.o,11),(.p,12),(.p,13)] [] (by kernel_rfl) rfl ?_
| apply ycw  [true,false,false];rfl;(exact bk (by omega) (by omega) (by omega));rfl
| apply ycw [true,false,false];rfl;(exact ih (by omega) (by assumption) (by assumption) (by omega) (by omega));rfl
| fail)
   all_goals first
    | (exfalso;omega)
    | (first
       | (rw [hfin]
          exact ai [0,1,2] rfl rfl rfl rfl rfl rfl)
       | (have q:=hE2 (by omega)
          rw [q] at hfin
          rw [hfin]
          exact ai [0,1,2] rfl rfl rfl rfl rfl rfl)
       | (have q:=hE3 (by omega)
          rw [q] at hfin
          rw [hfin]
          exact ai [0,1,2] rfl rfl rfl rfl rfl rfl)
       | (have q:=hE3 (by omega)
          have q2:=hE2 (by omega)
          rw [q,q2] at hfin
          rw [← hfin]
          exact ai [0,1,2] rfl rfl rfl rfl rfl rfl))
    | trace_state
 ·
  repeat' (first
| apply yds;rfl
| apply yd;rfl
| apply zsw;rfl;rfl;rfl;rfl;omega;exact mu;rfl;rfl
| apply zcv;rfl;exact tk;rfl;rfl;rfl;(first | exact wU (by omega) | exact wI (by omega));rfl;rfl
| intro _
| refine nv ?_
| apply wct rfl
| apply wcf rfl
| apply ag;rfl
| apply yar;rfl;omega
| fail)
  all_goals first | (exfalso;omega) | skip
  refine wlp (X:=Int × Int) [0,1,2,3,4,18,19,22] [0,1,2] (fun x => [(20,I x.1),(21,I x.2)]) (fun _ => []) (fun x => (a ≤ x.1 ∧ x.1 ≤ x.2 ∧ x.2 ≤ m) ∧ (x.1 = a ∨ so (rd ov) (rd l (x.1 - 1)) (rd l ((a + b) / 2 + m - x.1))) ∧ (x.2 = m ∨ so (rd ov) (rd l ((a + b) / 2 + m - x.2 - 1)) (rd l x.2))) (fun x => (x.2 - x.1).toNat) (a,m) ⟨by dsimp only;omega,.inl rfl,.inl rfl⟩ rfl rfl (fun _ => rfl) (fun _ => rfl) ⟨rfl,rfl,rfl,rfl,rfl,rfl,rfl,rfl⟩ (fun x hx => ?_)
  obtain ⟨s,r⟩:=x
  obtain ⟨hij,hA,hB⟩:=hx
  dsimp only at hij hA hB ⊢
  by_cases hlt:s < r
  ·
   have hh:s ≤ (s + r) / 2 ∧ (s + r) / 2 < r:=by omega
   have hr1:=hr ((s + r) / 2) (by omega) (by omega)
   have hr2:=hr ((a + b) / 2 + m - 1 - (s + r) / 2) (by omega) (by omega)
   have hcr:=hs.cr ((s + r) / 2) ((a + b) / 2 + m - 1 - (s + r) / 2) (by omega) (by omega) (by omega) (by omega)
   have hpk:0 ≤ pick (rd ov (rd l ((a + b) / 2 + m - 1 - (s + r) / 2)) < rd ov (rd l ((s + r) / 2))) 1 0:=lc
   have hup:=fun (q:¬ rd ov (rd l ((a + b) / 2 + m - 1 - (s + r) / 2)) > rd ov (rd l ((s + r) / 2))) => (⟨by omega,.inr (by
     rw [show (s + r) / 2 + 1 - 1 = (s + r) / 2 from by omega,show (a + b) / 2 + m - ((s + r) / 2 + 1) = (a + b) / 2 + m - 1 - (s + r) / 2 from by omega]
     exact (qc hcr).2 q),hB⟩:(a ≤ (s + r) / 2 + 1 ∧ (s + r) / 2 + 1 ≤ r ∧ r ≤ m) ∧ ((s + r) / 2 + 1 = a ∨ so (rd ov) (rd l ((s + r) / 2 + 1 - 1)) (rd l ((a + b) / 2 + m - ((s + r) / 2 + 1)))) ∧ (r = m ∨ so (rd ov) (rd l ((a + b) / 2 + m - r - 1)) (rd l r)))
   have hdn:=fun (q:rd ov (rd l ((a + b) / 2 + m - 1 - (s + r) / 2)) > rd ov (rd l ((s + r) / 2))) => (⟨by omega,hA,.inr (by
     rw [show (a + b) / 2 + m - (s + r) / 2 - 1 = (a + b) / 2 + m - 1 - (s + r) / 2 from by omega]
     exact (q9 hcr).2 q)⟩:(a ≤ s ∧ s ≤ (s + r) / 2 ∧ (s + r) / 2 ≤ m) ∧ (s = a ∨ so (rd ov) (rd l (s - 1)) (rd l ((a + b) / 2 + m - s))) ∧ ((s + r) / 2 = m ∨ so (rd ov) (rd l ((a + b) / 2 + m - (s + r) / 2 - 1)) (rd l ((s + r) / 2))))
   repeat' (first
| apply yds;rfl
| apply yd;rfl
| apply zsw;rfl;rfl;rfl;rfl;omega;exact mu;rfl;rfl
| apply zcv;rfl;exact tk;rfl;rfl;rfl;(first | exact wU (by omega) | exact wI (by omega));rfl;rfl
| apply zcs;(iterate 10 rfl);exact aX (by omega) (by omega);exact fun _ => rfl;exact fun _ => rfl;rfl;rfl;rfl;rfl
| apply yix;rfl;omega
| apply yle;rfl;omega
| intro _
| refine nv ?_
| apply wct rfl
| apply wcf rfl
| apply ae rfl
| apply ag;rfl
| apply yar;rfl;omega
| refine zdq (id:=35) rfl (by kernel_rfl) [(.p,0),(.p,1),(.p,2),(.p,3),(.p,4),(.p,5),(.p,7),(.p,8),(.p,9),(.t,6),(.t,10),(.o,11),(.p,12),(.p,13)] [] (by kernel_rfl) rfl ?_
| apply ycw  [true,false,false];rfl;(exact bk (by omega) (by omega) (by omega));rfl
| fail)
   all_goals first
    | exact aA ((s + r) / 2 + 1,r) [0,1,2] ⟨rfl,rfl,rfl,rfl,rfl,rfl,rfl,rfl⟩ (hup (by assumption)) (by first | omega | (dsimp only;omega))
    | exact aA (s,(s + r) / 2) [0,1,2] ⟨rfl,rfl,rfl,rfl,rfl,rfl,rfl,rfl⟩ (hdn (by assumption)) (by first | omega | (dsimp only;omega))
    | (exfalso;omega)
    | trace_state
  obtain rfl:s = r:=by omega
  have hSR:SR (rd ov) l a m b s ((a + b) / 2 + m - s) ((a + b) / 2):=⟨hs,by omega,by rcases hA with h | h <;> first | exact .inr (.inr h) | (by_cases hq:s = a <;> first | exact .inl hq | exact .inr (.inl (by omega))),by rcases hB with h | h <;> first | exact .inr (.inr h) | (by_cases hq:s = m <;> first | exact .inl hq | exact .inr (.inl (by omega)))⟩
  have hlo:=hSR.low
  have hhi:=hSR.high
  have hm1:=hSR.mv
  have hr1:=hr.mv hm1 hbn.1 hbn.2.2.2
  obtain ⟨g1,g2⟩:=m0 hlo.ex
  have hr2:=hr1.mv g1 hbn.1 (by rw [bf];omega)
  have hh2:=hhi.mv g1 hbn.1
  obtain ⟨g3,g4⟩:=m0 hh2.ex
  obtain ⟨f1,f2⟩:=hSR.both g1 g2 g3 g4
  have hfin:=fg hbn.1 hbn.2.2.2 f1 f2
  have e1:=bf (l:=l) (a:=s) (m:=m) (b:=(a + b) / 2 + m - s)
  have e2:=g1.len
  have e3:=g3.len
  have hE1:=fun (q:¬ (s < m ∧ m < (a + b) / 2 + m - s)) => (rx (by omega):rot l s m ((a + b) / 2 + m - s) = l)
  have hE2:=fun (q:¬ (a < s ∧ s < (a + b) / 2)) => (fg hbn.1 (by rw [e1];omega) (.refl _ _ _) (hlo.triv (by omega))).symm
  have hE3:=fun (q:¬ ((a + b) / 2 < (a + b) / 2 + m - s ∧ (a + b) / 2 + m - s < b)) => (fg (by omega) (by rw [e2,e1];omega) (.refl _ _ _) (hh2.triv (by omega))).symm
  by_cases c1:s < m ∧ m < (a + b) / 2 + m - s
  rotate_left
  ·have q1:=hE1 c1
   rw [q1] at hlo hhi hr1 hr2 hh2 hfin e1 e2 e3 hE2 hE3
   repeat' (first
| apply yds;rfl
| apply yd;rfl
| apply zsw;rfl;rfl;rfl;rfl;omega;exact mu;rfl;rfl
| apply zcv;rfl;exact tk;rfl;rfl;rfl;(first | exact wU (by omega) | exact wI (by omega));rfl;rfl
| apply zcs;(iterate 10 rfl);exact aX (by omega) (by omega);exact fun _ => rfl;exact fun _ => rfl;rfl;rfl;rfl;rfl
| apply yix;rfl;omega
| apply yle;rfl;omega
| intro _
| refine nv ?_
| apply wct rfl
| apply wcf rfl
| apply ae rfl
| apply ag;rfl
| apply yar;rfl;omega
| refine zdq (id:=35) rfl (by kernel_rfl) [(.p,0),(.p,1),(.p,2),(.p,3),(.p,4),(.p,5),(.p,7),(.p,8),(.p,9),(.t,6),(.t,10),(.o,11),(.p,12),(.p,13)] [] (by kernel_rfl) rfl ?_
| apply ycw  [true,false,false];rfl;(exact bk (by omega) (by omega) (by omega));rfl
| apply ycw [true,false,false];rfl;(exact ih (by omega) (by assumption) (by assumption) (by omega) (by omega));rfl
| fail)
   all_goals first
    | (exfalso;omega)
    | (first
       | (rw [hfin]
          exact ai [0,1,2] rfl rfl rfl rfl rfl rfl)
       | (have q:=hE2 (by omega)
          rw [q] at hfin
          rw [hfin]
          exact ai [0,1,2] rfl rfl rfl rfl rfl rfl)
       | (have q:=hE3 (by omega)
          rw [q] at hfin
          rw [hfin]
          exact ai [0,1,2] rfl rfl rfl rfl rfl rfl)
       | (have q:=hE3 (by omega)
          have q2:=hE2 (by omega)
          rw [q,q2] at hfin
          rw [← hfin]
          exact ai [0,1,2] rfl rfl rfl rfl rfl rfl))
    | trace_state
  ·
   repeat' (first
| apply yds;rfl
| apply yd;rfl
| apply zsw;rfl;rfl;rfl;rfl;omega;exact mu;rfl;rfl
| apply zcv;rfl;exact tk;rfl;rfl;rfl;(first | exact wU (by omega) | exact wI (by omega));rfl;rfl
| apply zcs;(iterate 10 rfl);exact aX (by omega) (by omega);exact fun _ => rfl;exact fun _ => rfl;rfl;rfl;rfl;rfl
| apply yix;rfl;omega
| apply yle;rfl;omega
| intro _
| refine nv ?_
| apply wct rfl
| apply wcf rfl
| apply ae rfl
| apply ag;rfl
| apply yar;rfl;omega
| refine zdq (id:=35) rfl (by kernel_rfl) [(.p,0),(.p,1),(.p,2),(.p,3),(.p,4),(.p,5),(.p,7),(.p,8),(.p,9),(.t,6),(.t,10),(.o,11),(.p,12),(.p,13)] [] (by kernel_rfl) rfl ?_
| apply ycw  [true,false,false];rfl;(exact bk (by omega) (by omega) (by omega));rfl
| apply ycw [true,false,false];rfl;(exact ih (by omega) (by assumption) (by assumption) (by omega) (by omega));rfl
| fail)
   all_goals first
    | (exfalso;omega)
    | (first
       | (rw [hfin]
          exact ai [0,1,2] rfl rfl rfl rfl rfl rfl)
       | (have q:=hE2 (by omega)
          rw [q] at hfin
          rw [hfin]
          exact ai [0,1,2] rfl rfl rfl rfl rfl rfl)
       | (have q:=hE3 (by omega)
          rw [q] at hfin
          rw [hfin]
          exact ai [0,1,2] rfl rfl rfl rfl rfl rfl)
       | (have q:=hE3 (by omega)
          have q2:=hE2 (by omega)
          rw [q,q2] at hfin
          rw [← hfin]
          exact ai [0,1,2] rfl rfl rfl rfl rfl rfl))
    | trace_state
theorem ls {ov:List Int} {z:Nat} (h0:z ≤ 1000):∀ (k:Nat) {l:List Int} {a m b:Int},l.length = z → SM (rd ov) l a m b → Rng l ov.length → (b - a).toNat < k → a < m ∧ m < b → FC Tryz.prog 340 [.c (.row 0 0 z),I a,I m,I b,.c (.fn 302 [(1,0,0)])] ([ow 3 l,vO 2 ov.length,ro 3 ov]) (.tup []) ([ow 3 (stb (rd ov) l a b),vO 2 ov.length,ro 3 ov])
 | 0,_,_,_,_,_,_,_,h,_ => absurd h (Nat.not_lt_zero _)
 | k + 1,l,a,m,b,h1,h2,h3,h4,h5 => fe (k:=(b - a).toNat) (fun q1 q2 q3 q4 q5 => ls h0 k q1 q2 q3 (by omega) q5) h1 h2 h3 (by omega) (Nat.le_refl _) h5
theorem iW {l ov:List Int} {z:Nat} {a m b:Int} (hz:l.length = z) (hs:SM (rd ov) l a m b) (hr:Rng l ov.length) (hl:l.length ≤ 1000) (hp:a < m ∧ m < b):FC Tryz.prog 340 [.c (.row 0 0 z),I a,I m,I b,.c (.fn 302 [(1,0,0)])] ([ow 3 l,vO 2 ov.length,ro 3 ov]) (.tup []) ([ow 3 (stb (rd ov) l a b),vO 2 ov.length,ro 3 ov]):=ls (by omega) _ hz hs hr (Nat.lt_succ_self _) hp
end
section
open Go.RowKit
theorem yj (g:Int → Int):f9 g 0 = []:=List.length_eq_zero_iff.1 (l8 g 0)
theorem gZ {α:Type} {f:Int → α} {i:Int} (h:0 ≤ i):mkl (i + 1).toNat f = mkl i.toNat f ++ [f i]:=by
 rw [show (i + 1).toNat = i.toNat + 1 from by omega]
 unfold mkl
 rw [List.range_succ,List.map_append]
 show _ ++ [f (i.toNat:Int)] = _
 rw [Int.toNat_of_nonneg h]
theorem A0 {u v:List Int} {p:Int} (h:0 ≤ p ∧ p < u.length):rd (u ++ v) p = rd u p:=by
 unfold rd
 rw [List.getD_eq_getElem?_getD,List.getD_eq_getElem?_getD,List.getElem?_append_left (by omega)]
theorem zk {u:List Int} {k x:Int} (h:0 ≤ k ∧ k ≤ u.length):[] ++ sub u 0 k ++ [x] ++ sub u k u.length = ins u k x:=by
 unfold sub ins
 rw [List.nil_append,Int.toNat_natCast,List.take_length]
 simp
theorem mK {t:Int} {ws:List Int} (h:shareable t ws):FC Tryz.prog 244 [I t,.c (.row 0 0 ws.length)] ([ro 3 ws]) (.c (.row 1 0 (dH t ws).length)) ([ro 3 ws,ow 3 (dH t ws)]):=by
 refine al tk 75 [.tmp 4] Tryz.func244 (by kernel_rfl) rfl rfl rfl rfl rfl rfl rfl ?_
 have hw:=h.1
 have ht:=h.2
 have hln:(1:Int) ≤ ws.length ∧ (ws.length:Int) ≤ 40:=h.1.1
 repeat' (first
| intro h9;exfalso;contradiction
| apply yds;rfl
| apply yd;rfl
| intro _
| refine nv ?_
| apply wcf rfl
| apply aG (α:=Int) (e:=3);rfl
| apply ycp;rfl;(first | exact fY | exact aC);rfl
| fail)
 refine wlp (X:=Int × List Int × List Int) [0,1] [0,1,2] (fun x => [(7,I x.1),(5,.c (.row 1 0 x.2.1.length)),(6,.c (.row 2 0 x.2.2.length))]) (fun x => [(1,ow 3 x.2.1),(2,ow 3 x.2.2)]) (fun x => (0 ≤ x.1 ∧ x.1 ≤ ws.length) ∧ x.2.1 = f9 (shG t ws) x.1.toNat ∧ x.2.2 = mkl x.1.toNat (shG t ws)) (fun x => (ws.length - x.1).toNat) (0,[],[]) ⟨by dsimp only;omega,(yj _).symm,rfl⟩ rfl rfl (fun _ => rfl) (fun _ => rfl) ⟨rfl,rfl,rfl,rfl,rfl,rfl,rfl,rfl⟩ (fun x hx => ?_)
 obtain ⟨i,u,v⟩:=x
 obtain ⟨h0,hu,hv⟩:=hx
 dsimp only at h0 hu hv ⊢
 by_cases hil:i < ws.length
 rotate_left
 ·
  repeat' (first
| intro h9;exfalso;contradiction
| apply yds;rfl
| intro _
| refine nv ?_
| apply wcf rfl
| apply ae rfl
| apply ag;rfl
| fail)
  all_goals
   rw [show u = dH t ws from by rw [hu,dH,show i.toNat = ws.length from by omega]]
   exact ai [0,1] rfl rfl rfl rfl rfl rfl
 have hul:(u.length:Int) = i:=by rw [hu,l8];omega
 have hvl:(v.length:Int) = i:=by rw [hv,ck];omega
 have hv2:v ++ [t * rd ws i % ar id ws] = mkl (i + 1).toNat (shG t ws):=by rw [gZ h0.1,← hv];rfl
 have hrng:=fun (p:Int) (h1:0 ≤ p) (h2:p < i) => (by rw [hu];have:=fO (g:=shG t ws) (n:=i.toNat) (i:=p) ⟨h1,by omega⟩;omega:0 ≤ rd u p ∧ rd u p < i)
 have hrd:=fun (p:Int) (h1:0 ≤ p) (h2:p < i) => (by rw [A0 (by have:=hrng p h1 h2;omega),hv,dr (by have:=hrng p h1 h2;omega)]:rd (v ++ [t * rd ws i % ar id ws]) (rd u p) = shG t ws (rd u p))
 repeat' (first
| intro h9;exfalso;contradiction
| apply yds;rfl
| apply yd;rfl
| intro _
| refine nv ?_
| apply wct rfl
| apply ag;rfl
| apply aG (α:=Int) (e:=3);rfl
| apply yap;rfl;(((try simp only [lE,lM]);(try dsimp only);omega))
| apply yc;rfl;exact iX (by assumption) (by omega);rfl;exact fun _ => rfl
| fail)
 refine wlp (X:=Int) [0,1,5,7,9] [0,1,4] (fun k => [(11,I k),(6,.c (.row 2 0 (v ++ [t * rd ws i % ar id ws]).length))]) (fun _ => []) (fun k => (0 ≤ k ∧ k ≤ i) ∧ ∀ p:Int,k ≤ p → p < i → shG t ws (rd u p) < t * rd ws i % ar id ws) (fun k => k.toNat) u.length ⟨⟨by omega,by omega⟩,fun p h1 h2 => by omega⟩ rfl rfl (fun _ => rfl) (fun _ => rfl) ⟨rfl,rfl,rfl,rfl,rfl,rfl,rfl,rfl⟩ (fun k hk => ?_)
 obtain ⟨k0,hlow⟩:=hk
 have hr1:=fun (h1:0 < k) => hrng (k - 1) (by omega) (by omega)
 have hr2:=fun (h1:0 < k) => hrd (k - 1) (by omega) (by omega)
 have hs1:=ez (l:=u) (a:=0) (b:=k) ⟨by omega,by omega,by omega⟩
 have hs2:=ez (l:=u) (a:=k) (b:=u.length) ⟨by omega,by omega,by omega⟩
 have e:(i.toNat:Int) = i:=by omega
 have hins:=fun (hq:k = 0 ∨ ¬ rd (v ++ [t * rd ws i % ar id ws]) (rd u (k - 1)) < t * rd ws i % ar id ws) => (by
  have:=w5 (g:=shG t ws) (n:=i.toNat) (k:=k) ⟨k0.1,by omega⟩ (by
   rcases hq with q | q
   ·exact .inl q
   ·by_cases hk:k = 0
    ·exact .inl hk
    ·right
     rw [e,← hu,← hr2 (by omega)]
     exact q) (by rw [e,← hu];exact hlow)
  rw [← hu,e,← show (i + 1).toNat = i.toNat + 1 from by omega] at this
  rw [zk (by omega)]
  exact this:[] ++ sub u 0 k ++ [i] ++ sub u k u.length = f9 (shG t ws) (i + 1).toNat)
 repeat' (first
| apply yds;rfl
| apply yd;rfl
| intro _
| refine nv ?_
| apply wct rfl
| apply wcf rfl
| apply ae rfl
| apply ag;rfl
| apply yar;rfl;omega
| apply yix;rfl;(first | omega | ((try simp only [lE,lM]);(try dsimp only);omega))
| apply yle;rfl;(first | omega | ((try simp only [lE,lM]);(try dsimp only);omega))
| apply ysl;rfl;omega
| apply aG (α:=Int) (e:=3);rfl
| apply yap;rfl;(((try simp only [lE,lM]);(try dsimp only);omega))
| fail)
 all_goals first
  | exact aA (k - 1) [0,1,2] ⟨rfl,rfl,rfl,rfl,rfl,rfl,rfl,rfl⟩ ⟨by omega,fun p h1 h2 => by
     by_cases hp:p = k - 1
     ·rw [hp,← hr2 (by omega)];assumption
     ·exact hlow p (by omega) h2⟩ (by first | omega | (dsimp only;omega))
  | exact aA (i + 1,[] ++ sub u 0 k ++ [i] ++ sub u k u.length,v ++ [t * rd ws i % ar id ws]) [0,9,2] ⟨rfl,rfl,rfl,rfl,rfl,rfl,rfl,rfl⟩ ⟨by dsimp only;omega,hins (by first | exact .inl (by omega) | exact .inr (by assumption)),hv2⟩ (by first | omega | (dsimp only;omega))
  | trace_state
end
end Go.Proofs.YtgehbhkfehmdkaaGreat.Sh
