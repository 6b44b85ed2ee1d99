/- Netted legs are just what balances they post. No condition. -/
import Derived.Test.YtgehbhkfehmdkaaGreatKCeShNt
import Derived.Test.YtgehbhkfehmdkaaGreatKCeShV
set_option maxRecDepth 100000
set_option maxHeartbeats 40000000
set_option linter.unusedSimpArgs false
set_option linter.unusedVariables false
namespace Go.Proofs.YtgehbhkfehmdkaaGreat.Sh
section
open Go.RowKit
theorem cL {l:List Bal} (hs:BSd l) {a c n:Int} (hn:n ≠ 0):aW l a c = n ↔ (⟨a,c,n⟩:Bal) ∈ l:=by
 constructor
 ·intro h
  obtain ⟨x,hx,h1,h2,h3⟩:=ly (l:=l) (a:=a) (c:=c) (by omega)
  have:x = ⟨a,c,n⟩:=by
   cases x
   simp only at h1 h2 h3
   subst h1;subst h2;rw [h3,h]
  rw [← this]
  exact hx
 ·intro h
  obtain ⟨i,hi,e⟩:=bL h
  have:=kJ (l:=l) (a:=a) (c:=c) (i:=i) hi (fun j h0 h1 k => by
   have:=hs.lt h0 h1 hi.2
   rw [e,k.1,k.2] at this
   dsimp only at this
   unfold bef at this
   omega) (by rw [e];exact ⟨rfl,rfl⟩)
  rw [this,e]
theorem w9 {l m:List Bal} (hl:l.Pairwise oL) (hm:m.Pairwise oL) (h:∀ x,x ∈ l ↔ x ∈ m):l = m:=by
 induction l generalizing m with
 | nil =>
   cases m with
   | nil => rfl
   | cons y m => exact absurd ((h y).2 (by simp)) (by simp)
 | cons x l ih =>
   cases m with
   | nil => exact absurd ((h x).1 (by simp)) (by simp)
   | cons y m =>
     rw [List.pairwise_cons] at hl hm
     have e:x = y:=by
      have h1:=(h x).1 (by simp)
      have h2:=(h y).2 (by simp)
      rcases List.mem_cons.1 h1 with h1 | h1
      ·exact h1
      ·rcases List.mem_cons.1 h2 with h2 | h2
       ·exact h2.symm
       ·have a:=hm.1 x h1
        have b:=hl.1 y h2
        unfold oL bef at a b
        omega
     subst e
     rw [ih hl.2 hm.2 (fun z => ?_)]
     have hz:=h z
     simp only [List.mem_cons] at hz
     constructor
     ·intro k
      rcases hz.1 (.inr k) with rfl | q
      ·have:=hl.1 z k
       unfold oL bef at this
       omega
      ·exact q
     ·intro k
      rcases hz.2 (.inr k) with rfl | q
      ·have:=hm.1 z k
       unfold oL bef at this
       omega
      ·exact q
theorem wG {l m:List Bal} (hl:BSd l) (hm:BSd m) (h0:∀ x ∈ l,x.Amount ≠ 0) (h1:∀ x ∈ m,x.Amount ≠ 0) (h:∀ a c,aW l a c = aW m a c):l = m:=by
 refine w9 (BSd_iff.1 hl) (BSd_iff.1 hm) (fun x => ?_)
 constructor
 ·intro k
  have:=(cL hl (h0 x k)).2 k
  rw [h] at this
  exact (cL hm (h0 x k)).1 this
 ·intro k
  have:=(cL hm (h1 x k)).2 k
  rw [← h] at this
  exact (cL hl (h1 x k)).1 this
theorem px {l:List Bal} (hs:BSd l) (a c n a' c':Int):aW (eo l a c n) a' c' = if a' = a ∧ c' = c then n else aW l a' c':=by
 have hp:=gx hs a c n
 have hmem:∀ m:Int,m ≠ 0 → ((⟨a',c',m⟩:Bal) ∈ eo l a c n ↔ (a' = a ∧ c' = c ∧ m = n) ∨ ((⟨a',c',m⟩:Bal) ∈ l ∧ ¬ (a' = a ∧ c' = c))):=by
  intro m hm
  rw [dO hs]
  have hd:=uD hs a c
  have hl2:(⟨a',c',m⟩:Bal) ∈ l ↔ (⟨a',c',m⟩:Bal) ∈ pf l (bIx l a c) ∨ (⟨a',c',m⟩:Bal) ∈ l.drop (bIx l a c).toNat:=by
   conv => lhs;rw [← List.take_append_drop (bIx l a c).toNat l]
   rw [List.mem_append]
   rfl
  have hpn:(⟨a',c',m⟩:Bal) ∈ pf l (bIx l a c) → ¬ (a' = a ∧ c' = c):=fun h => jq _ h
  simp only [List.mem_append,flt_mem,hl2,neB]
  constructor
  ·rintro ((h | h) | ⟨h,h2⟩)
   ·exact .inr ⟨.inl h,hpn h⟩
   ·split at h
    ·cases h
    ·simp only [List.mem_singleton,Bal.mk.injEq] at h
     exact .inl h
   ·exact .inr ⟨.inr h,h2⟩
  ·rintro (⟨h1,h2,h3⟩ | ⟨h | h,h2⟩)
   ·subst h1;subst h2;subst h3
    exact .inl (.inr (by rw [if_neg hm];simp))
   ·exact .inl (.inl h)
   ·exact .inr ⟨h,h2⟩
 by_cases e:aW (eo l a c n) a' c' = 0
 ·rw [e]
  split
  ·rename_i h
   by_cases hn:n = 0
   ·exact hn.symm
   ·have:=(cL hp hn).2 ((hmem n hn).2 (.inl ⟨h.1,h.2,rfl⟩))
    omega
  ·rename_i h
   by_cases hb:aW l a' c' = 0
   ·exact hb.symm
   ·have:=(cL hp hb).2 ((hmem _ hb).2 (.inr ⟨(cL hs hb).1 rfl,h⟩))
    omega
 ·have:=(hmem _ e).1 ((cL hp e).1 rfl)
  rcases this with ⟨h1,h2,h3⟩ | ⟨h1,h2⟩
  ·rw [if_pos ⟨h1,h2⟩,h3]
  ·rw [if_neg h2]
   exact ((cL hs e).2 h1).symm
theorem zZ {l:List Bal} (hs:BSd l) (h:∀ x ∈ l,x.Amount ≠ 0) (a c n:Int):∀ x ∈ eo l a c n,x.Amount ≠ 0:=by
 intro x hx
 rw [dO hs] at hx
 simp only [List.mem_append] at hx
 rcases hx with (k | k) | k
 ·exact h x (List.mem_of_mem_take k)
 ·split at k
  ·cases k
  ·rename_i hn
   simp only [List.mem_singleton] at k
   rw [k]
   exact hn
 ·exact h x (List.mem_of_mem_drop (flt_mem.1 k).1)
def toB (x:Leg):Bal:=⟨x.Account,x.Instr,x.Amount⟩
def lb (L:List Leg):List Bal:=L.map toB
def nz (x:Bal):Prop:=¬ x.Amount = 0
theorem nV (L:List Leg):(lb L).length = L.length:=by simp [lb]
theorem vc {L:List Leg} {j:Int} (h:0 ≤ j ∧ j < L.length):rd (lb L) j = toB (rd L j):=by
 rw [kz (l:=lb L) (by rw [nV];omega),kz (l:=L) (by omega)]
 simp [lb]
theorem l7 (L:List Leg) (a c:Int):bIx (lb L) a c = nIx L a c:=by
 have hn:=nZ L a c
 refine lx ⟨hn.1,by rw [nV];exact hn.2⟩ (fun j h0 h1 => ?_) (fun h => ?_)
 ·rw [vc ⟨h0,by omega⟩]
  exact uY h0 h1
 ·rw [nV] at h
  rw [vc ⟨hn.1,h⟩]
  exact xW h
noncomputable def zB (l:List Bal) (a c m:Int):List Bal:=pf l (bIx l a c) ++ [⟨a,c,m⟩] ++ flt (neB a c) (l.drop (bIx l a c).toNat)
theorem BM {l:List Bal} (hs:BSd l) (a c:Int) {m:Int} (h:m ≠ 0):zB l a c m = eo l a c m:=by rw [dO hs,if_neg h];rfl
theorem CA {l:List Bal} (hs:BSd l) (a c m:Int):BSd (zB l a c m):=by
 have h1:=gx hs a c 1
 rw [← BM hs a c (by decide)] at h1
 rw [BSd_iff] at *
 have e:(zB l a c m).map (fun x => (x.Account,x.Instr)) = (zB l a c 1).map (fun x => (x.Account,x.Instr)):=by simp [zB]
 have k:∀ t:List Bal,t.Pairwise oL ↔ (t.map (fun x => (x.Account,x.Instr))).Pairwise (fun p q => bef p.1 p.2 q.1 q.2):=fun t => by
  rw [List.pairwise_map]
  rfl
 rw [k,e,← k]
 exact h1
theorem B0 {l:List Bal} (hs:BSd l) (a c m:Int):flt nz (zB l a c m) = flt nz (eo l a c m):=by
 rw [dO hs,zB]
 by_cases h:m = 0
 ·rw [if_pos h,bK,bK,bK,bK,eR (p:=nz) (x:=(⟨a,c,m⟩:Bal)) (fun k => k h)]
  rfl
 ·rw [if_neg h]
theorem nA {l:List Bal} (hs:BSd l) (p:Bal → Prop):BSd (flt p l):=BSd_iff.2 ((BSd_iff.1 hs).sublist List.filter_sublist)
theorem lA {l:List Bal} (hs:BSd l) (a c:Int):aW (flt nz l) a c = aW l a c:=by
 have hf:=nA hs nz
 by_cases e:aW l a c = 0
 ·by_cases e2:aW (flt nz l) a c = 0
  ·rw [e,e2]
  ·have:=(cL hs e2).2 (flt_mem.1 ((cL hf e2).1 rfl)).1
   exact this.symm
 ·exact (cL hf e).2 (flt_mem.2 ⟨(cL hs e).1 rfl,e⟩)
theorem zg {l:List Bal} (hs:BSd l) (a c m:Int):flt nz (eo l a c m) = eo (flt nz l) a c m:=by
 refine wG (nA (gx hs a c m) _) (gx (nA hs _) a c m) (fun x hx => (flt_mem.1 hx).2) (zZ (nA hs _) (fun x hx => (flt_mem.1 hx).2) a c m) (fun a' c' => ?_)
 rw [lA (gx hs a c m),px hs,px (nA hs _),lA hs]
theorem x4 {l:List Bal} (hs:BSd l) {a c:Int} (h:kH l a c):flt (neB a c) (l.drop (bIx l a c).toNat) = l.drop ((bIx l a c).toNat + 1):=by
 have e1:flt (neB a c) l = pf l (bIx l a c) ++ flt (neB a c) (l.drop (bIx l a c).toNat):=by
  have e1:l = pf l (bIx l a c) ++ l.drop (bIx l a c).toNat:=(List.take_append_drop _ _).symm
  conv => lhs;rw [e1]
  rw [bK,gO jq]
 have e2:flt (neB a c) l = pf l (bIx l a c) ++ l.drop ((bIx l a c).toNat + 1):=(mR hs a c).trans (ap h)
 exact List.append_cancel_left (e1.symm.trans e2)
theorem C2 {L:List Leg} (hs:BSd (lb L)) (a c n:Int):lb (nt L ⟨a,c,n⟩) = zB (lb L) a c (aW (lb L) a c + n):=by
 have hn:=nZ L a c
 by_cases h:nIx L a c < L.length ∧ (rd L (nIx L a c)).Account = a ∧ (rd L (nIx L a c)).Instr = c
 ·rw [y7 rfl h.1 h.2.1 h.2.2]
  have hh:kH (lb L) a c:=⟨toB (rd L (nIx L a c)),List.mem_map.2 ⟨_,ax ⟨hn.1,h.1⟩,rfl⟩,h.2.1,h.2.2⟩
  have eb:aW (lb L) a c = (rd L (nIx L a c)).Amount:=by
   rw [pt hs hh,l7,vc ⟨hn.1,h.1⟩]
   rfl
  rw [zB,x4 hs hh,l7,eb]
  have h3:(nIx L a c).toNat < L.length:=by omega
  simp only [lb,upd,pf,h.2.1,h.2.2]
  rw [List.set_eq_take_append_cons_drop,if_pos h3]
  simp [toB,List.map_take,List.map_drop]
 ·rw [u9 rfl h]
  have hh:¬ kH (lb L) a c:=fun k => by
   obtain ⟨k1,k2,k3⟩:=jC hs k
   rw [l7,nV] at k1
   rw [l7,vc ⟨hn.1,k1⟩] at k2 k3
   exact h ⟨k1,k2,k3⟩
  rw [zB,gO (p:=neB a c) (l:=List.drop (bIx (lb L) a c).toNat (lb L)) (fun y hy k => hh ⟨y,List.mem_of_mem_drop hy,k⟩),l7,pv hh,Int.zero_add]
  simp [lb,ins,pf,toB,List.map_take,List.map_drop]
theorem zK {L:List Leg} (hs:BSd (lb L)) (x:Leg):BSd (lb (nt L x)) ∧ flt nz (lb (nt L x)) = qd (flt nz (lb L)) x:=by
 have e:=C2 hs x.Account x.Instr x.Amount
 rw [show nt L x = nt L ⟨x.Account,x.Instr,x.Amount⟩ from rfl,e]
 refine ⟨CA hs _ _ _,?_⟩
 rw [B0 hs,zg hs,qd,lA hs]
theorem Bc {G L:List Leg} (hs:BSd (lb L)):BSd (lb (G.foldl nt L)) ∧ flt nz (lb (G.foldl nt L)) = G.foldl qd (flt nz (lb L)):=by
 induction G generalizing L with
 | nil => exact ⟨hs,rfl⟩
 | cons x G ih =>
   obtain ⟨h1,h2⟩:=zK hs x
   obtain ⟨h3,h4⟩:=ih h1
   exact ⟨h3,by rw [List.foldl_cons,List.foldl_cons,h4,h2]⟩
end
section
open Go.RowKit
theorem nH {a c n:Int}:FC Tryz.prog 123 [.agg [.sc (.int .i64 a),.sc (.int .i64 c),.sc (.int .i64 n)]] ([]) (B (dB (¬ ak n))) ([]):=by
 refine al tk 7 [.tmp 2] Tryz.func123 (by kernel_rfl) rfl rfl rfl rfl rfl rfl rfl ?_
 repeat' (first
| apply yds;rfl
| intro _
| refine nv ?_
| apply ycp;rfl;exact cI;rfl
| fail)
 all_goals first | exact bp [] rfl rfl rfl rfl rfl rfl (by assumption) | exact aQ [] rfl rfl rfl rfl rfl rfl (fun k => k (by assumption))
theorem jg {a c n:Int}:FC Tryz.prog 125 [.agg [.sc (.int .i64 a),.sc (.int .i64 c),.sc (.int .i64 n)]] ([]) (B (dB (n = 0))) ([]):=by
 refine al tk 6 [.tmp 2] Tryz.func125 (by kernel_rfl) rfl rfl rfl rfl rfl rfl rfl ?_
 repeat' (first
| apply yds;rfl
| apply yd;rfl
| intro _
| refine nv ?_
| apply yeq;rfl
| fail)
 all_goals first | exact bp [] rfl rfl rfl rfl rfl rfl (by assumption) | exact aQ [] rfl rfl rfl rfl rfl rfl (by assumption)
theorem i8 {l:List Leg}:FC Tryz.prog 234 [.c (.row 0 0 l.length),.c (.fn 123 [])] ([ro 46 l]) (sel (∃ x ∈ l,¬ ak x.Amount) (I (fIx l (fun x => ¬ ak x.Amount))) (I (-1))) (sel (∃ x ∈ l,¬ ak x.Amount) [ro 46 l] [ro 46 l]):=by
 refine al tk 19 [.tmp 4] Tryz.func234 (by kernel_rfl) rfl rfl rfl rfl rfl rfl rfl ?_
 refine cj l 0 rfl (fun hl => ?_)
 repeat' (first
| apply yds;rfl
| apply yd;rfl
| refine nv ?_
| fail)
 refine wlp (X:=Int) [0,1,7] [0] (fun i => [(8,I i)]) (fun _ => []) (fun i => 0 ≤ i ∧ i ≤ l.length ∧ ∀ j:Int,0 ≤ j → j < i → ¬ (fun x => ¬ ak x.Amount) (rd l j)) (fun i => (l.length - i).toNat) 0 ⟨by omega,by omega,fun j h0 h1 => by omega⟩ rfl rfl (fun _ => rfl) (fun _ => rfl) ⟨rfl,rfl,rfl,rfl,rfl,rfl,rfl,rfl⟩ (fun i hi => ?_)
 obtain ⟨h0,hi,hall⟩:=hi
 skip
 repeat' (first
| apply yds;rfl
| apply yd;rfl
| apply ycp;rfl;exact nH;rfl
| intro _
| refine nv ?_
| apply wct rfl
| apply wcf rfl
| apply ae rfl
| apply ag;rfl
| apply yar;rfl;omega
| apply yix;rfl;omega
| apply yle;rfl;omega
| fail)
 all_goals first
  | (refine cy (X':=I i) (hs':=[ro 46 l]) [0] rfl rfl rfl rfl rfl rfl ?_ ?_
     ·rw [ap ⟨rd l i,ax ⟨by omega,by omega⟩,by assumption⟩,dZ ⟨by omega,by omega⟩ hall (by assumption)]
     ·rw [ap ⟨rd l i,ax ⟨by omega,by omega⟩,by assumption⟩])
  | exact bS (eS (by assumption) hall) [0] rfl rfl rfl rfl rfl rfl
  | exact aA (i + 1) [0] ⟨rfl,rfl,rfl,rfl,rfl,rfl,rfl,rfl⟩ ⟨by omega,by omega,ay hall (by assumption)⟩ (by first | omega | (dsimp only;omega))
theorem fT {l:List Leg}:FC Tryz.prog 122 [.c (.row 0 0 l.length),.c (.fn 123 [])] ([ro 46 l]) (B (dB (∃ x ∈ l,¬ ak x.Amount))) ([ro 46 l]):=by
 refine al tk 9 [.tmp 4] Tryz.func122 (by kernel_rfl) rfl rfl rfl rfl rfl rfl rfl ?_
 have hn:=bW l (fun x => ¬ ak x.Amount)
 repeat' (first
| apply yds;rfl
| apply yd;rfl
| intro _
| refine nv ?_
| apply ag;rfl
| apply zcs;(iterate 10 rfl);exact i8;exact fun _ => rfl;exact fun _ => rfl;rfl;rfl;rfl;rfl
| fail)
 all_goals first
  | exact bp [0] rfl rfl rfl rfl rfl rfl (by assumption)
  | exact aQ [0] rfl rfl rfl rfl rfl rfl (by assumption)
  | (exfalso;omega)
theorem i9 {l:List Leg}:FC Tryz.prog 234 [.c (.row 0 0 l.length),.c (.fn 125 [])] ([ro 46 l]) (sel (∃ x ∈ l,x.Amount = 0) (I (fIx l (fun x => x.Amount = 0))) (I (-1))) (sel (∃ x ∈ l,x.Amount = 0) [ro 46 l] [ro 46 l]):=by
 refine al tk 19 [.tmp 4] Tryz.func234 (by kernel_rfl) rfl rfl rfl rfl rfl rfl rfl ?_
 refine cj l 0 rfl (fun hl => ?_)
 repeat' (first
| apply yds;rfl
| apply yd;rfl
| refine nv ?_
| fail)
 refine wlp (X:=Int) [0,1,7] [0] (fun i => [(8,I i)]) (fun _ => []) (fun i => 0 ≤ i ∧ i ≤ l.length ∧ ∀ j:Int,0 ≤ j → j < i → ¬ (fun x => x.Amount = 0) (rd l j)) (fun i => (l.length - i).toNat) 0 ⟨by omega,by omega,fun j h0 h1 => by omega⟩ rfl rfl (fun _ => rfl) (fun _ => rfl) ⟨rfl,rfl,rfl,rfl,rfl,rfl,rfl,rfl⟩ (fun i hi => ?_)
 obtain ⟨h0,hi,hall⟩:=hi
 skip
 repeat' (first
| apply yds;rfl
| apply yd;rfl
| apply ycp;rfl;exact jg;rfl
| intro _
| refine nv ?_
| apply wct rfl
| apply wcf rfl
| apply ae rfl
| apply ag;rfl
| apply yar;rfl;omega
| apply yix;rfl;omega
| apply yle;rfl;omega
| fail)
 all_goals first
  | (refine cy (X':=I i) (hs':=[ro 46 l]) [0] rfl rfl rfl rfl rfl rfl ?_ ?_
     ·rw [ap ⟨rd l i,ax ⟨by omega,by omega⟩,by assumption⟩,dZ ⟨by omega,by omega⟩ hall (by assumption)]
     ·rw [ap ⟨rd l i,ax ⟨by omega,by omega⟩,by assumption⟩])
  | exact bS (eS (by assumption) hall) [0] rfl rfl rfl rfl rfl rfl
  | exact aA (i + 1) [0] ⟨rfl,rfl,rfl,rfl,rfl,rfl,rfl,rfl⟩ ⟨by omega,by omega,ay hall (by assumption)⟩ (by first | omega | (dsimp only;omega))
theorem gR {l:List Leg}  (hl:l.length ≤ 1000000):FC Tryz.prog 124 [.c (.row 0 0 l.length),.c (.fn 125 [])] ([ow 46 l]) (.c (.row 0 0 (flt (fun x => ¬ (x.Amount = 0)) l).length)) ([ow 46 (flt (fun x => ¬ (x.Amount = 0)) l)]):=by
 refine al tk 42 [.tmp 4] Tryz.func124 (by kernel_rfl) rfl rfl rfl rfl rfl rfl rfl ?_
 repeat' (first
| apply yds;rfl
| apply yd;rfl
| intro _
| refine nv ?_
| apply wct rfl
| apply wcf rfl
| apply ag;rfl
| apply yar;rfl;omega
| apply zcs;(iterate 10 rfl);exact i9;exact fun _ => rfl;exact fun _ => rfl;rfl;rfl;rfl;rfl
| fail)
 ·rename_i hex hm
  have:=bW l (fun x => x.Amount = 0)
  exfalso;omega
 ·rename_i hex hm
  have hn:=gN hex
  have hn2:=bW l (fun x => x.Amount = 0)
  repeat' (first
| apply yd;rfl
| refine nv ?_
| apply yar;rfl;omega
| fail)
  refine wlp (X:=Int × Int × List Leg) [0,1] [0] (fun x => [(5,I x.1),(6,I x.2.1)]) (fun x => [(0,ow 46 x.2.2)]) (fun x => DfI l (fun x => x.Amount = 0) x.1 x.2.1 x.2.2) (fun x => (l.length - x.2.1).toNat) (fIx l (fun x => x.Amount = 0),fIx l (fun x => x.Amount = 0) + 1,l) (DfI.init hex) rfl rfl (fun _ => rfl) (fun _ => rfl) ⟨rfl,rfl,rfl,rfl,rfl,rfl,rfl,rfl⟩ (fun x hx => ?_)
  obtain ⟨i,j,xs⟩:=x
  dsimp only at hx ⊢
  obtain ⟨h0,h1,h2⟩:=hx.bnd
  have hlen:=hx.len
  repeat' (first
| apply yds;rfl
| apply yd;rfl
| apply ycp;rfl;exact jg;rfl
| intro _
| refine nv ?_
| apply wct rfl
| apply wcf rfl
| apply ae rfl
| apply ag;rfl
| apply yar;rfl;omega
| apply yix;rfl;omega
| apply yle;rfl;omega
| apply zse;rfl;exact tk;(iterate 6 rfl);omega;rfl;rfl;rfl;rfl;rfl
| apply fh;rfl;exact tk;(iterate 8 rfl);omega;rfl;rfl
| fail)
  ·rename_i h3 h4
   exact aA (i,j + 1,xs) [0] ⟨rfl,rfl,rfl,rfl,rfl,rfl,rfl,rfl⟩ (hx.skip (by omega) h4) (by first | omega | (dsimp only;omega))
  ·rename_i h3 h4
   exact aA (i + 1,j + 1,upd xs i (rd xs j)) [0] ⟨rfl,rfl,rfl,rfl,rfl,rfl,rfl,rfl⟩ (hx.keep (by omega) h4) (by first | omega | (dsimp only;omega))
  ·refine Ai rfl tk rfl rfl rfl rfl rfl rfl rfl (by omega) rfl rfl ?_
   repeat' (first
| apply yds;rfl
| apply yd;rfl
| refine nv ?_
| apply fh;rfl;exact tk;(iterate 8 rfl);omega;rfl;rfl
| fail)
   exact cy (X':=.c (.row 0 0 (i.toNat - Int.toNat 0))) (hs':=[ow 46 (xs.take i.toNat)]) [0] rfl rfl rfl rfl rfl rfl (by rw [← hx.len2 (by assumption)];rfl) (by rw [hx.fin (by assumption)])
 ·rename_i hex hm
  exact cy (X':=.c (.row 0 0 l.length)) (hs':=[ow 46 l]) [0] rfl rfl rfl rfl rfl rfl (by rw [iA (fun x hx k => hex ⟨x,hx,k⟩)]) (by rw [iA (fun x hx k => hex ⟨x,hx,k⟩)])
 ·exfalso;omega
noncomputable def vS (bt:List Trade) (no:Int):List Leg:=bT (rd bt (tAt bt no))
noncomputable def lgs (bt:List Trade) (nos:List Int):List Leg:=(nos.map (vS bt)).flatten
theorem sP {bt:List Trade} {nos:List Int} {i:Int} (h:0 ≤ i ∧ i < nos.length):lgs bt (pf nos (i + 1)) = lgs bt (pf nos i) ++ vS bt (rd nos i):=by
 rw [ce h,lgs,List.map_append,List.flatten_append]
 simp [lgs]
noncomputable def ntA (G:List Leg):List Leg:=G.foldl nt []
theorem y6 {G t:List Leg} {k:Int} (h:0 ≤ k ∧ k < t.length):ntA (G ++ pf t (k + 1)) = nt (ntA (G ++ pf t k)) (rd t k):=by
 rw [ce h,← List.append_assoc,ntA,List.foldl_append]
 rfl
theorem Bd (L:List Leg) (x:Leg):(nt L x).length ≤ L.length + 1:=by
 unfold nt
 by_cases h:Bb L x.Account x.Instr
 ·rw [ap h,aF];omega
 ·rw [a8 h,bZ (nZ _ _ _)];omega
theorem Cb {L:List Leg} {x:Leg} {M:Int} (hM:0 ≤ M) (h:∀ y ∈ L,-M ≤ y.Amount ∧ y.Amount ≤ M) (hx:-1000000000000000 ≤ x.Amount ∧ x.Amount ≤ 1000000000000000):∀ y ∈ nt L x,-(M + 1000000000000000) ≤ y.Amount ∧ y.Amount ≤ M + 1000000000000000:=by
 intro y hy
 unfold nt at hy
 by_cases hh:Bb L x.Account x.Instr
 ·rw [ap hh] at hy
  rcases List.mem_or_eq_of_mem_set hy with h1 | h1
  ·have:=h y h1
   omega
  ·have:=h _ (ax (l:=L) ⟨(nZ L x.Account x.Instr).1,hh.1⟩)
   rw [h1]
   dsimp only
   omega
 ·rw [a8 hh] at hy
  unfold ins at hy
  rcases List.mem_append.1 hy with h1 | h1
  ·have:=h y (List.mem_of_mem_take h1)
   omega
  ·rcases List.mem_cons.1 h1 with h1 | h1
   ·rw [h1];omega
   ·have:=h y (List.mem_of_mem_drop h1)
    omega
theorem uU {bt:List Trade} (hk:kF bt) {no:Int} (h:j8 bt no):∀ y ∈ vS bt no,-1000000000000000 ≤ y.Amount ∧ y.Amount ≤ 1000000000000000:=by
 obtain ⟨h1,h2⟩:=gJ h
 obtain ⟨_,_,_,_,_,_,hq,hp,_⟩:=hk.1 _ h1 h2
 unfold inP at hq hp
 intro y hy
 simp only [vS,bT,List.mem_cons,List.not_mem_nil,or_false] at hy
 rcases hy with rfl | rfl | rfl | rfl <;> dsimp only <;> omega
def xY (bt:List Trade) (nos:List Int) (i:Int):Prop:=di bt (rd nos i) ∧ ¬ rd nos i ∈ sub nos 0 i
def dg (b:Books) (nos:List Int):Prop:=BooksOk b ∧ nos.length ≤ 30 ∧ (∀ i:Int,0 ≤ i → i < nos.length → xY b.Trades nos i) ∧ ∀ x ∈ ntA (lgs b.Trades nos),ak x.Amount
noncomputable def o4 (b:Books) (nos:List Int):List Leg:=flt (fun x => ¬ (x.Amount = 0)) (ntA (lgs b.Trades nos))
theorem kT {ba:List Account} {bi:List Instr} {bb:List Bal} {bl:List Lot} {bt:List Trade} {bn:Int} {nos:List Int}:FC Tryz.prog 25 [bkV 0 ⟨ba,bi,bb,bl,bt,bn⟩,.c (.row 5 0 nos.length)] (bkR ⟨ba,bi,bb,bl,bt,bn⟩ ++ [ro 3 nos]) (sel (dg ⟨ba,bi,bb,bl,bt,bn⟩ nos) (.tup [.c (.row 6 0 (o4 ⟨ba,bi,bb,bl,bt,bn⟩ nos).length),B true]) (.tup [.c (.row 6 0 ([]:List Leg).length),B false])) (sel (dg ⟨ba,bi,bb,bl,bt,bn⟩ nos) (bkR ⟨ba,bi,bb,bl,bt,bn⟩ ++ [ro 3 nos,ow 46 (o4 ⟨ba,bi,bb,bl,bt,bn⟩ nos)]) (bkR ⟨ba,bi,bb,bl,bt,bn⟩ ++ [ro 3 nos,ow 46 ([]:List Leg)])):=by
 refine al tk 64 [.tmp 4,.tmp 5] Tryz.func25 (by kernel_rfl) rfl rfl rfl rfl rfl rfl rfl ?_
 by_cases hok:BooksOk ⟨ba,bi,bb,bl,bt,bn⟩ ∧ nos.length ≤ 30
 rotate_left
 ·
  repeat' (first
| intro h9;exact absurd ⟨by assumption,by omega⟩ hok
| apply d5 (d:=4) 46 3;rfl;rfl;rfl
| apply yd;rfl
| intro _
| refine nv ?_
| apply wct rfl
| apply ag;rfl
| apply ycp;rfl;exact aw;rfl
| fail)
  all_goals exact bS (fun k => hok ⟨k.1,k.2.1⟩) [0,1,2,3,4,5,8] rfl rfl rfl rfl rfl rfl
 obtain ⟨hb,hnl⟩:=id hok
 have hto:=hb.trades
 dsimp only at hto
 have htl:=hto.2
 repeat' (first
| intro h9;exfalso;first | contradiction | omega
| apply yds;rfl
| apply yd;rfl
| intro _
| refine nv ?_
| apply wcf rfl
| apply ag;rfl
| apply aG (α:=Leg) (e:=46);rfl
| apply ycp;rfl;exact aw;rfl
| fail)
 refine wlp (X:=Int × List Leg) [1,2,22,23] [0,1,2,3,4,5,6,7] (fun x => [(24,I x.1),(6,.c (.row 7 0 x.2.length))]) (fun x => [(7,ow 46 x.2)]) (fun x => (0 ≤ x.1 ∧ x.1 ≤ nos.length) ∧ x.2 = ntA (lgs bt (pf nos x.1)) ∧ (∀ y ∈ x.2,-(4000000000000000 * x.1) ≤ y.Amount ∧ y.Amount ≤ 4000000000000000 * x.1) ∧ x.2.length ≤ 4 * x.1 ∧ ∀ j:Int,0 ≤ j → j < x.1 → xY bt nos j) (fun x => (nos.length - x.1).toNat) (0,[]) ⟨⟨by dsimp only;omega,by dsimp only;omega⟩,rfl,fun y hy => (by cases hy),by dsimp only [List.length_nil];omega,fun j h0 h1 => by dsimp only at h1;omega⟩ rfl rfl (fun _ => rfl) (fun _ => rfl) ⟨rfl,rfl,rfl,rfl,rfl,rfl,rfl,rfl⟩ (fun x hx => ?_)
 obtain ⟨i,L⟩:=x
 obtain ⟨h0,hL,hbd,hLl,hall⟩:=hx
 dsimp only at h0 hL hbd hLl hall ⊢
 have hoc:=pY bt (rd nos i)
 by_cases hil:i < nos.length
 rotate_left
 ·rw [aY hil] at hL
  subst hL
  repeat' (first
| intro h9;exfalso;contradiction
| apply yds;rfl
| apply yd;rfl
| apply d5 (d:=4) 46 3;rfl;rfl;rfl
| intro _
| refine nv ?_
| apply wct rfl
| apply wcf rfl
| apply ae rfl
| apply ag;rfl
| apply ycp;rfl;exact fT;rfl
| apply ycw  [true];rfl;(exact gR (by omega));rfl
| fail)
  all_goals first
   | (refine cy (X':=.tup [.c (.row 6 0 (o4 ⟨ba,bi,bb,bl,bt,bn⟩ nos).length),B true]) (hs':=bkR ⟨ba,bi,bb,bl,bt,bn⟩ ++ [ro 3 nos,ow 46 (o4 ⟨ba,bi,bb,bl,bt,bn⟩ nos)]) [0,1,2,3,4,5,7] rfl rfl rfl rfl rfl rfl ?_ ?_
      all_goals rw [ap (show dg ⟨ba,bi,bb,bl,bt,bn⟩ nos from ⟨hb,hnl,fun j q0 q1 => hall j q0 (by omega),fun x hx => Classical.byContradiction fun k => absurd (⟨x,hx,k⟩:∃ x ∈ ntA (lgs bt nos),¬ ak x.Amount) (by assumption)⟩)])
   | (have hx:∃ x ∈ ntA (lgs bt nos),¬ ak x.Amount:=by assumption
      have hn:¬ dg ⟨ba,bi,bb,bl,bt,bn⟩ nos:=fun k => by obtain ⟨x,hx,hk⟩:=hx;exact hk (k.2.2.2 x hx)
      exact bS hn [0,1,2,3,4,5,8] rfl rfl rfl rfl rfl rfl)
   | trace_state
 by_cases hop:di bt (rd nos i)
 rotate_left
 ·have hn:¬ dg ⟨ba,bi,bb,bl,bt,bn⟩ nos:=fun k => hop (k.2.2.1 i h0.1 hil).1
  repeat' (first
| intro h9;exfalso;first | contradiction | omega
| apply yds;rfl
| apply yd;rfl
| apply d5 (d:=4) 46 3;rfl;rfl;rfl
| intro _
| refine nv ?_
| apply wct rfl
| apply ag;rfl
| apply yne;rfl
| apply yix;rfl;omega
| apply yle;rfl;omega
| apply zcs;(iterate 10 rfl);exact dq;exact fun _ => rfl;exact fun _ => rfl;rfl;rfl;rfl;rfl
| fail)
  all_goals exact bS hn [0,1,2,3,4,5,8] rfl rfl rfl rfl rfl rfl
 obtain ⟨hta1,hta2⟩:=gJ hop.1
 have hlb:=uU hto hop.1
 obtain ⟨_,_,_,_,_,_,hq,hp,_⟩:=hto.1 _ hta1 hta2
 unfold inP at hq hp
 repeat' (first
| intro h9;exfalso;contradiction
| apply yds;rfl
| apply yd;rfl
| apply d5 (d:=4) 46 3;rfl;rfl;rfl
| intro _
| refine nv ?_
| apply wct rfl
| apply wcf rfl
| apply ag;rfl
| apply yne;rfl
| apply yix;rfl;omega
| apply yle;rfl;omega
| apply ysl;rfl;omega
| apply ycp;rfl;exact fi;rfl
| apply zcs;(iterate 10 rfl);exact dq;exact fun _ => rfl;exact fun _ => rfl;rfl;rfl;rfl;rfl
| apply ycf;rfl;exact ji (by omega) (by omega);rfl
| fail)
 all_goals first
  | (have hx:rd nos i ∈ sub nos 0 i:=by assumption
     have hn:¬ dg ⟨ba,bi,bb,bl,bt,bn⟩ nos:=fun k => (k.2.2.1 i h0.1 hil).2 hx
     exact bS hn [0,1,2,3,4,5,9] rfl rfl rfl rfl rfl rfl)
  | skip
 obtain ⟨T,hTT⟩:∃ T,T = bT ⟨(rd bt (tAt bt (rd nos i))).No,(rd bt (tAt bt (rd nos i))).Buyer,(rd bt (tAt bt (rd nos i))).Seller,(rd bt (tAt bt (rd nos i))).Paper,(rd bt (tAt bt (rd nos i))).Qty,(rd bt (tAt bt (rd nos i))).Cash,(rd bt (tAt bt (rd nos i))).Price,(rd bt (tAt bt (rd nos i))).State⟩:=⟨_,rfl⟩
 rw [← hTT]
 have hT:T = vS bt (rd nos i):=hTT
 have hT4:T.length = 4:=by rw [hTT];rfl
 rw [← hT] at hlb
 clear hTT hq hp
 refine wlp (X:=Int × List Leg) [1,2,22,23,24,49,50] [0,1,2,3,4,5,6,7,8,9] (fun x => [(51,I x.1),(6,.c (.row 7 0 x.2.length))]) (fun x => [(7,ow 46 x.2)]) (fun x => (0 ≤ x.1 ∧ x.1 ≤ T.length) ∧ x.2 = ntA (lgs bt (pf nos i) ++ pf T x.1) ∧ (∀ y ∈ x.2,-(4000000000000000 * i + 1000000000000000 * x.1) ≤ y.Amount ∧ y.Amount ≤ 4000000000000000 * i + 1000000000000000 * x.1) ∧ x.2.length ≤ 4 * i + x.1) (fun x => (T.length - x.1).toNat) (0,L) ⟨⟨by dsimp only;omega,by dsimp only;omega⟩,by dsimp only;rw [v8,List.append_nil,hL],fun y hy => (by dsimp only at hy ⊢;have:=hbd y hy;omega),by dsimp only;omega⟩ rfl rfl (fun _ => rfl) (fun _ => rfl) ⟨rfl,rfl,rfl,rfl,rfl,rfl,rfl,rfl⟩ (fun x hx => ?_)
 obtain ⟨k,M⟩:=x
 obtain ⟨k0,hM,hbm,hMl⟩:=hx
 dsimp only at k0 hM hbm hMl ⊢
 have hMl2:M.length ≤ 4000000:=by omega
 have hbm2:∀ y ∈ M,-4000000000000000000 ≤ y.Amount ∧ y.Amount ≤ 4000000000000000000:=fun y hy => by have:=hbm y hy;omega
 by_cases hkl:k < T.length
 ·have hr:=hlb _ (ax ⟨k0.1,hkl⟩)
  repeat' (first
| intro h9;exfalso;contradiction
| apply yds;rfl
| apply yd;rfl
| intro _
| refine nv ?_
| apply wct rfl
| apply ag;rfl
| apply yar;rfl;omega
| apply yix;rfl;omega
| apply yle;rfl;omega
| apply ycw  [true];rfl;(exact sw (by assumption) (by assumption) (by omega));rfl
| fail)
  all_goals first
   | exact aA (k + 1,nt M ⟨(rd T k).Account,(rd T k).Instr,(rd T k).Amount⟩) [0,1,2,3,4,5,6,11,8,9] ⟨rfl,rfl,rfl,rfl,rfl,rfl,rfl,rfl⟩ ⟨⟨by dsimp only;omega,by dsimp only;omega⟩,by dsimp only;rw [y6 ⟨k0.1,hkl⟩,← hM],fun y hy => (by have:=Cb (M:=4000000000000000 * i + 1000000000000000 * k) (by omega) hbm hr y hy;dsimp only;omega),by dsimp only;have:=Bd M ⟨(rd T k).Account,(rd T k).Instr,(rd T k).Amount⟩;omega⟩ (by first | omega | (dsimp only;omega))
   | trace_state
 repeat' (first
| intro h9;exfalso;contradiction
| apply yd;rfl
| intro _
| refine nv ?_
| apply wcf rfl
| apply ae rfl
| apply ag;rfl
| apply yar;rfl;omega
| fail)
 all_goals first
  | exact aA (i + 1,M) [0,1,2,3,4,5,6,7] ⟨rfl,rfl,rfl,rfl,rfl,rfl,rfl,rfl⟩ ⟨⟨by dsimp only;omega,by dsimp only;omega⟩,by dsimp only;rw [sP ⟨h0.1,hil⟩,hM,aY hkl,hT],fun y hy => (by have:=hbm y hy;dsimp only;omega),by dsimp only;omega,ay hall ⟨hop,by assumption⟩⟩ (by first | omega | (dsimp only;omega))
  | trace_state
def toL (x:Bal):Leg:=⟨x.Account,x.Instr,x.Amount⟩
theorem y0 (G:List Leg):flt nz (lb (ntA G)) = pO [] G:=(Bc (L:=[]) (G:=G) (by intro i h0 h1;rw [nV] at h1;simp only [List.length_nil] at h1;omega)).2
theorem zI (b:Books) (nos:List Int):o4 b nos = (pO [] (lgs b.Trades nos)).map toL:=by
 rw [← y0,o4]
 generalize ntA (lgs b.Trades nos) = L
 induction L with
 | nil => rfl
 | cons x L ih =>
   have e1:x :: L = [x] ++ L:=rfl
   have e2:lb (x :: L) = [toB x] ++ lb L:=rfl
   rw [e2,e1,bK,bK,List.map_append,ih]
   congr 1
   by_cases h:x.Amount = 0
   ·rw [eR (p:=fun x:Leg => ¬ (x.Amount = 0)) (fun k => k h),eR (p:=nz) (x:=toB x) (fun k => k h)]
    rfl
   ·rw [fG (p:=fun x:Leg => ¬ (x.Amount = 0)) h,fG (p:=nz) (x:=toB x) h]
    rfl
theorem xX (G:List Leg):(∀ x ∈ ntA G,ak x.Amount) ↔ ∀ x ∈ pO [] G,ak x.Amount:=by
 rw [← y0]
 constructor
 ·intro h x hx
  obtain ⟨y,hy,rfl⟩:=List.mem_map.1 (flt_mem.1 hx).1
  exact h y hy
 ·intro h x hx
  by_cases e:x.Amount = 0
  ·rw [e];unfold ak inP;omega
  ·exact h (toB x) (flt_mem.2 ⟨List.mem_map.2 ⟨x,hx,rfl⟩,e⟩)
theorem wE {l:List Bal} {M:Int} (hM:0 ≤ M) (h:∀ y ∈ l,-M ≤ y.Amount ∧ y.Amount ≤ M) (a c:Int):-M ≤ aW l a c ∧ aW l a c ≤ M:=by
 by_cases e:aW l a c = 0
 ·rw [e];omega
 ·obtain ⟨x,hx,_,_,e2⟩:=ly e
  rw [← e2]
  exact h x hx
theorem zY {l:List Bal} {M a c b n:Int} (hs:BSd l) (h:∀ y ∈ l,-M ≤ y.Amount ∧ y.Amount ≤ M) (hb:-M ≤ b ∧ b ≤ M) (hn:-1000000000000000 ≤ n ∧ n ≤ 1000000000000000):∀ y ∈ eo l a c (b + n),-(M + 1000000000000000) ≤ y.Amount ∧ y.Amount ≤ M + 1000000000000000:=by
 intro y hy
 rcases t5 hs hy with q | q
 ·have:=h y q
  omega
 ·rw [q]
  dsimp only
  omega
theorem Bf {G t:List Leg} {k:Int} (h:0 ≤ k ∧ k < t.length):pO [] (G ++ pf t (k + 1)) = qd (pO [] (G ++ pf t k)) (rd t k):=by
 rw [ce h,← List.append_assoc,pO,List.foldl_append]
 rfl
theorem ll {ba:List Account} {bi:List Instr} {bb:List Bal} {bl:List Lot} {bt:List Trade} {bn:Int} {nos:List Int}:FC Tryz.prog 46 [bkV 0 ⟨ba,bi,bb,bl,bt,bn⟩,.c (.row 5 0 nos.length)] (bkR ⟨ba,bi,bb,bl,bt,bn⟩ ++ [ro 3 nos]) (sel (dg ⟨ba,bi,bb,bl,bt,bn⟩ nos) (.tup [.c (.row 6 0 (o4 ⟨ba,bi,bb,bl,bt,bn⟩ nos).length),B true]) (.tup [.c (.row 6 0 ([]:List Leg).length),B false])) (sel (dg ⟨ba,bi,bb,bl,bt,bn⟩ nos) (bkR ⟨ba,bi,bb,bl,bt,bn⟩ ++ [ro 3 nos,ow 46 (o4 ⟨ba,bi,bb,bl,bt,bn⟩ nos)]) (bkR ⟨ba,bi,bb,bl,bt,bn⟩ ++ [ro 3 nos,ow 46 ([]:List Leg)])):=by
 refine al tk 131 [.tmp 4,.tmp 5] Tryz.func46 (by kernel_rfl) rfl rfl rfl rfl rfl rfl rfl ?_
 by_cases hok:BooksOk ⟨ba,bi,bb,bl,bt,bn⟩ ∧ nos.length ≤ 30
 rotate_left
 ·
  repeat' (first
| apply yds;rfl
| apply yd;rfl
| intro h9;exact absurd ⟨by assumption,by omega⟩ hok
| intro _
| refine nv ?_
| apply wct rfl
| apply ag;rfl
| apply aG (α:=Leg) (e:=46);rfl
| apply ycp;rfl;exact aq;rfl
| fail)
  all_goals exact bS (fun k => hok ⟨k.1,k.2.1⟩) [0,1,2,3,4,5,7] rfl rfl rfl rfl rfl rfl
 obtain ⟨hb,hnl⟩:=id hok
 have hto:=hb.trades
 dsimp only at hto
 have htl:=hto.2
 repeat' (first
| intro h9;exfalso;first | contradiction | omega
| apply yds;rfl
| apply yd;rfl
| intro _
| refine nv ?_
| apply wcf rfl
| apply ag;rfl
| apply aG (α:=Leg) (e:=46);rfl
| apply aG (α:=Bal) (e:=135);rfl
| apply ycp;rfl;exact aq;rfl
| fail)
 refine wlp (X:=Int × List Bal) [1,2,6] [0,1,2,3,4,5,6,7,8] (fun x => [(8,I x.1),(7,.c (.row 8 0 x.2.length))]) (fun x => [(8,ow 135 x.2)]) (fun x => (0 ≤ x.1 ∧ x.1 ≤ nos.length) ∧ x.2 = pO [] (lgs bt (pf nos x.1)) ∧ BSd x.2 ∧ (∀ y ∈ x.2,-(4000000000000000 * x.1) ≤ y.Amount ∧ y.Amount ≤ 4000000000000000 * x.1) ∧ x.2.length ≤ 4 * x.1 ∧ ∀ j:Int,0 ≤ j → j < x.1 → xY bt nos j) (fun x => (nos.length - x.1).toNat) (0,[]) ⟨⟨by dsimp only;omega,by dsimp only;omega⟩,rfl,(by intro i h0 h1;dsimp only [List.length_nil] at h1;omega),fun y hy => (by cases hy),by dsimp only [List.length_nil];omega,fun j h0 h1 => by dsimp only at h1;omega⟩ rfl rfl (fun _ => rfl) (fun _ => rfl) ⟨rfl,rfl,rfl,rfl,rfl,rfl,rfl,rfl⟩ (fun x hx => ?_)
 obtain ⟨i,L⟩:=x
 obtain ⟨h0,hL,hsd,hbd,hLl,hall⟩:=hx
 dsimp only at h0 hL hsd hbd hLl hall ⊢
 have hoc:=pY bt (rd nos i)
 by_cases hil:i < nos.length
 rotate_left
 ·rw [aY hil] at hL
  repeat' (first
| intro h9;exfalso;contradiction
| apply yds;rfl
| apply yd;rfl
| intro _
| refine nv ?_
| apply wcf rfl
| apply ae rfl
| apply ag;rfl
| apply aG (α:=Leg) (e:=46);rfl
| fail)
  refine wlp (X:=Int × List Leg) [6,7] [0,1,2,3,4,5,6,7,8,9] (fun x => [(14,I x.1),(13,.c (.row 9 0 x.2.length))]) (fun x => [(9,ow 46 x.2)]) (fun x => (0 ≤ x.1 ∧ x.1 ≤ L.length) ∧ x.2 = (pf L x.1).map toL ∧ ∀ j:Int,0 ≤ j → j < x.1 → ak (rd L j).Amount) (fun x => (L.length - x.1).toNat) (0,[]) ⟨⟨by dsimp only;omega,by dsimp only;omega⟩,rfl,fun j h0 h1 => by dsimp only at h1;omega⟩ rfl rfl (fun _ => rfl) (fun _ => rfl) ⟨rfl,rfl,rfl,rfl,rfl,rfl,rfl,rfl⟩ (fun x hx => ?_)
  obtain ⟨k,M⟩:=x
  obtain ⟨k0,hM,hka⟩:=hx
  dsimp only at k0 hM hka ⊢
  have hMl:M.length ≤ 200:=by rw [hM,List.length_map];have:=bU k0;omega
  repeat' (first
| apply yds;rfl
| apply yd;rfl
| intro _
| refine nv ?_
| apply wct rfl
| apply wcf rfl
| apply ae rfl
| apply ag;rfl
| apply yar;rfl;omega
| apply yix;rfl;omega
| apply yle;rfl;omega
| apply aG (α:=Leg) (e:=46);rfl
| apply yap;rfl;(((try simp only [lE,lM]);(try dsimp only);omega))
| refine zdq (id:=22) rfl (by kernel_rfl) [(.p,0),(.p,1),(.p,2),(.p,3),(.p,4),(.p,6),(.p,7),(.p,8),(.p,9),(.p,11),(.p,12),(.p,13),(.p,14),(.t,5),(.t,10),(.t,15),(.p,16),(.o,17),(.l,18),(.p,19)] [18] (by kernel_rfl) rfl ?_
| apply ycp;rfl;exact cg;rfl
| fail)
  all_goals first
   | exact aA (k + 1,M ++ [⟨(rd L k).Account,(rd L k).Instr,(rd L k).Amount⟩]) [0,1,2,3,4,5,6,7,8,11] ⟨rfl,rfl,rfl,rfl,rfl,rfl,rfl,rfl⟩ ⟨⟨by dsimp only;omega,by dsimp only;omega⟩,by dsimp only;rw [ce ⟨k0.1,by assumption⟩,List.map_append,hM];rfl,ay hka (by assumption)⟩ (by first | omega | (dsimp only;omega))
   | (rename_i hkl hna
      exact bS (fun q => hna ((xX _).1 q.2.2.2 _ (hL ▸ ax ⟨k0.1,hkl⟩))) [0,1,2,3,4,5,7] rfl rfl rfl rfl rfl rfl)
   | (rename_i hkl
      have hr:o4 ⟨ba,bi,bb,bl,bt,bn⟩ nos = M:=by rw [zI,hM,aY hkl,hL]
      refine cy (X':=.tup [.c (.row 6 0 M.length),B true]) (hs':=bkR ⟨ba,bi,bb,bl,bt,bn⟩ ++ [ro 3 nos,ow 46 M]) [0,1,2,3,4,5,9] rfl rfl rfl rfl rfl rfl ?_ ?_
      all_goals rw [ap (show dg ⟨ba,bi,bb,bl,bt,bn⟩ nos from ⟨hb,hnl,fun j q0 q1 => hall j q0 (by omega),(xX _).2 (hL ▸ all_rd.1 fun j q0 q1 => hka j q0 (by omega))⟩),hr])
   | trace_state
 by_cases hop:di bt (rd nos i)
 rotate_left
 ·have hn:¬ dg ⟨ba,bi,bb,bl,bt,bn⟩ nos:=fun k => hop (k.2.2.1 i h0.1 hil).1
  repeat' (first
| intro h9;exfalso;first | contradiction | omega
| apply yds;rfl
| apply yd;rfl
| intro _
| refine nv ?_
| apply wct rfl
| apply ag;rfl
| apply yne;rfl
| apply yix;rfl;omega
| apply yle;rfl;omega
| refine zdq (id:=8) rfl (by kernel_rfl) [(.p,1),(.p,2),(.p,3),(.t,0),(.t,4),(.o,5),(.p,6),(.p,7),(.p,8),(.p,9),(.p,10)] [] (by kernel_rfl) rfl ?_
| refine zdq (id:=9) rfl (by kernel_rfl) [(.p,0),(.p,1),(.p,2),(.p,3),(.p,4),(.p,5),(.p,6),(.p,7),(.p,8),(.t,9),(.o,10),(.p,11)] [] (by kernel_rfl) rfl ?_
| apply zcs;(iterate 10 rfl);exact dw;exact fun _ => rfl;exact fun _ => rfl;rfl;rfl;rfl;rfl
| fail)
  all_goals exact bS hn [0,1,2,3,4,5,7] rfl rfl rfl rfl rfl rfl
 obtain ⟨hta1,hta2⟩:=gJ hop.1
 have hlb:=uU hto hop.1
 obtain ⟨_,_,_,_,_,_,hq,hp,_⟩:=hto.1 _ hta1 hta2
 unfold inP at hq hp
 repeat' (first
| intro h9;exfalso;contradiction
| apply yds;rfl
| apply yd;rfl
| intro _
| refine nv ?_
| apply wct rfl
| apply wcf rfl
| apply ag;rfl
| apply yne;rfl
| apply yix;rfl;omega
| apply yle;rfl;omega
| apply ysl;rfl;omega
| refine zdq (id:=8) rfl (by kernel_rfl) [(.p,1),(.p,2),(.p,3),(.t,0),(.t,4),(.o,5),(.p,6),(.p,7),(.p,8),(.p,9),(.p,10)] [] (by kernel_rfl) rfl ?_
| refine zdq (id:=9) rfl (by kernel_rfl) [(.p,0),(.p,1),(.p,2),(.p,3),(.p,4),(.p,5),(.p,6),(.p,7),(.p,8),(.t,9),(.o,10),(.p,11)] [] (by kernel_rfl) rfl ?_
| apply ycp;rfl;exact oF;rfl
| apply zcs;(iterate 10 rfl);exact dw;exact fun _ => rfl;exact fun _ => rfl;rfl;rfl;rfl;rfl
| apply ycf;rfl;(exact gH (by omega) (by omega));rfl
| fail)
 all_goals first
  | (have hx:rd nos i ∈ sub nos 0 i:=by assumption
     have hn:¬ dg ⟨ba,bi,bb,bl,bt,bn⟩ nos:=fun k => (k.2.2.1 i h0.1 hil).2 hx
     exact bS hn [0,1,2,3,4,5,7] rfl rfl rfl rfl rfl rfl)
  | skip
 obtain ⟨T,hTT⟩:∃ T,T = bT ⟨(rd bt (tAt bt (rd nos i))).No,(rd bt (tAt bt (rd nos i))).Buyer,(rd bt (tAt bt (rd nos i))).Seller,(rd bt (tAt bt (rd nos i))).Paper,(rd bt (tAt bt (rd nos i))).Qty,(rd bt (tAt bt (rd nos i))).Cash,(rd bt (tAt bt (rd nos i))).Price,(rd bt (tAt bt (rd nos i))).State⟩:=⟨_,rfl⟩
 rw [← hTT]
 have hT:T = vS bt (rd nos i):=hTT
 have hT4:T.length = 4:=by rw [hTT];rfl
 rw [← hT] at hlb
 clear hTT hq hp
 refine wlp (X:=Int × List Bal) [1,2,6,8,11] [0,1,2,3,4,5,6,7,8,9,10] (fun x => [(12,I x.1),(7,.c (.row 8 0 x.2.length))]) (fun x => [(8,ow 135 x.2)]) (fun x => (0 ≤ x.1 ∧ x.1 ≤ T.length) ∧ x.2 = pO [] (lgs bt (pf nos i) ++ pf T x.1) ∧ BSd x.2 ∧ (∀ y ∈ x.2,-(4000000000000000 * i + 1000000000000000 * x.1) ≤ y.Amount ∧ y.Amount ≤ 4000000000000000 * i + 1000000000000000 * x.1) ∧ x.2.length ≤ 4 * i + x.1) (fun x => (T.length - x.1).toNat) (0,L) ⟨⟨by dsimp only;omega,by dsimp only;omega⟩,by dsimp only;rw [v8,List.append_nil,hL],hsd,fun y hy => (by dsimp only at hy ⊢;have:=hbd y hy;omega),by dsimp only;omega⟩ rfl rfl (fun _ => rfl) (fun _ => rfl) ⟨rfl,rfl,rfl,rfl,rfl,rfl,rfl,rfl⟩ (fun x hx => ?_)
 obtain ⟨k,M⟩:=x
 obtain ⟨k0,hM,hms,hbm,hMl⟩:=hx
 dsimp only at k0 hM hms hbm hMl ⊢
 by_cases hkl:k < T.length
 ·have hr:=hlb _ (ax ⟨k0.1,hkl⟩)
  have hbo:=wE (M:=4000000000000000 * i + 1000000000000000 * k) (by omega) hbm (rd T k).Account (rd T k).Instr
  repeat' (first
| intro h9;exfalso;contradiction
| apply yds;rfl
| apply yd;rfl
| intro _
| refine nv ?_
| apply wct rfl
| apply ag;rfl
| apply yar;rfl;omega
| apply yix;rfl;omega
| apply yle;rfl;omega
| refine zdq (id:=15) rfl (by kernel_rfl) [(.p,0),(.p,1),(.p,2),(.p,3),(.p,4),(.p,6),(.p,7),(.p,8),(.p,9),(.p,11),(.p,12),(.p,13),(.p,14),(.p,15),(.p,17),(.p,18),(.p,19),(.p,20),(.p,23),(.p,24),(.p,25),(.p,26),(.t,5),(.t,10),(.t,16),(.t,21),(.t,27),(.o,22),(.p,28),(.o,29),(.p,30)] [] (by kernel_rfl) rfl ?_
| apply ycf;rfl;(exact oG (by assumption) (by omega));rfl
| apply yc;rfl;exact ik;rfl;exact fun _ => rfl
| fail)
  all_goals first
   | exact aA (k + 1,eo M (rd T k).Account (rd T k).Instr (aW M (rd T k).Account (rd T k).Instr + (rd T k).Amount)) [0,1,2,3,4,5,6,7,11,9,10] ⟨rfl,rfl,rfl,rfl,rfl,rfl,rfl,rfl⟩ ⟨⟨by dsimp only;omega,by dsimp only;omega⟩,by dsimp only;rw [Bf ⟨k0.1,hkl⟩,← hM];rfl,gx hms _ _ _,fun y hy => (by dsimp only at hy ⊢;have:=zY hms hbm hbo hr y hy;omega),by dsimp only;have:=oc hms (rd T k).Account (rd T k).Instr (aW M (rd T k).Account (rd T k).Instr + (rd T k).Amount);omega⟩ (by first | omega | (dsimp only;omega))
   | trace_state
 repeat' (first
| intro h9;exfalso;contradiction
| apply yds;rfl
| apply yd;rfl
| intro _
| refine nv ?_
| apply wcf rfl
| apply ae rfl
| apply ag;rfl
| apply yar;rfl;omega
| fail)
 all_goals first
  | exact aA (i + 1,M) [0,1,2,3,4,5,6,7,8] ⟨rfl,rfl,rfl,rfl,rfl,rfl,rfl,rfl⟩ ⟨⟨by dsimp only;omega,by dsimp only;omega⟩,by dsimp only;rw [sP ⟨h0.1,hil⟩,hM,aY hkl,hT],hms,fun y hy => (by have:=hbm y hy;dsimp only;omega),by dsimp only;omega,ay hall ⟨hop,by assumption⟩⟩ (by first | omega | (dsimp only;omega))
  | trace_state
end
end Go.Proofs.YtgehbhkfehmdkaaGreat.Sh
