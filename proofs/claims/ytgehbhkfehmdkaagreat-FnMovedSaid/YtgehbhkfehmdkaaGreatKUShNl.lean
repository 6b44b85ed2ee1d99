/- Netted legs are just what balances they post. No condition. -/
import Derived.Test.YtgehbhkfehmdkaaGreatKUShNt
import Derived.Test.YtgehbhkfehmdkaaGreatKUShV
set_option maxRecDepth 100000
set_option maxHeartbeats 40000000
set_option linter.unusedSimpArgs false
set_option linter.unusedVariables false
namespace Go.Proofs.YtgehbhkfehmdkaaGreat.Sh
section
open Go.RowKit
theorem cd {l:List Bal} (hs:BSd l) {a c n:Int} (hn:n ≠ 0):aL l a c = n ↔ (⟨a,c,n⟩:Bal) ∈ l:=by
 constructor
 ·intro h
  obtain ⟨x,hx,h1,h2,h3⟩:=mX (l:=l) (a:=a) (c:=c) (by omega)
  have:x = ⟨a,c,n⟩:=by
   cases x
   simp only at h1 h2 h3
   subst h1;subst h2;rw [h3,h]
  rw [← this]
  exact hx
 ·intro h
  obtain ⟨i,hi,e⟩:=bw h
  have:=mb (l:=l) (a:=a) (c:=c) (i:=i) hi (fun j h0 h1 k => by
   have:=hs.lt h0 h1 hi.2
   rw [e,k.1,k.2] at this
   dsimp only at this
   unfold bef at this
   omega) (by rw [e];exact ⟨rfl,rfl⟩)
  rw [this,e]
theorem wY {l m:List Bal} (hl:l.Pairwise oO) (hm:m.Pairwise oO) (h:∀ x,x ∈ l ↔ x ∈ m):l = m:=by
 induction l generalizing m with
 | nil =>
   cases m with
   | nil => rfl
   | cons y m => exact absurd ((h y).2 (by simp)) (by simp)
 | cons x l ih =>
   cases m with
   | nil => exact absurd ((h x).1 (by simp)) (by simp)
   | cons y m =>
     rw [List.pairwise_cons] at hl hm
     have e:x = y:=by
      have h1:=(h x).1 (by simp)
      have h2:=(h y).2 (by simp)
      rcases List.mem_cons.1 h1 with h1 | h1
      ·exact h1
      ·rcases List.mem_cons.1 h2 with h2 | h2
       ·exact h2.symm
       ·have a:=hm.1 x h1
        have b:=hl.1 y h2
        unfold oO bef at a b
        omega
     subst e
     rw [ih hl.2 hm.2 (fun z => ?_)]
     have hz:=h z
     simp only [List.mem_cons] at hz
     constructor
     ·intro k
      rcases hz.1 (.inr k) with rfl | q
      ·have:=hl.1 z k
       unfold oO bef at this
       omega
      ·exact q
     ·intro k
      rcases hz.2 (.inr k) with rfl | q
      ·have:=hm.1 z k
       unfold oO bef at this
       omega
      ·exact q
theorem xm {l m:List Bal} (hl:BSd l) (hm:BSd m) (h0:∀ x ∈ l,x.Amount ≠ 0) (h1:∀ x ∈ m,x.Amount ≠ 0) (h:∀ a c,aL l a c = aL m a c):l = m:=by
 refine wY (BSd_iff.1 hl) (BSd_iff.1 hm) (fun x => ?_)
 constructor
 ·intro k
  have:=(cd hl (h0 x k)).2 k
  rw [h] at this
  exact (cd hm (h0 x k)).1 this
 ·intro k
  have:=(cd hm (h1 x k)).2 k
  rw [← h] at this
  exact (cd hl (h1 x k)).1 this
theorem kP {l:List Bal} (hs:BSd l) (a c n a' c':Int):aL (dL l a c n) a' c' = if a' = a ∧ c' = c then n else aL l a' c':=by
 have hp:=ff hs a c n
 have hmem:∀ m:Int,m ≠ 0 → ((⟨a',c',m⟩:Bal) ∈ dL l a c n ↔ (a' = a ∧ c' = c ∧ m = n) ∨ ((⟨a',c',m⟩:Bal) ∈ l ∧ ¬ (a' = a ∧ c' = c))):=by
  intro m hm
  rw [dA hs]
  have hd:=vi hs a c
  have hl2:(⟨a',c',m⟩:Bal) ∈ l ↔ (⟨a',c',m⟩:Bal) ∈ pf l (bIx l a c) ∨ (⟨a',c',m⟩:Bal) ∈ l.drop (bIx l a c).toNat:=by
   conv => lhs;rw [← List.take_append_drop (bIx l a c).toNat l]
   rw [List.mem_append]
   rfl
  have hpn:(⟨a',c',m⟩:Bal) ∈ pf l (bIx l a c) → ¬ (a' = a ∧ c' = c):=fun h => ky _ h
  simp only [List.mem_append,flt_mem,hl2,neB]
  constructor
  ·rintro ((h | h) | ⟨h,h2⟩)
   ·exact .inr ⟨.inl h,hpn h⟩
   ·split at h
    ·cases h
    ·simp only [List.mem_singleton,Bal.mk.injEq] at h
     exact .inl h
   ·exact .inr ⟨.inr h,h2⟩
  ·rintro (⟨h1,h2,h3⟩ | ⟨h | h,h2⟩)
   ·subst h1;subst h2;subst h3
    exact .inl (.inr (by rw [if_neg hm];simp))
   ·exact .inl (.inl h)
   ·exact .inr ⟨h,h2⟩
 by_cases e:aL (dL l a c n) a' c' = 0
 ·rw [e]
  split
  ·rename_i h
   by_cases hn:n = 0
   ·exact hn.symm
   ·have:=(cd hp hn).2 ((hmem n hn).2 (.inl ⟨h.1,h.2,rfl⟩))
    omega
  ·rename_i h
   by_cases hb:aL l a' c' = 0
   ·exact hb.symm
   ·have:=(cd hp hb).2 ((hmem _ hb).2 (.inr ⟨(cd hs hb).1 rfl,h⟩))
    omega
 ·have:=(hmem _ e).1 ((cd hp e).1 rfl)
  rcases this with ⟨h1,h2,h3⟩ | ⟨h1,h2⟩
  ·rw [if_pos ⟨h1,h2⟩,h3]
  ·rw [if_neg h2]
   exact ((cd hs e).2 h1).symm
theorem vQ {l:List Bal} (hs:BSd l) (h:∀ x ∈ l,x.Amount ≠ 0) (a c n:Int):∀ x ∈ dL l a c n,x.Amount ≠ 0:=by
 intro x hx
 rw [dA hs] at hx
 simp only [List.mem_append] at hx
 rcases hx with (k | k) | k
 ·exact h x (List.mem_of_mem_take k)
 ·split at k
  ·cases k
  ·rename_i hn
   simp only [List.mem_singleton] at k
   rw [k]
   exact hn
 ·exact h x (List.mem_of_mem_drop (flt_mem.1 k).1)
def toB (x:Leg):Bal:=⟨x.Account,x.Instr,x.Amount⟩
def lb (L:List Leg):List Bal:=L.map toB
def nz (x:Bal):Prop:=¬ x.Amount = 0
theorem pj (L:List Leg):(lb L).length = L.length:=by simp [lb]
theorem vS {L:List Leg} {j:Int} (h:0 ≤ j ∧ j < L.length):rd (lb L) j = toB (rd L j):=by
 rw [lU (l:=lb L) (by rw [pj];omega),lU (l:=L) (by omega)]
 simp [lb]
theorem mu (L:List Leg) (a c:Int):bIx (lb L) a c = nIx L a c:=by
 have hn:=ym L a c
 refine mW ⟨hn.1,by rw [pj];exact hn.2⟩ (fun j h0 h1 => ?_) (fun h => ?_)
 ·rw [vS ⟨h0,by omega⟩]
  exact A4 h0 h1
 ·rw [pj] at h
  rw [vS ⟨hn.1,h⟩]
  exact BD h
noncomputable def zB (l:List Bal) (a c m:Int):List Bal:=pf l (bIx l a c) ++ [⟨a,c,m⟩] ++ flt (neB a c) (l.drop (bIx l a c).toNat)
theorem Ch {l:List Bal} (hs:BSd l) (a c:Int) {m:Int} (h:m ≠ 0):zB l a c m = dL l a c m:=by rw [dA hs,if_neg h];rfl
theorem CX {l:List Bal} (hs:BSd l) (a c m:Int):BSd (zB l a c m):=by
 have h1:=ff hs a c 1
 rw [← Ch hs a c (by decide)] at h1
 rw [BSd_iff] at *
 have e:(zB l a c m).map (fun x => (x.Account,x.Instr)) = (zB l a c 1).map (fun x => (x.Account,x.Instr)):=by simp [zB]
 have k:∀ t:List Bal,t.Pairwise oO ↔ (t.map (fun x => (x.Account,x.Instr))).Pairwise (fun p q => bef p.1 p.2 q.1 q.2):=fun t => by
  rw [List.pairwise_map]
  rfl
 rw [k,e,← k]
 exact h1
theorem Bx {l:List Bal} (hs:BSd l) (a c m:Int):flt nz (zB l a c m) = flt nz (dL l a c m):=by
 rw [dA hs,zB]
 by_cases h:m = 0
 ·rw [if_pos h,aV,aV,aV,aV,dm (p:=nz) (x:=(⟨a,c,m⟩:Bal)) (fun k => k h)]
  rfl
 ·rw [if_neg h]
theorem oV {l:List Bal} (hs:BSd l) (p:Bal → Prop):BSd (flt p l):=BSd_iff.2 ((BSd_iff.1 hs).sublist List.filter_sublist)
theorem mY {l:List Bal} (hs:BSd l) (a c:Int):aL (flt nz l) a c = aL l a c:=by
 have hf:=oV hs nz
 by_cases e:aL l a c = 0
 ·by_cases e2:aL (flt nz l) a c = 0
  ·rw [e,e2]
  ·have:=(cd hs e2).2 (flt_mem.1 ((cd hf e2).1 rfl)).1
   exact this.symm
 ·exact (cd hf e).2 (flt_mem.2 ⟨(cd hs e).1 rfl,e⟩)
theorem zN {l:List Bal} (hs:BSd l) (a c m:Int):flt nz (dL l a c m) = dL (flt nz l) a c m:=by
 refine xm (oV (ff hs a c m) _) (ff (oV hs _) a c m) (fun x hx => (flt_mem.1 hx).2) (vQ (oV hs _) (fun x hx => (flt_mem.1 hx).2) a c m) (fun a' c' => ?_)
 rw [mY (ff hs a c m),kP hs,kP (oV hs _),mY hs]
theorem xI {l:List Bal} (hs:BSd l) {a c:Int} (h:lB l a c):flt (neB a c) (l.drop (bIx l a c).toNat) = l.drop ((bIx l a c).toNat + 1):=by
 have e1:flt (neB a c) l = pf l (bIx l a c) ++ flt (neB a c) (l.drop (bIx l a c).toNat):=by
  have e1:l = pf l (bIx l a c) ++ l.drop (bIx l a c).toNat:=(List.take_append_drop _ _).symm
  conv => lhs;rw [e1]
  rw [aV,gU ky]
 have e2:flt (neB a c) l = pf l (bIx l a c) ++ l.drop ((bIx l a c).toNat + 1):=(oh hs a c).trans (au h)
 exact List.append_cancel_left (e1.symm.trans e2)
theorem Cz {L:List Leg} (hs:BSd (lb L)) (a c n:Int):lb (nt L ⟨a,c,n⟩) = zB (lb L) a c (aL (lb L) a c + n):=by
 have hn:=ym L a c
 by_cases h:nIx L a c < L.length ∧ (rd L (nIx L a c)).Account = a ∧ (rd L (nIx L a c)).Instr = c
 ·rw [BH rfl h.1 h.2.1 h.2.2]
  have hh:lB (lb L) a c:=⟨toB (rd L (nIx L a c)),List.mem_map.2 ⟨_,aA ⟨hn.1,h.1⟩,rfl⟩,h.2.1,h.2.2⟩
  have eb:aL (lb L) a c = (rd L (nIx L a c)).Amount:=by
   rw [qv hs hh,mu,vS ⟨hn.1,h.1⟩]
   rfl
  rw [zB,xI hs hh,mu,eb]
  have h3:(nIx L a c).toNat < L.length:=by omega
  simp only [lb,upd,pf,h.2.1,h.2.2]
  rw [List.set_eq_take_append_cons_drop,if_pos h3]
  simp [toB,List.map_take,List.map_drop]
 ·rw [BG rfl h]
  have hh:¬ lB (lb L) a c:=fun k => by
   obtain ⟨k1,k2,k3⟩:=kO hs k
   rw [mu,pj] at k1
   rw [mu,vS ⟨hn.1,k1⟩] at k2 k3
   exact h ⟨k1,k2,k3⟩
  rw [zB,gU (p:=neB a c) (l:=List.drop (bIx (lb L) a c).toNat (lb L)) (fun y hy k => hh ⟨y,List.mem_of_mem_drop hy,k⟩),mu,mZ hh,Int.zero_add]
  simp [lb,ins,pf,toB,List.map_take,List.map_drop]
theorem A8 {L:List Leg} (hs:BSd (lb L)) (x:Leg):BSd (lb (nt L x)) ∧ flt nz (lb (nt L x)) = lw (flt nz (lb L)) x:=by
 have e:=Cz hs x.Account x.Instr x.Amount
 rw [show nt L x = nt L ⟨x.Account,x.Instr,x.Amount⟩ from rfl,e]
 refine ⟨CX hs _ _ _,?_⟩
 rw [Bx hs,zN hs,lw,mY hs]
theorem BF {G L:List Leg} (hs:BSd (lb L)):BSd (lb (G.foldl nt L)) ∧ flt nz (lb (G.foldl nt L)) = G.foldl lw (flt nz (lb L)):=by
 induction G generalizing L with
 | nil => exact ⟨hs,rfl⟩
 | cons x G ih =>
   obtain ⟨h1,h2⟩:=A8 hs x
   obtain ⟨h3,h4⟩:=ih h1
   exact ⟨h3,by rw [List.foldl_cons,List.foldl_cons,h4,h2]⟩
end
section
open Go.RowKit
noncomputable def y8 (bt:List Trade) (no:Int):List Leg:=bE (rd bt (tAt bt no))
noncomputable def lgs (bt:List Trade) (nos:List Int):List Leg:=(nos.map (y8 bt)).flatten
theorem y9 {bt:List Trade} {nos:List Int} {i:Int} (h:0 ≤ i ∧ i < nos.length):lgs bt (pf nos (i + 1)) = lgs bt (pf nos i) ++ y8 bt (rd nos i):=by
 rw [cg h,lgs,List.map_append,List.flatten_append]
 simp [lgs]
noncomputable def ntA (G:List Leg):List Leg:=G.foldl nt []
theorem zV {bt:List Trade} (hk:dS bt) {no:Int} (h:d8 bt no):∀ y ∈ y8 bt no,-1000000000000000 ≤ y.Amount ∧ y.Amount ≤ 1000000000000000:=by
 obtain ⟨h1,h2⟩:=jw h
 obtain ⟨_,_,_,_,_,_,hq,hp,_⟩:=hk.1 _ h1 h2
 unfold inP at hq hp
 intro y hy
 simp only [y8,bE,List.mem_cons,List.not_mem_nil,or_false] at hy
 rcases hy with rfl | rfl | rfl | rfl <;> dsimp only <;> omega
def AN (bt:List Trade) (nos:List Int) (i:Int):Prop:=d9 bt (rd nos i) ∧ ¬ rd nos i ∈ sub nos 0 i
def iQ (b:Books) (nos:List Int):Prop:=BooksOk b ∧ nos.length ≤ 30 ∧ (∀ i:Int,0 ≤ i → i < nos.length → AN b.Trades nos i) ∧ ∀ x ∈ ntA (lgs b.Trades nos),aq x.Amount
noncomputable def uE (b:Books) (nos:List Int):List Leg:=flt (fun x => ¬ (x.Amount = 0)) (ntA (lgs b.Trades nos))
def toL (x:Bal):Leg:=⟨x.Account,x.Instr,x.Amount⟩
theorem yr (G:List Leg):flt nz (lb (ntA G)) = pO [] G:=(BF (L:=[]) (G:=G) (by intro i h0 h1;rw [pj] at h1;simp only [List.length_nil] at h1;omega)).2
theorem A5 (b:Books) (nos:List Int):uE b nos = (pO [] (lgs b.Trades nos)).map toL:=by
 rw [← yr,uE]
 generalize ntA (lgs b.Trades nos) = L
 induction L with
 | nil => rfl
 | cons x L ih =>
   have e1:x :: L = [x] ++ L:=rfl
   have e2:lb (x :: L) = [toB x] ++ lb L:=rfl
   rw [e2,e1,aV,aV,List.map_append,ih]
   congr 1
   by_cases h:x.Amount = 0
   ·rw [dm (p:=fun x:Leg => ¬ (x.Amount = 0)) (fun k => k h),dm (p:=nz) (x:=toB x) (fun k => k h)]
    rfl
   ·rw [dN (p:=fun x:Leg => ¬ (x.Amount = 0)) h,dN (p:=nz) (x:=toB x) h]
    rfl
theorem yn (G:List Leg):(∀ x ∈ ntA G,aq x.Amount) ↔ ∀ x ∈ pO [] G,aq x.Amount:=by
 rw [← yr]
 constructor
 ·intro h x hx
  obtain ⟨y,hy,rfl⟩:=List.mem_map.1 (flt_mem.1 hx).1
  exact h y hy
 ·intro h x hx
  by_cases e:x.Amount = 0
  ·rw [e];unfold aq inP;omega
  ·exact h (toB x) (flt_mem.2 ⟨List.mem_map.2 ⟨x,hx,rfl⟩,e⟩)
theorem xk {l:List Bal} {M:Int} (hM:0 ≤ M) (h:∀ y ∈ l,-M ≤ y.Amount ∧ y.Amount ≤ M) (a c:Int):-M ≤ aL l a c ∧ aL l a c ≤ M:=by
 by_cases e:aL l a c = 0
 ·rw [e];omega
 ·obtain ⟨x,hx,_,_,e2⟩:=mX e
  rw [← e2]
  exact h x hx
theorem Ak {l:List Bal} {M a c b n:Int} (hs:BSd l) (h:∀ y ∈ l,-M ≤ y.Amount ∧ y.Amount ≤ M) (hb:-M ≤ b ∧ b ≤ M) (hn:-1000000000000000 ≤ n ∧ n ≤ 1000000000000000):∀ y ∈ dL l a c (b + n),-(M + 1000000000000000) ≤ y.Amount ∧ y.Amount ≤ M + 1000000000000000:=by
 intro y hy
 rcases pz hs hy with q | q
 ·have:=h y q
  omega
 ·rw [q]
  dsimp only
  omega
theorem BL {G t:List Leg} {k:Int} (h:0 ≤ k ∧ k < t.length):pO [] (G ++ pf t (k + 1)) = lw (pO [] (G ++ pf t k)) (rd t k):=by
 rw [cg h,← List.append_assoc,pO,List.foldl_append]
 rfl
theorem mI {ba:List Account} {bi:List Instr} {bb:List Bal} {bl:List Lot} {bt:List Trade} {bn:Int} {nos:List Int}:FC Tryz.prog 46 [bkV 0 ⟨ba,bi,bb,bl,bt,bn⟩,.c (.row 5 0 nos.length)] (bkR ⟨ba,bi,bb,bl,bt,bn⟩ ++ [ro 3 nos]) (sel (iQ ⟨ba,bi,bb,bl,bt,bn⟩ nos) (.tup [.c (.row 6 0 (uE ⟨ba,bi,bb,bl,bt,bn⟩ nos).length),B true]) (.tup [.c (.row 6 0 ([]:List Leg).length),B false])) (sel (iQ ⟨ba,bi,bb,bl,bt,bn⟩ nos) (bkR ⟨ba,bi,bb,bl,bt,bn⟩ ++ [ro 3 nos,ow 46 (uE ⟨ba,bi,bb,bl,bt,bn⟩ nos)]) (bkR ⟨ba,bi,bb,bl,bt,bn⟩ ++ [ro 3 nos,ow 46 ([]:List Leg)])):=by
 refine ax tk 131 [.tmp 4,.tmp 5] Tryz.func46 (by kernel_rfl) rfl rfl rfl rfl rfl rfl rfl ?_
 by_cases hok:BooksOk ⟨ba,bi,bb,bl,bt,bn⟩ ∧ nos.length ≤ 30
 rotate_left
 ·
  repeat' (first
| apply yds;rfl
| apply yd;rfl
| intro h9;exact absurd ⟨by assumption,by omega⟩ hok
| intro _
| refine nv ?_
| apply wct rfl
| apply ai;rfl
| apply aH (α:=Leg) (e:=46);rfl
| apply ycp;rfl;exact ap;rfl
| fail)
  all_goals exact bQ (fun k => hok ⟨k.1,k.2.1⟩) [0,1,2,3,4,5,7] rfl rfl rfl rfl rfl rfl
 obtain ⟨hb,hnl⟩:=id hok
 have hto:=hb.trades
 dsimp only at hto
 have htl:=hto.2
 repeat' (first
| intro h9;exfalso;first | contradiction | omega
| apply yds;rfl
| apply yd;rfl
| intro _
| refine nv ?_
| apply wcf rfl
| apply ai;rfl
| apply aH (α:=Leg) (e:=46);rfl
| apply aH (α:=Bal) (e:=135);rfl
| apply ycp;rfl;exact ap;rfl
| fail)
 refine wlp (X:=Int × List Bal) [1,2,6] [0,1,2,3,4,5,6,7,8] (fun x => [(8,I x.1),(7,.c (.row 8 0 x.2.length))]) (fun x => [(8,ow 135 x.2)]) (fun x => (0 ≤ x.1 ∧ x.1 ≤ nos.length) ∧ x.2 = pO [] (lgs bt (pf nos x.1)) ∧ BSd x.2 ∧ (∀ y ∈ x.2,-(4000000000000000 * x.1) ≤ y.Amount ∧ y.Amount ≤ 4000000000000000 * x.1) ∧ x.2.length ≤ 4 * x.1 ∧ ∀ j:Int,0 ≤ j → j < x.1 → AN bt nos j) (fun x => (nos.length - x.1).toNat) (0,[]) ⟨⟨by dsimp only;omega,by dsimp only;omega⟩,rfl,(by intro i h0 h1;dsimp only [List.length_nil] at h1;omega),fun y hy => (by cases hy),by dsimp only [List.length_nil];omega,fun j h0 h1 => by dsimp only at h1;omega⟩ rfl rfl (fun _ => rfl) (fun _ => rfl) ⟨rfl,rfl,rfl,rfl,rfl,rfl,rfl,rfl⟩ (fun x hx => ?_)
 obtain ⟨i,L⟩:=x
 obtain ⟨h0,hL,hsd,hbd,hLl,hall⟩:=hx
 dsimp only at h0 hL hsd hbd hLl hall ⊢
 have hoc:=qL bt (rd nos i)
 by_cases hil:i < nos.length
 rotate_left
 ·rw [b6 hil] at hL
  repeat' (first
| intro h9;exfalso;contradiction
| apply yds;rfl
| apply yd;rfl
| intro _
| refine nv ?_
| apply wcf rfl
| apply ah rfl
| apply ai;rfl
| apply aH (α:=Leg) (e:=46);rfl
| fail)
  refine wlp (X:=Int × List Leg) [6,7] [0,1,2,3,4,5,6,7,8,9] (fun x => [(14,I x.1),(13,.c (.row 9 0 x.2.length))]) (fun x => [(9,ow 46 x.2)]) (fun x => (0 ≤ x.1 ∧ x.1 ≤ L.length) ∧ x.2 = (pf L x.1).map toL ∧ ∀ j:Int,0 ≤ j → j < x.1 → aq (rd L j).Amount) (fun x => (L.length - x.1).toNat) (0,[]) ⟨⟨by dsimp only;omega,by dsimp only;omega⟩,rfl,fun j h0 h1 => by dsimp only at h1;omega⟩ rfl rfl (fun _ => rfl) (fun _ => rfl) ⟨rfl,rfl,rfl,rfl,rfl,rfl,rfl,rfl⟩ (fun x hx => ?_)
  obtain ⟨k,M⟩:=x
  obtain ⟨k0,hM,hka⟩:=hx
  dsimp only at k0 hM hka ⊢
  have hMl:M.length ≤ 200:=by rw [hM,List.length_map];have:=bS k0;omega
  repeat' (first
| apply yds;rfl
| apply yd;rfl
| intro _
| refine nv ?_
| apply wct rfl
| apply wcf rfl
| apply ah rfl
| apply ai;rfl
| apply yar;rfl;omega
| apply yix;rfl;omega
| apply yle;rfl;omega
| apply aH (α:=Leg) (e:=46);rfl
| apply yap;rfl;(((try simp only [lE,lM]);(try dsimp only);omega))
| refine zdq (id:=22) rfl (by kernel_rfl) [(.p,0),(.p,1),(.p,2),(.p,3),(.p,4),(.p,6),(.p,7),(.p,8),(.p,9),(.p,11),(.p,12),(.p,13),(.p,14),(.t,5),(.t,10),(.t,15),(.p,16),(.o,17),(.l,18),(.p,19)] [18] (by kernel_rfl) rfl ?_
| apply ycp;rfl;exact bL;rfl
| fail)
  all_goals first
   | exact aB (k + 1,M ++ [⟨(rd L k).Account,(rd L k).Instr,(rd L k).Amount⟩]) [0,1,2,3,4,5,6,7,8,11] ⟨rfl,rfl,rfl,rfl,rfl,rfl,rfl,rfl⟩ ⟨⟨by dsimp only;omega,by dsimp only;omega⟩,by dsimp only;rw [cg ⟨k0.1,by assumption⟩,List.map_append,hM];rfl,aD hka (by assumption)⟩ (by first | omega | (dsimp only;omega))
   | (rename_i hkl hna
      exact bQ (fun q => hna ((yn _).1 q.2.2.2 _ (hL ▸ aA ⟨k0.1,hkl⟩))) [0,1,2,3,4,5,7] rfl rfl rfl rfl rfl rfl)
   | (rename_i hkl
      have hr:uE ⟨ba,bi,bb,bl,bt,bn⟩ nos = M:=by rw [A5,hM,b6 hkl,hL]
      refine dP (X':=.tup [.c (.row 6 0 M.length),B true]) (hs':=bkR ⟨ba,bi,bb,bl,bt,bn⟩ ++ [ro 3 nos,ow 46 M]) [0,1,2,3,4,5,9] rfl rfl rfl rfl rfl rfl ?_ ?_
      all_goals rw [au (show iQ ⟨ba,bi,bb,bl,bt,bn⟩ nos from ⟨hb,hnl,fun j q0 q1 => hall j q0 (by omega),(yn _).2 (hL ▸ all_rd.1 fun j q0 q1 => hka j q0 (by omega))⟩),hr])
   | trace_state
 by_cases hop:d9 bt (rd nos i)
 rotate_left
 ·have hn:¬ iQ ⟨ba,bi,bb,bl,bt,bn⟩ nos:=fun k => hop (k.2.2.1 i h0.1 hil).1
  repeat' (first
| intro h9;exfalso;first | contradiction | omega
| apply yds;rfl
| apply yd;rfl
| intro _
| refine nv ?_
| apply wct rfl
| apply ai;rfl
| apply yne;rfl
| apply yix;rfl;omega
| apply yle;rfl;omega
| refine zdq (id:=8) rfl (by kernel_rfl) [(.p,1),(.p,2),(.p,3),(.t,0),(.t,4),(.o,5),(.p,6),(.p,7),(.p,8),(.p,9),(.p,10)] [] (by kernel_rfl) rfl ?_
| refine zdq (id:=9) rfl (by kernel_rfl) [(.p,0),(.p,1),(.p,2),(.p,3),(.p,4),(.p,5),(.p,6),(.p,7),(.p,8),(.t,9),(.o,10),(.p,11)] [] (by kernel_rfl) rfl ?_
| apply zcs;(iterate 10 rfl);exact dF;exact fun _ => rfl;exact fun _ => rfl;rfl;rfl;rfl;rfl
| fail)
  all_goals exact bQ hn [0,1,2,3,4,5,7] rfl rfl rfl rfl rfl rfl
 obtain ⟨hta1,hta2⟩:=jw hop.1
 have hlb:=zV hto hop.1
 obtain ⟨_,_,_,_,_,_,hq,hp,_⟩:=hto.1 _ hta1 hta2
 unfold inP at hq hp
 repeat' (first
| intro h9;exfalso;contradiction
| apply yds;rfl
| apply yd;rfl
| intro _
| refine nv ?_
| apply wct rfl
| apply wcf rfl
| apply ai;rfl
| apply yne;rfl
| apply yix;rfl;omega
| apply yle;rfl;omega
| apply ysl;rfl;omega
| refine zdq (id:=8) rfl (by kernel_rfl) [(.p,1),(.p,2),(.p,3),(.t,0),(.t,4),(.o,5),(.p,6),(.p,7),(.p,8),(.p,9),(.p,10)] [] (by kernel_rfl) rfl ?_
| refine zdq (id:=9) rfl (by kernel_rfl) [(.p,0),(.p,1),(.p,2),(.p,3),(.p,4),(.p,5),(.p,6),(.p,7),(.p,8),(.t,9),(.o,10),(.p,11)] [] (by kernel_rfl) rfl ?_
| apply ycp;rfl;exact pI;rfl
| apply zcs;(iterate 10 rfl);exact dF;exact fun _ => rfl;exact fun _ => rfl;rfl;rfl;rfl;rfl
| apply ycf;rfl;(exact iG (by omega) (by omega));rfl
| fail)
 all_goals first
  | (have hx:rd nos i ∈ sub nos 0 i:=by assumption
     have hn:¬ iQ ⟨ba,bi,bb,bl,bt,bn⟩ nos:=fun k => (k.2.2.1 i h0.1 hil).2 hx
     exact bQ hn [0,1,2,3,4,5,7] rfl rfl rfl rfl rfl rfl)
  | skip
 obtain ⟨T,hTT⟩:∃ T,T = bE ⟨(rd bt (tAt bt (rd nos i))).No,(rd bt (tAt bt (rd nos i))).Buyer,(rd bt (tAt bt (rd nos i))).Seller,(rd bt (tAt bt (rd nos i))).Paper,(rd bt (tAt bt (rd nos i))).Qty,(rd bt (tAt bt (rd nos i))).Cash,(rd bt (tAt bt (rd nos i))).Price,(rd bt (tAt bt (rd nos i))).State⟩:=⟨_,rfl⟩
 rw [← hTT]
 have hT:T = y8 bt (rd nos i):=hTT
 have hT4:T.length = 4:=by rw [hTT];rfl
 rw [← hT] at hlb
 clear hTT hq hp
 refine wlp (X:=Int × List Bal) [1,2,6,8,11] [0,1,2,3,4,5,6,7,8,9,10] (fun x => [(12,I x.1),(7,.c (.row 8 0 x.2.length))]) (fun x => [(8,ow 135 x.2)]) (fun x => (0 ≤ x.1 ∧ x.1 ≤ T.length) ∧ x.2 = pO [] (lgs bt (pf nos i) ++ pf T x.1) ∧ BSd x.2 ∧ (∀ y ∈ x.2,-(4000000000000000 * i + 1000000000000000 * x.1) ≤ y.Amount ∧ y.Amount ≤ 4000000000000000 * i + 1000000000000000 * x.1) ∧ x.2.length ≤ 4 * i + x.1) (fun x => (T.length - x.1).toNat) (0,L) ⟨⟨by dsimp only;omega,by dsimp only;omega⟩,by dsimp only;rw [Aj,List.append_nil,hL],hsd,fun y hy => (by dsimp only at hy ⊢;have:=hbd y hy;omega),by dsimp only;omega⟩ rfl rfl (fun _ => rfl) (fun _ => rfl) ⟨rfl,rfl,rfl,rfl,rfl,rfl,rfl,rfl⟩ (fun x hx => ?_)
 obtain ⟨k,M⟩:=x
 obtain ⟨k0,hM,hms,hbm,hMl⟩:=hx
 dsimp only at k0 hM hms hbm hMl ⊢
 by_cases hkl:k < T.length
 ·have hr:=hlb _ (aA ⟨k0.1,hkl⟩)
  have hbo:=xk (M:=4000000000000000 * i + 1000000000000000 * k) (by omega) hbm (rd T k).Account (rd T k).Instr
  repeat' (first
| intro h9;exfalso;contradiction
| apply yds;rfl
| apply yd;rfl
| intro _
| refine nv ?_
| apply wct rfl
| apply ai;rfl
| apply yar;rfl;omega
| apply yix;rfl;omega
| apply yle;rfl;omega
| refine zdq (id:=15) rfl (by kernel_rfl) [(.p,0),(.p,1),(.p,2),(.p,3),(.p,4),(.p,6),(.p,7),(.p,8),(.p,9),(.p,11),(.p,12),(.p,13),(.p,14),(.p,15),(.p,17),(.p,18),(.p,19),(.p,20),(.p,23),(.p,24),(.p,25),(.p,26),(.t,5),(.t,10),(.t,16),(.t,21),(.t,27),(.o,22),(.p,28),(.o,29),(.p,30)] [] (by kernel_rfl) rfl ?_
| apply ycf;rfl;(exact m7 (by assumption) (by omega));rfl
| apply yc;rfl;exact fK;rfl;exact fun _ => rfl
| fail)
  all_goals first
   | exact aB (k + 1,dL M (rd T k).Account (rd T k).Instr (aL M (rd T k).Account (rd T k).Instr + (rd T k).Amount)) [0,1,2,3,4,5,6,7,11,9,10] ⟨rfl,rfl,rfl,rfl,rfl,rfl,rfl,rfl⟩ ⟨⟨by dsimp only;omega,by dsimp only;omega⟩,by dsimp only;rw [BL ⟨k0.1,hkl⟩,← hM];rfl,ff hms _ _ _,fun y hy => (by dsimp only at hy ⊢;have:=Ak hms hbm hbo hr y hy;omega),by dsimp only;have:=px hms (rd T k).Account (rd T k).Instr (aL M (rd T k).Account (rd T k).Instr + (rd T k).Amount);omega⟩ (by first | omega | (dsimp only;omega))
   | trace_state
 repeat' (first
| intro h9;exfalso;contradiction
| apply yds;rfl
| apply yd;rfl
| intro _
| refine nv ?_
| apply wcf rfl
| apply ah rfl
| apply ai;rfl
| apply yar;rfl;omega
| fail)
 all_goals first
  | exact aB (i + 1,M) [0,1,2,3,4,5,6,7,8] ⟨rfl,rfl,rfl,rfl,rfl,rfl,rfl,rfl⟩ ⟨⟨by dsimp only;omega,by dsimp only;omega⟩,by dsimp only;rw [y9 ⟨h0.1,hil⟩,hM,b6 hkl,hT],hms,fun y hy => (by have:=hbm y hy;dsimp only;omega),by dsimp only;omega,aD hall ⟨hop,by assumption⟩⟩ (by first | omega | (dsimp only;omega))
  | trace_state
end
end Go.Proofs.YtgehbhkfehmdkaaGreat.Sh
