/- Symbolic memory: calls. No condition. -/
import Derived.Test.YtgehbhkfehmdkaaGreatKFxShB
set_option linter.unusedVariables false
namespace Go.Proofs.YtgehbhkfehmdkaaGreat.Sh
open Go.RowKit Go.Proofs.YtgehbhkfehmdkaaGreatW
def fnd (i:Nat):List Nat → AH → AH → Option (Option AO)
 | k :: m,some b :: hs,x :: hs' => match Nat.beq k i && b.own with
   | true => some x
   | false => fnd i m hs hs'
 | _,_,_ => none
def m0 (f:Nat → Nat) (m:List Nat) (hs hs':AH):Nat → AH → AH
 | _,[] => []
 | i,x :: h => (match fnd i m hs hs' with
   | some y => y.map (AO.ren f)
   | none => x) :: m0 f m hs hs' (i + 1) h
def cG (f:Nat → Nat) (m:List Nat) (hs hs' h:AH):AH:=m0 f m hs hs' 0 h ++ bS f (hs'.drop m.length)
theorem dh (f:Nat → Nat) (m:List Nat) (hs hs':AH):∀ (h:AH) (i:Nat),(m0 f m hs hs' i h).length = h.length
 | [],_ => rfl
 | x :: h,i => by simp [m0,dh f m hs hs' h (i + 1)]
theorem pJ (f:Nat → Nat) (m:List Nat) (hs hs':AH):∀ (h:AH) (i k:Nat),(m0 f m hs hs' i h)[k]? = (h[k]?).map (fun x => match fnd (i + k) m hs hs' with | some y => y.map (AO.ren f) | none => x)
 | [],_,_ => by simp [m0]
 | x :: h,i,0 => by simp [m0]
 | x :: h,i,k + 1 => by
   have:=pJ f m hs hs' h (i + 1) k
   rw [show i + 1 + k = i + (k + 1) from by omega] at this
   simpa [m0] using this
theorem oG {i:Nat}:∀ {m:List Nat} {hs hs':AH} {x:Option AO},fnd i m hs hs' = some x → ∃ (j:Nat) (b:AO),m[j]? = some i ∧ hs[j]? = some (some b) ∧ b.own = true ∧ hs'[j]? = some x
 | k :: m,some b :: hs,y :: hs',x,h => by
   unfold fnd at h
   split at h
   ·rename_i hb
    simp only [Bool.and_eq_true] at hb
    have:k = i:=Nat.eq_of_beq_eq_true hb.1
    subst this
    cases h
    exact ⟨0,b,rfl,rfl,hb.2,rfl⟩
   ·obtain ⟨j,b',h1,h2,h3,h4⟩:=oG h
    exact ⟨j + 1,b',by simpa using h1,by simpa using h2,h3,by simpa using h4⟩
theorem iO {i:Nat}:∀ {m:List Nat} {hs hs':AH},hs.all (·.isSome) = true → m.length = hs.length → hs.length ≤ hs'.length → fnd i m hs hs' = none → ∀ {j:Nat} {b:AO},m[j]? = some i → hs[j]? = some (some b) → b.own = true → False
 | k :: m,some b :: hs,y :: hs',ha,h1,h2,h,j,b',hj,hb,hown => by
   unfold fnd at h
   split at h
   ·cases h
   ·rename_i hbq
    cases j with
    | zero =>
      have e1:k = i:=by simpa using hj
      have e2:b = b':=by simpa using hb
      subst e1;subst e2
      rw [Nat.beq_refl,hown] at hbq
      cases hbq
    | succ j => exact iO (by simpa using ha) (by simpa using h1) (by simpa using h2) h (by simpa using hj) (by simpa using hb) hown
 | k :: m,none :: hs,_,ha,_,_,_,j,b',hj,hb,hown => by simp at ha
 | [],_,_,_,_,_,_,j,b',hj,_,_ => by simp at hj
 | k :: m,[],_,_,h1,_,_,j,b',_,hb,_ => by simp at hb
 | k :: m,some b :: hs,[],_,_,h2,_,j,b',_,_,_ => by simp at h2
structure Pass (h:AH) (m:List Nat) (hs:AH):Prop where
 all:hs.all (·.isSome) = true
 len:hs.length = m.length
 lt:m.all (fun i => Nat.blt i h.length) = true
 nodup:ndO m hs = true
 h:bS (mf m h.length) hs = bN hs (bF m h)
theorem wY {m:List Nat} {n j i:Nat} (h:m[j]? = some i):mf m n j = i:=by simp [mf,h]
theorem wX {m:List Nat} {n j:Nat} (h:m.length ≤ j):mf m n j = n + (j - m.length):=by simp [mf,List.getElem?_eq_none h]
theorem Pass.own {h:AH} {m:List Nat} {hs:AH} (p:Pass h m hs) {ρ:Pl} (hl:ρ.length = h.length) {Γ:Ctx} {w:World} (hH:Holds Γ ρ h w) {g:Nat} (hg:lP (bM m ρ) hs g) :
  ∃ (j i:Nat) (b oo:AO) (sl:Slot),m[j]? = some i ∧ hs[j]? = some (some b) ∧ b.own = true ∧ h[i]? = some (some oo) ∧ oo.own = true ∧ ρ[i]? = some sl ∧ sl.blk = some g:=by
 obtain ⟨j,b,sl,h1,h2,h3,h4⟩:=hg
 obtain ⟨i,oo,hi,hoo,e⟩:=dJ p.h h1
 obtain ⟨sl1,h5,h6⟩:=hH.obj i oo hoo
 have:sl1 = sl:=by rw [bW hi h5] at h3;exact Option.some.inj h3
 subst this
 refine ⟨j,i,b,oo,sl1,hi,h1,h2,hoo,?_,h5,h4⟩
 have h7:b.own = (oo.own && b.own):=congrArg AO.own e
 rw [h2] at h7
 simpa using h7.symm
theorem Pass.merge {Γ:Ctx} {ρ:Pl} {h:AH} {w w':World} {m:List Nat} {hs hs':AH} {ρ':Pl} {fz:Nat → Prop} (hF:Frz Γ ρ h w fz) (p:Pass h m hs) (hl:ρ.length = h.length) (hH:Holds Γ ρ h w)
  (hc:Holds ⟨w,lP (bM m ρ) hs,bM m ρ,fz⟩ ρ' hs' w') (hl':ρ'.length = hs'.length) (he:Ext (bM m ρ) ρ') (hnew:((∀ (o:Nat) ob,hs.length ≤ o → hs'[o]? = some (some ob) → ob.own = true ∧ ob.el.isD = false) ∧ ∀ (j:Nat) b x,hs[j]? = some (some b) → b.own = true → hs'[j]? = some (some x) → x.el.isD = false) ∨ ∀ (j i:Nat) (b oo:AO),m[j]? = some i → hs[j]? = some (some b) → b.own = false → h[i]? = some (some oo) → oo.own = false) :
  Holds Γ (ρ ++ ρ'.drop m.length) (cG (mf m h.length) m hs hs' h) w' ∧ nG (mf m h.length) ρ' (ρ ++ ρ'.drop m.length):=by
 have hlm:(bM m ρ).length = m.length:=by simp [bM]
 have hle:m.length ≤ hs'.length:=by
  rw [← hl',← hlm]
  rcases Nat.lt_or_ge ρ'.length (bM m ρ).length with hlt | hge
  ·have:=he ρ'.length _ (List.getElem?_eq_getElem hlt)
   simp at this
  ·exact hge
 have hT:nG (mf m h.length) ρ' (ρ ++ ρ'.drop m.length):=fun o sl ho => by
  rcases Nat.lt_or_ge o m.length with hlt | hge
  ·have hmo:m[o]? = some m[o]:=List.getElem?_eq_getElem hlt
   rw [wY hmo]
   have h1:m[o] < h.length:=Nat.blt_eq.mp (List.all_eq_true.1 p.lt _ (List.getElem_mem hlt))
   have h2:ρ[m[o]]? = some ρ[m[o]]:=List.getElem?_eq_getElem (by omega)
   have h3:=he o _ (bW hmo h2)
   rw [h3] at ho
   rw [List.getElem?_append_left (by omega),h2]
   exact ho
  ·rw [wX hge,List.getElem?_append_right (by omega),List.getElem?_drop,show m.length + (h.length + (o - m.length) - ρ.length) = o from by omega]
   exact ho
 have hOwn:=fun {g:Nat} => p.own hl hH (g:=g)
 -- an object that the callee may not write stands
 have hold:∀ {i:Nat} {oo:AO} {sl:Slot},h[i]? = some (some oo) → fnd i m hs hs' = none → ρ[i]? = some sl → ∀ {g:Nat},sl.blk = some g → g < w.heap.size ∧ ¬ lP (bM m ρ) hs g:=by
  intro i oo sl hi hf hs1 g hg
  obtain ⟨sl1,h1,h2⟩:=hH.obj i oo hi
  have:sl1 = sl:=by rw [h1] at hs1;exact Option.some.inj hs1
  subst this
  refine ⟨h2.blk_lt hg,fun hb => ?_⟩
  obtain ⟨j,i',b,oo',sl',k1,k2,k3,k4,k5,k6,k7⟩:=hOwn hb
  by_cases e:i = i'
  ·subst e
   exact iO p.all p.len.symm (by rw [p.len];exact hle) hf k1 k2 k3
  ·exact (hH.sep i' oo' sl' g k4 k5 k6 k7).2 i oo sl1 hi e h1 hg
 have hfr:∀ {i:Nat} {oo:AO} {sl:Slot},h[i]? = some (some oo) → fnd i m hs hs' = none → ρ[i]? = some sl → ∀ k,sl.blk = some k → w'.heap[k]? = w.heap[k]?:=by
  intro i oo sl hi hf hs1 k hk
  obtain ⟨h1,h2⟩:=hold hi hf hs1 hk
  exact hc.fr.block k h1 h2
 -- what a number of the merged objects is
 have hwhat:∀ {i:Nat} {ob:AO},(cG (mf m h.length) m hs hs' h)[i]? = some (some ob) →
   (∃ (j:Nat) (ob0:AO),mf m h.length j = i ∧ hs'[j]? = some (some ob0) ∧ ob = ob0.ren (mf m h.length) ∧ (j < m.length → ∃ b,hs[j]? = some (some b) ∧ b.own = true ∧ m[j]? = some i)) ∨
   (h[i]? = some (some ob) ∧ fnd i m hs hs' = none):=by
  intro i ob hi
  unfold cG at hi
  rcases Nat.lt_or_ge i h.length with hlt | hge
  ·rw [List.getElem?_append_left (by rw [dh];exact hlt),pJ,Nat.zero_add] at hi
   obtain ⟨x,hx,hi⟩:=Option.map_eq_some_iff.1 hi
   cases hf:fnd i m hs hs' with
   | none =>
     rw [hf] at hi
     have hi:x = some ob:=hi
     subst hi
     exact .inr ⟨hx,rfl⟩
   | some y =>
     rw [hf] at hi
     have hi:y.map (AO.ren (mf m h.length)) = some ob:=hi
     obtain ⟨ob0,rfl,rfl⟩:=Option.map_eq_some_iff.1 hi
     obtain ⟨j,b,h1,h2,h3,h4⟩:=oG hf
     have hj:j < m.length:=(List.getElem?_eq_some_iff.1 h1).1
     exact .inl ⟨j,ob0,wY h1,h4,rfl,fun _ => ⟨b,h2,h3,h1⟩⟩
  ·rw [List.getElem?_append_right (by rw [dh];exact hge),dh] at hi
   unfold bS at hi
   rw [List.getElem?_map,List.getElem?_drop] at hi
   obtain ⟨x,hx,hi⟩:=Option.map_eq_some_iff.1 hi
   obtain ⟨ob0,rfl,rfl⟩:=Option.map_eq_some_iff.1 hi
   exact .inl ⟨m.length + (i - h.length),ob0,by rw [wX (by omega)];omega,hx,rfl,fun hlt => by omega⟩
 refine ⟨⟨⟨hc.fr.os.trans hH.fr.os,hc.fr.tape.trans hH.fr.tape,hc.fr.output.trans hH.fr.output,Nat.le_trans hH.fr.size hc.fr.size,fun k hk hn => ?_⟩,fun i ob hi => ?_,fun i ob sl g hi hown hs1 hg => ?_,fun i ob sl g hi hs1 hg => ?_,?_⟩,hT⟩
 ·refine (hc.fr.block k (Nat.lt_of_lt_of_le hk hH.fr.size) (fun hb => ?_)).trans (hH.fr.block k hk hn)
  obtain ⟨j,i',b,oo',sl',k1,k2,k3,k4,k5,k6,k7⟩:=hOwn hb
  rcases (hH.sep i' oo' sl' k k4 k5 k6 k7).1 with h1 | h1
  ·exact hn h1
  ·omega
 ·rcases hwhat hi with ⟨j,ob0,h1,h2,rfl,h3⟩ | ⟨h1,h2⟩
  ·obtain ⟨sl,k1,k2⟩:=hc.obj j ob0 h2
   exact ⟨sl,by rw [← h1];exact hT j sl k1,k2.turn hT⟩
  ·obtain ⟨sl,k1,k2⟩:=hH.obj i ob h1
   exact ⟨sl,Ext.append _ _ i sl k1,(k2.move hc.fr.size (hfr h1 h2 k1)).ext (Ext.append _ _)⟩
 ·-- blocks of the callee's own are others than those that stand
  have hA:∀ {j:Nat} {ob0:AO} {sl:Slot} {g:Nat},hs'[j]? = some (some ob0) → ob0.own = true → ρ'[j]? = some sl → sl.blk = some g → ∀ {i':Nat} {oo':AO} {sl':Slot},h[i']? = some (some oo') → fnd i' m hs hs' = none → ρ[i']? = some sl' → sl'.blk ≠ some g:=by
   intro j ob0 sl g h1 h2 h3 h4 i' oo' sl' k1 k2 k3 k4
   obtain ⟨q1,q2⟩:=hold k1 k2 k3 k4
   rcases (hc.sep j ob0 sl g h1 h2 h3 h4).1 with r | r
   ·exact q2 r
   ·exact absurd q1 (by have:w.heap.size ≤ g:=r;omega)
  rcases hwhat hi with ⟨j,ob0,h1,h2,rfl,h3⟩ | ⟨h1,h2⟩
  ·obtain ⟨sl0,k1,k2⟩:=hc.obj j ob0 h2
   have:sl0 = sl:=by
    have:=hT j sl0 k1
    rw [h1,hs1] at this
    exact (Option.some.inj this).symm
   subst this
   have hown0:ob0.own = true:=hown
   obtain ⟨k3,k4⟩:=hc.sep j ob0 sl0 g h2 hown0 k1 hg
   refine ⟨?_,fun i' ob' sl' hi' hne hs' => ?_⟩
   ·rcases k3 with r | r
    ·obtain ⟨j',i',b,oo',sl',q1,q2,q3,q4,q5,q6,q7⟩:=hOwn r
     exact (hH.sep i' oo' sl' g q4 q5 q6 q7).1
    ·have r:w.heap.size ≤ g:=r
     exact .inr (Nat.le_trans hH.fr.size r)
   ·rcases hwhat hi' with ⟨j',ob0',q1,q2,rfl,_⟩ | ⟨q1,q2⟩
    ·obtain ⟨sl2,r1,r2⟩:=hc.obj j' ob0' q2
     have:sl2 = sl':=by
      have:=hT j' sl2 r1
      rw [q1,hs'] at this
      exact (Option.some.inj this).symm
     subst this
     exact k4 j' ob0' sl2 q2 (fun e => hne (by rw [← q1,← h1,e])) r1
    ·obtain ⟨sl2,r1,r2⟩:=hH.obj i' ob' q1
     have:sl2 = sl':=by
      have:=Ext.append ρ (ρ'.drop m.length) i' sl2 r1
      rw [hs'] at this
      exact (Option.some.inj this).symm
     subst this
     exact hA h2 hown0 k1 hg q1 q2 r1
  ·obtain ⟨sl0,k1,k2⟩:=hH.obj i ob h1
   have:sl0 = sl:=by
    have:=Ext.append ρ (ρ'.drop m.length) i sl0 k1
    rw [hs1] at this
    exact (Option.some.inj this).symm
   subst this
   obtain ⟨k3,k4⟩:=hH.sep i ob sl0 g h1 hown k1 hg
   refine ⟨k3,fun i' ob' sl' hi' hne hs' => ?_⟩
   rcases hwhat hi' with ⟨j',ob0',q1,q2,rfl,q3⟩ | ⟨q1,q2⟩
   ·obtain ⟨sl2,r1,r2⟩:=hc.obj j' ob0' q2
    have:sl2 = sl':=by
     have:=hT j' sl2 r1
     rw [q1,hs'] at this
     exact (Option.some.inj this).symm
    subst this
    rcases Nat.lt_or_ge j' m.length with hlt | hge
    ·obtain ⟨b,s1,s2,s3⟩:=q3 hlt
     obtain ⟨i2,oo,t1,t2,_⟩:=dJ p.h s1
     have:i2 = i':=by rw [t1] at s3;exact Option.some.inj s3
     subst this
     obtain ⟨sl3,t3,_⟩:=hH.obj i2 oo t2
     have:sl3 = sl2:=by
      have:=Ext.append ρ (ρ'.drop m.length) i2 sl3 t3
      rw [hs'] at this
      exact (Option.some.inj this).symm
     subst this
     exact k4 i2 oo sl3 t2 hne t3
    ·rcases hnew with hnew | hro
     ·exact fun hgg => hA q2 (hnew.1 j' ob0' (by rw [p.len];exact hge) q2).1 r1 hgg h1 h2 k1 hg
     ·intro hgg
      obtain ⟨s1,s2⟩:=hold h1 h2 k1 hg
      rcases hc.src j' ob0' sl2 g q2 r1 hgg with ⟨o0,s0,t1,t2⟩ | t1
      ·have t1:(bM m ρ)[o0]? = some s0:=t1
       have hlt0:o0 < m.length:=by rw [← hlm];exact (List.getElem?_eq_some_iff.1 t1).1
       have hmo:m[o0]? = some m[o0]:=List.getElem?_eq_getElem hlt0
       obtain ⟨b0,hb0⟩:∃ b0,hs[o0]? = some (some b0):=by
        have hl0:o0 < hs.length:=by rw [p.len];exact hlt0
        have:=List.all_eq_true.1 p.all _ (List.getElem_mem hl0)
        obtain ⟨b0,hb0⟩:=Option.isSome_iff_exists.1 this
        exact ⟨b0,by rw [List.getElem?_eq_getElem hl0,hb0]⟩
       obtain ⟨i2,oo,u1,u2,u3⟩:=dJ p.h hb0
       obtain ⟨sl3,u4,_⟩:=hH.obj i2 oo u2
       have hs0:s0 = sl3:=by rw [bW u1 u4] at t1;exact (Option.some.inj t1).symm
       subst hs0
       by_cases e:i2 = i
       ·subst e
        cases hbo:b0.own with
        | true => exact iO p.all p.len.symm (by rw [p.len];exact hle) h2 u1 hb0 hbo
        | false =>
          have:=hro o0 i2 b0 oo u1 hb0 hbo u2
          rw [h1] at u2
          cases u2
          rw [hown] at this
          cases this
       ·exact k4 i2 oo s0 u2 e u4 t2
      ·rcases t1 with t1 | t1
       ·have t1:w.heap.size ≤ g:=t1
        omega
       ·exact hF.sep i ob sl0 g h1 hown k1 hg t1
   ·obtain ⟨sl2,r1,r2⟩:=hH.obj i' ob' q1
    have:sl2 = sl':=by
     have:=Ext.append ρ (ρ'.drop m.length) i' sl2 r1
     rw [hs'] at this
     exact (Option.some.inj this).symm
    subst this
    exact k4 i' ob' sl2 q1 hne r1
 ·rcases hwhat hi with ⟨j,ob0,h1,h2,rfl,h3⟩ | ⟨h1,h2⟩
  ·obtain ⟨sl0,k1,k2⟩:=hc.obj j ob0 h2
   have:sl0 = sl:=by
    have:=hT j sl0 k1
    rw [h1,hs1] at this
    exact (Option.some.inj this).symm
   subst this
   rcases hc.src j ob0 sl0 g h2 k1 hg with ⟨o0,s0,t1,t2⟩ | t1
   ·have t1:(bM m ρ)[o0]? = some s0:=t1
    have hlt0:o0 < m.length:=by rw [← hlm];exact (List.getElem?_eq_some_iff.1 t1).1
    obtain ⟨b0,hb0⟩:∃ b0,hs[o0]? = some (some b0):=by
     have hl0:o0 < hs.length:=by rw [p.len];exact hlt0
     have:=List.all_eq_true.1 p.all _ (List.getElem_mem hl0)
     obtain ⟨b0,hb0⟩:=Option.isSome_iff_exists.1 this
     exact ⟨b0,by rw [List.getElem?_eq_getElem hl0,hb0]⟩
    obtain ⟨i2,oo,u1,u2,u3⟩:=dJ p.h hb0
    obtain ⟨sl3,u4,_⟩:=hH.obj i2 oo u2
    have hs0:s0 = sl3:=by rw [bW u1 u4] at t1;exact (Option.some.inj t1).symm
    subst hs0
    exact hH.src i2 oo s0 g u2 u4 t2
   ·rcases t1 with t1 | t1
    ·have t1:w.heap.size ≤ g:=t1
     exact .inr (.inl (Nat.le_trans hH.fr.size t1))
    ·exact hF.src g t1
  ·obtain ⟨sl0,k1,k2⟩:=hH.obj i ob h1
   have:sl0 = sl:=by
    have:=Ext.append ρ (ρ'.drop m.length) i sl0 k1
    rw [hs1] at this
    exact (Option.some.inj this).symm
   subst this
   exact hH.src i ob sl0 g h1 k1 hg
 ·-- what nobody writes
  have hst:∀ g,fz g → w'.heap[g]? = w.heap[g]?:=fun g hg => hc.fr.block g (hF.lt g hg) (fun hb => by
   obtain ⟨j,i',b,oo',sl',k1,k2,k3,k4,k5,k6,k7⟩:=hOwn hb
   exact hF.sep i' oo' sl' g k4 k5 k6 k7 hg)
  -- an own object's block is none of the caller's frozen ones
  have hsp:∀ {i:Nat} {ob:AO} {sl:Slot} {g:Nat},(cG (mf m h.length) m hs hs' h)[i]? = some (some ob) → ob.own = true → (ρ ++ ρ'.drop m.length)[i]? = some sl → sl.blk = some g → ¬ fz g:=by
   intro i ob sl g hi hown hs1 hg hfz
   rcases hwhat hi with ⟨j,ob0,h1,h2,rfl,h3⟩ | ⟨h1,h2⟩
   ·obtain ⟨sl0,k1,k2⟩:=hc.obj j ob0 h2
    have:sl0 = sl:=by
     have:=hT j sl0 k1
     rw [h1,hs1] at this
     exact (Option.some.inj this).symm
    subst this
    rcases (hc.sep j ob0 sl0 g h2 hown k1 hg).1 with r | r
    ·obtain ⟨j',i',b,oo',sl',q1,q2,q3,q4,q5,q6,q7⟩:=hOwn r
     exact hF.sep i' oo' sl' g q4 q5 q6 q7 hfz
    ·have r:w.heap.size ≤ g:=r
     have:=hF.lt g hfz
     omega
   ·obtain ⟨sl0,k1,k2⟩:=hH.obj i ob h1
    have:sl0 = sl:=by
     have:=Ext.append ρ (ρ'.drop m.length) i sl0 k1
     rw [hs1] at this
     exact (Option.some.inj this).symm
    subst this
    exact hF.sep i ob sl0 g h1 hown k1 hg hfz
  rcases hnew with ⟨hn1,hn2⟩ | hro
  ·refine ⟨fz,hF.base,fun g hg => Nat.lt_of_lt_of_le (hF.lt g hg) hc.fr.size,hF.src,fun o ob sl g ho hown hs1 hg => hsp ho hown hs1 hg,fun o own ty sz xs ho => ?_⟩
   rcases hwhat ho with ⟨j,ob0,h1,h2,e,h3⟩ | ⟨h1,h2⟩
   ·exfalso
    have h4:ob0.el.isD = false:=by
     rcases Nat.lt_or_ge j m.length with hlt | hge
     ·obtain ⟨b,s1,s2,s3⟩:=h3 hlt
      exact hn2 j b ob0 s1 s2 h2
     ·exact (hn1 j ob0 (by rw [p.len];exact hge) h2).2
    have h5:El.dp xs = ob0.el.ren (mf m h.length):=congrArg AO.el e
    cases hel:ob0.el with
    | fl _ => rw [hel] at h5;cases h5
    | mx _ => rw [hel] at h5;cases h5
    | dp _ => rw [hel] at h4;cases h4
   ·exact (hF.deep o own ty sz xs h1).move hc.fr.size (fun _ q => q) hst
  ·obtain ⟨fz',_,f1,f2,f3,f4⟩:=hc.dp
   refine ⟨fun g => fz g ∨ fz' g,fun g hg => .inl (hF.base g hg),fun g hg => ?_,fun g hg => ?_,fun i ob sl g hi hown hs1 hg hfg => ?_,fun o own ty sz xs ho => ?_⟩
   ·rcases hg with hg | hg
    ·exact Nat.lt_of_lt_of_le (hF.lt g hg) hc.fr.size
    ·exact f1 g hg
   ·rcases hg with hg | hg
    ·exact hF.src g hg
    ·rcases f2 g hg with ⟨o0,s0,t1,t2⟩ | t1 | t1
     ·have t1:(bM m ρ)[o0]? = some s0:=t1
      have hlt0:o0 < m.length:=by rw [← hlm];exact (List.getElem?_eq_some_iff.1 t1).1
      obtain ⟨b0,hb0⟩:∃ b0,hs[o0]? = some (some b0):=by
       have hl0:o0 < hs.length:=by rw [p.len];exact hlt0
       have:=List.all_eq_true.1 p.all _ (List.getElem_mem hl0)
       obtain ⟨b0,hb0⟩:=Option.isSome_iff_exists.1 this
       exact ⟨b0,by rw [List.getElem?_eq_getElem hl0,hb0]⟩
      obtain ⟨i2,oo,u1,u2,u3⟩:=dJ p.h hb0
      obtain ⟨sl3,u4,_⟩:=hH.obj i2 oo u2
      have hs0:s0 = sl3:=by rw [bW u1 u4] at t1;exact (Option.some.inj t1).symm
      subst hs0
      exact hH.src i2 oo s0 g u2 u4 t2
     ·have t1:w.heap.size ≤ g:=t1
      exact .inr (.inl (Nat.le_trans hH.fr.size t1))
     ·exact hF.src g t1
   ·rcases hfg with hfg | hfg
    ·exact hsp hi hown hs1 hg hfg
    ·rcases hwhat hi with ⟨j,ob0,h1,h2,rfl,h3⟩ | ⟨h1,h2⟩
     ·obtain ⟨sl0,k1,k2⟩:=hc.obj j ob0 h2
      have:sl0 = sl:=by
       have:=hT j sl0 k1
       rw [h1,hs1] at this
       exact (Option.some.inj this).symm
      subst this
      exact f3 j ob0 sl0 g h2 hown k1 hg hfg
     ·obtain ⟨sl0,k1,k2⟩:=hH.obj i ob h1
      have:sl0 = sl:=by
       have:=Ext.append ρ (ρ'.drop m.length) i sl0 k1
       rw [hs1] at this
       exact (Option.some.inj this).symm
      subst this
      rcases f2 g hfg with ⟨o0,s0,t1,t2⟩ | t1 | t1
      ·have t1:(bM m ρ)[o0]? = some s0:=t1
       have hlt0:o0 < m.length:=by rw [← hlm];exact (List.getElem?_eq_some_iff.1 t1).1
       obtain ⟨b0,hb0⟩:∃ b0,hs[o0]? = some (some b0):=by
        have hl0:o0 < hs.length:=by rw [p.len];exact hlt0
        have:=List.all_eq_true.1 p.all _ (List.getElem_mem hl0)
        obtain ⟨b0,hb0⟩:=Option.isSome_iff_exists.1 this
        exact ⟨b0,by rw [List.getElem?_eq_getElem hl0,hb0]⟩
       obtain ⟨i2,oo,u1,u2,u3⟩:=dJ p.h hb0
       obtain ⟨sl3,u4,_⟩:=hH.obj i2 oo u2
       have hs0:s0 = sl3:=by rw [bW u1 u4] at t1;exact (Option.some.inj t1).symm
       subst hs0
       by_cases e:i2 = i
       ·subst e
        cases hbo:b0.own with
        | true => exact iO p.all p.len.symm (by rw [p.len];exact hle) h2 u1 hb0 hbo
        | false =>
          have:=hro o0 i2 b0 oo u1 hb0 hbo u2
          rw [h1] at u2
          cases u2
          rw [hown] at this
          cases this
       ·exact (hH.sep i ob sl0 g h1 hown k1 hg).2 i2 oo s0 u2 e u4 t2
      ·have t1:w.heap.size ≤ g:=t1
       have:=k2.blk_lt hg
       omega
      ·exact hsp hi hown hs1 hg t1
   ·rcases hwhat ho with ⟨j,ob0,h1,h2,e,h3⟩ | ⟨h1,h2⟩
    ·obtain ⟨own2,ty2,sz2,el2⟩:=ob0
     have h5:El.dp xs = el2.ren (mf m h.length):=congrArg AO.el e
     have h6:sz = sz2:=congrArg AO.sz e
     subst h6
     cases el2 with
     | fl _ => cases h5
     | mx _ => cases h5
     | dp ys =>
       cases h5
       exact (f4 j own2 ty2 _ _ h2).move (Nat.le_refl _) (fun _ q => .inr q) (fun _ _ => rfl)
    ·exact (hF.deep o own ty sz xs h1).move hc.fr.size (fun _ q => .inl q) hst
def vwT (i:Nat):List Nat → AH → Bool
 | j :: m,x :: hs => (Nat.beq j i && !owB x) || vwT i m hs
 | _,_ => false
def vwG (m:List Nat) (hs:AH):Nat → AH → AH
 | _,[] => []
 | i,x :: r => (match vwT i m hs with
   | true => x.map (AO.view false)
   | false => x) :: vwG m hs (i + 1) r
def vwH (m:List Nat) (hs h:AH):AH:=vwG m hs 0 h
theorem qI (m:List Nat) (hs:AH):∀ (h:AH) (i j:Nat),(vwG m hs i h)[j]? = (h[j]?).map (fun x => match vwT (i + j) m hs with | true => x.map (AO.view false) | false => x)
 | [],i,j => by simp [vwG]
 | x :: h,i,0 => by simp [vwG]
 | x :: h,i,j + 1 => by
   have:=qI m hs h (i + 1) j
   rw [show i + 1 + j = i + (j + 1) from by omega] at this
   simpa [vwG] using this
theorem jA (m:List Nat) (hs:AH):∀ (h:AH) (i:Nat),(vwG m hs i h).length = h.length
 | [],_ => rfl
 | x :: h,i => by simp [vwG,jA m hs h (i + 1)]
theorem vm {m:List Nat} {hs h:AH} {i:Nat} {ob:AO} (hi:(vwH m hs h)[i]? = some (some ob)):∃ oo b,h[i]? = some (some oo) ∧ ob = oo.view b:=by
 unfold vwH at hi
 rw [qI] at hi
 obtain ⟨x,hx,hi⟩:=Option.map_eq_some_iff.1 hi
 split at hi
 ·obtain ⟨oo,rfl,rfl⟩:=Option.map_eq_some_iff.1 hi
  exact ⟨oo,false,hx,rfl⟩
 ·subst hi
  exact ⟨ob,true,hx,by simp [AO.view]⟩
theorem Holds.view {Γ:Ctx} {ρ:Pl} {h h':AH} {w:World} (hH:Holds Γ ρ h w) (hv:∀ (i:Nat) ob,h'[i]? = some (some ob) → ∃ oo b,h[i]? = some (some oo) ∧ ob = oo.view b):Holds Γ ρ h' w:=by
 refine ⟨hH.fr,fun o ob ho => ?_,fun o ob sl g ho hown hs hg => ?_,fun o ob sl g ho hs hg => ?_,?_⟩
 ·obtain ⟨oo,b,h1,rfl⟩:=hv o ob ho
  obtain ⟨sl,h2,h3⟩:=hH.obj o oo h1
  exact ⟨sl,h2,h3.view b⟩
 ·obtain ⟨oo,b,h1,rfl⟩:=hv o ob ho
  have h2:oo.own = true:=by
   have:(oo.own && b) = true:=hown
   simp at this
   exact this.1
  obtain ⟨h3,h4⟩:=hH.sep o oo sl g h1 h2 hs hg
  refine ⟨h3,fun o' ob' sl' ho' hne hs' => ?_⟩
  obtain ⟨oo',b',h5,_⟩:=hv o' ob' ho'
  exact h4 o' oo' sl' h5 hne hs'
 ·obtain ⟨oo,b,h1,rfl⟩:=hv o ob ho
  exact hH.src o oo sl g h1 hs hg
 ·obtain ⟨fz,f0,f1,f2,f3,f4⟩:=hH.dp
  refine ⟨fz,f0,f1,f2,fun o ob sl g ho hown hs hg => ?_,fun o own ty sz xs ho => ?_⟩
  ·obtain ⟨oo,b,h1,rfl⟩:=hv o ob ho
   have h2:oo.own = true:=by
    have:(oo.own && b) = true:=hown
    simp at this
    exact this.1
   exact f3 o oo sl g h1 h2 hs hg
  ·obtain ⟨oo,b,h1,e⟩:=hv o _ ho
   obtain ⟨own2,ty2,sz2,el2⟩:=oo
   have e1:El.dp xs = el2:=congrArg AO.el e
   have e2:sz = sz2:=congrArg AO.sz e
   subst e1;subst e2
   exact f4 o _ _ _ _ h1
theorem Rel.view {Γ:Ctx} {ρ:Pl} {st:St} {a:Act} {w:World} {h':AH} (hr:Rel Γ ρ st a w) (hl:h'.length = st.h.length) (hv:∀ (i:Nat) ob,h'[i]? = some (some ob) → ∃ oo b,st.h[i]? = some (some oo) ∧ ob = oo.view b):Rel Γ ρ { st with h:=h' } a w :=
 ⟨hr.holds.view hv,by rw [hr.len,hl],hr.klen,hr.args,hr.env,hr.defers,hr.size⟩
theorem ik {st:St} {h':AH} (hl:h'.length = st.h.length) (hv:∀ (i:Nat) ob,h'[i]? = some (some ob) → ∃ oo b,st.h[i]? = some (some oo) ∧ ob = oo.view b):Ghost st { st with h:=h' }:=fun Γ ρ a w hr => ⟨ρ,Ext.refl _,hr.view hl hv⟩
theorem vn {i:Nat} {b:AO} (ho:b.own = false):∀ {m:List Nat} {hs:AH} {j:Nat},m[j]? = some i → hs[j]? = some (some b) → vwT i m hs = true
 | [],_,j,h1,_ => by simp at h1
 | _ :: _,[],j,_,h2 => by simp at h2
 | k :: m,x :: hs,0,h1,h2 => by
   have e1:k = i:=by simpa using h1
   have e2:x = some b:=by simpa using h2
   subst e1;subst e2
   simp [vwT,owB,ho]
 | k :: m,x :: hs,j + 1,h1,h2 => by
   simp only [vwT,Bool.or_eq_true]
   exact .inr (vn ho (by simpa using h1) (by simpa using h2))
theorem xe {m:List Nat} {hs h:AH} {j i:Nat} {b oo:AO} (hj:m[j]? = some i) (hb:hs[j]? = some (some b)) (ho:b.own = false) (hi:(vwH m hs h)[i]? = some (some oo)):oo.own = false:=by
 unfold vwH at hi
 rw [qI,Nat.zero_add,vn ho hj hb] at hi
 obtain ⟨x,hx,hi⟩:=Option.map_eq_some_iff.1 hi
 obtain ⟨oo',rfl,rfl⟩:=Option.map_eq_some_iff.1 hi
 simp [AO.view]
def owN:Option AO → Bool
 | some o => o.own && !o.el.isD
 | none => true
theorem rz {m:List Nat} {hs hs':AH} (hl:hs.length = m.length) (h:(hs'.drop m.length).all owN = true) {o:Nat} {ob:AO} (ho:hs.length ≤ o) (hob:hs'[o]? = some (some ob)):ob.own = true ∧ ob.el.isD = false:=by
 have h1:(hs'.drop m.length)[o - m.length]? = some (some ob):=by rw [List.getElem?_drop,show m.length + (o - m.length) = o from by omega];exact hob
 have h2:(ob.own && !ob.el.isD) = true:=List.all_eq_true.1 h _ (List.mem_of_getElem? h1)
 simpa using h2
def noD:Option AO → Bool
 | some o => !o.el.isD
 | none => true
theorem xW {hs:AH} (h:hs.all noD = true) {j:Nat} {x:AO} (hx:hs[j]? = some (some x)):x.el.isD = false:=by
 have h2:(!x.el.isD) = true:=List.all_eq_true.1 h _ (List.mem_of_getElem? hx)
 simpa using h2
def bw (p:Nat × Nat × Nat):AV:=.c (.ptr p.1 p.2.1 p.2.2)
def evs (env:List (Nat × AV)):List Operand → Option (List AV)
 | [] => some []
 | x :: xs => match ev env x,evs env xs with
   | some v,some vs => some (v :: vs)
   | _,_ => none
theorem tI {ρ:Pl} {env:List (Nat × AV)} {a:Act} (h:EnvR ρ env a.tmps):∀ {xs:List Operand} {vs:List AV},evs env xs = some vs → All2 (AV.R ρ) vs (xs.map a.eval)
 | [],vs,hx => by
   cases hx
   trivial
 | x :: xs,vs,hx => by
   unfold evs at hx
   split at hx
   ·rename_i v vs' h1 h2
    cases hx
    exact ⟨b7 h h1,tI h h2⟩
   ·cases hx
def dV (P:Program) (f:FuncId):Prop:=∀ args w,(callFunc f args).run P w = .ok (.enter f args) w
theorem mK {P:Program} {f:FuncId} {fn:Func} (hf:P.funcs[f]? = some fn) (hname:(fn.name == "runtime.NumGoroutine") = false) (hb:fn.body.isSome = true):dV P f:=fun args w => PrintLast.enters_ hf hname hb args w
section
variable {P:Program} {o:Oper} {st:St}
theorem oq {fo:Operand} {as:Array Operand} {ts:Array TypeId} (hop:o.op = .call { callee:=.value fo,args:=as,argTypes:=ts }) {f:FuncId} {caps:List (Nat × Nat × Nat)} (hf:ev st.env fo = some (.c (.fn f caps))) (hent:dV P f) {ρ:Pl} {a:Act} (he:EnvR ρ st.env a.tmps) (w:World) :
  ∃ cs:Array Value,All2 (fun p u => PtrR ρ p.1 p.2.1 p.2.2 u) caps cs.toList ∧ (execOp a.eval o).run P w = .ok (.enter f (as.map a.eval ++ cs)) w:=by
 obtain ⟨cs,h1,h2⟩:=b7 he hf
 refine ⟨cs,h2,?_⟩
 unfold execOp
 simp [hop,resolve,Deferred.ofValue,invoke,h1,hent _ w]
theorem p7 {fo:Operand} {as:Array Operand} {ts:Array TypeId} (hop:o.op = .call { callee:=.value fo,args:=as,argTypes:=ts }) (hd:st.fits o.dst = true) {f:FuncId} {caps:List (Nat × Nat × Nat)} (hf:ev st.env fo = some (.c (.fn f caps))) (hent:dV P f)
  {vals:List AV} (hev:evs st.env as.toList = some vals) {args:List AV} {hs:AH} {R:AV → AH → Prop} (hc:ACall P f args hs R) (m:List Nat) (hargs:args.map (AV.ren (mf m st.h.length)) = vals ++ caps.map bw) (hp:Pass st.h m hs) (hno:(∀ v hs',R v hs' → (hs'.drop m.length).all owN = true ∧ hs'.all noD = true) ∨ ∀ (j i:Nat) (b oo:AO),m[j]? = some i → hs[j]? = some (some b) → b.own = false → st.h[i]? = some (some oo) → oo.own = false) :
  OpW P o st (fun st' => ∃ v hs',R v hs' ∧ st' = ({ st with h:=cG (mf m st.h.length) m hs hs' st.h }:St).put o.dst (v.ren (mf m st.h.length))):=fun Γ ρ a w hr K' Q' hk => by
 obtain ⟨cs,h1,h2⟩:=oq hop hf hent hr.env w
 unfold Oper.wp
 rw [h2,Oper.upon_enter]
 have hall:All2 (AV.R (bM m ρ)) args ((as.map a.eval ++ cs).toList):=by
  have h3:All2 (AV.R ρ) (vals ++ caps.map bw) ((as.map a.eval ++ cs).toList):=by
   rw [Array.toList_append,Array.toList_map]
   exact (tI hr.env hev).append (All2.to_map h1)
  rw [← hargs] at h3
  exact All2.imp (fun x y => AV.R_back (eg hr.len)) (All2.of_map h3)
 have hH2:=Conv.holds hr.len hp.lt hp.nodup hp.h hr.holds
 obtain ⟨fz,hF⟩:=hr.holds.dp
 have hF2:=Conv.frz hr.len hp.h hr.holds hF
 have hH3:Holds ⟨w,lP (bM m ρ) hs,bM m ρ,fz⟩ (bM m ρ) hs w :=
  ⟨Fr.refl _ _,hH2.obj,fun o ob sl g h3 h4 h5 h6 => ⟨.inl ⟨o,ob,sl,h3,h4,h5,h6⟩,(hH2.sep o ob sl g h3 h4 h5 h6).2⟩,fun o ob sl g h3 h4 h5 => .inl ⟨o,sl,h4,h5⟩,fz,fun _ hg => hg,hF2.lt,fun g hg => .inr (.inr hg),hF2.sep,hF2.deep⟩
 have:=hc (bM m ρ) w fz _ (by rw [hp.len];simp [bM]) hH3 hall
 refine this.mono fun e w' hh => ?_
 obtain ⟨v,hs',v',ρ',hR,rfl,hv,hH',hl',he⟩:=hh
 obtain ⟨k1,k2⟩:=hp.merge (hF:=hF) hr.len hr.holds hH' hl' he (hno.imp (fun h => ⟨fun o ob ho hob => rz hp.len (h v hs' hR).1 ho hob,fun j b x _ _ hx => xW (h v hs' hR).2 hx⟩) id)
 refine hk _ (ρ ++ ρ'.drop m.length) _ w' ⟨v,hs',hR,rfl⟩ (hr.put _ o.dst hd _ v' (Ext.append _ _) ?_ k1 (AV.R_turn k2 hv))
 unfold cG
 rw [List.length_append,List.length_append,dh,hr.len]
 simp [bS,hl']
theorem uM {fo:Operand} {as:Array Operand} {ts:Array TypeId} (hop:o.op = .call { callee:=.value fo,args:=as,argTypes:=ts }) (hd:st.fits o.dst = true) {f:FuncId} {caps:List (Nat × Nat × Nat)} (hf:ev st.env fo = some (.c (.fn f caps))) (hent:dV P f)
  {vals:List AV} (hev:evs st.env as.toList = some vals) {args:List AV} {hs:AH} {R:AV → AH → Prop} (hc:ACall P f args hs R) (m:List Nat) (hargs:args.map (AV.ren (mf m st.h.length)) = vals ++ caps.map bw) (hp:Pass st.h m hs)
  (hro:hs.all (fun x => match x with | some o => !o.own | none => true) = true) (hno:(∀ v hs',R v hs' → (hs'.drop m.length).all owN = true) ∨ ∀ (j i:Nat) (b oo:AO),m[j]? = some i → hs[j]? = some (some b) → b.own = false → st.h[i]? = some (some oo) → oo.own = false) :
  OpQ P o st (fun st' => ∃ v hs',R v hs' ∧ st' = ({ st with h:=cG (mf m st.h.length) m hs hs' st.h }:St).put o.dst (v.ren (mf m st.h.length))):=fun Γ ρ a w hr K' Q' hk => by
 obtain ⟨cs,h1,h2⟩:=oq hop hf hent hr.env w
 unfold Oper.wp
 rw [h2,Oper.upon_enter]
 have hall:All2 (AV.R (bM m ρ)) args ((as.map a.eval ++ cs).toList):=by
  have h3:All2 (AV.R ρ) (vals ++ caps.map bw) ((as.map a.eval ++ cs).toList):=by
   rw [Array.toList_append,Array.toList_map]
   exact (tI hr.env hev).append (All2.to_map h1)
  rw [← hargs] at h3
  exact All2.imp (fun x y => AV.R_back (eg hr.len)) (All2.of_map h3)
 have hH2:=Conv.holds hr.len hp.lt hp.nodup hp.h hr.holds
 obtain ⟨fz,hF⟩:=hr.holds.dp
 have hF2:=Conv.frz hr.len hp.h hr.holds hF
 have hH3:Holds ⟨w,lP (bM m ρ) hs,bM m ρ,fz⟩ (bM m ρ) hs w :=
  ⟨Fr.refl _ _,hH2.obj,fun o ob sl g h3 h4 h5 h6 => ⟨.inl ⟨o,ob,sl,h3,h4,h5,h6⟩,(hH2.sep o ob sl g h3 h4 h5 h6).2⟩,fun o ob sl g h3 h4 h5 => .inl ⟨o,sl,h4,h5⟩,fz,fun _ hg => hg,hF2.lt,fun g hg => .inr (.inr hg),hF2.sep,hF2.deep⟩
 have:=hc (bM m ρ) w fz _ (by rw [hp.len];simp [bM]) hH3 hall
 refine this.mono fun e w' hh => ?_
 obtain ⟨v,hs',v',ρ',hR,rfl,hv,hH',hl',he⟩:=hh
 obtain ⟨k1,k2⟩:=hp.merge (hF:=hF) hr.len hr.holds hH' hl' he (hno.imp (fun h => ⟨fun o ob ho hob => rz hp.len (h v hs' hR) ho hob,fun j b x hb hb2 _ => by
  have:=List.all_eq_true.1 hro _ (List.mem_of_getElem? hb)
  simp [hb2] at this⟩) id)
 refine hk _ (ρ ++ ρ'.drop m.length) _ w' ⟨v,hs',hR,rfl⟩ (hr.put _ o.dst hd _ v' (Ext.append _ _) ?_ k1 (AV.R_turn k2 hv)) (Ext.append _ _) ⟨hH'.fr.size,fun k hk => hH'.fr.block k hk ?_⟩
 ·unfold cG
  rw [List.length_append,List.length_append,dh,hr.len]
  simp [bS,hl']
 ·rintro ⟨j,b,sl,q1,q2,_,_⟩
  have:=List.all_eq_true.1 hro _ (List.mem_of_getElem? q1)
  simp [q2] at this
end
end Go.Proofs.YtgehbhkfehmdkaaGreat.Sh
