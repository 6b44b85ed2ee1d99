/- Symbolic memory: calls. No condition. -/
import Derived.Test.YtgehbhkfehmdkaaGreatKUShB
set_option linter.unusedVariables false
namespace Go.Proofs.YtgehbhkfehmdkaaGreat.Sh
section
open Go.RowKit Go.Proofs.YtgehbhkfehmdkaaGreatW
def fnd (i:Nat):List Nat → AH → AH → Option (Option AO)
 | k :: m,some b :: hs,x :: hs' => match Nat.beq k i && b.own with
   | true => some x
   | false => fnd i m hs hs'
 | _,_,_ => none
def qr (f:Nat → Nat) (m:List Nat) (hs hs':AH):Nat → AH → AH
 | _,[] => []
 | i,x :: h => (match fnd i m hs hs' with
   | some y => y.map (AO.ren f)
   | none => x) :: qr f m hs hs' (i + 1) h
def dj (f:Nat → Nat) (m:List Nat) (hs hs' h:AH):AH:=qr f m hs hs' 0 h ++ cx f (hs'.drop m.length)
theorem ez (f:Nat → Nat) (m:List Nat) (hs hs':AH):∀ (h:AH) (i:Nat),(qr f m hs hs' i h).length = h.length
 | [],_ => rfl
 | x :: h,i => by simp [qr,ez f m hs hs' h (i + 1)]
theorem u6 (f:Nat → Nat) (m:List Nat) (hs hs':AH):∀ (h:AH) (i k:Nat),(qr f m hs hs' i h)[k]? = (h[k]?).map (fun x => match fnd (i + k) m hs hs' with | some y => y.map (AO.ren f) | none => x)
 | [],_,_ => by simp [qr]
 | x :: h,i,0 => by simp [qr]
 | x :: h,i,k + 1 => by
   have:=u6 f m hs hs' h (i + 1) k
   rw [show i + 1 + k = i + (k + 1) from by omega] at this
   simpa [qr] using this
theorem sW {i:Nat}:∀ {m:List Nat} {hs hs':AH} {x:Option AO},fnd i m hs hs' = some x → ∃ (j:Nat) (b:AO),m[j]? = some i ∧ hs[j]? = some (some b) ∧ b.own = true ∧ hs'[j]? = some x
 | k :: m,some b :: hs,y :: hs',x,h => by
   unfold fnd at h
   split at h
   ·rename_i hb
    simp only [Bool.and_eq_true] at hb
    have:k = i:=Nat.eq_of_beq_eq_true hb.1
    subst this
    cases h
    exact ⟨0,b,rfl,rfl,hb.2,rfl⟩
   ·obtain ⟨j,b',h1,h2,h3,h4⟩:=sW h
    exact ⟨j + 1,b',by simpa using h1,by simpa using h2,h3,by simpa using h4⟩
theorem mj {i:Nat}:∀ {m:List Nat} {hs hs':AH},hs.all (·.isSome) = true → m.length = hs.length → hs.length ≤ hs'.length → fnd i m hs hs' = none → ∀ {j:Nat} {b:AO},m[j]? = some i → hs[j]? = some (some b) → b.own = true → False
 | k :: m,some b :: hs,y :: hs',ha,h1,h2,h,j,b',hj,hb,hown => by
   unfold fnd at h
   split at h
   ·cases h
   ·rename_i hbq
    cases j with
    | zero =>
      have e1:k = i:=by simpa using hj
      have e2:b = b':=by simpa using hb
      subst e1;subst e2
      rw [Nat.beq_refl,hown] at hbq
      cases hbq
    | succ j => exact mj (by simpa using ha) (by simpa using h1) (by simpa using h2) h (by simpa using hj) (by simpa using hb) hown
 | k :: m,none :: hs,_,ha,_,_,_,j,b',hj,hb,hown => by simp at ha
 | [],_,_,_,_,_,_,j,b',hj,_,_ => by simp at hj
 | k :: m,[],_,_,h1,_,_,j,b',_,hb,_ => by simp at hb
 | k :: m,some b :: hs,[],_,_,h2,_,j,b',_,_,_ => by simp at h2
structure Pass (h:AH) (m:List Nat) (hs:AH):Prop where
 all:hs.all (·.isSome) = true
 len:hs.length = m.length
 lt:m.all (fun i => Nat.blt i h.length) = true
 nodup:ndO m hs = true
 h:cx (mf m h.length) hs = cm hs (bP m h)
theorem AM {m:List Nat} {n j i:Nat} (h:m[j]? = some i):mf m n j = i:=by simp [mf,h]
theorem AL {m:List Nat} {n j:Nat} (h:m.length ≤ j):mf m n j = n + (j - m.length):=by simp [mf,List.getElem?_eq_none h]
theorem Pass.own {h:AH} {m:List Nat} {hs:AH} (p:Pass h m hs) {ρ:Pl} (hl:ρ.length = h.length) {Γ:Ctx} {w:World} (hH:Holds Γ ρ h w) {g:Nat} (hg:qh (cj m ρ) hs g) :
  ∃ (j i:Nat) (b oo:AO) (sl:Slot),m[j]? = some i ∧ hs[j]? = some (some b) ∧ b.own = true ∧ h[i]? = some (some oo) ∧ oo.own = true ∧ ρ[i]? = some sl ∧ sl.blk = some g:=by
 obtain ⟨j,b,sl,h1,h2,h3,h4⟩:=hg
 obtain ⟨i,oo,hi,hoo,e⟩:=gl p.h h1
 obtain ⟨sl1,h5,h6⟩:=hH.obj i oo hoo
 have:sl1 = sl:=by rw [cK hi h5] at h3;exact Option.some.inj h3
 subst this
 refine ⟨j,i,b,oo,sl1,hi,h1,h2,hoo,?_,h5,h4⟩
 have h7:b.own = (oo.own && b.own):=congrArg AO.own e
 rw [h2] at h7
 simpa using h7.symm
theorem Pass.merge {Γ:Ctx} {ρ:Pl} {h:AH} {w w':World} {m:List Nat} {hs hs':AH} {ρ':Pl} {fz:Nat → Prop} (hF:Frz Γ ρ h w fz) (p:Pass h m hs) (hl:ρ.length = h.length) (hH:Holds Γ ρ h w)
  (hc:Holds ⟨w,qh (cj m ρ) hs,cj m ρ,fz⟩ ρ' hs' w') (hl':ρ'.length = hs'.length) (he:Ext (cj m ρ) ρ') (hnew:((∀ (o:Nat) ob,hs.length ≤ o → hs'[o]? = some (some ob) → ob.own = true ∧ ob.el.isD = false) ∧ ∀ (j:Nat) b x,hs[j]? = some (some b) → b.own = true → hs'[j]? = some (some x) → x.el.isD = false) ∨ ∀ (j i:Nat) (b oo:AO),m[j]? = some i → hs[j]? = some (some b) → b.own = false → h[i]? = some (some oo) → oo.own = false) :
  Holds Γ (ρ ++ ρ'.drop m.length) (dj (mf m h.length) m hs hs' h) w' ∧ s6 (mf m h.length) ρ' (ρ ++ ρ'.drop m.length):=by
 have hlm:(cj m ρ).length = m.length:=by simp [cj]
 have hle:m.length ≤ hs'.length:=by
  rw [← hl',← hlm]
  rcases Nat.lt_or_ge ρ'.length (cj m ρ).length with hlt | hge
  ·have:=he ρ'.length _ (List.getElem?_eq_getElem hlt)
   simp at this
  ·exact hge
 have hT:s6 (mf m h.length) ρ' (ρ ++ ρ'.drop m.length):=fun o sl ho => by
  rcases Nat.lt_or_ge o m.length with hlt | hge
  ·have hmo:m[o]? = some m[o]:=List.getElem?_eq_getElem hlt
   rw [AM hmo]
   have h1:m[o] < h.length:=Nat.blt_eq.mp (List.all_eq_true.1 p.lt _ (List.getElem_mem hlt))
   have h2:ρ[m[o]]? = some ρ[m[o]]:=List.getElem?_eq_getElem (by omega)
   have h3:=he o _ (cK hmo h2)
   rw [h3] at ho
   rw [List.getElem?_append_left (by omega),h2]
   exact ho
  ·rw [AL hge,List.getElem?_append_right (by omega),List.getElem?_drop,show m.length + (h.length + (o - m.length) - ρ.length) = o from by omega]
   exact ho
 have hOwn:=fun {g:Nat} => p.own hl hH (g:=g)
 -- an object that the callee may not write stands
 have hold:∀ {i:Nat} {oo:AO} {sl:Slot},h[i]? = some (some oo) → fnd i m hs hs' = none → ρ[i]? = some sl → ∀ {g:Nat},sl.blk = some g → g < w.heap.size ∧ ¬ qh (cj m ρ) hs g:=by
  intro i oo sl hi hf hs1 g hg
  obtain ⟨sl1,h1,h2⟩:=hH.obj i oo hi
  have:sl1 = sl:=by rw [h1] at hs1;exact Option.some.inj hs1
  subst this
  refine ⟨h2.blk_lt hg,fun hb => ?_⟩
  obtain ⟨j,i',b,oo',sl',k1,k2,k3,k4,k5,k6,k7⟩:=hOwn hb
  by_cases e:i = i'
  ·subst e
   exact mj p.all p.len.symm (by rw [p.len];exact hle) hf k1 k2 k3
  ·exact (hH.sep i' oo' sl' g k4 k5 k6 k7).2 i oo sl1 hi e h1 hg
 have hfr:∀ {i:Nat} {oo:AO} {sl:Slot},h[i]? = some (some oo) → fnd i m hs hs' = none → ρ[i]? = some sl → ∀ k,sl.blk = some k → w'.heap[k]? = w.heap[k]?:=by
  intro i oo sl hi hf hs1 k hk
  obtain ⟨h1,h2⟩:=hold hi hf hs1 hk
  exact hc.fr.block k h1 h2
 -- what a number of the merged objects is
 have hwhat:∀ {i:Nat} {ob:AO},(dj (mf m h.length) m hs hs' h)[i]? = some (some ob) →
   (∃ (j:Nat) (ob0:AO),mf m h.length j = i ∧ hs'[j]? = some (some ob0) ∧ ob = ob0.ren (mf m h.length) ∧ (j < m.length → ∃ b,hs[j]? = some (some b) ∧ b.own = true ∧ m[j]? = some i)) ∨
   (h[i]? = some (some ob) ∧ fnd i m hs hs' = none):=by
  intro i ob hi
  unfold dj at hi
  rcases Nat.lt_or_ge i h.length with hlt | hge
  ·rw [List.getElem?_append_left (by rw [ez];exact hlt),u6,Nat.zero_add] at hi
   obtain ⟨x,hx,hi⟩:=Option.map_eq_some_iff.1 hi
   cases hf:fnd i m hs hs' with
   | none =>
     rw [hf] at hi
     have hi:x = some ob:=hi
     subst hi
     exact .inr ⟨hx,rfl⟩
   | some y =>
     rw [hf] at hi
     have hi:y.map (AO.ren (mf m h.length)) = some ob:=hi
     obtain ⟨ob0,rfl,rfl⟩:=Option.map_eq_some_iff.1 hi
     obtain ⟨j,b,h1,h2,h3,h4⟩:=sW hf
     have hj:j < m.length:=(List.getElem?_eq_some_iff.1 h1).1
     exact .inl ⟨j,ob0,AM h1,h4,rfl,fun _ => ⟨b,h2,h3,h1⟩⟩
  ·rw [List.getElem?_append_right (by rw [ez];exact hge),ez] at hi
   unfold cx at hi
   rw [List.getElem?_map,List.getElem?_drop] at hi
   obtain ⟨x,hx,hi⟩:=Option.map_eq_some_iff.1 hi
   obtain ⟨ob0,rfl,rfl⟩:=Option.map_eq_some_iff.1 hi
   exact .inl ⟨m.length + (i - h.length),ob0,by rw [AL (by omega)];omega,hx,rfl,fun hlt => by omega⟩
 refine ⟨⟨⟨hc.fr.os.trans hH.fr.os,hc.fr.tape.trans hH.fr.tape,hc.fr.output.trans hH.fr.output,Nat.le_trans hH.fr.size hc.fr.size,fun k hk hn => ?_⟩,fun i ob hi => ?_,fun i ob sl g hi hown hs1 hg => ?_,fun i ob sl g hi hs1 hg => ?_,?_⟩,hT⟩
 ·refine (hc.fr.block k (Nat.lt_of_lt_of_le hk hH.fr.size) (fun hb => ?_)).trans (hH.fr.block k hk hn)
  obtain ⟨j,i',b,oo',sl',k1,k2,k3,k4,k5,k6,k7⟩:=hOwn hb
  rcases (hH.sep i' oo' sl' k k4 k5 k6 k7).1 with h1 | h1
  ·exact hn h1
  ·omega
 ·rcases hwhat hi with ⟨j,ob0,h1,h2,rfl,h3⟩ | ⟨h1,h2⟩
  ·obtain ⟨sl,k1,k2⟩:=hc.obj j ob0 h2
   exact ⟨sl,by rw [← h1];exact hT j sl k1,k2.turn hT⟩
  ·obtain ⟨sl,k1,k2⟩:=hH.obj i ob h1
   exact ⟨sl,Ext.append _ _ i sl k1,(k2.move hc.fr.size (hfr h1 h2 k1)).ext (Ext.append _ _)⟩
 ·-- blocks of the callee's own are others than those that stand
  have hA:∀ {j:Nat} {ob0:AO} {sl:Slot} {g:Nat},hs'[j]? = some (some ob0) → ob0.own = true → ρ'[j]? = some sl → sl.blk = some g → ∀ {i':Nat} {oo':AO} {sl':Slot},h[i']? = some (some oo') → fnd i' m hs hs' = none → ρ[i']? = some sl' → sl'.blk ≠ some g:=by
   intro j ob0 sl g h1 h2 h3 h4 i' oo' sl' k1 k2 k3 k4
   obtain ⟨q1,q2⟩:=hold k1 k2 k3 k4
   rcases (hc.sep j ob0 sl g h1 h2 h3 h4).1 with r | r
   ·exact q2 r
   ·exact absurd q1 (by have:w.heap.size ≤ g:=r;omega)
  rcases hwhat hi with ⟨j,ob0,h1,h2,rfl,h3⟩ | ⟨h1,h2⟩
  ·obtain ⟨sl0,k1,k2⟩:=hc.obj j ob0 h2
   have:sl0 = sl:=by
    have:=hT j sl0 k1
    rw [h1,hs1] at this
    exact (Option.some.inj this).symm
   subst this
   have hown0:ob0.own = true:=hown
   obtain ⟨k3,k4⟩:=hc.sep j ob0 sl0 g h2 hown0 k1 hg
   refine ⟨?_,fun i' ob' sl' hi' hne hs' => ?_⟩
   ·rcases k3 with r | r
    ·obtain ⟨j',i',b,oo',sl',q1,q2,q3,q4,q5,q6,q7⟩:=hOwn r
     exact (hH.sep i' oo' sl' g q4 q5 q6 q7).1
    ·have r:w.heap.size ≤ g:=r
     exact .inr (Nat.le_trans hH.fr.size r)
   ·rcases hwhat hi' with ⟨j',ob0',q1,q2,rfl,_⟩ | ⟨q1,q2⟩
    ·obtain ⟨sl2,r1,r2⟩:=hc.obj j' ob0' q2
     have:sl2 = sl':=by
      have:=hT j' sl2 r1
      rw [q1,hs'] at this
      exact (Option.some.inj this).symm
     subst this
     exact k4 j' ob0' sl2 q2 (fun e => hne (by rw [← q1,← h1,e])) r1
    ·obtain ⟨sl2,r1,r2⟩:=hH.obj i' ob' q1
     have:sl2 = sl':=by
      have:=Ext.append ρ (ρ'.drop m.length) i' sl2 r1
      rw [hs'] at this
      exact (Option.some.inj this).symm
     subst this
     exact hA h2 hown0 k1 hg q1 q2 r1
  ·obtain ⟨sl0,k1,k2⟩:=hH.obj i ob h1
   have:sl0 = sl:=by
    have:=Ext.append ρ (ρ'.drop m.length) i sl0 k1
    rw [hs1] at this
    exact (Option.some.inj this).symm
   subst this
   obtain ⟨k3,k4⟩:=hH.sep i ob sl0 g h1 hown k1 hg
   refine ⟨k3,fun i' ob' sl' hi' hne hs' => ?_⟩
   rcases hwhat hi' with ⟨j',ob0',q1,q2,rfl,q3⟩ | ⟨q1,q2⟩
   ·obtain ⟨sl2,r1,r2⟩:=hc.obj j' ob0' q2
    have:sl2 = sl':=by
     have:=hT j' sl2 r1
     rw [q1,hs'] at this
     exact (Option.some.inj this).symm
    subst this
    rcases Nat.lt_or_ge j' m.length with hlt | hge
    ·obtain ⟨b,s1,s2,s3⟩:=q3 hlt
     obtain ⟨i2,oo,t1,t2,_⟩:=gl p.h s1
     have:i2 = i':=by rw [t1] at s3;exact Option.some.inj s3
     subst this
     obtain ⟨sl3,t3,_⟩:=hH.obj i2 oo t2
     have:sl3 = sl2:=by
      have:=Ext.append ρ (ρ'.drop m.length) i2 sl3 t3
      rw [hs'] at this
      exact (Option.some.inj this).symm
     subst this
     exact k4 i2 oo sl3 t2 hne t3
    ·rcases hnew with hnew | hro
     ·exact fun hgg => hA q2 (hnew.1 j' ob0' (by rw [p.len];exact hge) q2).1 r1 hgg h1 h2 k1 hg
     ·intro hgg
      obtain ⟨s1,s2⟩:=hold h1 h2 k1 hg
      rcases hc.src j' ob0' sl2 g q2 r1 hgg with ⟨o0,s0,t1,t2⟩ | t1
      ·have t1:(cj m ρ)[o0]? = some s0:=t1
       have hlt0:o0 < m.length:=by rw [← hlm];exact (List.getElem?_eq_some_iff.1 t1).1
       have hmo:m[o0]? = some m[o0]:=List.getElem?_eq_getElem hlt0
       obtain ⟨b0,hb0⟩:∃ b0,hs[o0]? = some (some b0):=by
        have hl0:o0 < hs.length:=by rw [p.len];exact hlt0
        have:=List.all_eq_true.1 p.all _ (List.getElem_mem hl0)
        obtain ⟨b0,hb0⟩:=Option.isSome_iff_exists.1 this
        exact ⟨b0,by rw [List.getElem?_eq_getElem hl0,hb0]⟩
       obtain ⟨i2,oo,u1,u2,u3⟩:=gl p.h hb0
       obtain ⟨sl3,u4,_⟩:=hH.obj i2 oo u2
       have hs0:s0 = sl3:=by rw [cK u1 u4] at t1;exact (Option.some.inj t1).symm
       subst hs0
       by_cases e:i2 = i
       ·subst e
        cases hbo:b0.own with
        | true => exact mj p.all p.len.symm (by rw [p.len];exact hle) h2 u1 hb0 hbo
        | false =>
          have:=hro o0 i2 b0 oo u1 hb0 hbo u2
          rw [h1] at u2
          cases u2
          rw [hown] at this
          cases this
       ·exact k4 i2 oo s0 u2 e u4 t2
      ·rcases t1 with t1 | t1
       ·have t1:w.heap.size ≤ g:=t1
        omega
       ·exact hF.sep i ob sl0 g h1 hown k1 hg t1
   ·obtain ⟨sl2,r1,r2⟩:=hH.obj i' ob' q1
    have:sl2 = sl':=by
     have:=Ext.append ρ (ρ'.drop m.length) i' sl2 r1
     rw [hs'] at this
     exact (Option.some.inj this).symm
    subst this
    exact k4 i' ob' sl2 q1 hne r1
 ·rcases hwhat hi with ⟨j,ob0,h1,h2,rfl,h3⟩ | ⟨h1,h2⟩
  ·obtain ⟨sl0,k1,k2⟩:=hc.obj j ob0 h2
   have:sl0 = sl:=by
    have:=hT j sl0 k1
    rw [h1,hs1] at this
    exact (Option.some.inj this).symm
   subst this
   rcases hc.src j ob0 sl0 g h2 k1 hg with ⟨o0,s0,t1,t2⟩ | t1
   ·have t1:(cj m ρ)[o0]? = some s0:=t1
    have hlt0:o0 < m.length:=by rw [← hlm];exact (List.getElem?_eq_some_iff.1 t1).1
    obtain ⟨b0,hb0⟩:∃ b0,hs[o0]? = some (some b0):=by
     have hl0:o0 < hs.length:=by rw [p.len];exact hlt0
     have:=List.all_eq_true.1 p.all _ (List.getElem_mem hl0)
     obtain ⟨b0,hb0⟩:=Option.isSome_iff_exists.1 this
     exact ⟨b0,by rw [List.getElem?_eq_getElem hl0,hb0]⟩
    obtain ⟨i2,oo,u1,u2,u3⟩:=gl p.h hb0
    obtain ⟨sl3,u4,_⟩:=hH.obj i2 oo u2
    have hs0:s0 = sl3:=by rw [cK u1 u4] at t1;exact (Option.some.inj t1).symm
    subst hs0
    exact hH.src i2 oo s0 g u2 u4 t2
   ·rcases t1 with t1 | t1
    ·have t1:w.heap.size ≤ g:=t1
     exact .inr (.inl (Nat.le_trans hH.fr.size t1))
    ·exact hF.src g t1
  ·obtain ⟨sl0,k1,k2⟩:=hH.obj i ob h1
   have:sl0 = sl:=by
    have:=Ext.append ρ (ρ'.drop m.length) i sl0 k1
    rw [hs1] at this
    exact (Option.some.inj this).symm
   subst this
   exact hH.src i ob sl0 g h1 k1 hg
 ·-- what nobody writes
  have hst:∀ g,fz g → w'.heap[g]? = w.heap[g]?:=fun g hg => hc.fr.block g (hF.lt g hg) (fun hb => by
   obtain ⟨j,i',b,oo',sl',k1,k2,k3,k4,k5,k6,k7⟩:=hOwn hb
   exact hF.sep i' oo' sl' g k4 k5 k6 k7 hg)
  -- an own object's block is none of the caller's frozen ones
  have hsp:∀ {i:Nat} {ob:AO} {sl:Slot} {g:Nat},(dj (mf m h.length) m hs hs' h)[i]? = some (some ob) → ob.own = true → (ρ ++ ρ'.drop m.length)[i]? = some sl → sl.blk = some g → ¬ fz g:=by
   intro i ob sl g hi hown hs1 hg hfz
   rcases hwhat hi with ⟨j,ob0,h1,h2,rfl,h3⟩ | ⟨h1,h2⟩
   ·obtain ⟨sl0,k1,k2⟩:=hc.obj j ob0 h2
    have:sl0 = sl:=by
     have:=hT j sl0 k1
     rw [h1,hs1] at this
     exact (Option.some.inj this).symm
    subst this
    rcases (hc.sep j ob0 sl0 g h2 hown k1 hg).1 with r | r
    ·obtain ⟨j',i',b,oo',sl',q1,q2,q3,q4,q5,q6,q7⟩:=hOwn r
     exact hF.sep i' oo' sl' g q4 q5 q6 q7 hfz
    ·have r:w.heap.size ≤ g:=r
     have:=hF.lt g hfz
     omega
   ·obtain ⟨sl0,k1,k2⟩:=hH.obj i ob h1
    have:sl0 = sl:=by
     have:=Ext.append ρ (ρ'.drop m.length) i sl0 k1
     rw [hs1] at this
     exact (Option.some.inj this).symm
    subst this
    exact hF.sep i ob sl0 g h1 hown k1 hg hfz
  rcases hnew with ⟨hn1,hn2⟩ | hro
  ·refine ⟨fz,hF.base,fun g hg => Nat.lt_of_lt_of_le (hF.lt g hg) hc.fr.size,hF.src,fun o ob sl g ho hown hs1 hg => hsp ho hown hs1 hg,fun o own ty sz xs ho => ?_⟩
   rcases hwhat ho with ⟨j,ob0,h1,h2,e,h3⟩ | ⟨h1,h2⟩
   ·exfalso
    have h4:ob0.el.isD = false:=by
     rcases Nat.lt_or_ge j m.length with hlt | hge
     ·obtain ⟨b,s1,s2,s3⟩:=h3 hlt
      exact hn2 j b ob0 s1 s2 h2
     ·exact (hn1 j ob0 (by rw [p.len];exact hge) h2).2
    have h5:El.dp xs = ob0.el.ren (mf m h.length):=congrArg AO.el e
    cases hel:ob0.el with
    | fl _ => rw [hel] at h5;cases h5
    | mx _ => rw [hel] at h5;cases h5
    | dp _ => rw [hel] at h4;cases h4
   ·exact (hF.deep o own ty sz xs h1).move hc.fr.size (fun _ q => q) hst
  ·obtain ⟨fz',_,f1,f2,f3,f4⟩:=hc.dp
   refine ⟨fun g => fz g ∨ fz' g,fun g hg => .inl (hF.base g hg),fun g hg => ?_,fun g hg => ?_,fun i ob sl g hi hown hs1 hg hfg => ?_,fun o own ty sz xs ho => ?_⟩
   ·rcases hg with hg | hg
    ·exact Nat.lt_of_lt_of_le (hF.lt g hg) hc.fr.size
    ·exact f1 g hg
   ·rcases hg with hg | hg
    ·exact hF.src g hg
    ·rcases f2 g hg with ⟨o0,s0,t1,t2⟩ | t1 | t1
     ·have t1:(cj m ρ)[o0]? = some s0:=t1
      have hlt0:o0 < m.length:=by rw [← hlm];exact (List.getElem?_eq_some_iff.1 t1).1
      obtain ⟨b0,hb0⟩:∃ b0,hs[o0]? = some (some b0):=by
       have hl0:o0 < hs.length:=by rw [p.len];exact hlt0
       have:=List.all_eq_true.1 p.all _ (List.getElem_mem hl0)
       obtain ⟨b0,hb0⟩:=Option.isSome_iff_exists.1 this
       exact ⟨b0,by rw [List.getElem?_eq_getElem hl0,hb0]⟩
      obtain ⟨i2,oo,u1,u2,u3⟩:=gl p.h hb0
      obtain ⟨sl3,u4,_⟩:=hH.obj i2 oo u2
      have hs0:s0 = sl3:=by rw [cK u1 u4] at t1;exact (Option.some.inj t1).symm
      subst hs0
      exact hH.src i2 oo s0 g u2 u4 t2
     ·have t1:w.heap.size ≤ g:=t1
      exact .inr (.inl (Nat.le_trans hH.fr.size t1))
     ·exact hF.src g t1
   ·rcases hfg with hfg | hfg
    ·exact hsp hi hown hs1 hg hfg
    ·rcases hwhat hi with ⟨j,ob0,h1,h2,rfl,h3⟩ | ⟨h1,h2⟩
     ·obtain ⟨sl0,k1,k2⟩:=hc.obj j ob0 h2
      have:sl0 = sl:=by
       have:=hT j sl0 k1
       rw [h1,hs1] at this
       exact (Option.some.inj this).symm
      subst this
      exact f3 j ob0 sl0 g h2 hown k1 hg hfg
     ·obtain ⟨sl0,k1,k2⟩:=hH.obj i ob h1
      have:sl0 = sl:=by
       have:=Ext.append ρ (ρ'.drop m.length) i sl0 k1
       rw [hs1] at this
       exact (Option.some.inj this).symm
      subst this
      rcases f2 g hfg with ⟨o0,s0,t1,t2⟩ | t1 | t1
      ·have t1:(cj m ρ)[o0]? = some s0:=t1
       have hlt0:o0 < m.length:=by rw [← hlm];exact (List.getElem?_eq_some_iff.1 t1).1
       obtain ⟨b0,hb0⟩:∃ b0,hs[o0]? = some (some b0):=by
        have hl0:o0 < hs.length:=by rw [p.len];exact hlt0
        have:=List.all_eq_true.1 p.all _ (List.getElem_mem hl0)
        obtain ⟨b0,hb0⟩:=Option.isSome_iff_exists.1 this
        exact ⟨b0,by rw [List.getElem?_eq_getElem hl0,hb0]⟩
       obtain ⟨i2,oo,u1,u2,u3⟩:=gl p.h hb0
       obtain ⟨sl3,u4,_⟩:=hH.obj i2 oo u2
       have hs0:s0 = sl3:=by rw [cK u1 u4] at t1;exact (Option.some.inj t1).symm
       subst hs0
       by_cases e:i2 = i
       ·subst e
        cases hbo:b0.own with
        | true => exact mj p.all p.len.symm (by rw [p.len];exact hle) h2 u1 hb0 hbo
        | false =>
          have:=hro o0 i2 b0 oo u1 hb0 hbo u2
          rw [h1] at u2
          cases u2
          rw [hown] at this
          cases this
       ·exact (hH.sep i ob sl0 g h1 hown k1 hg).2 i2 oo s0 u2 e u4 t2
      ·have t1:w.heap.size ≤ g:=t1
       have:=k2.blk_lt hg
       omega
      ·exact hsp hi hown hs1 hg t1
   ·rcases hwhat ho with ⟨j,ob0,h1,h2,e,h3⟩ | ⟨h1,h2⟩
    ·obtain ⟨own2,ty2,sz2,el2⟩:=ob0
     have h5:El.dp xs = el2.ren (mf m h.length):=congrArg AO.el e
     have h6:sz = sz2:=congrArg AO.sz e
     subst h6
     cases el2 with
     | fl _ => cases h5
     | mx _ => cases h5
     | dp ys =>
       cases h5
       exact (f4 j own2 ty2 _ _ h2).move (Nat.le_refl _) (fun _ q => .inr q) (fun _ _ => rfl)
    ·exact (hF.deep o own ty sz xs h1).move hc.fr.size (fun _ q => .inl q) hst
def vwT (i:Nat):List Nat → AH → Bool
 | j :: m,x :: hs => (Nat.beq j i && !owB x) || vwT i m hs
 | _,_ => false
def vwG (m:List Nat) (hs:AH):Nat → AH → AH
 | _,[] => []
 | i,x :: r => (match vwT i m hs with
   | true => x.map (AO.view false)
   | false => x) :: vwG m hs (i + 1) r
def vwH (m:List Nat) (hs h:AH):AH:=vwG m hs 0 h
theorem uZ (m:List Nat) (hs:AH):∀ (h:AH) (i j:Nat),(vwG m hs i h)[j]? = (h[j]?).map (fun x => match vwT (i + j) m hs with | true => x.map (AO.view false) | false => x)
 | [],i,j => by simp [vwG]
 | x :: h,i,0 => by simp [vwG]
 | x :: h,i,j + 1 => by
   have:=uZ m hs h (i + 1) j
   rw [show i + 1 + j = i + (j + 1) from by omega] at this
   simpa [vwG] using this
theorem nG (m:List Nat) (hs:AH):∀ (h:AH) (i:Nat),(vwG m hs i h).length = h.length
 | [],_ => rfl
 | x :: h,i => by simp [vwG,nG m hs h (i + 1)]
theorem zf {m:List Nat} {hs h:AH} {i:Nat} {ob:AO} (hi:(vwH m hs h)[i]? = some (some ob)):∃ oo b,h[i]? = some (some oo) ∧ ob = oo.view b:=by
 unfold vwH at hi
 rw [uZ] at hi
 obtain ⟨x,hx,hi⟩:=Option.map_eq_some_iff.1 hi
 split at hi
 ·obtain ⟨oo,rfl,rfl⟩:=Option.map_eq_some_iff.1 hi
  exact ⟨oo,false,hx,rfl⟩
 ·subst hi
  exact ⟨ob,true,hx,by simp [AO.view]⟩
theorem Holds.view {Γ:Ctx} {ρ:Pl} {h h':AH} {w:World} (hH:Holds Γ ρ h w) (hv:∀ (i:Nat) ob,h'[i]? = some (some ob) → ∃ oo b,h[i]? = some (some oo) ∧ ob = oo.view b):Holds Γ ρ h' w:=by
 refine ⟨hH.fr,fun o ob ho => ?_,fun o ob sl g ho hown hs hg => ?_,fun o ob sl g ho hs hg => ?_,?_⟩
 ·obtain ⟨oo,b,h1,rfl⟩:=hv o ob ho
  obtain ⟨sl,h2,h3⟩:=hH.obj o oo h1
  exact ⟨sl,h2,h3.view b⟩
 ·obtain ⟨oo,b,h1,rfl⟩:=hv o ob ho
  have h2:oo.own = true:=by
   have:(oo.own && b) = true:=hown
   simp at this
   exact this.1
  obtain ⟨h3,h4⟩:=hH.sep o oo sl g h1 h2 hs hg
  refine ⟨h3,fun o' ob' sl' ho' hne hs' => ?_⟩
  obtain ⟨oo',b',h5,_⟩:=hv o' ob' ho'
  exact h4 o' oo' sl' h5 hne hs'
 ·obtain ⟨oo,b,h1,rfl⟩:=hv o ob ho
  exact hH.src o oo sl g h1 hs hg
 ·obtain ⟨fz,f0,f1,f2,f3,f4⟩:=hH.dp
  refine ⟨fz,f0,f1,f2,fun o ob sl g ho hown hs hg => ?_,fun o own ty sz xs ho => ?_⟩
  ·obtain ⟨oo,b,h1,rfl⟩:=hv o ob ho
   have h2:oo.own = true:=by
    have:(oo.own && b) = true:=hown
    simp at this
    exact this.1
   exact f3 o oo sl g h1 h2 hs hg
  ·obtain ⟨oo,b,h1,e⟩:=hv o _ ho
   obtain ⟨own2,ty2,sz2,el2⟩:=oo
   have e1:El.dp xs = el2:=congrArg AO.el e
   have e2:sz = sz2:=congrArg AO.sz e
   subst e1;subst e2
   exact f4 o _ _ _ _ h1
theorem Rel.view {Γ:Ctx} {ρ:Pl} {st:St} {a:Act} {w:World} {h':AH} (hr:Rel Γ ρ st a w) (hl:h'.length = st.h.length) (hv:∀ (i:Nat) ob,h'[i]? = some (some ob) → ∃ oo b,st.h[i]? = some (some oo) ∧ ob = oo.view b):Rel Γ ρ { st with h:=h' } a w :=
 ⟨hr.holds.view hv,by rw [hr.len,hl],hr.klen,hr.args,hr.env,hr.defers,hr.size⟩
theorem lL {st:St} {h':AH} (hl:h'.length = st.h.length) (hv:∀ (i:Nat) ob,h'[i]? = some (some ob) → ∃ oo b,st.h[i]? = some (some oo) ∧ ob = oo.view b):Ghost st { st with h:=h' }:=fun Γ ρ a w hr => ⟨ρ,Ext.refl _,hr.view hl hv⟩
theorem zg {i:Nat} {b:AO} (ho:b.own = false):∀ {m:List Nat} {hs:AH} {j:Nat},m[j]? = some i → hs[j]? = some (some b) → vwT i m hs = true
 | [],_,j,h1,_ => by simp at h1
 | _ :: _,[],j,_,h2 => by simp at h2
 | k :: m,x :: hs,0,h1,h2 => by
   have e1:k = i:=by simpa using h1
   have e2:x = some b:=by simpa using h2
   subst e1;subst e2
   simp [vwT,owB,ho]
 | k :: m,x :: hs,j + 1,h1,h2 => by
   simp only [vwT,Bool.or_eq_true]
   exact .inr (zg ho (by simpa using h1) (by simpa using h2))
theorem B5 {m:List Nat} {hs h:AH} {j i:Nat} {b oo:AO} (hj:m[j]? = some i) (hb:hs[j]? = some (some b)) (ho:b.own = false) (hi:(vwH m hs h)[i]? = some (some oo)):oo.own = false:=by
 unfold vwH at hi
 rw [uZ,Nat.zero_add,zg ho hj hb] at hi
 obtain ⟨x,hx,hi⟩:=Option.map_eq_some_iff.1 hi
 obtain ⟨oo',rfl,rfl⟩:=Option.map_eq_some_iff.1 hi
 simp [AO.view]
def owN:Option AO → Bool
 | some o => o.own && !o.el.isD
 | none => true
theorem vK {m:List Nat} {hs hs':AH} (hl:hs.length = m.length) (h:(hs'.drop m.length).all owN = true) {o:Nat} {ob:AO} (ho:hs.length ≤ o) (hob:hs'[o]? = some (some ob)):ob.own = true ∧ ob.el.isD = false:=by
 have h1:(hs'.drop m.length)[o - m.length]? = some (some ob):=by rw [List.getElem?_drop,show m.length + (o - m.length) = o from by omega];exact hob
 have h2:(ob.own && !ob.el.isD) = true:=List.all_eq_true.1 h _ (List.mem_of_getElem? h1)
 simpa using h2
def noD:Option AO → Bool
 | some o => !o.el.isD
 | none => true
theorem BE {hs:AH} (h:hs.all noD = true) {j:Nat} {x:AO} (hx:hs[j]? = some (some x)):x.el.isD = false:=by
 have h2:(!x.el.isD) = true:=List.all_eq_true.1 h _ (List.mem_of_getElem? hx)
 simpa using h2
def bK (p:Nat × Nat × Nat):AV:=.c (.ptr p.1 p.2.1 p.2.2)
def evs (env:List (Nat × AV)):List Operand → Option (List AV)
 | [] => some []
 | x :: xs => match ev env x,evs env xs with
   | some v,some vs => some (v :: vs)
   | _,_ => none
theorem xL {ρ:Pl} {env:List (Nat × AV)} {a:Act} (h:EnvR ρ env a.tmps):∀ {xs:List Operand} {vs:List AV},evs env xs = some vs → All2 (AV.R ρ) vs (xs.map a.eval)
 | [],vs,hx => by
   cases hx
   trivial
 | x :: xs,vs,hx => by
   unfold evs at hx
   split at hx
   ·rename_i v vs' h1 h2
    cases hx
    exact ⟨bq h h1,xL h h2⟩
   ·cases hx
def ga (P:Program) (f:FuncId):Prop:=∀ args w,(callFunc f args).run P w = .ok (.enter f args) w
theorem oR {P:Program} {f:FuncId} {fn:Func} (hf:P.funcs[f]? = some fn) (hname:(fn.name == "runtime.NumGoroutine") = false) (hb:fn.body.isSome = true):ga P f:=fun args w => PrintLast.enters_ hf hname hb args w
section
variable {P:Program} {o:Oper} {st:St}
theorem sJ {fo:Operand} {as:Array Operand} {ts:Array TypeId} (hop:o.op = .call { callee:=.value fo,args:=as,argTypes:=ts }) {f:FuncId} {caps:List (Nat × Nat × Nat)} (hf:ev st.env fo = some (.c (.fn f caps))) (hent:ga P f) {ρ:Pl} {a:Act} (he:EnvR ρ st.env a.tmps) (w:World) :
  ∃ cs:Array Value,All2 (fun p u => PtrR ρ p.1 p.2.1 p.2.2 u) caps cs.toList ∧ (execOp a.eval o).run P w = .ok (.enter f (as.map a.eval ++ cs)) w:=by
 obtain ⟨cs,h1,h2⟩:=bq he hf
 refine ⟨cs,h2,?_⟩
 unfold execOp
 simp [hop,resolve,Deferred.ofValue,invoke,h1,hent _ w]
theorem tp {fo:Operand} {as:Array Operand} {ts:Array TypeId} (hop:o.op = .call { callee:=.value fo,args:=as,argTypes:=ts }) (hd:st.fits o.dst = true) {f:FuncId} {caps:List (Nat × Nat × Nat)} (hf:ev st.env fo = some (.c (.fn f caps))) (hent:ga P f)
  {vals:List AV} (hev:evs st.env as.toList = some vals) {args:List AV} {hs:AH} {R:AV → AH → Prop} (hc:ACall P f args hs R) (m:List Nat) (hargs:args.map (AV.ren (mf m st.h.length)) = vals ++ caps.map bK) (hp:Pass st.h m hs) (hno:(∀ v hs',R v hs' → (hs'.drop m.length).all owN = true ∧ hs'.all noD = true) ∨ ∀ (j i:Nat) (b oo:AO),m[j]? = some i → hs[j]? = some (some b) → b.own = false → st.h[i]? = some (some oo) → oo.own = false) :
  OpW P o st (fun st' => ∃ v hs',R v hs' ∧ st' = ({ st with h:=dj (mf m st.h.length) m hs hs' st.h }:St).put o.dst (v.ren (mf m st.h.length))):=fun Γ ρ a w hr K' Q' hk => by
 obtain ⟨cs,h1,h2⟩:=sJ hop hf hent hr.env w
 unfold Oper.wp
 rw [h2,Oper.upon_enter]
 have hall:All2 (AV.R (cj m ρ)) args ((as.map a.eval ++ cs).toList):=by
  have h3:All2 (AV.R ρ) (vals ++ caps.map bK) ((as.map a.eval ++ cs).toList):=by
   rw [Array.toList_append,Array.toList_map]
   exact (xL hr.env hev).append (All2.to_map h1)
  rw [← hargs] at h3
  exact All2.imp (fun x y => AV.R_back (i8 hr.len)) (All2.of_map h3)
 have hH2:=Conv.holds hr.len hp.lt hp.nodup hp.h hr.holds
 obtain ⟨fz,hF⟩:=hr.holds.dp
 have hF2:=Conv.frz hr.len hp.h hr.holds hF
 have hH3:Holds ⟨w,qh (cj m ρ) hs,cj m ρ,fz⟩ (cj m ρ) hs w :=
  ⟨Fr.refl _ _,hH2.obj,fun o ob sl g h3 h4 h5 h6 => ⟨.inl ⟨o,ob,sl,h3,h4,h5,h6⟩,(hH2.sep o ob sl g h3 h4 h5 h6).2⟩,fun o ob sl g h3 h4 h5 => .inl ⟨o,sl,h4,h5⟩,fz,fun _ hg => hg,hF2.lt,fun g hg => .inr (.inr hg),hF2.sep,hF2.deep⟩
 have:=hc (cj m ρ) w fz _ (by rw [hp.len];simp [cj]) hH3 hall
 refine this.mono fun e w' hh => ?_
 obtain ⟨v,hs',v',ρ',hR,rfl,hv,hH',hl',he⟩:=hh
 obtain ⟨k1,k2⟩:=hp.merge (hF:=hF) hr.len hr.holds hH' hl' he (hno.imp (fun h => ⟨fun o ob ho hob => vK hp.len (h v hs' hR).1 ho hob,fun j b x _ _ hx => BE (h v hs' hR).2 hx⟩) id)
 refine hk _ (ρ ++ ρ'.drop m.length) _ w' ⟨v,hs',hR,rfl⟩ (hr.put _ o.dst hd _ v' (Ext.append _ _) ?_ k1 (AV.R_turn k2 hv))
 unfold dj
 rw [List.length_append,List.length_append,ez,hr.len]
 simp [cx,hl']
theorem yx {fo:Operand} {as:Array Operand} {ts:Array TypeId} (hop:o.op = .call { callee:=.value fo,args:=as,argTypes:=ts }) (hd:st.fits o.dst = true) {f:FuncId} {caps:List (Nat × Nat × Nat)} (hf:ev st.env fo = some (.c (.fn f caps))) (hent:ga P f)
  {vals:List AV} (hev:evs st.env as.toList = some vals) {args:List AV} {hs:AH} {R:AV → AH → Prop} (hc:ACall P f args hs R) (m:List Nat) (hargs:args.map (AV.ren (mf m st.h.length)) = vals ++ caps.map bK) (hp:Pass st.h m hs)
  (hro:hs.all (fun x => match x with | some o => !o.own | none => true) = true) (hno:(∀ v hs',R v hs' → (hs'.drop m.length).all owN = true) ∨ ∀ (j i:Nat) (b oo:AO),m[j]? = some i → hs[j]? = some (some b) → b.own = false → st.h[i]? = some (some oo) → oo.own = false) :
  OpQ P o st (fun st' => ∃ v hs',R v hs' ∧ st' = ({ st with h:=dj (mf m st.h.length) m hs hs' st.h }:St).put o.dst (v.ren (mf m st.h.length))):=fun Γ ρ a w hr K' Q' hk => by
 obtain ⟨cs,h1,h2⟩:=sJ hop hf hent hr.env w
 unfold Oper.wp
 rw [h2,Oper.upon_enter]
 have hall:All2 (AV.R (cj m ρ)) args ((as.map a.eval ++ cs).toList):=by
  have h3:All2 (AV.R ρ) (vals ++ caps.map bK) ((as.map a.eval ++ cs).toList):=by
   rw [Array.toList_append,Array.toList_map]
   exact (xL hr.env hev).append (All2.to_map h1)
  rw [← hargs] at h3
  exact All2.imp (fun x y => AV.R_back (i8 hr.len)) (All2.of_map h3)
 have hH2:=Conv.holds hr.len hp.lt hp.nodup hp.h hr.holds
 obtain ⟨fz,hF⟩:=hr.holds.dp
 have hF2:=Conv.frz hr.len hp.h hr.holds hF
 have hH3:Holds ⟨w,qh (cj m ρ) hs,cj m ρ,fz⟩ (cj m ρ) hs w :=
  ⟨Fr.refl _ _,hH2.obj,fun o ob sl g h3 h4 h5 h6 => ⟨.inl ⟨o,ob,sl,h3,h4,h5,h6⟩,(hH2.sep o ob sl g h3 h4 h5 h6).2⟩,fun o ob sl g h3 h4 h5 => .inl ⟨o,sl,h4,h5⟩,fz,fun _ hg => hg,hF2.lt,fun g hg => .inr (.inr hg),hF2.sep,hF2.deep⟩
 have:=hc (cj m ρ) w fz _ (by rw [hp.len];simp [cj]) hH3 hall
 refine this.mono fun e w' hh => ?_
 obtain ⟨v,hs',v',ρ',hR,rfl,hv,hH',hl',he⟩:=hh
 obtain ⟨k1,k2⟩:=hp.merge (hF:=hF) hr.len hr.holds hH' hl' he (hno.imp (fun h => ⟨fun o ob ho hob => vK hp.len (h v hs' hR) ho hob,fun j b x hb hb2 _ => by
  have:=List.all_eq_true.1 hro _ (List.mem_of_getElem? hb)
  simp [hb2] at this⟩) id)
 refine hk _ (ρ ++ ρ'.drop m.length) _ w' ⟨v,hs',hR,rfl⟩ (hr.put _ o.dst hd _ v' (Ext.append _ _) ?_ k1 (AV.R_turn k2 hv)) (Ext.append _ _) ⟨hH'.fr.size,fun k hk => hH'.fr.block k hk ?_⟩
 ·unfold dj
  rw [List.length_append,List.length_append,ez,hr.len]
  simp [cx,hl']
 ·rintro ⟨j,b,sl,q1,q2,_,_⟩
  have:=List.all_eq_true.1 hro _ (List.mem_of_getElem? q1)
  simp [q2] at this
end
end
section
open Go.RowKit Go.Proofs.YtgehbhkfehmdkaaGreatW
inductive TD where
 | other | bool | str
 | int (k:IntKind)
 | slice (e:TypeId)
 | struct (fs:List (Nat × TypeId))
structure TI where
 d:TD
 size:Nat
 bytes:Nat
 agg:Bool
 zero:List Value
abbrev TB:=List (TypeId × TI)
def tlk (t:TypeId):TB → Option TI
 | [] => none
 | (k,v) :: r => match Nat.beq k t with
  | true => some v
  | false => tlk t r
def TD.ok (P:Program) (t:TypeId):TD → Prop
 | .other => True
 | .bool => P.underlying t = some .bool
 | .str => P.underlying t = some .string
 | .int k => P.underlying t = some (.int k)
 | .slice e => P.underlying t = some (.slice e)
 | .struct fs => ∃ fields,P.underlying t = some (.struct fields) ∧ fields.toList.map (fun f => (f.offset,f.type)) = fs ∧ ∀ f ∈ fields.toList,∃ i,P.info? f.type = some i ∧ i.size ≠ 0
structure TI.Ok (P:Program) (t:TypeId) (ti:TI):Prop where
 d:ti.d.ok P t
 info:∃ i z,P.info? t = some i ∧ i.size = ti.size ∧ i.bytes = ti.bytes ∧ i.zero = some z ∧ z.cells.toList = ti.zero
 agg:∀ w,(isAgg t).run P w = .ok ti.agg w
 one:ti.zero.all (·.oneCell') = true
 zl:ti.zero.length = ti.size
def TOk (P:Program) (T:TB):Prop:=∀ t ti,tlk t T = some ti → ti.Ok P t
def vEq:Value → Value → Bool
 | .int k n,.int k' n' => decide (k = k') && decide (n = n')
 | .bool a,.bool b => a == b
 | .string a,.string b => decide (a = b)
 | .slice none 0 0,.slice none 0 0 => true
 | .pointer none,.pointer none => true
 | .nilFunc,.nilFunc => true
 | .nilIface,.nilIface => true
 | _,_ => false
theorem Cb:∀ {a b:Value},vEq a b = true → a = b:=by
 intro a b h
 unfold vEq at h
 split at h <;> simp_all
def x6:List Value → List Value → Bool
 | [],[] => true
 | a :: as,b :: bs => vEq a b && x6 as bs
 | _,_ => false
theorem wi:∀ {a b:List Value},x6 a b = true → a = b
 | [],[],_ => rfl
 | a :: as,b :: bs,h => by
   simp only [x6,Bool.and_eq_true] at h
   rw [Cb h.1,wi h.2]
 | [],_ :: _,h => by simp [x6] at h
 | _ :: _,[],h => by simp [x6] at h
def TD.okB (P:Program) (t:TypeId) (d:TD):Bool:=match d,P.underlying t with
 | .other,_ => true
 | .bool,some .bool => true
 | .str,some .string => true
 | .int k,some (.int k') => decide (k = k')
 | .slice e,some (.slice e') => Nat.beq e e'
 | .struct fs,some (.struct fields) => (fields.toList.map (fun f => (f.offset,f.type)) == fs) && fields.toList.all (fun f => match P.info? f.type with
   | some i => !Nat.beq i.size 0
   | none => false)
 | _,_ => false
def TI.okB (P:Program) (t:TypeId) (ti:TI):Bool:=(ti.zero.all (·.oneCell') && Nat.beq ti.zero.length ti.size && ti.d.okB P t) && (match P.info? t with
 | some i => Nat.beq i.size ti.size && Nat.beq i.bytes ti.bytes && (match i.zero with
   | some z => x6 z.cells.toList ti.zero
   | none => false)
 | none => false) && (match P.underlying t with
 | some (.struct _) | some (.array _ _) => ti.agg
 | some _ => !ti.agg
 | none => false)
theorem TD.ok_of {P:Program} {t:TypeId}:∀ {d:TD},d.okB P t = true → d.ok P t
 | .other,_ => trivial
 | .bool,h => by
   show P.underlying t = some .bool
   unfold TD.okB at h
   cases hu:P.underlying t with
   | none => rw [hu] at h;cases h
   | some d => cases d <;> first | rfl | (rw [hu] at h;cases h)
 | .str,h => by
   show P.underlying t = some .string
   unfold TD.okB at h
   cases hu:P.underlying t with
   | none => rw [hu] at h;cases h
   | some d => cases d <;> first | rfl | (rw [hu] at h;cases h)
 | .int k,h => by
   show P.underlying t = some (.int k)
   unfold TD.okB at h
   cases hu:P.underlying t with
   | none => rw [hu] at h;cases h
   | some d =>
     rw [hu] at h
     cases d <;> first | (rw [of_decide_eq_true h]) | (cases h)
 | .slice e,h => by
   show P.underlying t = some (.slice e)
   unfold TD.okB at h
   cases hu:P.underlying t with
   | none => rw [hu] at h;cases h
   | some d =>
     rw [hu] at h
     cases d <;> first | (rw [Nat.eq_of_beq_eq_true h]) | (cases h)
 | .struct fs,h => by
   show ∃ fields,P.underlying t = some (.struct fields) ∧ _
   unfold TD.okB at h
   cases hu:P.underlying t with
   | none => rw [hu] at h;cases h
   | some d =>
     rw [hu] at h
     cases d
     case struct fields =>
      simp only [Bool.and_eq_true,beq_iff_eq] at h
      refine ⟨fields,rfl,h.1,fun f hf => ?_⟩
      have:=List.all_eq_true.1 h.2 f hf
      split at this
      ·rename_i i hi
       refine ⟨i,hi,fun e => ?_⟩
       rw [e] at this
       cases this
      ·cases this
     all_goals cases h
theorem TI.ok_of {P:Program} {t:TypeId} {ti:TI} (h:ti.okB P t = true):ti.Ok P t:=by
 unfold TI.okB at h
 simp only [Bool.and_eq_true] at h
 obtain ⟨⟨⟨⟨h0,h00⟩,h1⟩,h2⟩,h3⟩:=h
 refine ⟨TD.ok_of h1,?_,?_,h0,Nat.eq_of_beq_eq_true h00⟩
 ·split at h2
  ·rename_i i hi
   simp only [Bool.and_eq_true] at h2
   split at h2
   ·rename_i z hz
    exact ⟨i,z,hi,Nat.eq_of_beq_eq_true h2.1.1,Nat.eq_of_beq_eq_true h2.1.2,hz,wi h2.2⟩
   ·simp at h2
  ·cases h2
 ·intro w
  unfold isAgg
  simp only [Sem.run_bind]
  unfold underlying
  simp only [Sem.run_bind,run_program,Result.andThen_ok]
  split at h3
  ·rename_i fs hu
   rw [hu]
   simp [h3]
  ·rename_i n e hu
   rw [hu]
   simp [h3]
  ·rename_i d hn1 hn2 hu
   rw [hu]
   simp only [Sem.run_pure,Result.andThen_ok]
   cases d <;> first | exact (hn1 _ rfl).elim | exact (hn2 _ _ rfl).elim | (simp at h3;simp [h3])
  ·cases h3
theorem TOk.of_check {P:Program} {T:TB} (h:T.all (fun p => p.2.okB P p.1) = true):TOk P T:=by
 intro t ti ht
 have:(t,ti) ∈ T:=by
  clear h
  induction T with
  | nil => simp [tlk] at ht
  | cons p r ih =>
    obtain ⟨k,v⟩:=p
    unfold tlk at ht
    split at ht
    ·rename_i hb
     have:k = t:=Nat.eq_of_beq_eq_true hb
     subst this
     cases ht
     simp
    ·exact List.mem_cons_of_mem _ (ih ht)
 exact TI.ok_of (List.all_eq_true.1 h _ this)
section
variable {P:Program} {T:TB} (hT:TOk P T)
include hT
theorem fG {t:TypeId} {ti:TI} (h:tlk t T = some ti) (w:World):(isAgg t).run P w = .ok ti.agg w:=(hT t ti h).agg w
theorem cN {t:TypeId} {ti:TI} (h:tlk t T = some ti) (w:World):(sizeOf t).run P w = .ok ti.size w:=by
 obtain ⟨i,z,h1,h2,_⟩:=(hT t ti h).info
 simp [sizeOf,typeInfo,h1,h2]
theorem bO {t:TypeId} {ti:TI} (h:tlk t T = some ti):ti.d.ok P t:=(hT t ti h).d
end
abbrev I (n:Int):AV:=.c (.sc (.int .i64 n))
abbrev B (b:Bool):AV:=.c (.sc (.bool b))
def vn (place:Nat → Option (Nat × Nat)) (cells:List AC):List (Nat × AV) → Option (List AC)
 | [] => some cells
 | (i,v) :: rest => match place i,v with
  | some (off,1),.c x => if off + 1 ≤ cells.length then vn place (cells.set off x) rest else none
  | _,_ => none
def evp (env:List (Nat × AV)):List (Nat × Operand) → Option (List (Nat × AV))
 | [] => some []
 | (i,x) :: r => match ev env x,evp env r with
  | some v,some vs => some ((i,v) :: vs)
  | _,_ => none
def zF (env:List (Nat × AV)):List Operand → Option (List (Nat × Nat × Nat))
 | [] => some []
 | x :: r => match ev env x,zF env r with
   | some (.c (.ptr o i q)),some vs => some ((o,i,q) :: vs)
   | _,_ => none
def xq (op:BinOp):AV → AV → Option AV
 | .c (.sc (.int k a)),.c (.sc (.int k' b)) => match decide (k = k'),op with
   | true,.add => some (.c (.sc (.int k (k.wrap (a + b)))))
   | true,.sub => some (.c (.sc (.int k (k.wrap (a - b)))))
   | true,.mul => some (.c (.sc (.int k (k.wrap (a * b)))))
   | true,.eql => some (B (a == b))
   | true,.neq => some (B (a != b))
   | true,.lss => some (B (decide (a < b)))
   | true,.leq => some (B (decide (a ≤ b)))
   | true,.gtr => some (B (decide (a > b)))
   | true,.geq => some (B (decide (a ≥ b)))
   | _,_ => none
 | .c (.sc (.string a)),.c (.sc (.string b)) => match op with
   | .eql => some (B (a.toList == b.toList))
   | .neq => some (B (!(a.toList == b.toList)))
   | _ => none
 | _,_ => none
def aP (T:TB) (env:List (Nat × AV)):Op → Option AV
 | .move x => ev env x
 | .assign x => ev env x
 | .pick c a b => match ev env c with
   | some (.c (.sc (.bool true))) => ev env a
   | some (.c (.sc (.bool false))) => ev env b
   | _ => none
 | .extract t i => match ev env t with
   | some (.tup vs) => match vs[i]? with
     | some (.c x) => some (.c x)
     | some (.agg cs) => some (.agg cs)
     | _ => none
   | _ => none
 | .field t x f => match tlk t T,ev env x with
   | some ⟨.struct fs,_,_,_,_⟩,some (.agg cs) => match fs[f]? with
     | some (off,ft) => match tlk ft T with
       | some ti => match ti.agg with
         | true => some (.agg ((cs.drop off).take ti.size))
         | false => (cs[off]?).map .c
       | none => none
     | none => none
   | _,_ => none
 | .fieldAddr t x f => match tlk t T,ev env x with
   | some ⟨.struct fs,_,_,_,_⟩,some (.c (.ptr o i q)) => match fs[f]? with
     | some (off,_) => some (.c (.ptr o i (q + off)))
     | none => none
   | _,_ => none
 | .nilCheck x => match ev env x with
   | some (.c (.ptr o i q)) => some (.c (.ptr o i q))
   | _ => none
 | .unOp .not _ x => match ev env x with
   | some (.c (.sc (.bool b))) => some (B (!b))
   | _ => none
 | .unOp .neg _ x => match ev env x with
   | some (.c (.sc (.int k n))) => some (.c (.sc (.int k (k.wrap (0 - n)))))
   | _ => none
 | .binOp op _ x y _ => match ev env x,ev env y with
   | some a,some b => xq op a b
   | _,_ => none
 | .convert src dst x => match tlk src T,tlk dst T,ev env x with
   | some ⟨.int _,_,_,_,_⟩,some ⟨.int k,_,_,_,_⟩,some (.c (.sc (.int _ n))) => some (.c (.sc (.int k (k.wrap n))))
   | _,_,_ => none
 | .makeFunc (.func f) first captured => match first.toList,zF env captured.toList with
   | [],some caps => some (.c (.fn f caps))
   | _,_ => none
 | .call c => match c.callee,c.args.toList,c.argTypes.toList with
   | .builtin .len,[x],[t] => match tlk t T,ev env x with
     | some ⟨.slice _,_,_,_,_⟩,some (.c (.row o s n)) => some (I n)
     | some ⟨.slice _,_,_,_,_⟩,some (.c (.sc (.slice none 0 0))) => some (I 0)
     | some ⟨.str,_,_,_,_⟩,some (.c (.sc (.string s))) => some (I s.size)
     | _,_ => none
   | .builtin .min,[x,y],_ => match ev env x,ev env y with
     | some (.c (.sc (.int .i64 a))),some (.c (.sc (.int .i64 b))) => some (I (if b < a then b else a))
     | _,_ => none
   | .builtin .max,[x,y],_ => match ev env x,ev env y with
     | some (.c (.sc (.int .i64 a))),some (.c (.sc (.int .i64 b))) => some (I (if a < b then b else a))
     | _,_ => none
   | _,_,_ => none
 | .build t parts => match tlk t T,evp env parts.toList with
   | some ⟨.struct fs,_,_,_,zero⟩,some ps => (vn (fun i => match fs[i]? with
     | some (off,ft) => (tlk ft T).map (fun ti => (off,ti.size))
     | none => none) (zero.map .sc) ps).map .agg
   | _,_ => none
 | _ => none
theorem fy {ρ:Pl} {k:IntKind} {n:Int} {v:Value} (h:AV.R ρ (.c (.sc (.int k n))) v):v = .int k n:=h.1
theorem uc {ρ:Pl} {b:Bool} {v:Value} (h:AV.R ρ (.c (.sc (.bool b))) v):v = .bool b:=h.1
theorem x8 {ρ:Pl} {b:ByteArray} {v:Value} (h:AV.R ρ (.c (.sc (.string b))) v):v = .string b:=h.1
theorem oJ {ρ:Pl} {o i q:Nat} {v:Value} (h:AV.R ρ (.c (.ptr o i q)) v):PtrR ρ o i q v:=h
theorem qT {ρ:Pl} {cs:List AC} {a:Array Value} (h:All2 (AC.R ρ) cs a.toList) {i:Nat} {x:AC} (hx:cs[i]? = some x):∃ v,a[i]? = some v ∧ x.R ρ v:=by
 obtain ⟨v,h1,h2⟩:=h.get hx
 exact ⟨v,by rw [← Array.getElem?_toList];exact h1,h2⟩
theorem All2.drop {α β:Type} {R:α → β → Prop}:∀ {xs:List α} {ys:List β} (n:Nat),All2 R xs ys → All2 R (xs.drop n) (ys.drop n)
 | _,_,0,h => by simpa using h
 | [],[],n + 1,_ => by simp [All2]
 | x :: xs,y :: ys,n + 1,h => by simpa using All2.drop n h.2
theorem All2.take {α β:Type} {R:α → β → Prop}:∀ {xs:List α} {ys:List β} (n:Nat),All2 R xs ys → All2 R (xs.take n) (ys.take n)
 | _,_,0,h => by simp [All2]
 | [],[],n + 1,_ => by simp [All2]
 | x :: xs,y :: ys,n + 1,h => by simp only [List.take_succ_cons];exact ⟨h.1,All2.take n h.2⟩
theorem All2.set {α β:Type} {R:α → β → Prop} {u:α} {v:β} (hu:R u v):∀ {xs:List α} {ys:List β} (n:Nat),All2 R xs ys → All2 R (xs.set n u) (ys.set n v)
 | [],[],_,_ => trivial
 | x :: xs,y :: ys,0,h => ⟨hu,h.2⟩
 | x :: xs,y :: ys,n + 1,h => ⟨h.1,All2.set hu n h.2⟩
theorem xD {ρ:Pl} {env:List (Nat × AV)} {a:Act} (h:EnvR ρ env a.tmps):∀ {xs:List Operand} {vs:List (Nat × Nat × Nat)},zF env xs = some vs → All2 (fun p u => PtrR ρ p.1 p.2.1 p.2.2 u) vs (xs.map a.eval)
 | [],vs,hx => by
   cases hx
   trivial
 | x :: xs,vs,hx => by
   unfold zF at hx
   split at hx
   ·rename_i o i q vs' h1 h2
    cases hx
    exact ⟨bq h h1,xD h h2⟩
   ·cases hx
theorem iq (a:Addr) (m n:Nat):(a.add m).add n = a.add (m + n):=by
 unfold Addr.add
 by_cases hm:m = 0
 ·subst hm;simp
 ·by_cases hn:n = 0
  ·subst hn;simp [hm]
  ·simp [hm,hn,Nat.add_assoc]
theorem sk {P:Program} {op:BinOp} {x y:AV} {r:AV} (h:xq op x y = some r) {ρ:Pl} {u v:Value} (hu:x.R ρ u) (hv:y.R ρ v) (xT:TypeId) (xo yo:Operand) :
  ∃ z,r.R ρ z ∧ ∀ w,(do eqGuard op xT xo yo u v;binOp op xT u v:Sem Value).run P w = .ok z w:=by
 unfold xq at h
 split at h
 ·rename_i k a k' b
  obtain rfl:=fy hu
  obtain rfl:=fy hv
  have hg:∀ w,(eqGuard op xT xo yo (.int k a) (.int k' b)).run P w = .ok () w:=by
   intro w
   unfold eqGuard
   cases op <;> simp
  by_cases hk:k = k'
  ·subst hk
   simp only [decide_true] at h
   cases op <;> simp at h
   all_goals
    subst h
    refine ⟨_,⟨rfl,rfl⟩,fun w => ?_⟩
    simp only [Sem.run_bind,hg,Result.andThen_ok]
    simp [binOp,Op.intArith,Op.intCmp]
  ·simp [hk] at h
 ·rename_i a b
  obtain rfl:=x8 hu
  obtain rfl:=x8 hv
  have hg:∀ w,(eqGuard op xT xo yo (.string a) (.string b)).run P w = .ok () w:=by
   intro w
   unfold eqGuard
   cases op <;> simp
  cases op <;> simp at h
  all_goals
   subst h
   refine ⟨_,⟨rfl,rfl⟩,fun w => ?_⟩
   simp only [Sem.run_bind,hg,Result.andThen_ok]
   simp [binOp,Op.stringOp]
 ·cases h
theorem oT {ρ:Pl} {place place':Nat → Option (Nat × Nat)} (hp:∀ i p,place i = some p → place' i = some p):∀ {ps:List (Nat × AV)} {qs:List (Nat × Value)} {cs r:List AC} {cv:Array Value},All2 (fun p q => p.1 = q.1 ∧ p.2.R ρ q.2) ps qs → All2 (AC.R ρ) cs cv.toList → vn place cs ps = some r → ∃ rv:Array Value,Instr.fill place' cv qs = some rv ∧ All2 (AC.R ρ) r rv.toList
 | [],[],cs,r,cv,_,hc,h => by
   cases h
   exact ⟨cv,rfl,hc⟩
 | (i,v) :: ps,(j,u) :: qs,cs,r,cv,hq,hc,h => by
  obtain ⟨⟨h1,h2⟩,h3⟩:=hq
  have h1:i = j:=h1
  subst h1
  unfold vn at h
  split at h
  ·rename_i off x hpl
   split at h
   ·rename_i hle
    have hx:AC.R ρ x u:=h2
    have hone:=AC.R_one hx
    have hcells:u.cells = #[u]:=by
     cases u <;> first | rfl | (simp [Value.oneCell'] at hone)
    have hlen:cs.length = cv.size:=by rw [← Array.length_toList];exact hc.length
    obtain ⟨rv,h4,h5⟩:=oT hp h3 (cs:=cs.set off x) (cv:=cv.setIfInBounds off u) (by rw [Array.toList_setIfInBounds];exact All2.set hx off hc) h
    refine ⟨rv,?_,h5⟩
    unfold Instr.fill
    rw [hp i _ hpl]
    simp only [hcells]
    rw [if_neg (by simp;omega)]
    simpa using h4
   ·cases h
  ·cases h
theorem xK {ρ:Pl} {env:List (Nat × AV)} {a:Act} (h:EnvR ρ env a.tmps):∀ {xs:List (Nat × Operand)} {vs:List (Nat × AV)},evp env xs = some vs → All2 (fun p q => p.1 = q.1 ∧ p.2.R ρ q.2) vs (xs.map (fun p => (p.1,a.eval p.2)))
 | [],vs,hx => by
   cases hx
   trivial
 | (i,x) :: xs,vs,hx => by
  unfold evp at hx
  split at hx
  ·rename_i v vs' h1 h2
   cases hx
   exact ⟨⟨rfl,bq h h1⟩,xK h h2⟩
  ·cases hx
theorem tj {P:Program} {α β:Type} {g:α → Sem β} {k:α → β}:∀ (l:List α),(∀ x ∈ l,∀ w,(g x).run P w = .ok (k x) w) → ∀ w,(l.mapM g).run P w = .ok (l.map k) w
 | [],_,w => rfl
 | x :: l,h,w => by
   rw [List.mapM_cons]
   simp only [Sem.run_bind,h x (by simp),Result.andThen_ok,tj l (fun y hy => h y (by simp [hy])),Sem.run_pure,List.map_cons]
theorem cO {P:Program} {t:TypeId} {d:TypeDesc} (h:P.underlying t = some d) (w:World):(underlying t).run P w = .ok d w:=by
 simp [underlying,h]
theorem Bb {P:Program} {T:TB} (hT:TOk P T) {env:List (Nat × AV)} {dst:Option Tmp} {op:Op} {ty:TypeId} {pos:String} {af:Array Edge} {g:Option (Nat × Bool)} {v:AV} (h:aP T env op = some v) {ρ:Pl} {a:Act} (he:EnvR ρ env a.tmps):∃ v',v.R ρ v' ∧ ∀ w,(execOp a.eval ⟨dst,op,ty,pos,af,g⟩).run P w = .ok (.value v') w:=by
 unfold aP at h
 split at h
 ·exact ⟨_,bq he h,fun w => rfl⟩
 ·exact ⟨_,bq he h,fun w => rfl⟩
 ·split at h
  ·rename_i hc
   have h1:=uc (bq he hc)
   exact ⟨_,bq he h,fun w => by simp [execOp,h1,asBool]⟩
  ·rename_i hc
   have h1:=uc (bq he hc)
   exact ⟨_,bq he h,fun w => by simp [execOp,h1,asBool]⟩
  ·cases h
 ·split at h
  ·rename_i t i _ vs hv
   obtain ⟨a',h1,h2⟩:=bq he hv
   have key:∀ x:AV,vs[i]? = some x → ∃ v',a'[i]? = some v' ∧ x.R1 ρ v':=fun x hx => by
    obtain ⟨v',h3,h4⟩:=h2.get hx
    exact ⟨v',by rw [← Array.getElem?_toList];exact h3,h4⟩
   split at h
   ·rename_i x hx
    cases h
    obtain ⟨v',h3,h4⟩:=key _ hx
    exact ⟨v',AV.R_of_R1 h4,fun w => by simp [execOp,h1,Instr.extract,h3]⟩
   ·rename_i x hx
    cases h
    obtain ⟨v',h3,h4⟩:=key _ hx
    exact ⟨v',AV.R_of_R1 h4,fun w => by simp [execOp,h1,Instr.extract,h3]⟩
   ·cases h
  ·cases h
 ·split at h
  ·rename_i t x f _ _ fs _ _ _ _ cs ht hx
   obtain ⟨fields,hu,hfs,hsz⟩:=bO hT ht
   obtain ⟨av,h1,h2⟩:=bq he hx
   split at h
   ·rename_i off ft hf
    have hfl:(fields.toList.map (fun f => (f.offset,f.type)))[f]? = some (off,ft):=by rw [hfs];exact hf
    rw [List.getElem?_map] at hfl
    obtain ⟨fd,hfd,hfe⟩:=Option.map_eq_some_iff.1 hfl
    have hfd':fields[f]? = some fd:=by rw [← Array.getElem?_toList];exact hfd
    obtain ⟨rfl,rfl⟩:=Prod.mk.inj hfe
    split at h
    ·rename_i ti hti
     split at h
     ·rename_i hag
      cases h
      refine ⟨.agg (av.extract fd.offset (fd.offset + ti.size)),⟨_,rfl,?_⟩,fun w => ?_⟩
      ·rw [Array.toList_extract,List.extract_eq_take_drop,Nat.add_sub_cancel_left]
       exact (h2.drop _).take _
      ·simp [execOp,Instr.field,h1,cO hu,hfd',part,asAgg,fG hT hti,cN hT hti,hag]
     ·rename_i hag
      obtain ⟨c,hc,rfl⟩:=Option.map_eq_some_iff.1 h
      obtain ⟨v',h3,h4⟩:=qT h2 hc
      refine ⟨v',h4,fun w => ?_⟩
      simp [execOp,Instr.field,h1,cO hu,hfd',part,asAgg,fG hT hti,hag,h3]
    ·cases h
   ·cases h
  ·cases h
 ·split at h
  ·rename_i t x f _ _ fs _ _ _ _ o i q ht hx
   obtain ⟨fields,hu,hfs,hsz⟩:=bO hT ht
   obtain ⟨sl,ad,h1,h2,h3⟩:=oJ (bq he hx)
   split at h
   ·rename_i off ft hf
    cases h
    have hfl:(fields.toList.map (fun f => (f.offset,f.type)))[f]? = some (off,ft):=by rw [hfs];exact hf
    rw [List.getElem?_map] at hfl
    obtain ⟨fd,hfd,hfe⟩:=Option.map_eq_some_iff.1 hfl
    have hfd':fields[f]? = some fd:=by rw [← Array.getElem?_toList];exact hfd
    obtain ⟨rfl,rfl⟩:=Prod.mk.inj hfe
    obtain ⟨inf,hinf,hne⟩:=hsz fd (List.mem_of_getElem? hfd)
    refine ⟨.pointer (some ((ad.add (i * sl.sz + q)).add fd.offset)),⟨sl,ad,h1,h2,by rw [iq,Nat.add_assoc]⟩,fun w => ?_⟩
    simp [execOp,Instr.fieldAt,h3,cO hu,hfd',Instr.sureAddr,fieldPlace,sizeOf,typeInfo,hinf,hne]
   ·cases h
  ·cases h
 ·split at h
  ·rename_i x o i q hx
   cases h
   obtain ⟨sl,ad,h1,h2,h3⟩:=oJ (bq he hx)
   exact ⟨_,⟨sl,ad,h1,h2,rfl⟩,fun w => by simp [execOp,h3]⟩
  ·cases h
 ·split at h
  ·rename_i b hx
   cases h
   have h1:=uc (bq he hx)
   exact ⟨.bool (!b),⟨rfl,rfl⟩,fun w => by simp [execOp,h1,Op.unary]⟩
  ·cases h
 ·split at h
  ·rename_i k n hx
   cases h
   have h1:=fy (bq he hx)
   exact ⟨.int k (k.wrap (0 - n)),⟨rfl,rfl⟩,fun w => by simp [execOp,h1,Op.unary,Op.intArith]⟩
  ·cases h
 ·split at h
  ·rename_i bop xT x y yT _ _ p q hx hy
   obtain ⟨z,h1,h2⟩:=sk (P:=P) h (bq he hx) (bq he hy) xT x y
   refine ⟨z,h1,fun w => ?_⟩
   have h3:=h2 w
   unfold execOp
   simp only [Sem.run_bind,Sem.run_pure]
   simp only [Sem.run_bind] at h3
   rw [h3]
   rfl
  ·cases h
 ·split at h
  ·rename_i src dt x _ _ _ k1 _ _ _ _ k _ _ _ _ k' n hst hdt hx
   cases h
   have h1:=fy (bq he hx)
   have hu:P.underlying dt = some (.int k):=bO hT hdt
   have hu1:P.underlying src = some (.int k1):=bO hT hst
   exact ⟨.int k (k.wrap n),⟨rfl,rfl⟩,fun w => by simp [execOp,h1,convert,cO hu,cO hu1,Conv.intToInt]⟩
  ·cases h
 ·split at h
  ·rename_i f first captured _ _ caps hfi hca
   cases h
   have hcap:=xD he hca
   have hfirst:first = #[]:=by
    apply Array.toList_inj.1
    rw [hfi]
   subst hfirst
   refine ⟨.func (.func f) #[] (captured.map a.eval),⟨_,rfl,by rw [Array.toList_map];exact hcap⟩,fun w => by simp [execOp,Instr.makeFunc]⟩
  ·cases h
 ·split at h
  ·rename_i c _ _ _ x t hca hargs hts
   obtain ⟨callee,args,argTypes⟩:=c
   obtain rfl:callee = .builtin .len:=hca
   obtain rfl:args = #[x]:=Array.toList_inj.1 hargs
   obtain rfl:argTypes = #[t]:=Array.toList_inj.1 hts
   split at h
   ·rename_i e _ _ _ _ o s n ht hx
    cases h
    have hu:P.underlying t = some (.slice e):=bO hT ht
    obtain ⟨sl,h1,h2,h3⟩:RowR ρ o s n (a.eval x):=bq he hx
    refine ⟨.int .i64 n,⟨rfl,rfl⟩,fun w => ?_⟩
    rcases h3 with ⟨c,h3,_⟩ | ⟨rfl,_,A,c,h3,_⟩ <;> simp [execOp,resolve,invoke,builtin,Builtin.len_,h3,cO hu,goInt]
   ·rename_i e _ _ _ _ ht hx
    cases h
    have hu:P.underlying t = some (.slice e):=bO hT ht
    obtain ⟨h1,_⟩:=bq he hx
    exact ⟨.int .i64 0,⟨rfl,rfl⟩,fun w => by simp [execOp,resolve,invoke,builtin,Builtin.len_,h1,cO hu,goInt]⟩
   ·rename_i _ _ _ _ s ht hx
    cases h
    have hu:P.underlying t = some .string:=bO hT ht
    have h1:=x8 (bq he hx)
    exact ⟨.int .i64 s.size,⟨rfl,rfl⟩,fun w => by simp [execOp,resolve,invoke,builtin,Builtin.len_,h1,cO hu,goInt]⟩
   ·cases h
  ·rename_i c _ _ _ x y hca hargs
   obtain ⟨callee,args,argTypes⟩:=c
   obtain rfl:callee = .builtin .min:=hca
   obtain rfl:args = #[x,y]:=Array.toList_inj.1 hargs
   split at h
   ·rename_i _ _ m n hx hy
    cases h
    have h1:=fy (bq he hx)
    have h2:=fy (bq he hy)
    exact ⟨_,⟨rfl,rfl⟩,fun w => by simp [execOp,resolve,invoke,builtin,Builtin.min_,Builtin.min2,h1,h2]⟩
   ·cases h
  ·rename_i c _ _ _ x y hca hargs
   obtain ⟨callee,args,argTypes⟩:=c
   obtain rfl:callee = .builtin .max:=hca
   obtain rfl:args = #[x,y]:=Array.toList_inj.1 hargs
   split at h
   ·rename_i _ _ m n hx hy
    cases h
    have h1:=fy (bq he hx)
    have h2:=fy (bq he hy)
    exact ⟨_,⟨rfl,rfl⟩,fun w => by simp [execOp,resolve,invoke,builtin,Builtin.max_,Builtin.max2,h1,h2]⟩
   ·cases h
  ·cases h
 ·split at h
  ·rename_i t parts _ _ fs _ _ _ zero ps ht hps
   obtain ⟨fields,hu,hfs,hsz⟩:=bO hT ht
   obtain ⟨cs,hf,rfl⟩:=Option.map_eq_some_iff.1 h
   obtain ⟨iz,z,_,_,_,hz1,hz2⟩:=(hT t _ ht).info
   have hz2:z.cells.toList = zero:=hz2
   have hpl:∀ w,(fields.mapM (fun f => do pure (f.offset,← sizeOf f.type):Field → Sem (Nat × Nat))).run P w = .ok (fields.map (fun f => (f.offset,((P.info? f.type).map (·.size)).getD 0))) w:=by
    intro w
    have h1:=tj (P:=P) (g:=(fun f => do pure (f.offset,← sizeOf f.type):Field → Sem (Nat × Nat))) (k:=fun f => (f.offset,((P.info? f.type).map (·.size)).getD 0)) fields.toList (fun f hf w => by
     obtain ⟨i,hi,_⟩:=hsz f hf
     simp [sizeOf,typeInfo,hi]) w
    have h2:fields = fields.toList.toArray:=by simp
    rw [h2,List.mapM_toArray,Sem.run_map,h1,Result.andThen_ok]
    congr 1
    apply Array.toList_inj.1
    simp
   have hz0:All2 (AC.R ρ) (zero.map .sc) z.cells.toList:=by
    rw [hz2]
    refine o9 ?_
    exact (hT t _ ht).one
   obtain ⟨rv,h5,h6⟩:=oT (place':=fun i => (fields.map (fun f => (f.offset,((P.info? f.type).map (·.size)).getD 0)))[i]?) (fun i p hp => by
    split at hp
    ·rename_i off ft hfs2
     obtain ⟨ti,hti,rfl⟩:=Option.map_eq_some_iff.1 hp
     have hfl:(fields.toList.map (fun f => (f.offset,f.type)))[i]? = some (off,ft):=by rw [hfs];exact hfs2
     rw [List.getElem?_map] at hfl
     obtain ⟨fd,hfd,hfe⟩:=Option.map_eq_some_iff.1 hfl
     obtain ⟨rfl,rfl⟩:=Prod.mk.inj hfe
     have hfd':fields[i]? = some fd:=by rw [← Array.getElem?_toList];exact hfd
     obtain ⟨i2,_,q1,q2,_⟩:=(hT _ _ hti).info
     simp [hfd',q1,q2]
    ·cases hp) (xK he hps) hz0 hf
   refine ⟨.agg rv,⟨rv,rfl,h6⟩,fun w => ?_⟩
   have h7:(parts.map (fun (i,x) => (i,a.eval x))).toList = parts.toList.map (fun p => (p.1,a.eval p.2)):=by simp
   unfold execOp
   simp only [Sem.run_bind,Instr.build,zeroValue,typeInfo,cO hu,hpl,Result.andThen_ok]
   simp_all
  ·cases h
 ·cases h
theorem m8 {P:Program} {T:TB} (hT:TOk P T) {st:St} {dst:Option Tmp} {op:Op} {ty:TypeId} {pos:String} {af:Array Edge} {g:Option (Nat × Bool)} {v:AV} (h:aP T st.env op = some v):OpP P ⟨dst,op,ty,pos,af,g⟩ st v :=
 fun Γ ρ a w0 hr => Bb hT h hr.env
end
end Go.Proofs.YtgehbhkfehmdkaaGreat.Sh
