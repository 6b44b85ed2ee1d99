/- Posting keeps books right: what holds of all balances together, of each holder. No condition. -/
import Derived.Test.YtgehbhkfehmdkaaGreatKFxShPo
import Derived.Test.YtgehbhkfehmdkaaGreatKFxShNl
import Derived.Test.YtgehbhkfehmdkaaGreatKFxShHe
set_option linter.unusedSimpArgs false
set_option linter.unusedVariables false
namespace Go.Proofs.YtgehbhkfehmdkaaGreat.Sh
section
open Go.RowKit
theorem BalsOk_iff {l:List Bal}:BalsOk l ↔ (∀ x ∈ l,ag x.Account ∧ ag x.Instr ∧ ai x.Amount ∧ x.Amount ≠ 0) ∧ BSd l ∧ l.length ≤ 160 :=
 ⟨fun h => ⟨fun x hx => by
  obtain ⟨i,hi,rfl⟩:=bj hx
  have:=h.1 i hi.1 hi.2
  exact ⟨this.1,this.2.1,this.2.2.1,this.2.2.2.1⟩,h.sd,h.2⟩,fun ⟨h1,h2,h3⟩ => ⟨fun i h0 hi => by
  obtain ⟨a,b,c,d⟩:=h1 _ (az ⟨h0,hi⟩)
  exact ⟨a,b,c,d,fun q => h2 i q hi⟩,h3⟩⟩
theorem uS (l:List Bal):pO l [] = l:=rfl
theorem rA (l:List Bal) (x:Leg) (g:List Leg):pO l (x :: g) = pO (i9 l x) g:=rfl
def jH (g:List Leg) (a c:Int):Int:=ak (fun x => if x.Account = a ∧ x.Instr = c then x.Amount else 0) g
theorem mj (a c:Int):jH [] a c = 0:=rfl
theorem l5 (x:Leg) (g:List Leg) (a c:Int):jH (x :: g) a c = (if x.Account = a ∧ x.Instr = c then x.Amount else 0) + jH g a c:=bp ..
theorem gI {l:List Bal} (h:BSd l) (x:Leg):BSd (i9 l x):=dl h _ _ _
theorem rB:∀ {g:List Leg} {l:List Bal},BSd l → BSd (pO l g)
 | [],_,h => h
 | x :: g,_,h => rB (g:=g) (gI h x)
theorem uT:∀ {g:List Leg} {l:List Bal},BSd l → (∀ x ∈ l,x.Amount ≠ 0) → ∀ x ∈ pO l g,x.Amount ≠ 0
 | [],_,_,h => h
 | x :: g,_,h,h0 => uT (g:=g) (gI h x) (rD h h0 _ _ _)
theorem nO:∀ {g:List Leg} {l:List Bal},BSd l → ∀ a c,aK (pO l g) a c = aK l a c + jH g a c
 | [],_,_,a,c => by rw [uS,mj];omega
 | x :: g,l,h,a,c => by
   rw [rA,nO (g:=g) (gI h x),l5,i9,gN h]
   by_cases e:a = x.Account ∧ c = x.Instr
   ·rw [if_pos e,if_pos ⟨e.1.symm,e.2.symm⟩,e.1,e.2]
    omega
   ·rw [if_neg e,if_neg (fun q => e ⟨q.1.symm,q.2.symm⟩)]
    omega
theorem pG {f:Bal → Int} {l:List Bal} (hs:BSd l) (a c:Int):ak f l = ak f (flt (neB a c) l) + ak f (flt (fun x => ¬ neB a c x) l):=by
 clear hs
 induction l with
 | nil => rfl
 | cons x l ih =>
   rw [show x :: l = [x] ++ l from rfl,aQ,aQ,bh,bh,bh,ih]
   by_cases hp:neB a c x
   ·rw [dM hp,dj (p:=fun x => ¬ neB a c x) (fun q => q hp),fh]
    omega
   ·rw [dj hp,dM (p:=fun x => ¬ neB a c x) hp,fh]
    omega
theorem vL {l:List Bal} (hs:BSd l) (a c:Int):ak Bal.Amount (flt (fun x => ¬ neB a c x) l) = aK l a c:=by
 by_cases hh:ic l a c
 ·obtain ⟨x,hx,h1,h2⟩:=hh
  have hp:=BSd_iff.1 hs
  clear hs
  induction l with
  | nil => simp at hx
  | cons y l ih =>
    rw [List.pairwise_cons] at hp
    rw [show y :: l = [y] ++ l from rfl,aQ,bh]
    by_cases hy:y.Account = a ∧ y.Instr = c
    ·have hn:flt (fun x => ¬ neB a c x) l = []:=by
      unfold flt
      rw [List.filter_eq_nil_iff]
      intro z hz hq
      have hz2:=Classical.not_not.1 (oy hq)
      have:=hp.1 z hz
      unfold kE bef at this
      omega
     rw [hn,dM (p:=fun x => ¬ neB a c x) (fun q => q hy),cZ,fh]
     unfold aK
     rw [List.find?_append,List.find?_cons_of_pos (by simpa using hy)]
     simp
    ·have hxl:x ∈ l:=by
      rcases List.mem_cons.1 hx with rfl | h
      ·exact absurd ⟨h1,h2⟩ hy
      ·exact h
     rw [dj (p:=fun x => ¬ neB a c x) (fun q => q hy),fh,ih hxl hp.2]
     unfold aK
     rw [List.find?_append,List.find?_cons_of_neg (by simpa using hy)]
     simp
 ·rw [jh hh]
  have hn:flt (fun x => ¬ neB a c x) l = []:=by
   unfold flt
   rw [List.filter_eq_nil_iff]
   intro z hz hq
   exact hh ⟨z,hz,Classical.not_not.1 (oy hq)⟩
  rw [hn,fh]
theorem uX {l:List Bal} (hs:BSd l) (a c n:Int):flt (neB a c) (cU l a c n) = flt (neB a c) l:=by
 rw [cP hs,aQ,aQ]
 have h1:flt (neB a c) (if n = 0 then [] else [(⟨a,c,n⟩:Bal)]) = []:=by
  split
  ·rfl
  ·exact dj (p:=neB a c) (x:=(⟨a,c,n⟩:Bal)) (fun q => q ⟨rfl,rfl⟩)
 rw [h1,dZ (p:=neB a c) (l:=flt (neB a c) _) (fun x hx => (flt_mem.1 hx).2),List.append_nil,← aQ]
 congr 1
 exact List.take_append_drop _ _
theorem vB {c:Int} {x:Bal} {a:Int} (h:¬ neB a c x):jO c x = x.Amount:=kB (Classical.not_not.1 h).2
theorem nP {l:List Bal} (hs:BSd l) (a c n d:Int):bJ (cU l a c n) d = bJ l d + (if c = d then n - aK l a c else 0):=by
 unfold bJ
 rw [pG (dl hs a c n) a c,pG hs a c,uX hs]
 have key:∀ {m:List Bal},BSd m → ak (jO d) (flt (fun x => ¬ neB a c x) m) = if c = d then aK m a c else 0:=fun {m} hm => by
  by_cases e:c = d
  ·subst e
   rw [if_pos rfl,← vL hm a c]
   unfold ak
   congr 1
   exact List.map_congr_left (fun x hx => vB (flt_mem.1 hx).2)
  ·rw [if_neg e]
   have:∀ x ∈ flt (fun x => ¬ neB a c x) m,jO d x = 0:=fun x hx => mC (fun q => e (by rw [← q];exact (Classical.not_not.1 (flt_mem.1 hx).2).2.symm))
   unfold ak
   rw [List.map_congr_left this]
   clear this hm
   induction flt (fun x => ¬ neB a c x) m with
   | nil => rfl
   | cons y l ih => simpa using ih
 rw [key (dl hs a c n),key hs,gN hs]
 rw [if_pos (⟨rfl,rfl⟩:a = a ∧ c = c)]
 split <;> omega
theorem kD:∀ {g:List Leg} {l:List Bal},BSd l → ∀ c,bJ (pO l g) c = bJ l c + bf g c
 | [],_,_,c => by rw [uS,show bf [] c = 0 from rfl];omega
 | x :: g,l,h,c => by
   rw [rA,kD (g:=g) (gI h x),i9,nP h,bf,bf,bp,eR]
   split <;> omega
theorem qx:∀ {g:List Leg} {l:List Bal},BSd l → ∀ {x:Bal},x ∈ pO l g → x ∈ l ∨ ∃ y ∈ g,y.Account = x.Account ∧ y.Instr = x.Instr
 | [],_,_,_,h => .inl h
 | y :: g,l,hs,x,h => by
   rcases qx (g:=g) (gI hs y) h with h | ⟨z,hz,h2⟩
   ·rcases lh hs h with h | h
    ·exact .inl h
    ·exact .inr ⟨y,by simp,by rw [h],by rw [h]⟩
   ·exact .inr ⟨z,List.mem_cons_of_mem _ hz,h2⟩
theorem y2 {l:List Bal} {g:List Leg} (hs:BSd l) (h:mA l) (hf:d7 l g):mA (pO l g):=by
 have:∀ n:Nat,n ≤ g.length → mA (pO l (pf g n)):=fun n => by
  induction n with
  | zero => intro _;exact h
  | succ n ih =>
    intro hn
    have:=ih (by omega)
    rw [show ((n + 1:Nat):Int) = (n:Int) + 1 from by omega,ng (by omega)]
    exact ld (rB hs) this (hf n (by omega) (by omega))
 have:=this g.length (Nat.le_refl _)
 rwa [b8 (by omega)] at this
structure Posted (b:Books) (g:List Leg) (bals:List Bal):Prop where
 ok:BalsOk bals
 of:∀ a c,aK bals a c = aK b.Bals a c + jH g a c
 sum:∀ c,bJ bals c = 0
 mem:∀ x ∈ bals,a9 b.Accounts x.Account ≠ 0 ∧ aa b.Instrs x.Instr ≠ 0 ∧ ¬ (a9 b.Accounts x.Account = 1 ∧ x.Amount < 0)
theorem s6 {l:List Bal} {c:Int} (h:∀ x ∈ l,¬ x.Instr = c):bJ l c = 0:=by
 unfold bJ ak
 rw [List.map_congr_left (g:=fun _ => (0:Int)) (fun x hx => mC (h x hx))]
 clear h
 induction l with
 | nil => rfl
 | cons y l ih => simpa using ih
theorem BooksOk.sum {b:Books} (h:BooksOk b) (c:Int):bJ b.Bals c = 0:=by
 by_cases hc:∃ x ∈ b.Bals,x.Instr = c
 ·obtain ⟨x,hx,rfl⟩:=hc
  exact (h.bR x hx).2.2.2
 ·exact s6 (fun x hx e => hc ⟨x,hx,e⟩)
theorem oS {g:List Leg} (h:co g) (c:Int):bf g c = 0:=by
 by_cases hc:∃ x ∈ g,x.Instr = c
 ·obtain ⟨x,hx,rfl⟩:=hc
  exact h.2 x hx
 ·unfold bf ak
  rw [List.map_congr_left (f:=eR c) (g:=fun _ => (0:Int)) (fun x hx => if_neg (fun e => hc ⟨x,hx,e⟩))]
  clear h hc
  induction g with
  | nil => rfl
  | cons y l ih => simpa using ih
theorem yk {ba:List Account} (hA:aO ba) {no:Int} (h:no ∈ shA ba):a9 ba no ≠ 1:=by
 unfold shA at h
 obtain ⟨a,ha,rfl⟩:=List.mem_map.1 h
 obtain ⟨h1,h2⟩:=flt_mem.1 ha
 rw [jB hA h1]
 exact h2
theorem y6 {l:List Bal} {g:List Leg} {sh:List Int} (h:(aW l g sh).2 = 0):BalsOk l ∧ co g ∧ d7 l g ∧ ¬ eJ (pO l g) g sh ∧ (pO l g).length ≤ 160 ∧ (aW l g sh).1 = pO l g:=by
 by_cases h1:BalsOk l ∧ bQ g ∧ sh.length ≤ 20
 rotate_left
 ·rw [vD h1] at h;exact absurd (show (1:Int) = 0 from h) (by decide)
 by_cases h2:co g
 rotate_left
 ·rw [vE h1 h2] at h;exact absurd (show (2:Int) = 0 from h) (by decide)
 by_cases h3:d7 l g
 rotate_left
 ·rw [tu h1 h2 h3] at h;exact absurd (show (4:Int) = 0 from h) (by decide)
 by_cases h4:eJ (pO l g) g sh
 ·rw [tt h1 h2 h3 h4] at h;exact absurd (show (3:Int) = 0 from h) (by decide)
 by_cases h5:160 < (pO l g).length
 ·rw [tv h1 h2 h3 h4 h5] at h;exact absurd (show (5:Int) = 0 from h) (by decide)
 ·rw [tr h1 h2 h3 h4 h5];exact ⟨h1.1,h2,h3,h4,Nat.le_of_not_lt h5,rfl⟩
theorem BooksOk.post {b:Books} (hb:BooksOk b) {g:List Leg} (h:(poR b g).2 = 0) (hg:∀ x ∈ g,a9 b.Accounts x.Account ≠ 0 ∧ aa b.Instrs x.Instr ≠ 0):Posted b g (poR b g).1:=by
 obtain ⟨h1,h2,h3,h4,h5,h6⟩:=y6 h
 have hs:=h1.sd
 have he:(poR b g).1 = pO b.Bals g:=h6
 rw [he]
 obtain ⟨i1,i2,i3⟩:=BalsOk_iff.1 h1
 refine ⟨BalsOk_iff.2 ⟨fun x hx => ?_,rB hs,h5⟩,nO hs,fun c => ?_,fun x hx => ?_⟩
 ·have ha:=y2 hs h1.amt h3 x hx
  have hz:=uT hs (fun y hy => (i1 y hy).2.2.2) x hx
  rcases qx hs hx with q | ⟨y,hy,e1,e2⟩
  ·exact ⟨(i1 x q).1,(i1 x q).2.1,ha,hz⟩
  ·have:=h2.1.2 y hy
   rw [← e1,← e2]
   exact ⟨this.1,this.2.1,ha,hz⟩
 ·rw [kD hs,hb.sum,oS h2]
  rfl
 ·by_cases ht:∃ y ∈ g,y.Account = x.Account ∧ y.Instr = x.Instr
  ·obtain ⟨y,hy,e1,e2⟩:=ht
   have:=hg y hy
   rw [e1,e2] at this
   refine ⟨this.1,this.2,fun ⟨k1,k2⟩ => h4 ⟨y,hy,fun q => ?_,?_⟩⟩
   ·rw [e1] at q
    exact yk hb.acc q k1
   ·rw [e1,e2,(bK (rB hs) (uT hs (fun y hy => (i1 y hy).2.2.2) x hx)).2 hx]
    exact k2
  ·rcases qx hs hx with q | q
   ·have:=hb.bR x q
    exact ⟨this.1,this.2.1,this.2.2.1⟩
   ·exact absurd q ht
end
section
open Go.RowKit
theorem oO {l:List Instr} (h:bA l) {a:Instr} (ha:a ∈ l):aa l a.No = a.Kind:=by
 obtain ⟨i,hi,rfl⟩:=bj ha
 refine fA hi (fun j h0 h1 e => ?_) rfl
 have:=List.pairwise_iff_getElem.1 (xP h) j.toNat i.toNat (by omega) (by omega) (by omega)
 have e1:l[j.toNat]'(by omega) = rd l j:=by simp [rd,List.getD_eq_getElem?_getD,show j.toNat < l.length from by omega]
 have e2:l[i.toNat]'(by omega) = rd l i:=by simp [rd,List.getD_eq_getElem?_getD,show i.toNat < l.length from by omega]
 rw [e1,e2] at this
 omega
theorem BooksOk.pair {b:Books} (h:BooksOk b) {a c:Int} (ha:a9 b.Accounts a = 1) (hc:aa b.Instrs c = 2):sQ (ab b.Lots a c) = aK b.Bals a c:=by
 obtain ⟨x,hx,rfl,h1⟩:=pQ (l:=b.Accounts) (n:=a) (by rw [ha];decide)
 have hy:∃ y ∈ b.Instrs,y.No = c ∧ y.Kind = aa b.Instrs c:=by
  unfold aa at *
  cases hf:b.Instrs.find? (fun x => decide (x.No = c)) with
  | none => rw [hf] at hc;cases hc
  | some y => exact ⟨y,List.mem_of_find?_eq_some hf,by simpa using List.find?_some hf,rfl⟩
 obtain ⟨y,hy,rfl,h2⟩:=hy
 exact h.lR.2 x hx y hy (by rw [h1,ha]) (by rw [h2,hc])
theorem BooksOk.posted {b:Books} (hb:BooksOk b) {g:List Leg} {bals:List Bal} (hp:Posted b g bals) {bl:List Lot} {bt:List Trade} {bn:Int} (hl:LotsOk bl) (ht:fX bt) (hn:inP bn 0 1000000000)
  (hlr:∀ x ∈ bl,rp b.Accounts b.Instrs bn x) (hpr:∀ a c,a9 b.Accounts a = 1 → aa b.Instrs c = 2 → sQ (ab bl a c) = sQ (ab b.Lots a c) + jH g a c) (htr:ja b.Accounts b.Instrs bt) :
  BooksOk ⟨b.Accounts,b.Instrs,bals,bl,bt,bn⟩ :=
 ⟨hb.acc,hb.ins,hp.ok,hl,ht,hn,fun x hx => ⟨(hp.mem x hx).1,(hp.mem x hx).2.1,(hp.mem x hx).2.2,hp.sum _⟩,⟨hlr,fun a ha x hx h1 h2 => by
  have k1:=jB hb.acc ha
  have k2:=oO hb.ins hx
  rw [h1] at k1
  rw [h2] at k2
  show sQ (ab bl a.No x.No) = aK bals a.No x.No
  rw [hp.of,hpr _ _ k1 k2,hb.pair k1 k2]⟩,htr⟩
theorem BooksOk.turn {b:Books} (hb:BooksOk b) {g:List Leg} {bals:List Bal} (hp:Posted b g bals) (hg:∀ x ∈ g,aa b.Instrs x.Instr ≠ 2):BooksOk ⟨b.Accounts,b.Instrs,bals,b.Lots,b.Trades,b.Lot⟩ :=
 hb.posted hp hb.lots hb.trades hb.lot hb.lR.1 (fun a c _ hc => by
  have:jH g a c = 0:=by
   unfold jH ak
   rw [List.map_congr_left (g:=fun _ => (0:Int)) (fun x hx => if_neg (fun e => hg x hx (by rw [e.2];exact hc)))]
   clear hp hg
   induction g with
   | nil => rfl
   | cons y l ih => simpa using ih
  omega) hb.tR
end
end Go.Proofs.YtgehbhkfehmdkaaGreat.Sh
