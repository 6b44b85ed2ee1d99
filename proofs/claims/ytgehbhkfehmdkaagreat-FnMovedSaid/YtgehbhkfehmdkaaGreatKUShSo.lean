/- Numbers in the order of what is left nq: insertion, turning, merging in place. No condition. -/
import Derived.Test.YtgehbhkfehmdkaaGreatKUShLo
import Derived.Test.YtgehbhkfehmdkaaGreatKUShMd
import Derived.Test.YtgehbhkfehmdkaaGreatKUShLt
set_option linter.unusedSectionVars false
set_option linter.unusedSimpArgs false
set_option linter.unusedVariables false
namespace Go.Proofs.YtgehbhkfehmdkaaGreat.Sh
section
open Go.RowKit
section
variable {α:Type} [Enc α] {l:List α} {i j k:Int}
theorem bM {x:α} (h:0 ≤ i ∧ i < l.length):rd (upd l i x) i = x:=by
 unfold rd upd
 rw [List.getD_eq_getElem?_getD,List.getElem?_set_self (by omega)]
 rfl
theorem i9 {x:α} (h:0 ≤ i) (hk:0 ≤ k) (hn:k ≠ i):rd (upd l i x) k = rd l k:=by
 unfold rd upd
 rw [List.getD_eq_getElem?_getD,List.getD_eq_getElem?_getD,List.getElem?_set_ne (by omega)]
def swp (l:List α) (i j:Int):List α:=upd (upd l i (rd l j)) j (rd l i)
theorem fQ:(swp l i j).length = l.length:=by rw [swp,aG,aG]
theorem mN (h:0 ≤ i ∧ i < l.length) (h2:0 ≤ j ∧ j < l.length):rd (swp l i j) i = rd l j:=by
 by_cases e:i = j
 ·subst e
  rw [swp,bM (by rw [aG];exact h)]
 ·rw [swp,i9 h2.1 h.1 e,bM h]
theorem mO (h2:0 ≤ j ∧ j < l.length):rd (swp l i j) j = rd l i:=by rw [swp,bM (by rw [aG];exact h2)]
theorem lx (h:0 ≤ i) (h2:0 ≤ j) (hk:0 ≤ k) (h3:k ≠ i) (h4:k ≠ j):rd (swp l i j) k = rd l k:=by rw [swp,i9 h2 hk h4,i9 h hk h3]
theorem ed {m:List α} (hl:l.length = m.length) (h:∀ i:Int,0 ≤ i → i < l.length → rd l i = rd m i):l = m:=by
 refine List.ext_getElem hl fun n h1 h2 => ?_
 have:=h n (by omega) (by omega)
 unfold rd at this
 rw [Int.toNat_natCast,List.getD_eq_getElem?_getD,List.getD_eq_getElem?_getD,List.getElem?_eq_getElem h1,List.getElem?_eq_getElem h2] at this
 exact this
structure Mv (l l':List α) (a b:Int):Prop where
 len:l'.length = l.length
 out:∀ i:Int,0 ≤ i → ¬ (a ≤ i ∧ i < b) → rd l' i = rd l i
 to:∀ i:Int,a ≤ i → i < b → ∃ j:Int,(a ≤ j ∧ j < b) ∧ rd l' i = rd l j
 from_:∀ i:Int,a ≤ i → i < b → ∃ j:Int,(a ≤ j ∧ j < b) ∧ rd l i = rd l' j
theorem Mv.refl (l:List α) (a b:Int):Mv l l a b:=⟨rfl,fun _ _ _ => rfl,fun i h0 h1 => ⟨i,⟨h0,h1⟩,rfl⟩,fun i h0 h1 => ⟨i,⟨h0,h1⟩,rfl⟩⟩
theorem Mv.trans {l1 l2 l3:List α} {a b:Int} (h:Mv l1 l2 a b) (k:Mv l2 l3 a b):Mv l1 l3 a b :=
 ⟨k.len.trans h.len,fun i h0 h1 => (k.out i h0 h1).trans (h.out i h0 h1),fun i h0 h1 => by
  obtain ⟨j,hj,e⟩:=k.to i h0 h1
  obtain ⟨j2,hj2,e2⟩:=h.to j hj.1 hj.2
  exact ⟨j2,hj2,e.trans e2⟩,fun i h0 h1 => by
  obtain ⟨j,hj,e⟩:=h.from_ i h0 h1
  obtain ⟨j2,hj2,e2⟩:=k.from_ j hj.1 hj.2
  exact ⟨j2,hj2,e.trans e2⟩⟩
theorem Mv.wide {l l':List α} {a b a2 b2:Int} (h:Mv l l' a2 b2) (h0:0 ≤ a) (h1:a ≤ a2) (h2:b2 ≤ b):Mv l l' a b :=
 ⟨h.len,fun i k0 k1 => h.out i k0 (by omega),fun i k0 k1 => by
  by_cases e:a2 ≤ i ∧ i < b2
  ·obtain ⟨j,hj,e⟩:=h.to i e.1 e.2
   exact ⟨j,by omega,e⟩
  ·exact ⟨i,⟨k0,k1⟩,h.out i (by omega) e⟩,fun i k0 k1 => by
  by_cases e:a2 ≤ i ∧ i < b2
  ·obtain ⟨j,hj,e⟩:=h.from_ i e.1 e.2
   exact ⟨j,by omega,e⟩
  ·exact ⟨i,⟨k0,k1⟩,(h.out i (by omega) e).symm⟩⟩
theorem Mv.swp {a b:Int} (h0:0 ≤ a) (hb:b ≤ l.length) (hi:a ≤ i ∧ i < b) (hj:a ≤ j ∧ j < b):Mv l (swp l i j) a b :=
 ⟨fQ,fun k k0 k1 => lx (by omega) (by omega) k0 (fun e => k1 (e ▸ hi)) (fun e => k1 (e ▸ hj)),fun k k0 k1 => by
  by_cases e:k = i
  ·exact ⟨j,hj,by rw [e,mN ⟨by omega,by omega⟩ ⟨by omega,by omega⟩]⟩
  ·by_cases e2:k = j
   ·exact ⟨i,hi,by rw [e2,mO ⟨by omega,by omega⟩]⟩
   ·exact ⟨k,⟨k0,k1⟩,lx (by omega) (by omega) (by omega) e e2⟩,fun k k0 k1 => by
  by_cases e:k = i
  ·exact ⟨j,hj,by rw [e,mO ⟨by omega,by omega⟩]⟩
  ·by_cases e2:k = j
   ·exact ⟨i,hi,by rw [e2,mN ⟨by omega,by omega⟩ ⟨by omega,by omega⟩]⟩
   ·exact ⟨k,⟨k0,k1⟩,(lx (by omega) (by omega) (by omega) e e2).symm⟩⟩
end
def so (g:Int → Int) (x y:Int):Prop:=g x > g y ∨ g x = g y ∧ x < y
theorem uP (g:Int → Int) (x:Int):¬ so g x x:=by unfold so;omega
theorem gr {g:Int → Int} {x y z:Int} (h:so g x y) (k:so g y z):so g x z:=by unfold so at *;omega
def RS (g:Int → Int) (l:List Int) (a b:Int):Prop:=∀ i j:Int,a ≤ i → i < j → j < b → so g (rd l i) (rd l j)
section
variable {g:Int → Int} {l l':List Int} {a b m i j:Int}
theorem RS.sub {a2 b2:Int} (h:RS g l a b) (h1:a ≤ a2) (h2:b2 ≤ b):RS g l a2 b2:=fun i j k0 k1 k2 => h i j (by omega) k1 (by omega)
theorem RS.congr {a2 b2 d:Int} (h:RS g l a b) (hd:a2 = a + d) (hb:b2 = b + d) (e:∀ i:Int,a2 ≤ i → i < b2 → rd l' i = rd l (i - d)):RS g l' a2 b2:=fun i j k0 k1 k2 => by
 rw [e i k0 (by omega),e j (by omega) k2]
 exact h _ _ (by omega) (by omega) (by omega)
theorem RS.uniq {l1 l2:List Int} (h0:0 ≤ a) (hb:b ≤ l.length) (h1:Mv l l1 a b) (h2:Mv l l2 a b) (r1:RS g l1 a b) (r2:RS g l2 a b):l1 = l2:=by
 refine ed (h1.len.trans h2.len.symm) fun i hi hl => ?_
 by_cases e:a ≤ i ∧ i < b
 ·have hP:∀ n:Nat,a + n < b → rd l1 (a + n) = rd l2 (a + n):=by
   intro n
   induction n using Nat.strongRecOn with
   | _ n ih =>
     intro hn
     -- each is somewhere in the other
     have look:∀ {u v:List Int},Mv l u a b → Mv l v a b → RS g u a b → RS g v a b → (∀ m:Nat,m < n → rd u (a + m) = rd v (a + m)) → ∃ k:Int,a + n ≤ k ∧ k < b ∧ rd u (a + n) = rd v k:=by
      intro u v hu hv ru rv hm
      obtain ⟨p,hp,e1⟩:=hu.to (a + n) (by omega) hn
      obtain ⟨k,hk,e2⟩:=hv.from_ p hp.1 hp.2
      by_cases hkn:a + n ≤ k
      ·exact ⟨k,hkn,hk.2,e1.trans e2⟩
      ·exfalso
       have h3:=hm (k - a).toNat (by omega)
       rw [show a + ((k - a).toNat:Int) = k from by omega] at h3
       have h4:=ru k (a + n) hk.1 (by omega) hn
       rw [h3,← e2,← e1] at h4
       exact uP g _ h4
     obtain ⟨k1,k1a,k1b,e1⟩:=look h1 h2 r1 r2 (fun m hm => ih m hm (by omega))
     obtain ⟨k2,k2a,k2b,e2⟩:=look h2 h1 r2 r1 (fun m hm => (ih m hm (by omega)).symm)
     by_cases q1:k1 = a + n
     ·rw [e1,q1]
     by_cases q2:k2 = a + n
     ·rw [e2,q2]
     exfalso
     have s1:=r2 (a + n) k1 (by omega) (by omega) k1b
     have s2:=r1 (a + n) k2 (by omega) (by omega) k2b
     rw [← e1] at s1
     rw [← e2] at s2
     exact uP g _ (gr s1 s2)
  have:=hP (i - a).toNat (by omega)
  rwa [show a + ((i - a).toNat:Int) = i from by omega] at this
 ·rw [h1.out i hi e,h2.out i hi e]
structure InI (g:Int → Int) (l0 l:List Int) (a i j:Int):Prop where
 bnd:0 ≤ a ∧ a ≤ j ∧ j ≤ i ∧ i < l0.length
 mv:Mv l0 l a (i + 1)
 ord:∀ p q:Int,a ≤ p → p < q → q ≤ i → p ≠ j → q ≠ j → so g (rd l p) (rd l q)
 gt:∀ q:Int,j < q → q ≤ i → so g (rd l j) (rd l q)
 lt:∀ p:Int,a ≤ p → p ≤ i → p ≠ j → rd l p < rd l j
theorem InI.len (h:InI g l' l a i j):(l.length:Int) = l'.length:=by rw [h.mv.len]
theorem InI.init {l0:List Int} (h0:0 ≤ a ∧ a ≤ i ∧ i < l0.length) (hr:RS g l0 a i) (hl:∀ p:Int,a ≤ p → p < i → rd l0 p < rd l0 i):InI g l0 l0 a i i :=
 ⟨by omega,.refl _ _ _,fun p q k0 k1 k2 k3 k4 => hr p q k0 k1 (by omega),fun q k0 k1 => absurd k0 (by omega),fun p k0 k1 k2 => hl p k0 (by omega)⟩
theorem InI.step {l0:List Int} (h:InI g l0 l a i j) (hj:a < j) (hg:g (rd l j) > g (rd l (j - 1))):InI g l0 (swp l j (j - 1)) a i (j - 1):=by
 have hb:=h.bnd
 have hlen:=h.len
 have e1:rd (swp l j (j - 1)) j = rd l (j - 1):=mN ⟨by omega,by omega⟩ ⟨by omega,by omega⟩
 have e2:rd (swp l j (j - 1)) (j - 1) = rd l j:=mO ⟨by omega,by omega⟩
 have e3:∀ k:Int,0 ≤ k → k ≠ j → k ≠ j - 1 → rd (swp l j (j - 1)) k = rd l k:=fun k k0 k1 k2 => lx (by omega) (by omega) k0 k1 k2
 refine ⟨by omega,h.mv.trans (.swp hb.1 (by omega) ⟨by omega,by omega⟩ ⟨by omega,by omega⟩),fun p q k0 k1 k2 k3 k4 => ?_,fun q k0 k1 => ?_,fun p k0 k1 k2 => ?_⟩
 ·by_cases ep:p = j
  ·subst ep
   rw [e1,e3 q (by omega) (by omega) k4]
   exact h.ord (p - 1) q (by omega) (by omega) k2 (by omega) (by omega)
  ·by_cases eq:q = j
   ·subst eq
    rw [e1,e3 p (by omega) ep k3]
    exact h.ord p (q - 1) k0 (by omega) (by omega) (by omega) (by omega)
   ·rw [e3 p (by omega) ep k3,e3 q (by omega) eq k4]
    exact h.ord p q k0 k1 k2 ep eq
 ·rw [e2]
  by_cases eq:q = j
  ·subst eq
   rw [e1]
   exact .inl hg
  ·rw [e3 q (by omega) eq (by omega)]
   exact h.gt q (by omega) k1
 ·rw [e2]
  by_cases ep:p = j
  ·subst ep
   rw [e1]
   exact h.lt (p - 1) (by omega) (by omega) (by omega)
  ·rw [e3 p (by omega) ep k2]
   exact h.lt p k0 k1 ep
theorem InI.fin {l0:List Int} (h:InI g l0 l a i j) (hs:j = a ∨ ¬ g (rd l j) > g (rd l (j - 1))):RS g l a (i + 1):=by
 have hb:=h.bnd
 have hbef:∀ p:Int,a ≤ p → p < j → so g (rd l p) (rd l j):=fun p k0 k1 => by
  rcases hs with e | e
  ·omega
  ·have h1:=h.lt (j - 1) (by omega) (by omega) (by omega)
   have h2:so g (rd l (j - 1)) (rd l j):=by unfold so;omega
   by_cases ep:p = j - 1
   ·rw [ep];exact h2
   ·exact gr (h.ord p (j - 1) k0 (by omega) (by omega) (by omega) (by omega)) h2
 intro p q k0 k1 k2
 by_cases ep:p = j
 ·subst ep
  exact h.gt q k1 (by omega)
 ·by_cases eq:q = j
  ·subst eq
   exact hbef p k0 k1
  ·exact h.ord p q k0 k1 (by omega) ep eq
end
def mkl {α:Type} (n:Nat) (f:Int → α):List α:=(List.range n).map (fun k:Nat => f k)
theorem ce {α:Type} (n:Nat) (f:Int → α):(mkl n f).length = n:=by simp [mkl]
theorem dC {α:Type} [Enc α] {n:Nat} {f:Int → α} {i:Int} (h:0 ≤ i ∧ i < n):rd (mkl n f) i = f i:=by
 have h1:i.toNat < n:=by omega
 unfold rd mkl
 rw [List.getD_eq_getElem?_getD,List.getElem?_map,List.getElem?_range h1]
 simp only [Option.map_some,Option.getD_some]
 congr 1
 omega
def jM (l:List Int) (x y n:Int) (i:Int):Int:=if x ≤ i ∧ i < x + n then rd l (i - x + y) else if y ≤ i ∧ i < y + n then rd l (i - y + x) else rd l i
def swr (l:List Int) (x y n:Int):List Int:=mkl l.length (jM l x y n)
def eB (l:List Int) (a m b:Int) (i:Int):Int:=if a ≤ i ∧ i < a + b - m then rd l (i + m - a) else if a + b - m ≤ i ∧ i < b then rd l (i - b + m) else rd l i
def rot (l:List Int) (a m b:Int):List Int:=mkl l.length (eB l a m b)
section
variable {g:Int → Int} {l l':List Int} {a b m i j x y n:Int}
theorem cH:(swr l x y n).length = l.length:=ce _ _
theorem bp:(rot l a m b).length = l.length:=ce _ _
theorem fh (h:0 ≤ i ∧ i < l.length):rd (swr l x y n) i = jM l x y n i:=dC h
theorem cD (h:0 ≤ i ∧ i < l.length):rd (rot l a m b) i = eB l a m b i:=dC h
theorem CK:swr l x y 0 = l:=ed cH fun i h0 h1 => by
 rw [cH] at h1
 rw [fh ⟨h0,h1⟩,jM,if_neg (by omega),if_neg (by omega)]
theorem z4 (h:0 ≤ x ∧ 0 ≤ n ∧ x + n < y ∧ y + n < l.length):swp (swr l x y n) (x + n) (y + n) = swr l x y (n + 1):=ed (by rw [fQ,cH,cH]) fun i h0 h1 => by
 rw [fQ,cH] at h1
 rw [fh ⟨h0,h1⟩]
 by_cases e1:i = x + n
 ·subst e1
  rw [mN (by rw [cH];omega) (by rw [cH];omega),fh ⟨by omega,by omega⟩,jM,jM,if_neg (by omega),if_neg (by omega),if_pos (by omega)]
  congr 1
  omega
 ·by_cases e2:i = y + n
  ·subst e2
   rw [mO (by rw [cH];omega),fh ⟨by omega,by omega⟩,jM,jM,if_neg (by omega),if_neg (by omega),if_neg (by omega),if_pos (by omega)]
   congr 1
   omega
  ·rw [lx (by omega) (by omega) h0 e1 e2,fh ⟨h0,h1⟩,jM,jM]
   by_cases k1:x ≤ i ∧ i < x + n
   ·rw [if_pos k1,if_pos (by omega)]
   ·by_cases k2:y ≤ i ∧ i < y + n
    ·rw [if_neg k1,if_pos k2,if_neg (by omega),if_pos (by omega)]
    ·rw [if_neg k1,if_neg k2,if_neg (by omega),if_neg (by omega)]
theorem BR (h:0 ≤ m - i ∧ 0 ≤ j ∧ j < i ∧ m + j ≤ l.length):rot (swr l (m - i) m j) (m - i + j) m (m + j) = rot l (m - i) m (m + j):=ed (by rw [bp,bp,cH]) fun k h0 h1 => by
 rw [bp,cH] at h1
 rw [cD (by rw [cH];omega),cD ⟨h0,h1⟩,eB,eB]
 by_cases k1:m - i ≤ k ∧ k < m - i + j
 ·rw [if_neg (by omega),if_neg (by omega),fh ⟨h0,h1⟩,jM,if_pos (by omega),if_pos (by omega)]
  congr 1
  omega
 ·by_cases k2:m - i + j ≤ k ∧ k < m - i + j + j
  ·rw [if_pos (by omega),fh ⟨by omega,by omega⟩,jM,if_neg (by omega),if_pos (by omega),if_neg (by omega),if_pos (by omega)]
   congr 1
   omega
  ·by_cases k3:m - i + j + j ≤ k ∧ k < m + j
   ·rw [if_neg (by omega),if_pos (by omega),fh ⟨by omega,by omega⟩,jM,if_neg (by omega),if_neg (by omega),if_neg (by omega),if_pos (by omega)]
   ·rw [if_neg (by omega),if_neg (by omega),fh ⟨h0,h1⟩,jM,if_neg (by omega),if_neg (by omega),if_neg (by omega),if_neg (by omega)]
theorem BS (h:0 ≤ m - i ∧ 0 ≤ i ∧ i < j ∧ m + j ≤ l.length):rot (swr l (m - i) (m + j - i) i) (m - i) m (m + (j - i)) = rot l (m - i) m (m + j):=ed (by rw [bp,bp,cH]) fun k h0 h1 => by
 rw [bp,cH] at h1
 rw [cD (by rw [cH];omega),cD ⟨h0,h1⟩,eB,eB]
 by_cases k1:m - i ≤ k ∧ k < m - i + (j - i)
 ·rw [if_pos (by omega),fh ⟨by omega,by omega⟩,jM,if_neg (by omega),if_neg (by omega),if_pos (by omega)]
 ·by_cases k2:m - i + (j - i) ≤ k ∧ k < m + j - i
  ·rw [if_neg (by omega),if_pos (by omega),fh ⟨by omega,by omega⟩,jM,if_pos (by omega),if_pos (by omega)]
   congr 1
   omega
  ·by_cases k3:m + j - i ≤ k ∧ k < m + j
   ·rw [if_neg (by omega),if_neg (by omega),fh ⟨by omega,by omega⟩,jM,if_neg (by omega),if_pos (by omega),if_neg (by omega),if_pos (by omega)]
    congr 1
    omega
   ·rw [if_neg (by omega),if_neg (by omega),fh ⟨h0,h1⟩,jM,if_neg (by omega),if_neg (by omega),if_neg (by omega),if_neg (by omega)]
theorem yR (h:0 ≤ m - i ∧ 0 ≤ i ∧ m + i ≤ l.length):swr l (m - i) m i = rot l (m - i) m (m + i):=ed (by rw [bp,cH]) fun k h0 h1 => by
 rw [cH] at h1
 rw [cD ⟨h0,h1⟩,fh ⟨h0,h1⟩,eB,jM]
 by_cases k1:m - i ≤ k ∧ k < m
 ·rw [if_pos (by omega),if_pos (by omega)]
  congr 1
  omega
 ·by_cases k2:m ≤ k ∧ k < m + i
  ·rw [if_neg (by omega),if_pos (by omega),if_neg (by omega),if_pos (by omega)]
   congr 1
   omega
  ·rw [if_neg (by omega),if_neg (by omega),if_neg (by omega),if_neg (by omega)]
theorem rL (h:a = m ∨ m = b):rot l a m b = l:=ed bp fun k h0 h1 => by
 rw [bp] at h1
 rw [cD ⟨h0,h1⟩,eB]
 by_cases k1:a ≤ k ∧ k < a + b - m
 ·rw [if_pos k1];congr 1;omega
 ·rw [if_neg k1]
  by_cases k2:a + b - m ≤ k ∧ k < b
  ·rw [if_pos k2];congr 1;omega
  ·rw [if_neg k2]
theorem BT (h:0 ≤ a ∧ a ≤ i ∧ i + 1 < l.length):swp (rot l a (a + 1) (i + 1)) i (i + 1) = rot l a (a + 1) (i + 1 + 1):=ed (by rw [fQ,bp,bp]) fun k h0 h1 => by
 rw [fQ,bp] at h1
 rw [cD ⟨h0,h1⟩]
 by_cases e1:k = i
 ·subst e1
  rw [mN (by rw [bp];omega) (by rw [bp];omega),cD ⟨by omega,by omega⟩,eB,eB,if_neg (by omega),if_neg (by omega),if_pos (by omega)]
  congr 1
  omega
 ·by_cases e2:k = i + 1
  ·subst e2
   rw [mO (by rw [bp];omega),cD ⟨by omega,by omega⟩,eB,eB,if_neg (by omega),if_pos (by omega),if_neg (by omega),if_pos (by omega)]
   congr 1
   omega
  ·rw [lx (by omega) (by omega) h0 e1 e2,cD ⟨h0,h1⟩,eB,eB]
   by_cases k1:a ≤ k ∧ k < i
   ·rw [if_pos (by omega),if_pos (by omega)]
   ·rw [if_neg (by omega),if_neg (by omega),if_neg (by omega),if_neg (by omega)]
theorem yQ (h:0 ≤ i - 1 ∧ i ≤ m ∧ m + 1 ≤ l.length):swp (rot l i m (m + 1)) i (i - 1) = rot l (i - 1) m (m + 1):=ed (by rw [fQ,bp,bp]) fun k h0 h1 => by
 rw [fQ,bp] at h1
 rw [cD ⟨h0,h1⟩]
 by_cases e1:k = i
 ·subst e1
  rw [mN (by rw [bp];omega) (by rw [bp];omega),cD ⟨by omega,by omega⟩,eB,eB,if_neg (by omega),if_neg (by omega),if_neg (by omega),if_pos (by omega)]
  congr 1
  omega
 ·by_cases e2:k = i - 1
  ·subst e2
   rw [mO (by rw [bp];omega),cD ⟨by omega,by omega⟩,eB,eB,if_pos (by omega),if_pos (by omega)]
   congr 1
   omega
  ·rw [lx (by omega) (by omega) h0 e1 e2,cD ⟨h0,h1⟩,eB,eB]
   by_cases k1:i < k ∧ k < m + 1
   ·rw [if_neg (by omega),if_pos (by omega),if_neg (by omega),if_pos (by omega)]
   ·rw [if_neg (by omega),if_neg (by omega),if_neg (by omega),if_neg (by omega)]
theorem uL (h:0 ≤ a ∧ a ≤ m ∧ m ≤ b ∧ b ≤ l.length):Mv l (rot l a m b) a b:=by
 refine ⟨bp,fun i h0 h1 => ?_,fun i h0 h1 => ?_,fun i h0 h1 => ?_⟩
 ·by_cases hi:i < l.length
  ·rw [cD ⟨h0,hi⟩,eB,if_neg (by omega),if_neg (by omega)]
  ·unfold rd
   rw [List.getD_eq_getElem?_getD,List.getD_eq_getElem?_getD,List.getElem?_eq_none (by rw [bp];omega),List.getElem?_eq_none (by omega)]
 ·rw [cD ⟨by omega,by omega⟩,eB]
  by_cases k:i < a + b - m
  ·rw [if_pos ⟨h0,k⟩];exact ⟨i + m - a,by omega,rfl⟩
  ·rw [if_neg (by omega),if_pos ⟨by omega,h1⟩];exact ⟨i - b + m,by omega,rfl⟩
 ·by_cases k:i < m
  ·refine ⟨i + b - m,by omega,?_⟩
   rw [cD ⟨by omega,by omega⟩,eB,if_neg (by omega),if_pos (by omega)]
   congr 1;omega
  ·refine ⟨i + a - m,by omega,?_⟩
   rw [cD ⟨by omega,by omega⟩,eB,if_pos (by omega)]
   congr 1;omega
theorem C5 {x y:Int} (h:x ≠ y):so g x y ∨ so g y x:=by unfold so;omega
def DS (l:List Int) (a b:Int):Prop:=∀ i j:Int,a ≤ i → i < j → j < b → rd l i ≠ rd l j
theorem C4 (h:DS l a b) (hab:a < b):∃ k:Int,(a ≤ k ∧ k < b) ∧ ∀ j:Int,a ≤ j → j < b → j ≠ k → so g (rd l k) (rd l j):=by
 obtain ⟨n,rfl⟩:∃ n:Nat,b = a + n + 1:=⟨(b - a - 1).toNat,by omega⟩
 induction n with
 | zero => exact ⟨a,by omega,fun j h0 h1 h2 => by omega⟩
 | succ n ih =>
   obtain ⟨k,hk,hm⟩:=ih (fun i j k0 k1 k2 => h i j k0 k1 (by omega)) (by omega)
   rcases C5 (g:=g) (h k (a + n + 1) hk.1 hk.2 (by omega)) with q | q
   ·refine ⟨k,by omega,fun j h0 h1 h2 => ?_⟩
    by_cases e:j = a + n + 1
    ·rw [e];exact q
    ·exact hm j h0 (by omega) h2
   ·refine ⟨a + n + 1,by omega,fun j h0 h1 h2 => ?_⟩
    by_cases e:j = k
    ·rw [e];exact q
    ·exact gr q (hm j h0 (by omega) e)
theorem DS.mv {l1:List Int} (h0:0 ≤ a) (hb:b ≤ l.length) (hi:a ≤ i ∧ i < b) (hj:a ≤ j ∧ j < b) (h:DS l a b):DS (swp l i j) a b:=by
 have hne:∀ p q:Int,a ≤ p → p < b → a ≤ q → q < b → p ≠ q → rd l p ≠ rd l q:=fun p q k0 k1 k2 k3 k4 => by
  rcases Int.lt_or_gt_of_ne k4 with k | k
  ·exact h p q k0 k k3
  ·exact fun e => h q p k2 k k1 e.symm
 have e1:=mN (l:=l) (i:=i) (j:=j) ⟨by omega,by omega⟩ ⟨by omega,by omega⟩
 have e2:=mO (l:=l) (i:=i) (j:=j) ⟨by omega,by omega⟩
 have e3:=fun k (k0:0 ≤ k) k1 k2 => lx (l:=l) (i:=i) (j:=j) (k:=k) (by omega) (by omega) k0 k1 k2
 intro p q k0 k1 k2
 by_cases p1:p = i
 ·rw [p1,e1]
  by_cases q2:q = j
  ·rw [q2,e2];exact hne _ _ (by omega) (by omega) (by omega) (by omega) (by omega)
  ·rw [e3 q (by omega) (by omega) q2];exact hne _ _ (by omega) (by omega) (by omega) (by omega) (by omega)
 ·by_cases p2:p = j
  ·rw [p2,e2]
   by_cases q1:q = i
   ·rw [q1,e1];exact hne _ _ (by omega) (by omega) (by omega) (by omega) (by omega)
   ·rw [e3 q (by omega) q1 (by omega)];exact hne _ _ (by omega) (by omega) (by omega) (by omega) (by omega)
  ·rw [e3 p (by omega) p1 p2]
   by_cases q1:q = i
   ·rw [q1,e1];exact hne _ _ (by omega) (by omega) (by omega) (by omega) (by omega)
   ·by_cases q2:q = j
    ·rw [q2,e2];exact hne _ _ (by omega) (by omega) (by omega) (by omega) (by omega)
    ·rw [e3 q (by omega) q1 q2];exact hne _ _ (by omega) (by omega) (by omega) (by omega) (by omega)
theorem yY (h0:0 ≤ a) (hb:b ≤ l.length) (h:DS l a b):∃ l',Mv l l' a b ∧ RS g l' a b:=by
 suffices H:∀ n:Nat,∀ (l:List Int) (a:Int),0 ≤ a → b ≤ l.length → DS l a b → (b - a).toNat = n → ∃ l',Mv l l' a b ∧ RS g l' a b from H _ l a h0 hb h rfl
 intro n
 induction n with
 | zero =>
   intro l a h0 hb h hn
   exact ⟨l,.refl _ _ _,fun i j k0 k1 k2 => by omega⟩
 | succ n ih =>
   intro l a h0 hb h hn
   obtain ⟨k,hk,hm⟩:=C4 (g:=g) h (by omega)
   have hd:=DS.mv (l1:=l) h0 hb (i:=a) (j:=k) ⟨by omega,by omega⟩ hk h
   obtain ⟨l',hmv,hrs⟩:=ih (swp l a k) (a + 1) (by omega) (by rw [fQ];exact hb) (fun i j k0 k1 k2 => hd i j (by omega) k1 k2) (by omega)
   refine ⟨l',(Mv.swp h0 hb ⟨by omega,by omega⟩ hk).trans (hmv.wide h0 (by omega) (by omega)),fun i j k0 k1 k2 => ?_⟩
   by_cases e:i = a
   ·subst e
    rw [hmv.out i (by omega) (by omega),mN ⟨by omega,by omega⟩ ⟨by omega,by omega⟩]
    obtain ⟨p,hp,e2⟩:=hmv.to j (by omega) k2
    rw [e2]
    by_cases e3:p = k
    ·rw [e3,mO ⟨by omega,by omega⟩]
     exact hm i (by omega) (by omega) (by omega)
    ·rw [lx (by omega) (by omega) (by omega) (by omega) e3]
     exact hm p (by omega) (by omega) e3
   ·exact hrs i j (by omega) k1 k2
end
structure SM (g:Int → Int) (l:List Int) (a m b:Int):Prop where
 bnd:0 ≤ a ∧ a ≤ m ∧ m ≤ b ∧ b ≤ l.length
 r1:RS g l a m
 r2:RS g l m b
 cr:∀ i j:Int,a ≤ i → i < m → m ≤ j → j < b → rd l i < rd l j
section
variable {g:Int → Int} {l l':List Int} {a b m i j s e mid:Int}
theorem qQ {x y:Int} (h:x < y):so g y x ↔ g y > g x:=by unfold so;omega
theorem qR {x y:Int} (h:x < y):so g x y ↔ ¬ g y > g x:=by unfold so;omega
theorem RS.ne (h:RS g l a b) {i j:Int} (h0:a ≤ i) (h1:i < j) (h2:j < b):rd l i ≠ rd l j:=fun e => by
 have:=h i j h0 h1 h2
 rw [e] at this
 exact uP g _ this
theorem SM.ds (h:SM g l a m b):DS l a b:=fun i j h0 h1 h2 => by
 by_cases k1:j < m
 ·exact h.r1.ne h0 h1 k1
 ·by_cases k2:m ≤ i
  ·exact h.r2.ne k2 h1 h2
  ·have:=h.cr i j h0 (by omega) (by omega) h2
   omega
theorem SM.ex (h:SM g l a m b):∃ l',Mv l l' a b ∧ RS g l' a b:=yY h.bnd.1 h.bnd.2.2.2 h.ds
theorem SM.triv (h:SM g l a m b) (hm:a = m ∨ m = b):RS g l a b:=by
 rcases hm with rfl | rfl
 ·exact h.r2
 ·exact h.r1
structure SR (g:Int → Int) (l:List Int) (a m b s e mid:Int):Prop where
 sm:SM g l a m b
 bs:a ≤ s ∧ s ≤ m ∧ m ≤ e ∧ e ≤ b ∧ e - m = mid - s
 b1:s = a ∨ e = b ∨ so g (rd l (s - 1)) (rd l e)
 b2:s = m ∨ e = m ∨ so g (rd l (e - 1)) (rd l s)
theorem SR.at1 (h:SR g l a m b s e mid) {i:Int} (h0:0 ≤ i) (h1:i < s):rd (rot l s m e) i = rd l i:=by
 have:=h.sm.bnd;have:=h.bs
 rw [cD ⟨h0,by omega⟩,eB,if_neg (by omega),if_neg (by omega)]
theorem SR.at2 (h:SR g l a m b s e mid) {i:Int} (h0:s ≤ i) (h1:i < mid):rd (rot l s m e) i = rd l (i + m - s):=by
 have:=h.sm.bnd;have:=h.bs
 rw [cD ⟨by omega,by omega⟩,eB,if_pos (by omega)]
theorem SR.at3 (h:SR g l a m b s e mid) {i:Int} (h0:mid ≤ i) (h1:i < e):rd (rot l s m e) i = rd l (i - e + m):=by
 have:=h.sm.bnd;have:=h.bs
 rw [cD ⟨by omega,by omega⟩,eB,if_neg (by omega),if_pos (by omega)]
theorem SR.at4 (h:SR g l a m b s e mid) {i:Int} (h0:e ≤ i) (h1:i < l.length):rd (rot l s m e) i = rd l i:=by
 have:=h.sm.bnd;have:=h.bs
 rw [cD ⟨by omega,h1⟩,eB,if_neg (by omega),if_neg (by omega)]
theorem SR.mv (h:SR g l a m b s e mid):Mv l (rot l s m e) a b:=by
 have h1:=h.sm.bnd;have h2:=h.bs
 exact (uL (l:=l) (a:=s) (m:=m) (b:=e) (by omega)).wide (by omega) (by omega) (by omega)
theorem SR.low (h:SR g l a m b s e mid):SM g (rot l s m e) a s mid:=by
 have h1:=h.sm.bnd;have h2:=h.bs
 refine ⟨by rw [bp];omega,fun i j k0 k1 k2 => ?_,fun i j k0 k1 k2 => ?_,fun i j k0 k1 k2 k3 => ?_⟩
 ·rw [h.at1 (by omega) (by omega),h.at1 (by omega) (by omega)]
  exact h.sm.r1 i j k0 k1 (by omega)
 ·rw [h.at2 k0 (by omega),h.at2 (by omega) k2]
  exact h.sm.r2 _ _ (by omega) (by omega) (by omega)
 ·rw [h.at1 (by omega) k1,h.at2 k2 k3]
  exact h.sm.cr _ _ k0 (by omega) (by omega) (by omega)
theorem SR.high (h:SR g l a m b s e mid):SM g (rot l s m e) mid e b:=by
 have h1:=h.sm.bnd;have h2:=h.bs
 refine ⟨by rw [bp];omega,fun i j k0 k1 k2 => ?_,fun i j k0 k1 k2 => ?_,fun i j k0 k1 k2 k3 => ?_⟩
 ·rw [h.at3 k0 (by omega),h.at3 (by omega) k2]
  exact h.sm.r1 _ _ (by omega) (by omega) (by omega)
 ·rw [h.at4 k0 (by omega),h.at4 (by omega) (by omega)]
  exact h.sm.r2 i j (by omega) k1 k2
 ·rw [h.at3 k0 k1,h.at4 k2 (by omega)]
  exact h.sm.cr _ _ (by omega) (by omega) (by omega) k3
theorem SR.sep (h:SR g l a m b s e mid) {i j:Int} (h0:a ≤ i) (h1:i < mid) (h2:mid ≤ j) (h3:j < b):so g (rd (rot l s m e) i) (rd (rot l s m e) j):=by
 have q1:=h.sm.bnd;have q2:=h.bs
 have le1:∀ {p q:Int},a ≤ p → p ≤ q → q < m → p = q ∨ so g (rd l p) (rd l q):=fun k0 k1 k2 => by
  rcases Int.lt_or_eq_of_le k1 with k | k
  ·exact .inr (h.sm.r1 _ _ k0 k k2)
  ·exact .inl k
 have le2:∀ {p q:Int},m ≤ p → p ≤ q → q < b → p = q ∨ so g (rd l p) (rd l q):=fun k0 k1 k2 => by
  rcases Int.lt_or_eq_of_le k1 with k | k
  ·exact .inr (h.sm.r2 _ _ k0 k k2)
  ·exact .inl k
 by_cases ei:i < s
 ·rw [h.at1 (by omega) ei]
  by_cases ej:j < e
  ·rw [h.at3 h2 ej]
   exact h.sm.r1 _ _ h0 (by omega) (by omega)
  ·rw [h.at4 (by omega) (by omega)]
   have hb:so g (rd l (s - 1)) (rd l e):=by
    rcases h.b1 with k | k | k
    ·omega
    ·omega
    ·exact k
   have c1:=le1 (p:=i) (q:=s - 1) h0 (by omega) (by omega)
   have c2:=le2 (p:=e) (q:=j) (by omega) (by omega) h3
   rcases c1 with c1 | c1 <;> rcases c2 with c2 | c2
   ·rw [c1,← c2];exact hb
   ·rw [c1];exact gr hb c2
   ·rw [← c2];exact gr c1 hb
   ·exact gr c1 (gr hb c2)
 ·rw [h.at2 (by omega) h1]
  by_cases ej:j < e
  ·rw [h.at3 h2 ej]
   have hb:so g (rd l (e - 1)) (rd l s):=by
    rcases h.b2 with k | k | k
    ·omega
    ·omega
    ·exact k
   have c1:=le2 (p:=i + m - s) (q:=e - 1) (by omega) (by omega) (by omega)
   have c2:=le1 (p:=s) (q:=j - e + m) (by omega) (by omega) (by omega)
   rcases c1 with c1 | c1 <;> rcases c2 with c2 | c2
   ·rw [c1,← c2];exact hb
   ·rw [c1];exact gr hb c2
   ·rw [← c2];exact gr c1 hb
   ·exact gr c1 (gr hb c2)
  ·rw [h.at4 (by omega) (by omega)]
   exact h.sm.r2 _ _ (by omega) (by omega) h3
theorem SR.both (h:SR g l a m b s e mid) {l1 l2:List Int} (h1:Mv (rot l s m e) l1 a mid) (r1:RS g l1 a mid) (h2:Mv l1 l2 mid b) (r2:RS g l2 mid b):Mv l l2 a b ∧ RS g l2 a b:=by
 have q1:=h.sm.bnd;have q2:=h.bs
 refine ⟨(h.mv.trans (h1.wide (by omega) (by omega) (by omega))).trans (h2.wide (by omega) (by omega) (by omega)),fun i j k0 k1 k2 => ?_⟩
 by_cases ei:i < mid
 ·by_cases ej:j < mid
  ·rw [h2.out i (by omega) (by omega),h2.out j (by omega) (by omega)]
   exact r1 i j k0 k1 ej
  ·rw [h2.out i (by omega) (by omega)]
   obtain ⟨p,hp,e1⟩:=h1.to i k0 ei
   obtain ⟨q,hq,e2⟩:=h2.to j (by omega) k2
   rw [e1,e2,h1.out q (by omega) (by omega)]
   exact h.sep hp.1 hp.2 hq.1 hq.2
 ·exact r2 i j (by omega) k1 k2
theorem SM.mv (h:SM g l a m b) {a2:Int} (h2:Mv l l' a2 a) (h0:0 ≤ a2):SM g l' a m b:=by
 have q:=h.bnd
 have e:∀ i:Int,a ≤ i → rd l' i = rd l i:=fun i k => h2.out i (by omega) (by omega)
 refine ⟨by rw [h2.len];exact q,fun i j k0 k1 k2 => ?_,fun i j k0 k1 k2 => ?_,fun i j k0 k1 k2 k3 => ?_⟩
 ·rw [e i k0,e j (by omega)];exact h.r1 i j k0 k1 k2
 ·rw [e i (by omega),e j (by omega)];exact h.r2 i j k0 k1 k2
 ·rw [e i k0,e j (by omega)];exact h.cr i j k0 k1 k2 k3
theorem SM.one (h:SM g l a m b) (hm:m = a + 1) (hi:m ≤ i ∧ i ≤ b) (h1:∀ c:Int,m ≤ c → c < i → so g (rd l c) (rd l a)) (h2:∀ c:Int,i ≤ c → c < b → so g (rd l a) (rd l c)):Mv l (rot l a m i) a b ∧ RS g (rot l a m i) a b:=by
 have q:=h.bnd
 refine ⟨(uL (by omega)).wide q.1 (Int.le_refl _) hi.2,fun p r k0 k1 k2 => ?_⟩
 have ev:∀ k:Int,a ≤ k → k < b → rd (rot l a m i) k = if k < i - 1 then rd l (k + 1) else if k = i - 1 then rd l a else rd l k:=fun k e0 e1 => by
  rw [cD ⟨by omega,by omega⟩,eB]
  by_cases c1:k < i - 1
  ·rw [if_pos (by omega),if_pos c1];congr 1;omega
  ·by_cases c2:k = i - 1
   ·rw [if_neg (by omega),if_pos (by omega),if_neg c1,if_pos c2];congr 1;omega
   ·rw [if_neg (by omega),if_neg (by omega),if_neg c1,if_neg c2]
 rw [ev p k0 (by omega),ev r (by omega) k2]
 by_cases c1:p < i - 1
 ·rw [if_pos c1]
  by_cases d1:r < i - 1
  ·rw [if_pos d1];exact h.r2 _ _ (by omega) (by omega) (by omega)
  ·by_cases d2:r = i - 1
   ·rw [if_neg d1,if_pos d2];exact h1 _ (by omega) (by omega)
   ·rw [if_neg d1,if_neg d2];exact h.r2 _ _ (by omega) (by omega) (by omega)
 ·rw [if_neg c1]
  by_cases c2:p = i - 1
  ·rw [if_pos c2,if_neg (by omega),if_neg (by omega)]
   exact h2 _ (by omega) k2
  ·rw [if_neg c2,if_neg (by omega),if_neg (by omega)]
   exact h.r2 _ _ (by omega) (by omega) (by omega)
theorem SM.last (h:SM g l a m b) (hm:b = m + 1) (hi:a ≤ i ∧ i ≤ m) (h1:∀ c:Int,a ≤ c → c < i → so g (rd l c) (rd l m)) (h2:∀ c:Int,i ≤ c → c < m → so g (rd l m) (rd l c)):Mv l (rot l i m b) a b ∧ RS g (rot l i m b) a b:=by
 have q:=h.bnd
 refine ⟨(uL (by omega)).wide q.1 hi.1 (Int.le_refl _),fun p r k0 k1 k2 => ?_⟩
 have ev:∀ k:Int,a ≤ k → k < b → rd (rot l i m b) k = if k < i then rd l k else if k = i then rd l m else rd l (k - 1):=fun k e0 e1 => by
  rw [cD ⟨by omega,by omega⟩,eB]
  by_cases c1:k < i
  ·rw [if_neg (by omega),if_neg (by omega),if_pos c1]
  ·by_cases c2:k = i
   ·rw [if_pos (by omega),if_neg c1,if_pos c2];congr 1;omega
   ·rw [if_neg (by omega),if_pos (by omega),if_neg c1,if_neg c2];congr 1;omega
 rw [ev p k0 (by omega),ev r (by omega) k2]
 by_cases c1:p < i
 ·rw [if_pos c1]
  by_cases d1:r < i
  ·rw [if_pos d1];exact h.r1 _ _ (by omega) (by omega) (by omega)
  ·by_cases d2:r = i
   ·rw [if_neg d1,if_pos d2];exact h1 _ (by omega) (by omega)
   ·rw [if_neg d1,if_neg d2];exact h.r1 _ _ (by omega) (by omega) (by omega)
 ·rw [if_neg c1]
  by_cases c2:p = i
  ·rw [if_pos c2,if_neg (by omega),if_neg (by omega)]
   exact h2 _ (by omega) (by omega)
  ·rw [if_neg c2,if_neg (by omega),if_neg (by omega)]
   exact h.r1 _ _ (by omega) (by omega) (by omega)
end
end
section
open Go.RowKit
def nk (n:Nat):List Int:=mkl n (fun i => i)
theorem eG (n:Nat):(nk n).length = n:=ce _ _
theorem fg {n:Nat} {i:Int} (h:0 ≤ i ∧ i < n):rd (nk n) i = i:=dC h
theorem zS (n:Nat):DS (nk n) 0 n:=fun i j h0 h1 h2 => by rw [fg ⟨h0,by omega⟩,fg ⟨by omega,h2⟩];omega
theorem rz (g:Int → Int) (n:Nat):∃ l,Mv (nk n) l 0 n ∧ RS g l 0 n:=yY (by omega) (by rw [eG];omega) (zS n)
noncomputable def gk (g:Int → Int) (n:Nat):List Int:=Classical.choose (rz g n)
theorem my (g:Int → Int) (n:Nat):Mv (nk n) (gk g n) 0 n:=(Classical.choose_spec (rz g n)).1
theorem kU (g:Int → Int) (n:Nat):RS g (gk g n) 0 n:=(Classical.choose_spec (rz g n)).2
theorem mw (g:Int → Int) (n:Nat):(gk g n).length = n:=by rw [(my g n).len,eG]
theorem rH {g:Int → Int} {n:Nat} {l:List Int} (h:Mv (nk n) l 0 n) (k:RS g l 0 n):l = gk g n:=RS.uniq (by omega) (by rw [eG];omega) h (my g n) k (kU g n)
theorem i6 {g:Int → Int} {n:Nat} {i:Int} (h:0 ≤ i ∧ i < n):0 ≤ rd (gk g n) i ∧ rd (gk g n) i < n:=by
 obtain ⟨j,hj,e⟩:=(my g n).to i h.1 h.2
 rw [e,fg hj]
 exact hj
theorem yB {g:Int → Int} {n:Nat} {v:Int} (h:0 ≤ v ∧ v < n):∃ i:Int,(0 ≤ i ∧ i < n) ∧ rd (gk g n) i = v:=by
 obtain ⟨j,hj,e⟩:=(my g n).from_ v h.1 h.2
 rw [fg h] at e
 exact ⟨j,hj,e.symm⟩
theorem uJ {g g':Int → Int} {n:Nat} (h:∀ i:Int,0 ≤ i → i < n → g i = g' i):gk g n = gk g' n:=by
 refine rH (my g n) (fun i j h0 h1 h2 => ?_)
 have:=kU g n i j h0 h1 h2
 have r1:=i6 (g:=g) (n:=n) (i:=i) ⟨h0,by omega⟩
 have r2:=i6 (g:=g) (n:=n) (i:=j) ⟨by omega,h2⟩
 unfold so at *
 rw [← h _ r1.1 r1.2,← h _ r2.1 r2.2]
 exact this
theorem lV {α:Type} [Enc α] {l:List α} {k p:Int} {x:α} (h:0 ≤ k ∧ k ≤ l.length) (hp:0 ≤ p):rd (ins l k x) p = if p < k then rd l p else if p = k then x else rd l (p - 1):=by
 unfold rd ins
 rw [List.getD_eq_getElem?_getD,List.getD_eq_getElem?_getD,List.getD_eq_getElem?_getD,List.getElem?_append]
 by_cases h1:p < k
 ·rw [if_pos (by rw [List.length_take];omega),if_pos h1,List.getElem?_take_of_lt (by omega)]
 ·rw [if_neg (by rw [List.length_take];omega),if_neg h1]
  have e:p.toNat - (List.take k.toNat l).length = (p - k).toNat:=by rw [List.length_take];omega
  rw [e]
  by_cases h2:p = k
  ·subst h2
   rw [if_pos rfl,Int.sub_self]
   rfl
  ·rw [if_neg h2,show (p - k).toNat = (p - k - 1).toNat + 1 from by omega,List.getElem?_cons_succ,List.getElem?_drop]
   congr 2
   omega
theorem wQ {g:Int → Int} {n:Nat} {k:Int} (hk:0 ≤ k ∧ k ≤ n) (h1:k = 0 ∨ ¬ g (rd (gk g n) (k - 1)) < g n) (h2:∀ p:Int,k ≤ p → p < n → g (rd (gk g n) p) < g n):ins (gk g n) k n = gk g (n + 1):=by
 have hl:=mw g n
 have hil:((ins (gk g n) k (n:Int)).length:Int) = n + 1:=by rw [cZ (by omega)];omega
 have ev:∀ p:Int,0 ≤ p → rd (ins (gk g n) k (n:Int)) p = if p < k then rd (gk g n) p else if p = k then (n:Int) else rd (gk g n) (p - 1):=fun p hp => lV (by omega) hp
 refine rH ⟨by rw [eG];omega,fun i h0 h1' => ?_,fun i h0 h1' => ?_,fun i h0 h1' => ?_⟩ (fun i j h0 h1' h2' => ?_)
 ·unfold rd
  rw [List.getD_eq_getElem?_getD,List.getD_eq_getElem?_getD,List.getElem?_eq_none (by omega),List.getElem?_eq_none (by rw [eG];omega)]
 ·rw [ev i h0]
  by_cases c1:i < k
  ·rw [if_pos c1]
   have:=i6 (g:=g) (n:=n) (i:=i) ⟨h0,by omega⟩
   exact ⟨rd (gk g n) i,by omega,(fg ⟨this.1,by omega⟩).symm⟩
  ·rw [if_neg c1]
   by_cases c2:i = k
   ·rw [if_pos c2]
    exact ⟨n,by omega,(fg ⟨by omega,by omega⟩).symm⟩
   ·rw [if_neg c2]
    have:=i6 (g:=g) (n:=n) (i:=i - 1) ⟨by omega,by omega⟩
    exact ⟨rd (gk g n) (i - 1),by omega,(fg ⟨this.1,by omega⟩).symm⟩
 ·rw [fg ⟨h0,by omega⟩]
  by_cases e:i = n
  ·exact ⟨k,by omega,by rw [ev k hk.1,if_neg (by omega),if_pos rfl,e]⟩
  ·obtain ⟨p,hp,e2⟩:=yB (g:=g) (n:=n) (v:=i) ⟨h0,by omega⟩
   by_cases c:p < k
   ·exact ⟨p,by omega,by rw [ev p hp.1,if_pos c,e2]⟩
   ·exact ⟨p + 1,by omega,by rw [ev _ (by omega),if_neg (by omega),if_neg (by omega),show p + 1 - 1 = p from by omega,e2]⟩
 ·have hbef:∀ p:Int,0 ≤ p → p < k → so g (rd (gk g n) p) n:=fun p p0 p1 => by
   have r:=i6 (g:=g) (n:=n) (i:=k - 1) ⟨by omega,by omega⟩
   have hk1:so g (rd (gk g n) (k - 1)) n:=by
    unfold so
    rcases h1 with h | h <;> omega
   by_cases e:p = k - 1
   ·rw [e];exact hk1
   ·exact gr (kU g n p (k - 1) p0 (by omega) (by omega)) hk1
  rw [ev i h0,ev j (by omega)]
  by_cases c1:i < k
  ·rw [if_pos c1]
   by_cases d1:j < k
   ·rw [if_pos d1];exact kU g n i j h0 h1' (by omega)
   ·rw [if_neg d1]
    by_cases d2:j = k
    ·rw [if_pos d2];exact hbef i h0 c1
    ·rw [if_neg d2];exact kU g n i (j - 1) h0 (by omega) (by omega)
  ·rw [if_neg c1]
   by_cases c2:i = k
   ·rw [if_pos c2,if_neg (by omega),if_neg (by omega)]
    exact .inl (h2 (j - 1) (by omega) (by omega))
   ·rw [if_neg c2,if_neg (by omega),if_neg (by omega)]
    exact kU g n (i - 1) (j - 1) (by omega) (by omega) (by omega)
def nH (ws:List Int):Prop:=inP ws.length 1 40 ∧ (∀ x ∈ ws,inP x 0 1000000000000000) ∧ inP (ao id ws) 1 1000000000000000
def shareable (t:Int) (ws:List Int):Prop:=nH ws ∧ inP t 0 1000000000000000
def shQ (t:Int) (ws:List Int) (w:Int):Int:=t * w / ao id ws
def shG (t:Int) (ws:List Int) (i:Int):Int:=t * rd ws i % ao id ws
def fx (t:Int) (ws:List Int):List Int:=ws.map (shQ t ws)
def cF (t:Int) (ws:List Int):Int:=t - ao id (fx t ws)
noncomputable def dY (t:Int) (ws:List Int):List Int:=gk (shG t ws) ws.length
def inc (o:List Int) (i:Int):List Int:=upd o i (rd o i + 1)
noncomputable def shs (t:Int) (ws:List Int):List Int:=(pf (dY t ws) (cF t ws)).foldl inc (fx t ws)
theorem yX (t W:Int) (hW:0 < W):∀ ws:List Int,W * ao id (ws.map (fun w => t * w / W)) + ao id (ws.map (fun w => t * w % W)) = t * ao id ws
 | [] => by simp [ao]
 | w :: ws => by
   have ih:=yX t W hW ws
   have h1:=(kb (t * w) W hW).1
   rw [List.map_cons,List.map_cons,aT,aT,aT]
   simp only [id]
   rw [Int.mul_add,Int.mul_add,← ih]
   have:W * (t * w / W) + t * w % W = t * w:=h1.symm
   omega
theorem mM {ws:List Int} (h:∀ x ∈ ws,0 ≤ x) {w:Int} (hw:w ∈ ws):w ≤ ao id ws:=by
 induction ws with
 | nil => cases hw
 | cons x ws ih =>
   rw [aT]
   have h1:0 ≤ ao id ws:=fu (fun y hy => h y (by simp [hy]))
   have h2:=h x (by simp)
   rcases List.mem_cons.1 hw with rfl | hw
   ·simp only [id];omega
   ·have:=ih (fun y hy => h y (by simp [hy])) hw
    simp only [id] at *;omega
section
variable {t:Int} {ws:List Int} (h:shareable t ws)
include h
theorem shareable.W:1 ≤ ao id ws ∧ ao id ws ≤ 1000000000000000:=h.1.2.2
theorem shareable.w {w:Int} (hw:w ∈ ws):(0 ≤ w ∧ w ≤ ao id ws) ∧ w ≤ 1000000000000000:=⟨⟨(h.1.2.1 w hw).1,mM (fun x hx => (h.1.2.1 x hx).1) hw⟩,(h.1.2.1 w hw).2⟩
theorem shareable.q {w:Int} (hw:w ∈ ws):0 ≤ t * w / ao id ws ∧ t * w / ao id ws ≤ t:=by
 have h1:=h.w hw
 have h2:=h.W
 exact dq h.2.1 h1.1.1 h1.1.2 h2.1
theorem shareable.more:0 ≤ cF t ws ∧ cF t ws ≤ ws.length:=by
 have h2:=h.W
 have h1:=yX t (ao id ws) (by omega) ws
 have h3:0 ≤ ao id (ws.map (fun w => t * w % ao id ws)):=fu (fun x hx => by
  obtain ⟨w,_,rfl⟩:=List.mem_map.1 hx
  exact Int.emod_nonneg _ (by omega))
 have h4:=wa (f:=id) (l:=ws.map (fun w => t * w % ao id ws)) (M:=ao id ws) (fun x hx => by
  obtain ⟨w,_,rfl⟩:=List.mem_map.1 hx
  exact Int.le_of_lt (Int.emod_lt_of_pos _ (by omega)))
 rw [List.length_map] at h4
 have e:cF t ws = t - ao id (ws.map (fun w => t * w / ao id ws)):=rfl
 rw [e]
 generalize ao id (ws.map (fun w => t * w / ao id ws)) = S at *
 generalize ao id (ws.map (fun w => t * w % ao id ws)) = R at *
 generalize ao id ws = W at *
 have h5:W * (t - S) = R:=by rw [Int.mul_sub,Int.mul_comm W t];omega
 constructor
 ·by_cases k:0 ≤ t - S
  ·exact k
  ·exfalso
   have:W * (t - S) ≤ W * (-1):=Int.mul_le_mul_of_nonneg_left (by omega) (by omega)
   omega
 ·by_cases k:t - S ≤ ws.length
  ·exact k
  ·exfalso
   have:W * (ws.length + 1) ≤ W * (t - S):=Int.mul_le_mul_of_nonneg_left (by omega) (by omega)
   rw [Int.mul_add,Int.mul_comm W (ws.length:Int)] at this
   omega
end
theorem dE (t:Int) (ws:List Int):(fx t ws).length = ws.length:=by simp [fx]
theorem kZ (t:Int) (ws:List Int):(dY t ws).length = ws.length:=mw _ _
theorem zO (o:List Int) (i:Int):(inc o i).length = o.length:=aG _ _ _
theorem t5 (q:List Int):∀ l:List Int,(l.foldl inc q).length = q.length:=fun l => by
 induction l generalizing q with
 | nil => rfl
 | cons x l ih => rw [List.foldl_cons,ih,zO]
theorem iB (t:Int) (ws:List Int):(shs t ws).length = ws.length:=by rw [shs,t5,dE]
theorem wE {q o:List Int} {k:Int} (h:0 ≤ k ∧ k < o.length):(pf o (k + 1)).foldl inc q = inc ((pf o k).foldl inc q) (rd o k):=by
 rw [cg h,List.foldl_append]
 rfl
end
end Go.Proofs.YtgehbhkfehmdkaaGreat.Sh
