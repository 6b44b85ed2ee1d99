/- Symbolic memory: values told in full, rows of one kind, the same world told in other words. No condition. -/
import Derived.Test.YtgehbhkfehmdkaaGreatKFxShW
set_option linter.unusedVariables false
namespace Go.Proofs.YtgehbhkfehmdkaaGreat.Sh
section
open Go.RowKit Go.Proofs.YtgehbhkfehmdkaaGreatW
def uJ:List Nat:=[0,1,2,3,4,5,6,7,8,9,10,11,12,13,14,15,16,17,18,19,20,21,22,23,24,25,26,27,28,29,30,31,32,33,34,35,36,37,38,39,40,41,42,43,44,45,46,47,48,49,50,51,52,53,54,55,56,57,58,59,60,61,62,63,64,65,66,67,68,69,70,71,72,73,74,75,76,77,78,79,80,81,82,83,84,85,86,87,88,89,90,91,92,93,94,95,96,97,98,99,100,101,102,103,104,105,106,107,108,109,110,111,112,113,114,115,116,117,118,119,120,121,122,123,124,125,126,127,128,129,130,131,132,133,134,135,136,137,138,139,140,141,142,143,144,145,146,147,148,149,150,151,152,153,154,155,156,157,158,159]
theorem km:uJ = List.range 160:=rfl
def uB:List Nat → Nat → Option Nat
 | [],_ => none
 | x :: _,0 => some x
 | _ :: r,n + 1 => uB r n
theorem rn:∀ (l:List Nat) (n:Nat),uB l n = l[n]?
 | [],n => by simp [uB]
 | x :: r,0 => rfl
 | x :: r,n + 1 => by simp [uB,rn r n]
theorem gQ {k n m:Nat} (h:(List.range k)[n]? = some m):n = m:=by
 obtain ⟨h1,h2⟩:=List.getElem?_eq_some_iff.1 h
 simpa using h2
def lit (n:Nat):Option Nat:=uB uJ n
theorem eS {n m:Nat} (h:lit n = some m):n = m:=by
 unfold lit at h
 rw [rn,km] at h
 exact gQ h
def fB:Bool → Option Bool
 | true => some true
 | false => some false
theorem yN {b c:Bool} (h:fB b = some c):b = c:=by
 cases b <;> exact Option.some.inj h
def qZ:List (Nat × Nat × Nat) → Option (List (Nat × Nat × Nat))
 | [] => some []
 | (o,i,q) :: r => match lit o,lit q,qZ r with
  | some o',some q',some r' => some ((o',i,q') :: r')
  | _,_,_ => none
theorem oz:∀ {l l':List (Nat × Nat × Nat)},qZ l = some l' → l = l'
 | [],_,h => Option.some.inj h
 | (o,i,q) :: r,_,h => by
  unfold qZ at h
  split at h
  ·rename_i o' q' r' h1 h2 h3
   cases h
   rw [eS h1,eS h2,oz h3]
  ·cases h
def fAC:AC → Option AC
 | .sc v => some (.sc v)
 | .ptr o i q => match lit o,lit q with
   | some o',some q' => some (.ptr o' i q')
   | _,_ => none
 | .row o s n => match lit o with
   | some o' => some (.row o' s n)
   | none => none
 | .fn f caps => match qZ caps with
   | some c => some (.fn f c)
   | none => none
 | .cp o c => match lit o with
   | some o' => some (.cp o' c)
   | none => none
 | .e0 => some .e0
theorem tJ:∀ {x y:AC},fAC x = some y → x = y
 | .sc _,_,h => Option.some.inj h
 | .ptr o i q,y,h => by
   simp only [fAC] at h
   split at h
   ·rename_i h1 h2
    cases h
    rw [eS h1,eS h2]
   ·cases h
 | .row o s n,y,h => by
   simp only [fAC] at h
   split at h
   ·rename_i h1
    cases h
    rw [eS h1]
   ·cases h
 | .fn f caps,y,h => by
   simp only [fAC] at h
   split at h
   ·rename_i h1
    cases h
    rw [oz h1]
   ·cases h
 | .cp o c,y,h => by
   simp only [fAC] at h
   split at h
   ·rename_i h1
    cases h
    rw [eS h1]
   ·cases h
 | .e0,_,h => Option.some.inj h
def qe:List AC → Option (List AC)
 | [] => some []
 | x :: r => match fAC x,qe r with
   | some x',some r' => some (x' :: r')
   | _,_ => none
theorem iL:∀ {l l':List AC},qe l = some l' → l = l'
 | [],_,h => Option.some.inj h
 | x :: r,_,h => by
   unfold qe at h
   split at h
   ·rename_i h1 h2
    cases h
    rw [tJ h1,iL h2]
   ·cases h
def fV1:AV → Option AV
 | .c x => match fAC x with
   | some y => some (.c y)
   | none => none
 | .agg cs => match qe cs with
   | some cs' => some (.agg cs')
   | none => none
 | .tup _ => none
theorem mO:∀ {x y:AV},fV1 x = some y → x = y
 | .c x,y,h => by
   simp only [fV1] at h
   split at h
   ·rename_i h1
    cases h
    rw [tJ h1]
   ·cases h
 | .agg cs,y,h => by
   simp only [fV1] at h
   split at h
   ·rename_i h1
    cases h
    rw [iL h1]
   ·cases h
 | .tup _,y,h => by cases h
def fVs:List AV → Option (List AV)
 | [] => some []
 | x :: r => match fV1 x,fVs r with
   | some x',some r' => some (x' :: r')
   | _,_ => none
theorem tK:∀ {l l':List AV},fVs l = some l' → l = l'
 | [],_,h => Option.some.inj h
 | x :: r,_,h => by
   unfold fVs at h
   split at h
   ·rename_i h1 h2
    cases h
    rw [mO h1,tK h2]
   ·cases h
def fV:AV → Option AV
 | .c (.sc (.bool b)) => match b with
   | true => some (.c (.sc (.bool true)))
   | false => some (.c (.sc (.bool false)))
 | .tup vs => match fVs vs with
   | some vs' => some (.tup vs')
   | none => none
 | x => fV1 x
theorem iN {x y:AV} (h:fV x = some y):x = y:=by
 unfold fV at h
 split at h
 ·split at h <;> exact Option.some.inj h
 ·split at h
  ·rename_i h1
   cases h
   rw [tK h1]
  ·cases h
 ·exact mO h
def fEl:El → Option El
 | .fl xs => some (.fl xs)
 | .mx cs => match qe cs with
   | some cs' => some (.mx cs')
   | none => none
 | .dp xs => some (.dp xs)
theorem xH:∀ {x y:El},fEl x = some y → x = y
 | .fl _,_,h => Option.some.inj h
 | .mx cs,y,h => by
   simp only [fEl] at h
   split at h
   ·rename_i h1
    cases h
    rw [iL h1]
   ·cases h
 | .dp _,_,h => Option.some.inj h
def fAO:Option AO → Option (Option AO)
 | none => some none
 | some ⟨own,ty,sz,el⟩ => match fB own,lit sz,fEl el with
   | some o,some s,some e => some (some ⟨o,ty,s,e⟩)
   | _,_,_ => none
theorem qf:∀ {x y:Option AO},fAO x = some y → x = y
 | none,_,h => Option.some.inj h
 | some ⟨own,ty,sz,el⟩,y,h => by
   simp only [fAO] at h
   split at h
   ·rename_i h1 h2 h3
    cases h
    rw [yN h1,eS h2,xH h3]
   ·cases h
def fH:AH → Option AH
 | [] => some []
 | x :: r => match fAO x,fH r with
   | some x',some r' => some (x' :: r')
   | _,_ => none
theorem eY:∀ {l l':AH},fH l = some l' → l = l'
 | [],_,h => Option.some.inj h
 | x :: r,_,h => by
   unfold fH at h
   split at h
   ·rename_i h1 h2
    cases h
    rw [qf h1,eY h2]
   ·cases h
def jr:AH → Nat → Option AO → Option AH
 | _ :: r,0,x => match fAO x with
   | some x' => some (x' :: r)
   | none => none
 | y :: r,n + 1,x => match jr r n x with
   | some r' => some (y :: r')
   | none => none
 | [],_,_ => none
theorem fE:∀ {h h':AH} {n:Nat} {x:Option AO},jr h n x = some h' → h.set n x = h'
 | _ :: r,h',0,x,h => by
   unfold jr at h
   split at h
   ·rename_i h1
    cases h
    rw [qf h1]
    rfl
   ·cases h
 | y :: r,h',n + 1,x,h => by
   unfold jr at h
   split at h
   ·rename_i h1
    cases h
    rw [← fE h1]
    rfl
   ·cases h
 | [],_,_,_,h => by cases h
def pp:AH → List Nat → Option AO → Option (Nat × AH)
 | [],n :: _,x => match fAO x with
   | some x' => some (n,[x'])
   | none => none
 | y :: r,_ :: ns,x => match pp r ns x with
   | some (n,r') => some (n,y :: r')
   | none => none
 | _,[],_ => none
theorem pq:∀ {h h':AH} {ns:List Nat} {n:Nat} {x:Option AO},pp h ns x = some (n,h') → h ++ [x] = h' ∧ ns[h.length]? = some n
 | [],h',n' :: ns,n,x,h => by
   unfold pp at h
   split at h
   ·rename_i h1
    cases h
    rw [qf h1]
    exact ⟨rfl,rfl⟩
   ·cases h
 | y :: r,h',n' :: ns,n,x,h => by
   unfold pp at h
   split at h
   ·rename_i h1
    cases h
    obtain ⟨h2,h3⟩:=pq h1
    exact ⟨by rw [← h2];rfl,by simpa using h3⟩
   ·cases h
 | [],_,[],_,_,h => by cases h
 | _ :: _,_,[],_,_,h => by cases h
def iC (h:AH) (x:Option AO):Option (Nat × AH):=pp h uJ x
theorem dA {h h':AH} {n:Nat} {x:Option AO} (hh:iC h x = some (n,h')):h ++ [x] = h' ∧ h.length = n:=by
 obtain ⟨h1,h2⟩:=pq hh
 refine ⟨h1,?_⟩
 rw [km] at h2
 exact gQ h2
class Enc (α:Type) where
 sz:Nat
 enc:α → List Value
 dec:List Value → Option α
 z:α
 len:∀ x,(enc x).length = sz
 pos:0 < sz
 one:∀ x,(enc x).all (·.oneCell') = true
 decE:∀ {vs x},dec vs = some x → enc x = vs
def ow (t:TypeId) {α:Type} [Enc α] (l:List α):Option AO:=some ⟨true,t,Enc.sz α,.fl (l.map Enc.enc)⟩
def ro (t:TypeId) {α:Type} [Enc α] (l:List α):Option AO:=some ⟨false,t,Enc.sz α,.fl (l.map Enc.enc)⟩
def rd {α:Type} [Enc α] (l:List α) (i:Int):α:=l.getD i.toNat Enc.z
def upd {α:Type} (l:List α) (i:Int) (x:α):List α:=l.set i.toNat x
def sub {α:Type} (l:List α) (a b:Int):List α:=(l.take b.toNat).drop a.toNat
theorem iK {α:Type} {l:List α} {i:Int} (h:¬ i < l.length):l.drop i.toNat = []:=List.drop_eq_nil_of_le (by omega)
theorem aE {α:Type} (l:List α) (i:Int) (x:α):(upd l i x).length = l.length:=by simp [upd]
theorem dF {α:Type} {l:List α} {a b:Int} (h:0 ≤ a ∧ a ≤ b ∧ b ≤ l.length):((sub l a b).length:Int) = b - a:=by
 simp only [sub,List.length_drop,List.length_take]
 omega
section
variable {α:Type} [Enc α]
theorem qd {l:List α} {i:Int} (h:0 ≤ i ∧ i < l.length):(l.map Enc.enc)[i.toNat]? = some (Enc.enc (rd l i)):=by
 have h1:i.toNat < l.length:=by omega
 rw [List.getElem?_map,List.getElem?_eq_getElem h1]
 simp [rd,List.getD_eq_getElem?_getD,h1]
theorem d4 {l:List α} {i:Int} (h:0 ≤ i ∧ i < l.length):l.drop i.toNat = rd l i :: l.drop (i + 1).toNat:=by
 have h1:i.toNat < l.length:=by omega
 rw [show (i + 1).toNat = i.toNat + 1 from by omega,List.drop_eq_getElem_cons h1]
 simp [rd,List.getD_eq_getElem?_getD,h1]
theorem tO (l:List α):(l.map Enc.enc).all (fun c => Nat.beq c.length (Enc.sz α)) = true:=by
 rw [List.all_map,List.all_eq_true]
 intro x _
 simp [Enc.len]
end
theorem Ghost.trans {a b c:St} (h:Ghost a b) (k:Ghost b c):Ghost a c:=fun Γ ρ x w hr => by
 obtain ⟨ρ1,h1,h2⟩:=h Γ ρ x w hr
 obtain ⟨ρ2,h3,h4⟩:=k Γ ρ1 x w h2
 exact ⟨ρ2,h1.trans h3,h4⟩
theorem AC.R_last {ρ:Pl} {sl:Slot}:(ρ ++ [sl])[ρ.length]? = some sl:=by simp
theorem Holds.more {Γ:Ctx} {ρ:Pl} {h:AH} {w:World} (hH:Holds Γ ρ h w) (hl:ρ.length = h.length) {sl:Slot} {ob:AO} (hob:ObjH (ρ ++ [sl]) sl ob w)
  (hb:sl.blk = none ∨ (ob.own = false ∧ ∃ (o:Nat) (oo:AO) (s0:Slot),h[o]? = some (some oo) ∧ oo.own = false ∧ ρ[o]? = some s0 ∧ s0.blk = sl.blk)) (hnd:ob.el.isD = false:=by rfl):Holds Γ (ρ ++ [sl]) (h ++ [some ob]) w:=by
 have hsl:∀ (o:Nat) ob',(h ++ [some ob])[o]? = some (some ob') → (h[o]? = some (some ob') ∧ o < h.length) ∨ (o = h.length ∧ ob' = ob):=by
  intro o ob' ho
  rw [List.getElem?_append] at ho
  split at ho
  ·rename_i hlt
   exact .inl ⟨ho,hlt⟩
  ·rename_i hge
   have h1:=(List.getElem?_eq_some_iff.1 ho).1
   simp at h1
   have:o - h.length = 0:=by omega
   rw [this] at ho
   exact .inr ⟨by omega,by simpa using ho.symm⟩
 have hpl:∀ (o:Nat) sl',o < h.length → (ρ ++ [sl])[o]? = some sl' → ρ[o]? = some sl':=fun o sl' ho hs => by
  rwa [List.getElem?_append_left (by omega)] at hs
 have hpe:∀ sl',(ρ ++ [sl])[h.length]? = some sl' → sl' = sl:=fun sl' hs => by
  rw [← hl] at hs
  simpa using hs.symm
 refine ⟨hH.fr,fun o ob' ho => ?_,fun o ob' sl' g ho hown hs hg => ?_,fun o ob' sl' g ho hs hg => ?_,?_⟩
 ·rcases hsl o ob' ho with ⟨h1,h2⟩ | ⟨rfl,rfl⟩
  ·obtain ⟨s1,h3,h4⟩:=hH.obj o ob' h1
   exact ⟨s1,Ext.append _ _ _ _ h3,h4.ext (Ext.append _ _)⟩
  ·exact ⟨sl,by rw [← hl];simp,hob⟩
 ·rcases hsl o ob' ho with ⟨h1,h2⟩ | ⟨rfl,rfl⟩
  ·have hs:=hpl o sl' h2 hs
   obtain ⟨h3,h4⟩:=hH.sep o ob' sl' g h1 hown hs hg
   refine ⟨h3,fun o2 ob2 sl2 ho2 hne hs2 => ?_⟩
   rcases hsl o2 ob2 ho2 with ⟨k1,k2⟩ | ⟨rfl,rfl⟩
   ·exact h4 o2 ob2 sl2 k1 hne (hpl o2 sl2 k2 hs2)
   ·have:=hpe sl2 hs2
    subst this
    rcases hb with hb | ⟨_,o3,oo,s0,k1,k2,k3,k4⟩
    ·rw [hb]
     simp
    ·rw [← k4]
     refine h4 o3 oo s0 k1 (fun e => ?_) k3
     subst e
     rw [h1] at k1
     cases k1
     rw [hown] at k2
     cases k2
  ·have:=hpe sl' hs
   subst this
   rcases hb with hb | ⟨hb,_⟩
   ·rw [hb] at hg
    cases hg
   ·rw [hown] at hb
    cases hb
 ·rcases hsl o ob' ho with ⟨h1,h2⟩ | ⟨rfl,rfl⟩
  ·exact hH.src o ob' sl' g h1 (hpl o sl' h2 hs) hg
  ·have:=hpe sl' hs
   subst this
   rcases hb with hb | ⟨_,o3,oo,s0,k1,k2,k3,k4⟩
   ·rw [hb] at hg
    cases hg
   ·exact hH.src o3 oo s0 g k1 k3 (k4.trans hg)
 ·obtain ⟨fz,hF⟩:=hH.dp
  refine ⟨fz,hF.base,hF.lt,hF.src,fun o ob' sl' g ho hown hs hg => ?_,fun o own ty sz xs ho => ?_⟩
  ·rcases hsl o ob' ho with ⟨h1,h2⟩ | ⟨rfl,rfl⟩
   ·exact hF.sep o ob' sl' g h1 hown (hpl o sl' h2 hs) hg
   ·have:=hpe sl' hs
    subst this
    rcases hb with hb | ⟨hb,_⟩
    ·rw [hb] at hg
     cases hg
    ·rw [hown] at hb
     cases hb
  ·rcases hsl o _ ho with ⟨h1,h2⟩ | ⟨h1,h2⟩
   ·exact hF.deep o own ty sz xs h1
   ·rw [← h2] at hnd
    cases hnd
theorem Rel.tell {Γ:Ctx} {ρ ρ':Pl} {st:St} {a:Act} {w:World} {h':AH} {d:Nat} {v v':AV} (hr:Rel Γ ρ st a w) (he:Ext ρ ρ') (hH:Holds Γ ρ' h' w) (hl:ρ'.length = h'.length) (hx:lk d st.env = some v) (hv:∀ u,v.R ρ u → v'.R ρ' u):Rel Γ ρ' ⟨st.n,st.k,(d,v') :: st.env,h'⟩ a w :=
 ⟨hH,hl,hr.klen,hr.args.trans he,fun t x ht => by
  by_cases e:d = t
  ·subst e
   rw [d9] at ht
   cases ht
   obtain ⟨u,h1,h2⟩:=hr.env d v hx
   exact ⟨u,h1,hv u h2⟩
  ·rw [cN e] at ht
   obtain ⟨u,h1,h2⟩:=hr.env t x ht
   exact ⟨u,h1,AV.R_ext he h2⟩,hr.defers,hr.size⟩
theorem add_zero' (a:Addr):a.add 0 = a:=by simp [Addr.add]
theorem sA {st:St} {d o s n:Nat} {t sz:Nat} {xs:List (List Value)} (hx:lk d st.env = some (.c (.row o s n))) (ho:st.h[o]? = some (some ⟨false,t,sz,.fl xs⟩)) (hb:s + n ≤ xs.length) :
  Ghost st ⟨st.n,st.k,(d,.c (.row st.h.length 0 n)) :: st.env,st.h ++ [some ⟨false,t,sz,.fl ((xs.drop s).take n)⟩]⟩:=fun Γ ρ a w hr => by
 obtain ⟨sl,h1,h2⟩:=hr.holds.obj o _ ho
 have hlen:xs.length ≤ sl.cap:=h2.len
 have hsz:sl.sz = sz:=h2.sz
 refine ⟨ρ ++ [⟨sl.a.map (·.add (s * sz)),sl.cap - s,sz,true⟩],Ext.append _ _,hr.tell (Ext.append _ _) (hr.holds.more hr.len ?_ (.inr ⟨rfl,o,_,sl,ho,rfl,h1,?_⟩)) (by simp [hr.len]) hx (fun u hu => ?_)⟩
 ·refine ⟨rfl,h2.pos,?_,by have:=h2.max;show sl.cap - s ≤ _;omega,fun a ha => ?_,fun ha => ?_,fun i cs hi => ?_,fun h => by cases h⟩
  ·show ((xs.drop s).take n).length ≤ sl.cap - s
   rw [List.length_take,List.length_drop]
   omega
  ·obtain ⟨a0,ha0,rfl⟩:=Option.map_eq_some_iff.1 ha
   rw [add_block]
   exact h2.lt a0 ha0
  ·have:sl.a = none:=by simpa using ha
   have:=h2.nil this
   show sl.cap - s = 0
   omega
  ·have hi:(((xs.drop s).take n)[i]?).map (·.map AC.sc) = some cs:=hi
   have hin:i < n:=by
    obtain ⟨c,hc,_⟩:=Option.map_eq_some_iff.1 hi
    have:=(List.getElem?_eq_some_iff.1 hc).1
    rw [List.length_take] at this
    omega
   rw [List.getElem?_take_of_lt hin,List.getElem?_drop] at hi
   obtain ⟨h3,a0,h4,h5⟩:=h2.cell (s + i) cs hi
   refine ⟨h3,a0.add (s * sz),by simp [h4],fun j x hj => ?_⟩
   obtain ⟨v,h6,h7⟩:=h5 j x hj
   refine ⟨v,?_,AC.R_ext (Ext.append _ _) h7⟩
   rw [eG]
   have:s * sz + (i * sz + j) = (s + i) * sz + j:=by rw [Nat.add_mul,Nat.add_assoc]
   show w.cell? (a0.add (s * sz + (i * sz + j))) = some v
   rw [this]
   exact h6
 ·cases hsa:sl.a with
  | none => simp [Slot.blk,hsa]
  | some a0 => simp [Slot.blk,hsa,add_block]
 ·obtain ⟨sl',h3,h4,h5⟩:RowR ρ o s n u:=hu
  have:sl = sl':=by rw [h1] at h3;exact Option.some.inj h3
  subst this
  refine ⟨_,by rw [← hr.len];exact AC.R_last,by show 0 + n ≤ sl.cap - s;omega,?_⟩
  rcases h5 with ⟨cc,h5,h8,_⟩ | ⟨h5,h6,h7⟩
  ·refine .inl ⟨cc,?_,h8,fun h => by cases h⟩
   rw [h5]
   simp [hsz,Option.map_map,Function.comp_def,add_zero']
  ·obtain ⟨A,c,h7,_⟩:=h7
   exact .inr ⟨h5,.inr (.inl rfl),A,c,h7,fun _ h => by cases h⟩
theorem rt {ρ:Pl} {w:World} (t:Nat) {sz:Nat} (hz:0 < sz):ObjH ρ ⟨none,0,sz,false⟩ ⟨true,t,sz,.fl []⟩ w where
 sz:=rfl
 pos:=hz
 len:=Nat.le_refl 0
 max:=Nat.zero_le _
 lt:=fun a ha => by cases ha
 nil:=fun _ => rfl
 cell:=fun i cs hi => by
  have hi:(([]:List (List Value))[i]?).map (fun c => c.map AC.sc) = some cs:=hi
  simp at hi
 own:=fun _ => ⟨rfl,.inl ⟨rfl,rfl⟩⟩
theorem rx {ρ:Pl} (sz:Nat):RowR (ρ ++ [⟨none,0,sz,false⟩]) ρ.length 0 0 (.slice none 0 0):=⟨_,AC.R_last,Nat.le_refl _,.inl ⟨0,rfl,Nat.le_refl _,fun _ => rfl⟩⟩
theorem sy {st:St} {d:Nat} (t:Nat) {sz:Nat} (hz:0 < sz) (hx:lk d st.env = some (.c (.sc (.slice none 0 0)))) :
  Ghost st ⟨st.n,st.k,(d,.c (.row st.h.length 0 0)) :: st.env,st.h ++ [some ⟨true,t,sz,.fl []⟩]⟩:=fun Γ ρ a w hr =>
 ⟨ρ ++ [⟨none,0,sz,false⟩],Ext.append _ _,hr.tell (Ext.append _ _) (hr.holds.more hr.len (rt t hz) (.inl rfl)) (by simp [hr.len]) hx (fun u hu => by
  have hu:u = .slice none 0 0:=hu.1
  subst hu
  have:=rx (ρ:=ρ) sz
  rw [hr.len] at this
  exact this)⟩
theorem qg {st:St} {d q:Nat} (t:Nat) {sz:Nat} (hz:0 < sz) {cs:List AC} (hx:lk d st.env = some (.agg cs)) (hq:cs[q]? = some (.sc (.slice none 0 0))) :
  Ghost st ⟨st.n,st.k,(d,.agg (cs.set q (.row st.h.length 0 0))) :: st.env,st.h ++ [some ⟨true,t,sz,.fl []⟩]⟩:=fun Γ ρ a w hr =>
 ⟨ρ ++ [⟨none,0,sz,false⟩],Ext.append _ _,hr.tell (Ext.append _ _) (hr.holds.more hr.len (rt t hz) (.inl rfl)) (by simp [hr.len]) hx (fun u hu => by
  obtain ⟨arr,rfl,h2⟩:=hu
  refine ⟨arr,rfl,?_⟩
  have h3:All2 (AC.R (ρ ++ [⟨none,0,sz,false⟩])) cs arr.toList:=All2.imp (fun _ _ => AC.R_ext (Ext.append _ _)) h2
  refine All2.of_get (by rw [List.length_set];exact h3.length) (fun i x y hx hy => ?_)
  rw [List.getElem?_set] at hx
  split at hx
  ·rename_i e
   subst e
   split at hx
   ·cases hx
    obtain ⟨y',h4,h5⟩:=h2.get hq
    rw [hy] at h4
    cases h4
    have h5:y = .slice none 0 0:=h5.1
    subst h5
    have:=rx (ρ:=ρ) sz
    rw [hr.len] at this
    exact this
   ·cases hx
  ·obtain ⟨y',h4,h5⟩:=h3.get hx
   rw [hy] at h4
   cases h4
   exact h5)⟩
theorem wB {Γ:Ctx} {ρ:Pl} {st:St} {a:Act} {w:World} (hr:Rel Γ ρ st a w) {o:Nat} {own:Bool} {t sz:Nat} {xs:List (List Value)} (ho:st.h[o]? = some (some ⟨own,t,sz,.fl xs⟩)):xs.length ≤ 9223372036854775807:=by
 obtain ⟨sl,h1,h2⟩:=hr.holds.obj o _ ho
 have h3:xs.length ≤ sl.cap:=h2.len
 exact Nat.le_trans h3 h2.max
end
section
open Go.RowKit Go.Proofs.YtgehbhkfehmdkaaGreatW
def gL:List Sk → List Oper → List (Sk × Oper)
 | _,[] => []
 | [],o :: l => (.l,o) :: gL [] l
 | k :: ks,o :: l => (k,o) :: gL ks l
def stK:List Sk → Sk × List Sk
 | [] => (.l,[])
 | k :: ks => (k,ks)
theorem aC {ks ks':List Sk} {k:Sk} (h:stK ks = (k,ks')) (o:Oper) (l:List Oper):gL ks (o :: l) = (k,o) :: gL ks' l:=by
 cases ks with
 | nil => cases h;rfl
 | cons a as => cases h;rfl
theorem pM:∀ (l:List Oper),gL [] l = l.map (fun o => (Sk.l,o))
 | [] => rfl
 | o :: l => by rw [List.map_cons,← pM l];rfl
theorem fj (f:Nat → Oper):∀ (s:List (Sk × Nat)),gL (s.map (·.1)) (s.map (fun p => f p.2)) = s.map (fun p => (p.1,f p.2))
 | [] => rfl
 | p :: s => by simp only [List.map_cons];rw [← fj f s];rfl
structure ZZ (P:Program) (ops:Array Oper) (Q:Exit → St → Prop) (h1:AH) (ks:List Sk) (l:List Oper) (st:St):Prop where
 out:WZ P ops Q h1 (gL ks l) st
def ldm (T:TB) (h:AH) (t:TypeId):AV → Option AV
 | .c (.ptr o i q) => match h[o]?,tlk t T with
   | some (some ⟨_,_,_,.mx cs⟩),some ti => match i with
     | 0 => ldW ti cs q
     | _ => none
   | _,_ => none
 | _ => none
theorem rm {T:TB} {h:AH} {t:TypeId} {p v:AV} (hh:ldm T h t p = some v):ldv T h t p = some v:=by
 unfold ldm at hh
 split at hh
 ·split at hh
  ·rename_i h1 h2
   split at hh
   ·simp only [ldv,h1,h2]
    exact hh
   ·cases hh
  ·cases hh
 ·cases hh
def sv (T:TB) (h1:AH) (k:Sk) (op:Op) (e:List (Nat × AV)) (h:AH):Option (AV × AH) :=
 match op with
 | .load t x => match k != Sk.p,ev e x with
   | true,some p => match ldm T (hk k h1 h) t p with
     | some v => some (v,h)
     | none => none
   | _,_ => none
 | .alloc t => match qk k,tlk t T with
   | true,some ti => match ti.zero with
     | _ :: _ => match iC h (some ⟨true,t,(ti.zero.map AC.sc).length,.mx (ti.zero.map .sc)⟩) with
       | some (n,h') => some (.c (.ptr n 0 0),h')
       | none => none
     | [] => none
   | _,_ => none
 | .box t x => match qk k,ev e x with
   | true,some v => match fN v with
     | some cs => match iC h (some ⟨true,t,cs.length,.mx cs⟩) with
       | some (n,h') => some (.c (.ptr n 0 0),h')
       | none => none
     | none => none
   | _,_ => none
 | .binOp _ _ _ _ _ => none
 | .unOp .neg _ _ => none
 | .convert _ _ _ => none
 | op => match aP T e op with
   | some v => some (v,h)
   | none => none
def sx (T:TB) (N:Nat) (ops:Array Oper) (h1:AH) (k:Sk) (o:Oper) (e:List (Nat × AV)) (h:AH):Option (List (Nat × AV) × AH) :=
 match gd ops o e,o.dst with
 | some false,some d => match Nat.blt d N with
   | true => some ((d,.tup []) :: e,h)
   | false => none
 | some false,none => some (e,h)
 | some true,some d => match Nat.blt d N with
   | true => match sv T h1 k o.op e h with
     | some (v,h') => match fV v with
       | some v' => some ((d,v') :: e,h')
       | none => none
     | none => none
   | false => none
 | some true,none => match k,o.op with
   | .l,.store t x y => match ev e x,ev e y with
     | some p,some v => match stv T h t v p with
       | some h' => match fH h' with
         | some h2 => some (e,h2)
         | none => none
       | none => none
     | _,_ => none
   | _,_ => none
 | none,_ => none
section
variable {P:Program} {T:TB} {ops:Array Oper} {Q:Exit → St → Prop} {h1:AH} {k:Sk} {ks ks':List Sk} {l:List Oper} {N0 k0 d0:Nat} {e0:List (Nat × AV)} {h0:AH} {op:Op} {ty:TypeId} {pos:String} {af:Array Edge} {g:Option (Nat × Bool)} {st:St}
theorem A7 (h:Q .normal st):ZZ P ops Q h1 ks [] st:=⟨by cases ks <;> exact zT h⟩
theorem A9 {id:Nat} {l:List Oper} (h:ZZ P l.toArray Q [] [] l st):WW P (Code.region id l.toArray false) Q st:=zU (by rw [← pM];exact h.out)
def dN (l:List Oper):List (Sk × Nat) → Option (List Oper)
 | [] => some []
 | (_,i) :: r => match l[i]?,dN l r with
  | some o,some os => some (o :: os)
  | _,_ => none
theorem ef {l:List Oper}:∀ {s:List (Sk × Nat)} {L:List Oper},dN l s = some L → s.map (fun p => opn l.toArray p.2) = L
 | [],L,h => Option.some.inj h
 | (_,i) :: r,L,h => by
  unfold dN at h
  split at h
  ·rename_i h1 h2
   cases h
   rw [List.map_cons,ef h2]
   simp [opn,h1]
  ·cases h
theorem zv {id:Nat} {l L:List Oper} (hm:P.follows .mixedOrders = true) (s:List (Sk × Nat)) (ds:List Nat) (hc:(s.length == l.toArray.size && chk l.toArray ds true s (Array.replicate l.toArray.size false)) = true) (hL:dN l s = some L)
  (h:ZZ P l.toArray Q st.h (s.map (·.1)) L st):WW P (Code.region id l.toArray true) Q st:=zf hm s ds hc (by rw [← fj,ef hL];exact h.out)
theorem zw {st':St} (g:Ghost st st') (h:ZZ P ops Q h1 ks l st'):ZZ P ops Q h1 ks l st:=⟨zgh g h.out⟩
theorem wJ (hT:TOk P T) {v:AV} {h':AH} {L:List (Sk × Oper)} (hv:sv T h1 k op e0 h0 = some (v,h')) (hg:gd ops ⟨some d0,op,ty,pos,af,g⟩ e0 = some true) (hd:Nat.blt d0 N0 = true) (h:WZ P ops Q h1 L ⟨N0,k0,(d0,v) :: e0,h'⟩):WZ P ops Q h1 ((k,⟨some d0,op,ty,pos,af,g⟩) :: L) ⟨N0,k0,e0,h0⟩:=by
 unfold sv at hv
 split at hv
 ·split at hv
  ·rename_i hk hx
   split at hv
   ·rename_i hl
    cases hv
    exact wld (st:=⟨N0,k0,e0,h0⟩) (dst:=some d0) hT hk hx (rm hl) hg hd h
   ·cases hv
  ·cases hv
 ·split at hv
  ·rename_i hk ht
   split at hv
   ·rename_i hz
    split at hv
    ·rename_i hh
     cases hv
     obtain ⟨h2,h3⟩:=dA hh
     refine yy (st:=⟨N0,k0,e0,h0⟩) (dst:=some d0) hT hk ht hz hg hd ?_
     show WZ P ops Q h1 L ⟨N0,k0,(d0,.c (.ptr h0.length 0 0)) :: e0,_⟩
     rw [h3,h2]
     exact h
    ·cases hv
   ·cases hv
  ·cases hv
 ·split at hv
  ·rename_i hk hx
   split at hv
   ·rename_i hb
    split at hv
    ·rename_i hh
     cases hv
     obtain ⟨h2,h3⟩:=dA hh
     refine zO (st:=⟨N0,k0,e0,h0⟩) (dst:=some d0) hk hx hb hg hd ?_
     show WZ P ops Q h1 L ⟨N0,k0,(d0,.c (.ptr h0.length 0 0)) :: e0,_⟩
     rw [h3,h2]
     exact h
    ·cases hv
   ·cases hv
  ·cases hv
 ·cases hv
 ·cases hv
 ·cases hv
 ·split at hv
  ·rename_i hp
   cases hv
   exact wp (st:=⟨N0,k0,e0,h0⟩) (dst:=some d0) hT hp hg hd h
  ·cases hv
theorem zd (hs0:stK ks = (k,ks')) (hT:TOk P T) {o:Oper} {e':List (Nat × AV)} {h':AH} (hx:sx T N0 ops h1 k o e0 h0 = some (e',h')) (h:ZZ P ops Q h1 ks' l ⟨N0,k0,e',h'⟩):ZZ P ops Q h1 ks (o :: l) ⟨N0,k0,e0,h0⟩:=⟨by
 rw [aC hs0]
 obtain ⟨dst,op,ty,pos,af,g⟩:=o
 unfold sx at hx
 split at hx
 ·rename_i d hg hd
  cases dst with
  | none => cases hd
  | some d' =>
    have hd:some d' = some d:=hd
    injection hd with hd
    subst hd
    split at hx
    ·rename_i hdn
     cases hx
     exact t8 (st:=⟨N0,k0,e0,h0⟩) (dst:=some d') hg hdn h.out
    ·cases hx
 ·rename_i hg hd
  cases dst with
  | some d => cases hd
  | none =>
    cases hx
    exact t8 (st:=⟨N0,k0,e0,h0⟩) (dst:=none) hg rfl h.out
 ·rename_i d hg hd
  cases dst with
  | none => cases hd
  | some d' =>
    have hd:some d' = some d:=hd
    injection hd with hd
    subst hd
    split at hx
    ·rename_i hdn
     split at hx
     ·rename_i hv
      split at hx
      ·rename_i hf
       cases hx
       rw [← iN hf] at h
       exact wJ hT hv hg hdn h.out
      ·cases hx
     ·cases hx
    ·cases hx
 ·rename_i hg hd
  cases dst with
  | some d => cases hd
  | none =>
    split at hx
    ·rename_i t x y hop
     have hop:op = .store t x y:=hop
     subst hop
     split at hx
     ·rename_i h2 h3
      split at hx
      ·rename_i hs
       split at hx
       ·rename_i hf
        cases hx
        rw [← eY hf] at h
        exact wst (st:=⟨N0,k0,e0,h0⟩) hT h2 h3 hs hg h.out
       ·cases hx
      ·cases hx
     ·cases hx
    ·cases hx
 ·cases hx⟩
def v1 (T:TB) (e:List (Nat × AV)) (h:AH):ResultVar → Option AV
 | .tmp t => match lk t e with
   | some (.c x) => some (.c x)
   | some (.agg cs) => some (.agg cs)
   | _ => none
 | .cell a t => match lk a e with
   | some p => match ldm T h t p with
     | some (.c x) => some (.c x)
     | some (.agg cs) => some (.agg cs)
     | _ => none
   | none => none
def v2 (T:TB) (e:List (Nat × AV)) (h:AH):List ResultVar → Option (List AV)
 | [] => some []
 | r :: rs => match v1 T e h r,v2 T e h rs with
   | some v,some vs => some (v :: vs)
   | _,_ => none
def lQ (T:TB) (rs:List ResultVar) (e:List (Nat × AV)) (h:AH):Option AV:=match rs with
 | [r] => v1 T e h r
 | rs => match v2 T e h rs with
   | some vs => some (.tup vs)
   | none => none
def rsS (T:TB) (rs:List ResultVar) (st:St) (v:AV):Prop:=lQ T rs st.env st.h = some v
def rsF (tmps:Array Value):ResultVar → Sem Value
 | .tmp t => pure (tmps.getD t undef)
 | .cell a t => do loadVar t (← asAddr (tmps.getD a undef))
theorem pj (hT:TOk P T) {Γ:Ctx} {ρ:Pl} {st:St} {a:Act} {w:World} (hr:Rel Γ ρ st a w):∀ {r:ResultVar} {v:AV},v1 T st.env st.h r = some v → ∃ v',(rsF a.tmps r).run P w = .ok v' w ∧ v.R ρ v' ∧ v.R1 ρ v'
 | .tmp t,v,h => by
   simp only [v1] at h
   have key:∀ {x:AV},lk t st.env = some x → (rsF a.tmps (.tmp t)).run P w = .ok (a.tmps.getD t undef) w ∧ x.R ρ (a.tmps.getD t undef):=fun hx => by
    obtain ⟨u,h1,h2⟩:=hr.env t _ hx
    refine ⟨rfl,?_⟩
    rw [Array.getD_eq_getD_getElem?,h1]
    exact h2
   split at h
   ·rename_i hx
    cases h
    exact ⟨_,(key hx).1,(key hx).2,(key hx).2⟩
   ·rename_i hx
    cases h
    exact ⟨_,(key hx).1,(key hx).2,(key hx).2⟩
   ·cases h
 | .cell b t,v,h => by
   simp only [v1] at h
   split at h
   ·rename_i p hp
    have key:∀ {x:AV},ldm T st.h t p = some x → ∃ v',(rsF a.tmps (.cell b t)).run P w = .ok v' w ∧ x.R ρ v':=fun {x} hx => by
     have h1:=rm hx
     unfold ldv at h1
     split at h1
     ·rename_i o i q
      split at h1
      ·rename_i ob ti ho ht
       split at h1
       ·rename_i cs hi
        have hl:=la (dst:=none) (ty:=0) (pos := "") (af:=#[]) (g:=none) (x:=.tmp b) hT (st:=st) (h1:=st.h) hp ht ho hi (iR h1)
        obtain ⟨v',h2,h3⟩:=hl Γ ρ ρ a w w (Ext.refl _) hr hr.holds
        have h4:=h3 w (Same.refl _)
        obtain ⟨sl,ad,e1,e2,e3⟩:=kz (show AV.R ρ (.c (.ptr o i q)) (a.eval (.tmp b)) from b7 hr.env (x:=.tmp b) hp)
        refine ⟨v',?_,h2⟩
        have e3:a.tmps.getD b undef = .pointer (some (ad.add (i * sl.sz + q))):=e3
        unfold execOp at h4
        simp only [Instr.loadAt,Act.eval,e3,Instr.sureAddr,Sem.run_bind,Sem.run_pure,Result.andThen_ok] at h4
        unfold rsF
        simp only [Sem.run_bind,e3,asAddr,Sem.run_pure,Result.andThen_ok]
        cases hlv:(loadVar t (ad.add (i * sl.sz + q))).run P w with
        | ok u w' =>
          rw [hlv] at h4
          simp at h4
          rw [h4.1,h4.2]
        | halt a b =>
          rw [hlv] at h4
          simp at h4
       ·cases h1
      ·cases h1
     ·cases h1
    split at h
    ·rename_i hx
     cases h
     obtain ⟨v',h1,h2⟩:=key hx
     exact ⟨v',h1,h2,h2⟩
    ·rename_i hx
     cases h
     obtain ⟨v',h1,h2⟩:=key hx
     exact ⟨v',h1,h2,h2⟩
    ·cases h
   ·cases h
theorem pk (hT:TOk P T) {Γ:Ctx} {ρ:Pl} {st:St} {a:Act} {w:World} (hr:Rel Γ ρ st a w):∀ {rs:List ResultVar} {vs:List AV},v2 T st.env st.h rs = some vs → ∃ vs',(rs.mapM (rsF a.tmps)).run P w = .ok vs' w ∧ All2 (AV.R1 ρ) vs vs'
 | [],vs,h => by
   cases h
   exact ⟨[],rfl,trivial⟩
 | r :: rs,vs,h => by
   unfold v2 at h
   split at h
   ·rename_i h1 h2
    cases h
    obtain ⟨v',h3,_,h4⟩:=pj hT hr h1
    obtain ⟨vs',h5,h6⟩:=pk hT hr h2
    refine ⟨v' :: vs',?_,h4,h6⟩
    rw [List.mapM_cons]
    simp only [Sem.run_bind,Sem.run_pure,h3,h5,Result.andThen_ok]
   ·cases h
theorem pl (hT:TOk P T) {fn:Func} {rs:List ResultVar} (hres:fn.results = rs.toArray):∀ st v,rsS T rs st v → ∀ Γ ρ a w,Rel Γ ρ st a w → ∃ v',(results fn a.tmps).run P w = .ok v' w ∧ v.R ρ v':=by
 intro st v h Γ ρ a w hr
 have hrun:∀ vs',(rs.mapM (rsF a.tmps)).run P w = .ok vs' w → (results fn a.tmps).run P w = .ok (if h:vs'.toArray.size = 1 then vs'.toArray[0] else .tuple vs'.toArray) w:=by
  intro vs' h1
  unfold results
  simp only [hres,List.mapM_toArray,map_eq_pure_bind,Sem.run_bind,Sem.run_pure]
  rw [show ∀ (f:ResultVar → Sem Value),f = rsF a.tmps → (rs.mapM f).run P w = .ok vs' w from fun f e => by rw [e];exact h1]
  ·rfl
  ·funext x
   cases x <;> rfl
 unfold rsS lQ at h
 split at h
 ·rename_i r
  obtain ⟨v',h1,h2,_⟩:=pj hT hr h
  refine ⟨v',?_,h2⟩
  exact hrun [v'] (by rw [List.mapM_cons];simp only [Sem.run_bind,Sem.run_pure,h1,List.mapM_nil,Result.andThen_ok])
 ·rename_i hne
  split at h
  ·rename_i vs h1
   cases h
   obtain ⟨vs',h2,h3⟩:=pk hT hr h1
   refine ⟨_,hrun vs' h2,?_⟩
   have hlen:vs'.length ≠ 1:=by
    have e1:=h3.length
    have e2:vs.length = rs.length:=by
     clear hne h2 h3 e1 hres hrun
     induction rs generalizing vs with
     | nil => cases h1;rfl
     | cons r rs ih =>
       unfold v2 at h1
       split at h1
       ·rename_i h5 h6
        cases h1
        simp [ih _ h6]
       ·cases h1
    intro e
    match rs,e2,hne with
    | [],e2,_ => exact absurd (show vs.length = 0 from e2) (by omega)
    | [r],_,hne => exact hne r rfl
    | _ :: _ :: _,e2,_ => simp at e2;omega
   rw [dif_neg (by simpa using hlen)]
   exact ⟨_,rfl,h3⟩
  ·cases h
def arA:BinOp → Int → Int → Option Int
 | .add,a,b => some (a + b)
 | .sub,a,b => some (a - b)
 | .mul,a,b => some (a * b)
 | _,_,_ => none
end
class Nv (p:Prop) (q:outParam Prop):Prop where
 h:q → p
theorem nv {p q:Prop} [i:Nv p q] (h:q):p:=i.h h
section
variable {P:Program} {Q:Exit → St → Prop} {st:St} {x y:Code} {N:St → Prop} {i:Nat} {ops:Array Oper} {h1:AH} {ks:List Sk} {l:List Oper}
instance:Nv (WW P (Code.seq x y) Q st) (WW P x (fi (WW P y Q) Q) st):=⟨zo⟩
instance:Nv (WW P (Code.region i l.toArray false) Q st) (ZZ P l.toArray Q [] [] l st):=⟨A9⟩
instance:Nv (WW P (Code.block i x) Q st) (WW P x (lA i Q) st):=⟨zN⟩
instance:Nv (WW P Code.skip Q st) (Q .normal st):=⟨zp⟩
instance:Nv (WW P Code.ret Q st) (Q .ret st):=⟨zV⟩
instance:Nv (WW P (Code.exit i) Q st) (Q (.exit i) st):=⟨zg⟩
instance:Nv (fi N Q .normal st) (N st):=⟨wM⟩
instance:Nv (fi N Q (.exit i) st) (Q (.exit i) st):=⟨wL⟩
instance:Nv (fi N Q .ret st) (Q .ret st):=⟨wN⟩
instance:Nv (lA i Q .normal st) (Q .normal st):=⟨xq⟩
instance:Nv (lA i Q .ret st) (Q .ret st):=⟨xr⟩
instance {RS:St → AV → Prop} {R:AV → AH → Prop}:Nv (nS RS R .ret st) (ky RS R st):=⟨vC⟩
instance:Nv (ZZ P ops Q h1 ks [] st) (Q .normal st):=⟨A7⟩
end
end
end Go.Proofs.YtgehbhkfehmdkaaGreat.Sh
