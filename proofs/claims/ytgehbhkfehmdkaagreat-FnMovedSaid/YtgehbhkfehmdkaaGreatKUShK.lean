/- Symbolic memory: sums, comparisons, rows, calls. No condition. -/
import Derived.Test.YtgehbhkfehmdkaaGreatKUShW
set_option linter.unusedVariables false
namespace Go.Proofs.YtgehbhkfehmdkaaGreat.Sh
section
open Go.RowKit Go.Proofs.YtgehbhkfehmdkaaGreatW
def arB (o:BinOp) (k:IntKind) (a b:Int):Option Int:=match o with
 | .add => some (k.wrap (a + b))
 | .sub => some (k.wrap (a - b))
 | .mul => some (k.wrap (a * b))
 | .quo => some (k.wrap (a.tdiv b))
 | .rem => some (a.tmod b)
 | .and => some (k.wrap (BitVec.ofInt k.bits a &&& BitVec.ofInt k.bits b).toNat)
 | .or => some (k.wrap (BitVec.ofInt k.bits a ||| BitVec.ofInt k.bits b).toNat)
 | .xor => some (k.wrap (BitVec.ofInt k.bits a ^^^ BitVec.ofInt k.bits b).toNat)
 | _ => none
def arG (o:BinOp) (b:Int):Prop:=match o with
 | .quo => b ≠ 0
 | .rem => b ≠ 0
 | _ => True
theorem vJ {P:Program} {o:BinOp} {xT yT:TypeId} {x y:Operand} {st:St} {dst:Option Tmp} {ty:TypeId} {pos:String} {af:Array Edge} {g:Option (Nat × Bool)} {k:IntKind} {a b r:Int} (hx:ev st.env x = some (.c (.sc (.int k a)))) (hy:ev st.env y = some (.c (.sc (.int k b)))) (hr:arB o k a b = some r) (hg:arG o b) :
  OpP P ⟨dst,.binOp o xT x y yT,ty,pos,af,g⟩ st (.c (.sc (.int k r))):=fun Γ ρ ac w0 hrel => by
 have h1:=fy (bq hrel.env hx)
 have h2:=fy (bq hrel.env hy)
 refine ⟨.int k r,⟨rfl,rfl⟩,fun w => ?_⟩
 cases o <;> simp [arB] at hr <;> subst hr <;> simp [arG] at hg <;> simp [execOp,h1,h2,eqGuard,binOp,Op.intArith,Op.intDiv,Op.intBits,hg]
def shB (o:BinOp) (k:IntKind) (a b:Int):Option Int:=match o with
 | .shl => some (k.wrap (a * 2 ^ (min b.toNat k.bits)))
 | .shr => some (a.fdiv (2 ^ (min b.toNat k.bits)))
 | _ => none
theorem BI {P:Program} {o:BinOp} {xT yT:TypeId} {x y:Operand} {st:St} {dst:Option Tmp} {ty:TypeId} {pos:String} {af:Array Edge} {g:Option (Nat × Bool)} {k k2:IntKind} {a b r:Int} (hx:ev st.env x = some (.c (.sc (.int k a)))) (hy:ev st.env y = some (.c (.sc (.int k2 b)))) (hr:shB o k a b = some r) (hg:0 ≤ b) :
  OpP P ⟨dst,.binOp o xT x y yT,ty,pos,af,g⟩ st (.c (.sc (.int k r))):=fun Γ ρ ac w0 hrel => by
 have h1:=fy (bq hrel.env hx)
 have h2:=fy (bq hrel.env hy)
 refine ⟨.int k r,⟨rfl,rfl⟩,fun w => ?_⟩
 have hb:¬ b < 0:=by omega
 cases o <;> simp [shB] at hr <;> subst hr <;> simp [execOp,h1,h2,eqGuard,binOp,Op.shift,hb]
def xH {α:Type} [Enc α]:List (List Value) → Option (List α)
 | [] => some []
 | c :: r => match Enc.dec c,xH r with
   | some x,some xs => some (x :: xs)
   | _,_ => none
theorem vg {α:Type} [Enc α]:∀ {L:List (List Value)} {xs:List α},xH L = some xs → xs.map Enc.enc = L
 | [],xs,h => by
   cases h
   rfl
 | c :: r,xs,h => by
   unfold xH at h
   split at h
   ·rename_i x xs' h1 h2
    cases h
    rw [List.map_cons,Enc.decE h1,vg h2]
   ·cases h
def Da (c:List Value) (q:Nat) (vs:List Value):List Value:=c.take q ++ vs ++ c.drop (q + vs.length)
def fL:List Nat → Option (List Nat)
 | [] => some []
 | x :: r => match lit x,fL r with
   | some x',some r' => some (x' :: r')
   | _,_ => none
theorem sP:∀ {l m:List Nat},fL l = some m → l = m
 | [],_,h => Option.some.inj h
 | x :: r,_,h => by
   unfold fL at h
   split at h
   ·rename_i h1 h2
    cases h
    rw [iK h1,sP h2]
   ·cases h
def dr (hs:AH) (m:List Nat) (n:Nat):Bool:=hs.all (·.isSome) && Nat.beq hs.length m.length && m.all (fun i => Nat.blt i n) && ndO m hs
def roA (hs:AH):Bool:=hs.all (fun x => match x with | some o => !o.own | none => true)
section
variable {P:Program} {T:TB} {ops:Array Oper} {Q:Exit → St → Prop} {h1:AH} {k:Sk} {ks ks':List Sk} {l:List Oper} {N0 k0 d0:Nat} {e0:List (Nat × AV)} {h0:AH} {op:Op} {ty:TypeId} {pos:String} {af:Array Edge} {g:Option (Nat × Bool)} {st:St}
theorem zar {x y:Operand} {xT yT:TypeId} {a b r:Int} {o:BinOp} (hs0:stK ks = (k,ks')) (hx:ev e0 x = some (I a)) (hy:ev e0 y = some (I b)) (hr:arA o a b = some r) (hb:-9223372036854775808 ≤ r ∧ r ≤ 9223372036854775807) (hg:gd ops ⟨some d0,.binOp o xT x y yT,ty,pos,af,g⟩ e0 = some true) (hd:Nat.blt d0 N0 = true)
  (h:ZZ P ops Q h1 ks' l ⟨N0,k0,(d0,I r) :: e0,h0⟩):ZZ P ops Q h1 ks (⟨some d0,.binOp o xT x y yT,ty,pos,af,g⟩ :: l) ⟨N0,k0,e0,h0⟩:=⟨by
 rw [aI hs0]
 refine mV (st:=⟨N0,k0,e0,h0⟩) (dst:=some d0) (v:=I r) (vJ hx hy ?_ ?_) hg hd h.out
 ·unfold arA at hr
  split at hr <;> cases hr <;> simp only [arB,zj hb.1 hb.2]
 ·unfold arA at hr
  split at hr <;> first | trivial | cases hr⟩
theorem zaw {x y:Operand} {xT yT:TypeId} {kk:IntKind} {a b r:Int} {o:BinOp} (hs0:stK ks = (k,ks')) (hx:ev e0 x = some (.c (.sc (.int kk a)))) (hy:ev e0 y = some (.c (.sc (.int kk b)))) (hr:arB o kk a b = some r) (hb:arG o b) (hg:gd ops ⟨some d0,.binOp o xT x y yT,ty,pos,af,g⟩ e0 = some true) (hd:Nat.blt d0 N0 = true)
  (h:ZZ P ops Q h1 ks' l ⟨N0,k0,(d0,.c (.sc (.int kk r))) :: e0,h0⟩):ZZ P ops Q h1 ks (⟨some d0,.binOp o xT x y yT,ty,pos,af,g⟩ :: l) ⟨N0,k0,e0,h0⟩:=⟨by
 rw [aI hs0]
 exact mV (st:=⟨N0,k0,e0,h0⟩) (dst:=some d0) (vJ hx hy hr hb) hg hd h.out⟩
theorem zsh {x y:Operand} {xT yT:TypeId} {kk k2:IntKind} {a b r:Int} {o:BinOp} (hs0:stK ks = (k,ks')) (hx:ev e0 x = some (.c (.sc (.int kk a)))) (hy:ev e0 y = some (.c (.sc (.int k2 b)))) (hr:shB o kk a b = some r) (hb:0 ≤ b) (hg:gd ops ⟨some d0,.binOp o xT x y yT,ty,pos,af,g⟩ e0 = some true) (hd:Nat.blt d0 N0 = true)
  (h:ZZ P ops Q h1 ks' l ⟨N0,k0,(d0,.c (.sc (.int kk r))) :: e0,h0⟩):ZZ P ops Q h1 ks (⟨some d0,.binOp o xT x y yT,ty,pos,af,g⟩ :: l) ⟨N0,k0,e0,h0⟩:=⟨by
 rw [aI hs0]
 exact mV (st:=⟨N0,k0,e0,h0⟩) (dst:=some d0) (BI hx hy hr hb) hg hd h.out⟩
theorem v4 {x:Operand} {xT:TypeId} {a:Int} (hs0:stK ks = (k,ks')) (hx:ev e0 x = some (I a)) (hb:-9223372036854775808 ≤ -a ∧ -a ≤ 9223372036854775807) (hg:gd ops ⟨some d0,.unOp .neg xT x,ty,pos,af,g⟩ e0 = some true) (hd:Nat.blt d0 N0 = true) (h:ZZ P ops Q h1 ks' l ⟨N0,k0,(d0,I (-a)) :: e0,h0⟩):ZZ P ops Q h1 ks (⟨some d0,.unOp .neg xT x,ty,pos,af,g⟩ :: l) ⟨N0,k0,e0,h0⟩ :=
 ⟨by rw [aI hs0];exact Dg (st:=⟨N0,k0,e0,h0⟩) (dst:=some d0) hx hb hg hd h.out⟩
theorem D0 {x:Operand} {xT:TypeId} {kk:IntKind} {a:Int} (hs0:stK ks = (k,ks')) (hx:ev e0 x = some (.c (.sc (.int kk a)))) (hg:gd ops ⟨some d0,.unOp .neg xT x,ty,pos,af,g⟩ e0 = some true) (hd:Nat.blt d0 N0 = true) (h:ZZ P ops Q h1 ks' l ⟨N0,k0,(d0,.c (.sc (.int kk (kk.wrap (0 - a))))) :: e0,h0⟩):ZZ P ops Q h1 ks (⟨some d0,.unOp .neg xT x,ty,pos,af,g⟩ :: l) ⟨N0,k0,e0,h0⟩ :=
 ⟨by rw [aI hs0];exact wp (T:=[]) (st:=⟨N0,k0,e0,h0⟩) (dst:=some d0) (fun t ti h => by cases h) (by unfold aP;simp only [hx]) hg hd h.out⟩
theorem zcv (hs0:stK ks = (k,ks')) (hT:TOk P T) {s t:TypeId} {x:Operand} {kk k2:IntKind} {n m:Int} {z1 z2 b1 b2:Nat} {a1 a2:Bool} {o1 o2:List Value} (hx:ev e0 x = some (.c (.sc (.int kk n)))) (hs:tlk s T = some ⟨.int kk,z1,b1,a1,o1⟩) (ht:tlk t T = some ⟨.int k2,z2,b2,a2,o2⟩) (hm:k2.wrap n = m) (hg:gd ops ⟨some d0,.convert s t x,ty,pos,af,g⟩ e0 = some true) (hd:Nat.blt d0 N0 = true)
  (h:ZZ P ops Q h1 ks' l ⟨N0,k0,(d0,.c (.sc (.int k2 m))) :: e0,h0⟩):ZZ P ops Q h1 ks (⟨some d0,.convert s t x,ty,pos,af,g⟩ :: l) ⟨N0,k0,e0,h0⟩ :=
 ⟨by rw [aI hs0];exact wp (st:=⟨N0,k0,e0,h0⟩) (dst:=some d0) hT (by subst hm;unfold aP;simp only [hx,hs,ht]) hg hd h.out⟩
theorem Dm (hs0:stK ks = (k,ks')) (hT:TOk P T) {p:Prop} {hdp:Decidable p} {o:BinOp} {xT yT:TypeId} {x y:Operand} (hv:aP T e0 (.binOp o xT x y yT) = some (B (decide p))) (hg:gd ops ⟨some d0,.binOp o xT x y yT,ty,pos,af,g⟩ e0 = some true) (hd:Nat.blt d0 N0 = true)
  (ht:p → ZZ P ops Q h1 ks' l ⟨N0,k0,(d0,B true) :: e0,h0⟩) (hf:¬ p → ZZ P ops Q h1 ks' l ⟨N0,k0,(d0,B false) :: e0,h0⟩):ZZ P ops Q h1 ks (⟨some d0,.binOp o xT x y yT,ty,pos,af,g⟩ :: l) ⟨N0,k0,e0,h0⟩ :=
 ⟨by rw [aI hs0];exact Dd (st:=⟨N0,k0,e0,h0⟩) (dst:=some d0) hT hv hg hd (fun hp => (ht hp).out) (fun hp => (hf hp).out)⟩
theorem zeq (hs0:stK ks = (k,ks')) (hT:TOk P T) {kk:IntKind} {a b:Int} {xT yT:TypeId} {x y:Operand} (hx:ev e0 x = some (.c (.sc (.int kk a)))) (hy:ev e0 y = some (.c (.sc (.int kk b)))) (hg:gd ops ⟨some d0,.binOp .eql xT x y yT,ty,pos,af,g⟩ e0 = some true) (hd:Nat.blt d0 N0 = true)
  (ht:a = b → ZZ P ops Q h1 ks' l ⟨N0,k0,(d0,B true) :: e0,h0⟩) (hf:¬ a = b → ZZ P ops Q h1 ks' l ⟨N0,k0,(d0,B false) :: e0,h0⟩):ZZ P ops Q h1 ks (⟨some d0,.binOp .eql xT x y yT,ty,pos,af,g⟩ :: l) ⟨N0,k0,e0,h0⟩:=⟨by
 rw [aI hs0]
 refine wp (st:=⟨N0,k0,e0,h0⟩) (dst:=some d0) hT (v:=B (a == b)) (by unfold aP;simp only [hx,hy,xq,decide_true]) hg hd ?_
 by_cases hp:a = b
 ·rw [show (a == b) = true from by simpa using hp]
  exact (ht hp).out
 ·rw [show (a == b) = false from by simpa using hp]
  exact (hf hp).out⟩
theorem zne (hs0:stK ks = (k,ks')) (hT:TOk P T) {kk:IntKind} {a b:Int} {xT yT:TypeId} {x y:Operand} (hx:ev e0 x = some (.c (.sc (.int kk a)))) (hy:ev e0 y = some (.c (.sc (.int kk b)))) (hg:gd ops ⟨some d0,.binOp .neq xT x y yT,ty,pos,af,g⟩ e0 = some true) (hd:Nat.blt d0 N0 = true)
  (ht:¬ a = b → ZZ P ops Q h1 ks' l ⟨N0,k0,(d0,B true) :: e0,h0⟩) (hf:a = b → ZZ P ops Q h1 ks' l ⟨N0,k0,(d0,B false) :: e0,h0⟩):ZZ P ops Q h1 ks (⟨some d0,.binOp .neq xT x y yT,ty,pos,af,g⟩ :: l) ⟨N0,k0,e0,h0⟩:=⟨by
 rw [aI hs0]
 refine wp (st:=⟨N0,k0,e0,h0⟩) (dst:=some d0) hT (v:=B (a != b)) (by unfold aP;simp only [hx,hy,xq,decide_true]) hg hd ?_
 by_cases hp:a = b
 ·rw [show (a != b) = false from by simpa using hp]
  exact (hf hp).out
 ·rw [show (a != b) = true from by simpa using hp]
  exact (ht hp).out⟩
theorem zix (hs0:stK ks = (k,ks')) (hT:TOk P T) {t e:TypeId} {x y:Operand} {o n:Nat} {ob:AO} {k':IntKind} {i:Int} {ti te:TI} (hx:ev e0 x = some (.c (.row o 0 n))) (hy:ev e0 y = some (.c (.sc (.int k' i)))) (ht:tlk t T = some ti) (hs:ti.d = .slice e) (hte:tlk e T = some te) (ho:h0[o]? = some (some ob)) (hsz:te.size = ob.sz) (hb:0 ≤ i ∧ i < n)
  (hg:gd ops ⟨some d0,.indexAddr t x y,ty,pos,af,g⟩ e0 = some true) (hd:Nat.blt d0 N0 = true) (h:ZZ P ops Q h1 ks' l ⟨N0,k0,(d0,(.c (.ptr o i.toNat 0))) :: e0,h0⟩):ZZ P ops Q h1 ks (⟨some d0,.indexAddr t x y,ty,pos,af,g⟩ :: l) ⟨N0,k0,e0,h0⟩ :=
 ⟨by
  rw [aI hs0]
  refine wix (st:=⟨N0,k0,e0,h0⟩) (dst:=some d0) hT hx hy ht hs hte ho hsz hb hg hd ?_
  rw [Nat.zero_add]
  exact h.out⟩
theorem zle (hs0:stK ks = (k,ks')) (hT:TOk P T) {α:Type} {inst:Enc α} {t:TypeId} {x:Operand} {o q:Nat} {i:Int} {own:Bool} {e sz:Nat} {xs:List α} {ti:TI} {v v':AV} (hk':(k != Sk.p) = true) (hx:ev e0 x = some (.c (.ptr o i.toNat q))) (ho:(hk k h1 h0)[o]? = some (some ⟨own,e,sz,.fl (xs.map Enc.enc)⟩)) (ht:tlk t T = some ti)
  (hb:0 ≤ i ∧ i < xs.length) (hv:ldW ti ((Enc.enc (rd xs i)).map .sc) q = some v) (hf:fV1 v = some v') (hg:gd ops ⟨some d0,.load t x,ty,pos,af,g⟩ e0 = some true) (hd:Nat.blt d0 N0 = true) (h:ZZ P ops Q h1 ks' l ⟨N0,k0,(d0,v') :: e0,h0⟩):ZZ P ops Q h1 ks (⟨some d0,.load t x,ty,pos,af,g⟩ :: l) ⟨N0,k0,e0,h0⟩ :=
 ⟨by rw [aI hs0,← rk hf] at *;exact wle (st:=⟨N0,k0,e0,h0⟩) (dst:=some d0) hT hk' hx ho ht (uj hb) hv hg hd h.out⟩
theorem zse (hs0:stK ks = (Sk.l,ks')) (hT:TOk P T) {α:Type} {inst:Enc α} {t:TypeId} {x y:Operand} {o q:Nat} {i:Int} {e sz:Nat} {xs:List α} {x':α} {vs:List Value} {ti:TI} {v:AV} {vcs:List AC} {h':AH} (hx:ev e0 x = some (.c (.ptr o i.toNat q))) (hy:ev e0 y = some v) (ho:h0[o]? = some (some ⟨true,e,sz,.fl (xs.map Enc.enc)⟩)) (ht:tlk t T = some ti) (hv:jy v = some vcs) (hp:El.put.plain vcs = some vs)
  (hb:0 ≤ i ∧ i < xs.length) (hsz:Nat.beq vs.length ti.size = true) (hq:Nat.ble (q + ti.size) (Enc.sz α) = true) (hc:Enc.dec (Da (Enc.enc (rd xs i)) q vs) = some x') (hh:nr h0 o (some ⟨true,e,sz,.fl ((upd xs i x').map Enc.enc)⟩) = some h') (hg:gd ops ⟨none,.store t x y,ty,pos,af,g⟩ e0 = some true)
  (h:ZZ P ops Q h1 ks' l ⟨N0,k0,e0,h'⟩):ZZ P ops Q h1 ks (⟨none,.store t x y,ty,pos,af,g⟩ :: l) ⟨N0,k0,e0,h0⟩ :=
 ⟨by
  rw [aI hs0]
  have h2:=js hh
  have h3:(xs.map Enc.enc).set i.toNat (Enc.enc x') = (upd xs i x').map Enc.enc:=by simp [upd]
  refine wse (st:=⟨N0,k0,e0,h0⟩) hT hx hy ho ht hv hp (uj hb) (Nat.eq_of_beq_eq_true hsz) (by rw [Enc.len];exact Nat.le_of_ble_eq_true hq) (Enc.decE hc).symm hg ?_
  show WZ P ops Q h1 (kN ks' l) ⟨N0,k0,e0,h0.set o (some ⟨true,e,sz,.fl ((xs.map Enc.enc).set i.toNat (Enc.enc x'))⟩)⟩
  rw [h3,h2]
  exact h.out⟩
theorem zsl (hs0:stK ks = (k,ks')) (hT:TOk P T) {α:Type} {inst:Enc α} {t e:TypeId} {x:Operand} {lo hi:Option Operand} {o:Nat} {own:Bool} {e' sz:Nat} {xs:List α} {a b:Int} {ti te:TI} {hv h':AH} {nn:Nat} (hx:ev e0 x = some (.c (.row o 0 xs.length))) (ht:tlk t T = some ti) (hs:ti.d = .slice e) (hte:tlk e T = some te) (ho:h0[o]? = some (some ⟨own,e',sz,.fl (xs.map Enc.enc)⟩)) (hsz:te.size = sz) (hl:loV e0 lo 0 = some a) (hh:loV e0 hi xs.length = some b) (hb:0 ≤ a ∧ a ≤ b ∧ b ≤ xs.length)
  (hvw:nr h0 o (some ⟨false,e',sz,.fl (xs.map Enc.enc)⟩) = some hv) (hadd:m9 hv (ro e' (sub xs a b)) = some (nn,h')) (hse:Enc.sz α = sz) (hg:gd ops ⟨some d0,.slice t x lo hi none,ty,pos,af,g⟩ e0 = some true) (hd:Nat.blt d0 N0 = true) (h:ZZ P ops Q h1 ks' l ⟨N0,k0,(d0,(.c (.row nn 0 (sub xs a b).length))) :: e0,h'⟩):ZZ P ops Q h1 ks (⟨some d0,.slice t x lo hi none,ty,pos,af,g⟩ :: l) ⟨N0,k0,e0,h0⟩ :=
 ⟨by
  rw [aI hs0]
  refine wsl (st:=⟨N0,k0,e0,h0⟩) (dst:=some d0) hT hx ht hs hte ho hsz hl hh hb hg hd ?_
  obtain ⟨h2,h3⟩:=fO hadd
  have h4:=js hvw
  have hlt:o < h0.length:=(List.getElem?_eq_some_iff.1 ho).1
  refine zgh (st2:=⟨N0,k0,(d0,.c (.row o (0 + a.toNat) (b.toNat - a.toNat))) :: e0,hv⟩) (lL (st:=⟨N0,k0,(d0,.c (.row o (0 + a.toNat) (b.toNat - a.toNat))) :: e0,h0⟩) (by rw [← h4];simp) (fun i ob hi => ?_)) ?_
  ·rw [← h4] at hi
   by_cases e:o = i
   ·subst e
    rw [List.getElem?_set_self hlt] at hi
    exact ⟨_,false,ho,by simpa [AO.view] using hi.symm⟩
   ·rw [List.getElem?_set_ne e] at hi
    exact ⟨ob,true,hi,by simp [AO.view]⟩
  have h5:hv[o]? = some (some ⟨false,e',sz,.fl (xs.map Enc.enc)⟩):=by rw [← h4,List.getElem?_set_self hlt]
  refine zgh (wD (st:=⟨N0,k0,(d0,.c (.row o (0 + a.toNat) (b.toNat - a.toNat))) :: e0,hv⟩) (er _ _ _) h5 (by rw [List.length_map];omega)) ?_
  have h6:((xs.map Enc.enc).drop (0 + a.toNat)).take (b.toNat - a.toNat) = (sub xs a b).map Enc.enc:=by
   simp only [sub,Nat.zero_add,List.drop_take,List.map_take,List.map_drop]
  have h7:b.toNat - a.toNat = (sub xs a b).length:=by
   simp only [sub,List.length_drop,List.length_take]
   omega
  show WZ P ops Q h1 (kN ks' l) ⟨N0,k0,(d0,.c (.row hv.length 0 (b.toNat - a.toNat))) :: (d0,_) :: e0,hv ++ [some ⟨false,e',sz,.fl (((xs.map Enc.enc).drop (0 + a.toNat)).take (b.toNat - a.toNat))⟩]⟩
  have h8:hv ++ [some ⟨false,e',sz,.fl (((xs.map Enc.enc).drop (0 + a.toNat)).take (b.toNat - a.toNat))⟩] = h':=by
   rw [h6,← h2,ro,hse]
  rw [h8,h3,h7]
  refine zgh (st2:=⟨N0,k0,(d0,.c (.row nn 0 (sub xs a b).length)) :: e0,h'⟩) (fun Γ ρ a w hr => ⟨ρ,Ext.refl _,hr.holds,hr.len,hr.klen,hr.args,fun t v ht => hr.env t v ?_,hr.defers,hr.size⟩) h.out
  by_cases e:d0 = t
  ·subst e
   rw [er] at ht ⊢
   exact ht
  ·rw [dz e] at ht ⊢
   rw [dz e]
   exact ht⟩
end
end
section
open Go.RowKit Go.Proofs.YtgehbhkfehmdkaaGreatW
section
variable {P:Program} {T:TB} {ops:Array Oper} {Q:Exit → St → Prop} {h1:AH} {k:Sk} {ks ks':List Sk} {l:List Oper} {N0 k0 d0:Nat} {e0:List (Nat × AV)} {h0:AH} {op:Op} {ty:TypeId} {pos:String} {af:Array Edge} {g:Option (Nat × Bool)} {st:St}
theorem Dp {α:Type} [Enc α] {t e:TypeId} (hs0:stK ks = (k,ks')) (hT:TOk P T) {len nn:Nat} {parts:Array (Nat × Operand)} {ti te:TI} {ps:List (Nat × AV)} {L:List (List Value)} {xs:List α} {h':AH} (hk':qk k = true) (ht:tlk t T = some ti) (hs:ti.d = .slice e) (hte:tlk e T = some te) (hps:evp e0 parts.toList = some ps) (hL:bsA 0 ps = some L) (hxs:xH L = some xs) (hll:Nat.beq xs.length len = true) (hsz:Nat.beq (Enc.sz α) te.size = true) (hb:Nat.ble (len * te.size) 16777216 = true)
  (hh:m9 h0 (ow e xs) = some (nn,h')) (hg:gd ops ⟨some d0,.buildSlice t len parts,ty,pos,af,g⟩ e0 = some true) (hd:Nat.blt d0 N0 = true) (h:ZZ P ops Q h1 ks' l ⟨N0,k0,(d0,(.c (.row nn 0 xs.length))) :: e0,h'⟩):ZZ P ops Q h1 ks (⟨some d0,.buildSlice t len parts,ty,pos,af,g⟩ :: l) ⟨N0,k0,e0,h0⟩ :=
 ⟨by
  rw [aI hs0]
  have h2:=vg hxs
  have h3:=Nat.eq_of_beq_eq_true hsz
  have h4:=Nat.eq_of_beq_eq_true hll
  obtain ⟨h5,h6⟩:=fO hh
  have h7:L.length = len:=by rw [← h2,List.length_map];exact h4
  refine Df (st:=⟨N0,k0,e0,h0⟩) (dst:=some d0) hT hk' ht hs hte hps hL h7 (by rw [← h2,← h3];exact xQ xs) (by rw [← h3];exact Enc.pos) (Nat.le_of_ble_eq_true hb) hg hd ?_
  show WZ P ops Q h1 (kN ks' l) ⟨N0,k0,(d0,.c (.row h0.length 0 len)) :: e0,h0 ++ [some ⟨true,e,te.size,.fl L⟩]⟩
  have h8:h0 ++ [some ⟨true,e,te.size,.fl L⟩] = h':=by rw [← h5,ow,h3,h2]
  rw [h8,h6,← h4]
  exact h.out⟩
theorem zap (hs0:stK ks = (Sk.l,ks')) (hT:TOk P T) {α:Type} {inst:Enc α} {t e:TypeId} {x y:Operand} {o o2 nn:Nat} {own2:Bool} {e2 sz sz2:Nat} {xs ys:List α} {ti te:TI} {hm h':AH} (hx:ev e0 x = some (.c (.row o 0 xs.length))) (hy:ev e0 y = some (.c (.row o2 0 ys.length))) (ht:tlk t T = some ti) (hs:ti.d = .slice e) (hte:tlk e T = some te) (hsz:te.size = sz)
  (ho:h0[o]? = some (some ⟨true,e,sz,.fl (xs.map Enc.enc)⟩)) (ho2:h0[o2]? = some (some ⟨own2,e2,sz2,.fl (ys.map Enc.enc)⟩)) (hs2:Nat.beq sz2 sz = true) (hbp:Nat.blt 0 te.bytes = true) (hb:(xs.length + ys.length) * te.bytes ≤ 140737488355328) (hse:Enc.sz α = sz) (hh1:nr h0 o none = some hm) (hh2:m9 hm (ow e (xs ++ ys)) = some (nn,h'))
  (hg:gd ops ⟨some d0,.call { callee:=.builtin .append,args:=#[x,y],argTypes:=#[t,t] },ty,pos,af,g⟩ e0 = some true) (hd:Nat.blt d0 N0 = true)
  (h:ZZ P ops Q h1 ks' l ⟨N0,k0,(d0,(.c (.row nn 0 (xs ++ ys).length))) :: e0,h'⟩):ZZ P ops Q h1 ks (⟨some d0,.call { callee:=.builtin .append,args:=#[x,y],argTypes:=#[t,t] },ty,pos,af,g⟩ :: l) ⟨N0,k0,e0,h0⟩ :=
 ⟨by
  rw [aI hs0]
  have e1:=Nat.eq_of_beq_eq_true hs2
  subst e1
  obtain ⟨h5,h6⟩:=fO hh2
  have h7:=js hh1
  have hle:xs.length + ys.length ≤ 9223372036854775807:=by
   have:=Nat.le_mul_of_pos_right (xs.length + ys.length) (Nat.blt_eq.mp hbp)
   omega
  refine wap (st:=⟨N0,k0,e0,h0⟩) (dst:=some d0) hT hx hy ht hs hte hsz ho ho2 (by simp) (by simp) ⟨hb,hle⟩ hg hd ?_
  show WZ P ops Q h1 (kN ks' l) ⟨N0,k0,(d0,.c (.row h0.length 0 (xs.length + ys.length))) :: e0,h0.set o none ++ [some ⟨true,e,sz2,.fl ((xs.map Enc.enc).take xs.length ++ ((ys.map Enc.enc).drop 0).take ys.length)⟩]⟩
  have h8:h0.set o none ++ [some ⟨true,e,sz2,.fl ((xs.map Enc.enc).take xs.length ++ ((ys.map Enc.enc).drop 0).take ys.length)⟩] = h':=by
   rw [h7,← h5,ow,hse,List.map_append,List.drop_zero,List.take_of_length_le (by simp),List.take_of_length_le (by simp)]
  have h9:h0.length = nn:=by rw [← h6,← h7];simp
  rw [h8,h9]
  simpa using h.out⟩
noncomputable def dB (p:Prop):Bool:=@decide p (Classical.propDecidable p)
theorem nR {p:Prop} (h:p):dB p = true:=@decide_eq_true p (Classical.propDecidable p) h
theorem rf {p:Prop} (h:¬ p):dB p = false:=@decide_eq_false p (Classical.propDecidable p) h
theorem sM {p:Prop} (h:dB p = true):p:=@of_decide_eq_true p (Classical.propDecidable p) h
theorem xG {p:Prop} (h:dB p = false):¬ p:=@of_decide_eq_false p (Classical.propDecidable p) h
noncomputable def pick (p:Prop) (a b:Int):Int:=if dB p = true then a else b
theorem aK {p:Prop} {a b:Int} (h:p):pick p a b = a:=by rw [pick,nR h];rfl
theorem aC {p:Prop} {a b:Int} (h:¬ p):pick p a b = b:=by rw [pick,rf h];rfl
structure FC (P:Program) (f:FuncId) (args:List AV) (hs:AH) (X:AV) (hs2:AH):Prop where
 ent:ga P f
 call:ACall P f args hs (fun v h => v = X ∧ h = hs2)
def inv (m:List Nat) (n o:Nat):Nat:=go 0 m
where go (i:Nat):List Nat → Nat
 | [] => n
 | x :: r => match Nat.beq x o with
   | true => i
   | false => go (i + 1) r
def jX (m:List Nat) (vs:List AV):Option (List AV):=fVs (vs.map (AV.ren (inv m 0)))
def Bj (h0:AH):List Bool → List Nat → AH
 | b :: fl,i :: m => (h0[i]?).join.map (AO.view b) :: Bj h0 fl m
 | [],i :: m => (h0[i]?).join.map (AO.view false) :: Bj h0 [] m
 | _,[] => []
def jY (fl:List Bool) (m:List Nat) (h0:AH):Option AH:=fH (cx (inv m 0) (Bj h0 fl m))
def xJ:List Nat → List AV → Option (List (Nat × AV))
 | [],[] => some []
 | _ :: _,[] => some []
 | i :: is,v :: vs => match xJ is vs with
   | some r => some ((i,v) :: r)
   | none => none
 | [],_ :: _ => none
theorem rh:∀ {is:List Nat} {args:List AV} {e:List (Nat × AV)} {i:Nat},(∀ j x,is[j]? = some x → x = i + j) → xJ is args = some e → oS i args = e
 | [],[],e,i,_,h => by
   cases h
   rfl
 | _ :: _,[],e,i,_,h => by
   cases h
   rfl
 | x :: is,v :: vs,e,i,hi,h => by
   unfold xJ at h
   split at h
   ·rename_i r h1
    cases h
    have hx:x = i:=hi 0 x rfl
    subst hx
    show (x,v) :: oS (x + 1) vs = _
    rw [rh (fun j y hj => by rw [hi (j + 1) y (by simpa using hj)];omega) h1]
   ·cases h
 | [],_ :: _,_,_,_,h => by cases h
theorem ax {f:FuncId} {fn:Func} {c:Code} {args:List AV} {hs hs':AH} {X:AV} {hs2:AH} {e:List (Nat × AV)} {kk:Nat} (hT:TOk P T) (n:Nat) (rs:List ResultVar) (hf:P.funcs[f]? = some fn) (hname:(fn.name == "runtime.NumGoroutine") = false) (hb:fn.body = some c) (hres:fn.results = rs.toArray) (hn:fn.ntmps = n) (hle:Nat.ble args.length n = true)
  (he:xJ yt args = some e) (hh:fH hs = some hs') (hk:lit hs.length = some kk) (h:WW P c (sn (rsS T rs) (fun v h => v = X ∧ h = hs2)) ⟨n,kk,e,hs'⟩):FC P f args hs X hs2 :=
 ⟨oR hf hname (by rw [hb];rfl),ACall.enter n hf hb (tA hT hres) hn (Nat.le_of_ble_eq_true hle) (by
  rw [rh (i:=0) (fun j x hj => by rw [oz] at hj;rw [← kV hj,Nat.zero_add]) he,iK hk]
  rw [← iU hh] at h
  exact h.out)⟩
theorem zc {fo:Operand} {as:Array Operand} {ts:Array TypeId} {f:FuncId} {caps:List (Nat × Nat × Nat)} {vals args:List AV} {hs:AH} {X X':AV} {m:List Nat} (hs0:stK ks = (k,ks')) (hk':qk k = true) (hf:ev e0 fo = some (.c (.fn f caps))) (hev:evs e0 as.toList = some vals) (hm:fL (jK h0 (vals ++ caps.map bK)) = some m) (hca:jX m (vals ++ caps.map bK) = some args) (hch:jY [] m h0 = some hs)
  (hargs:args.map (AV.ren (mf m h0.length)) = vals ++ caps.map bK) (hp:cx (mf m h0.length) hs = cm hs (bP m h0)) (hb:(dr hs m h0.length && roA hs) = true) (hc:FC P f args hs X hs)
  (hX:∀ f,X.ren f = X) (hX':fV X = some X') (hg:gd ops ⟨some d0,.call { callee:=.value fo,args:=as,argTypes:=ts },ty,pos,af,g⟩ e0 = some true) (hd:Nat.blt d0 N0 = true)
  (h:ZZ P ops Q h1 ks' l ⟨N0,k0,(d0,X') :: e0,h0⟩):ZZ P ops Q h1 ks (⟨some d0,.call { callee:=.value fo,args:=as,argTypes:=ts },ty,pos,af,g⟩ :: l) ⟨N0,k0,e0,h0⟩ :=
 ⟨by
  rw [aI hs0]
  unfold dr roA at hb
  simp only [Bool.and_eq_true] at hb
  refine Ce (st:=⟨N0,k0,e0,h0⟩) (dst:=some d0) hk' hc.call hc.ent hf hev rfl (by rw [sP hm];exact hargs) (by rw [sP hm];exact hp) (by rw [sP hm];simp only [Bool.and_eq_true];exact ⟨hb.1.1,hb.2⟩) (by rw [sP hm];exact hb.1.2) hX hg hd ?_
  rw [mh hX']
  exact h.out⟩
theorem zcb {fo:Operand} {as:Array Operand} {ts:Array TypeId} {f:FuncId} {caps:List (Nat × Nat × Nat)} {vals args:List AV} {hs:AH} {b:Bool} {m:List Nat} (hs0:stK ks = (k,ks')) (hk':qk k = true) (hf:ev e0 fo = some (.c (.fn f caps))) (hev:evs e0 as.toList = some vals) (hm:fL (jK h0 (vals ++ caps.map bK)) = some m) (hca:jX m (vals ++ caps.map bK) = some args) (hch:jY [] m h0 = some hs)
  (hargs:args.map (AV.ren (mf m h0.length)) = vals ++ caps.map bK) (hp:cx (mf m h0.length) hs = cm hs (bP m h0)) (hb:(dr hs m h0.length && roA hs) = true) (hc:FC P f args hs (B b) hs)
  (hg:gd ops ⟨some d0,.call { callee:=.value fo,args:=as,argTypes:=ts },ty,pos,af,g⟩ e0 = some true) (hd:Nat.blt d0 N0 = true)
  (ht:b = true → ZZ P ops Q h1 ks' l ⟨N0,k0,(d0,B true) :: e0,h0⟩) (hf':b = false → ZZ P ops Q h1 ks' l ⟨N0,k0,(d0,B false) :: e0,h0⟩):ZZ P ops Q h1 ks (⟨some d0,.call { callee:=.value fo,args:=as,argTypes:=ts },ty,pos,af,g⟩ :: l) ⟨N0,k0,e0,h0⟩:=by
 cases b
 ·exact zc hs0 hk' hf hev hm hca hch hargs hp hb hc (fun _ => rfl) rfl hg hd (hf' rfl)
 ·exact zc hs0 hk' hf hev hm hca hch hargs hp hb hc (fun _ => rfl) rfl hg hd (ht rfl)
theorem zcp {fo:Operand} {as:Array Operand} {ts:Array TypeId} {f:FuncId} {caps:List (Nat × Nat × Nat)} {vals args:List AV} {hs:AH} {p:Prop} {m:List Nat} (hs0:stK ks = (k,ks')) (hk':qk k = true) (hf:ev e0 fo = some (.c (.fn f caps))) (hev:evs e0 as.toList = some vals) (hm:fL (jK h0 (vals ++ caps.map bK)) = some m) (hca:jX m (vals ++ caps.map bK) = some args) (hch:jY [] m h0 = some hs)
  (hargs:args.map (AV.ren (mf m h0.length)) = vals ++ caps.map bK) (hp:cx (mf m h0.length) hs = cm hs (bP m h0)) (hb:(dr hs m h0.length && roA hs) = true) (hc:FC P f args hs (B (dB p)) hs)
  (hg:gd ops ⟨some d0,.call { callee:=.value fo,args:=as,argTypes:=ts },ty,pos,af,g⟩ e0 = some true) (hd:Nat.blt d0 N0 = true)
  (ht:p → ZZ P ops Q h1 ks' l ⟨N0,k0,(d0,B true) :: e0,h0⟩) (hf':¬ p → ZZ P ops Q h1 ks' l ⟨N0,k0,(d0,B false) :: e0,h0⟩):ZZ P ops Q h1 ks (⟨some d0,.call { callee:=.value fo,args:=as,argTypes:=ts },ty,pos,af,g⟩ :: l) ⟨N0,k0,e0,h0⟩:=by
 by_cases hp':p
 ·exact zcb hs0 hk' hf hev hm hca hch hargs hp hb hc hg hd (fun _ => ht hp') (fun h => absurd hp' (xG h))
 ·exact zcb hs0 hk' hf hev hm hca hch hargs hp hb hc hg hd (fun h => absurd (sM h) hp') (fun _ => hf' hp')
theorem zcq {fo:Operand} {as:Array Operand} {ts:Array TypeId} {f:FuncId} {caps:List (Nat × Nat × Nat)} {vals args:List AV} {hs:AH} {p:Prop} {a b:Int} {m:List Nat} (hs0:stK ks = (k,ks')) (hk':qk k = true) (hf:ev e0 fo = some (.c (.fn f caps))) (hev:evs e0 as.toList = some vals) (hm:fL (jK h0 (vals ++ caps.map bK)) = some m) (hca:jX m (vals ++ caps.map bK) = some args) (hch:jY [] m h0 = some hs)
  (hargs:args.map (AV.ren (mf m h0.length)) = vals ++ caps.map bK) (hp:cx (mf m h0.length) hs = cm hs (bP m h0)) (hb:(dr hs m h0.length && roA hs) = true) (hc:FC P f args hs (I (pick p a b)) hs)
  (hg:gd ops ⟨some d0,.call { callee:=.value fo,args:=as,argTypes:=ts },ty,pos,af,g⟩ e0 = some true) (hd:Nat.blt d0 N0 = true)
  (ht:p → ZZ P ops Q h1 ks' l ⟨N0,k0,(d0,I a) :: e0,h0⟩) (hf':¬ p → ZZ P ops Q h1 ks' l ⟨N0,k0,(d0,I b) :: e0,h0⟩):ZZ P ops Q h1 ks (⟨some d0,.call { callee:=.value fo,args:=as,argTypes:=ts },ty,pos,af,g⟩ :: l) ⟨N0,k0,e0,h0⟩:=by
 by_cases hp':p
 ·rw [aK hp'] at hc
  exact zc hs0 hk' hf hev hm hca hch hargs hp hb hc (fun _ => rfl) rfl hg hd (ht hp')
 ·rw [aC hp'] at hc
  exact zc hs0 hk' hf hev hm hca hch hargs hp hb hc (fun _ => rfl) rfl hg hd (hf' hp')
theorem zcf {fo:Operand} {as:Array Operand} {ts:Array TypeId} {f:FuncId} {caps:List (Nat × Nat × Nat)} {vals args:List AV} {hs hs2 h':AH} {X X':AV} {m:List Nat} (hs0:stK ks = (k,ks')) (hk':qk k = true) (hf:ev e0 fo = some (.c (.fn f caps))) (hev:evs e0 as.toList = some vals) (hm:fL (jK h0 (vals ++ caps.map bK)) = some m) (hca:jX m (vals ++ caps.map bK) = some args) (hch:jY [] m h0 = some hs)
  (hargs:args.map (AV.ren (mf m h0.length)) = vals ++ caps.map bK) (hp:cx (mf m h0.length) hs = cm hs (bP m h0)) (hb:(dr hs m h0.length && roA hs) = true) (hc:FC P f args hs X hs2)
  (hno:(hs2.drop m.length).all owN = true) (hX':fV (X.ren (mf m h0.length)) = some X') (hh:fH (h0 ++ cx (mf m h0.length) (hs2.drop m.length)) = some h') (hg:gd ops ⟨some d0,.call { callee:=.value fo,args:=as,argTypes:=ts },ty,pos,af,g⟩ e0 = some true) (hd:Nat.blt d0 N0 = true)
  (h:ZZ P ops Q h1 ks' l ⟨N0,k0,(d0,X') :: e0,h'⟩):ZZ P ops Q h1 ks (⟨some d0,.call { callee:=.value fo,args:=as,argTypes:=ts },ty,pos,af,g⟩ :: l) ⟨N0,k0,e0,h0⟩ :=
 ⟨by
  rw [aI hs0]
  unfold dr roA at hb
  simp only [Bool.and_eq_true] at hb
  refine zh (st:=⟨N0,k0,e0,h0⟩) (dst:=some d0) m hk' hc.call hc.ent hf hev hargs hp (by simp only [Bool.and_eq_true];exact ⟨hb.1.1,hb.2⟩) hb.1.2 (.inl fun v hs' e => by rw [e.2];exact hno) hg hd ?_
  rintro _ _ ⟨rfl,rfl⟩
  have:=h.out
  rw [← mh hX',← iU hh] at this
  exact this⟩
theorem zcw {fo:Operand} {as:Array Operand} {ts:Array TypeId} {f:FuncId} {caps:List (Nat × Nat × Nat)} {vals args:List AV} {hs hs2 hv h':AH} {X X':AV} {m:List Nat} (fl:List Bool) (hs0:stK ks = (Sk.l,ks')) (hf:ev e0 fo = some (.c (.fn f caps))) (hev:evs e0 as.toList = some vals) (hm:fL (jK h0 (vals ++ caps.map bK)) = some m) (hca:jX m (vals ++ caps.map bK) = some args) (hch:jY fl m h0 = some hs) (hvw:fH (vwH m hs h0) = some hv)
  (hargs:args.map (AV.ren (mf m h0.length)) = vals ++ caps.map bK) (hp:cx (mf m h0.length) hs = cm hs (bP m hv)) (hb:dr hs m h0.length = true) (hc:FC P f args hs X hs2)
  (hX':fV (X.ren (mf m h0.length)) = some X') (hh:fH (dj (mf m h0.length) m hs hs2 hv) = some h') (hg:gd ops ⟨some d0,.call { callee:=.value fo,args:=as,argTypes:=ts },ty,pos,af,g⟩ e0 = some true) (hd:Nat.blt d0 N0 = true)
  (h:ZZ P ops Q h1 ks' l ⟨N0,k0,(d0,X') :: e0,h'⟩):ZZ P ops Q h1 ks (⟨some d0,.call { callee:=.value fo,args:=as,argTypes:=ts },ty,pos,af,g⟩ :: l) ⟨N0,k0,e0,h0⟩ :=
 ⟨by
  rw [aI hs0]
  unfold dr at hb
  simp only [Bool.and_eq_true] at hb
  have e1:=iU hvw
  have hlen:hv.length = h0.length:=by rw [← e1,vwH,nG]
  refine zgh (st:=⟨N0,k0,e0,h0⟩) (lL (h':=hv) hlen (fun i ob hi => zf (by rw [e1];exact hi))) ?_
  show WZ P ops Q h1 _ ⟨N0,k0,e0,hv⟩
  rw [← hlen] at hargs hp hX' hh hb
  refine zi (st:=⟨N0,k0,e0,hv⟩) (dst:=some d0) (m:=m) hc.call hc.ent hf hev hargs hp (by simp only [Bool.and_eq_true];exact hb.1) hb.2 (fun j i b oo h1 h2 h3 h4 => B5 (h:=h0) h1 h2 h3 (by rw [e1];exact h4)) hg hd ?_
  rintro _ _ ⟨rfl,rfl⟩
  have:=h.out
  rw [← mh hX',← iU hh] at this
  exact this⟩
section
variable {rs:List ResultVar} {hs:AH}
theorem bF {p:Prop} (m:List Nat) (hr:qi T rs st.env st.h = some (B true)) (hl:hs.length = m.length) (ha:m.take st.k = List.range st.k) (hlt:m.all (fun i => Nat.blt i st.h.length) = true) (hn:ndO m hs = true) (hh:cx (mf m st.h.length) hs = cm hs (bP m st.h)) (hp:p):oI (rsS T rs) (fun v h => v = B (dB p) ∧ h = hs) st :=
 u9 m ⟨rfl,rfl⟩ ⟨by rw [rsS,hr,nR hp];rfl,hl,ha,hlt,hn,hh⟩
theorem b5 {p:Prop} (m:List Nat) (hr:qi T rs st.env st.h = some (B false)) (hl:hs.length = m.length) (ha:m.take st.k = List.range st.k) (hlt:m.all (fun i => Nat.blt i st.h.length) = true) (hn:ndO m hs = true) (hh:cx (mf m st.h.length) hs = cm hs (bP m st.h)) (hp:¬ p):oI (rsS T rs) (fun v h => v = B (dB p) ∧ h = hs) st :=
 u9 m ⟨rfl,rfl⟩ ⟨by rw [rsS,hr,rf hp];rfl,hl,ha,hlt,hn,hh⟩
theorem du {n n':Int} (m:List Nat) (hr:qi T rs st.env st.h = some (I n)) (hl:hs.length = m.length) (ha:m.take st.k = List.range st.k) (hlt:m.all (fun i => Nat.blt i st.h.length) = true) (hn:ndO m hs = true) (hh:cx (mf m st.h.length) hs = cm hs (bP m st.h)) (hp:n' = n):oI (rsS T rs) (fun v h => v = I n' ∧ h = hs) st :=
 u9 m ⟨rfl,rfl⟩ ⟨by rw [rsS,hr,hp];rfl,hl,ha,hlt,hn,hh⟩
theorem ak {X:AV} (m:List Nat) (hr:qi T rs st.env st.h = some (X.ren (mf m st.h.length))) (hl:hs.length = m.length) (ha:m.take st.k = List.range st.k) (hlt:m.all (fun i => Nat.blt i st.h.length) = true) (hn:ndO m hs = true) (hh:cx (mf m st.h.length) hs = cm hs (bP m st.h)):oI (rsS T rs) (fun v h => v = X ∧ h = hs) st :=
 u9 m ⟨rfl,rfl⟩ ⟨hr,hl,ha,hlt,hn,hh⟩
end
theorem aD {C:Int → Prop} {i:Int} (h:∀ j,0 ≤ j → j < i → C j) (hi:C i):∀ j,0 ≤ j → j < i + 1 → C j:=fun j h0 h1 => by
 by_cases e:j = i
 ·rw [e];exact hi
 ·exact h j h0 (by omega)
theorem bX {c:Code} {α:Type} {inst:Enc α} {own:Bool} {t:TypeId} {sz:Nat} (l:List α) (o:Nat) (ho:st.h[o]? = some (some ⟨own,t,sz,.fl (l.map Enc.enc)⟩)) (h:l.length ≤ 9223372036854775807 → WW P c Q st):WW P c Q st:=⟨fun Γ ρ a w hr => (h (by
 have:=Ap hr ho
 rwa [List.length_map] at this)).out Γ ρ a w hr⟩
theorem fZ {N k d n:Nat} {e:List (Nat × AV)} {h h':AH} (t sz:Nat) (hz:Nat.blt 0 sz = true) (hx:lk d e = some (.c (.sc (.slice none 0 0)))) (hh:m9 h (some ⟨true,t,sz,.fl []⟩) = some (n,h')) (hn:ZZ P ops Q h1 ks l ⟨N,k,(d,.c (.row n 0 0)) :: e,h'⟩):ZZ P ops Q h1 ks l ⟨N,k,e,h⟩:=by
 obtain ⟨h2,h3⟩:=fO hh
 subst h2;subst h3
 exact CZ (wC (st:=⟨N,k,e,h⟩) t (Nat.blt_eq.mp hz) hx) hn
end
end
end Go.Proofs.YtgehbhkfehmdkaaGreat.Sh
