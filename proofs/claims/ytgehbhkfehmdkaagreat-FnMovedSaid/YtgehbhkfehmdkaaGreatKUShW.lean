/- Symbolic memory: the steps of a walk. No condition. -/
import Derived.Test.YtgehbhkfehmdkaaGreatKUShE
set_option linter.unusedVariables false
namespace Go.Proofs.YtgehbhkfehmdkaaGreat.Sh
section
open Go.RowKit Go.Proofs.YtgehbhkfehmdkaaGreatW
structure WZ (P:Program) (ops:Array Oper) (Q:Exit → St → Prop) (h1:AH) (l:List (Sk × Oper)) (st:St):Prop where
 out:WS P ops Q h1 l st
structure WW (P:Program) (c:Code) (Q:Exit → St → Prop) (st:St):Prop where
 out:W P c Q st
section
variable {P:Program} {T:TB} {ops:Array Oper} {Q:Exit → St → Prop} {h1:AH} {k:Sk} {l:List (Sk × Oper)} {st:St} {dst:Option Tmp} {op:Op} {ty:TypeId} {pos:String} {af:Array Edge} {g:Option (Nat × Bool)}
def hk (k:Sk) (h1 h:AH):AH:=match k with
 | .t => h1
 | _ => h
def qk:Sk → Bool
 | .o => true
 | .l => true
 | _ => false
theorem mV {v:AV} (hP:OpP P ⟨dst,op,ty,pos,af,g⟩ st v) (hg:gd ops ⟨dst,op,ty,pos,af,g⟩ st.env = some true) (hd:st.fits dst = true) (h:WZ P ops Q h1 l (st.put dst v)):WZ P ops Q h1 ((k,⟨dst,op,ty,pos,af,g⟩) :: l) st :=
 ⟨match k with
  | .p => .p hd hg hP h.out
  | .t => .t hd hg (hP.r h1) h.out
  | .o => .o hd hg ((hP.r st.h).q hd) (fun st' e => by cases e;exact h.out)
  | .l => .l hd hg ((hP.r st.h).q hd).w (fun st' e => by cases e;exact h.out)⟩
theorem Cp {v:AV} (hk':(k != Sk.p) = true) (hR:OpR P ⟨dst,op,ty,pos,af,g⟩ st (hk k h1 st.h) v) (hg:gd ops ⟨dst,op,ty,pos,af,g⟩ st.env = some true) (hd:st.fits dst = true) (h:WZ P ops Q h1 l (st.put dst v)):WZ P ops Q h1 ((k,⟨dst,op,ty,pos,af,g⟩) :: l) st :=
 ⟨match k,hk',hR with
  | .t,_,hR => .t hd hg hR h.out
  | .o,_,hR => .o hd hg (hR.q hd) (fun st' e => by cases e;exact h.out)
  | .l,_,hR => .l hd hg (hR.q hd).w (fun st' e => by cases e;exact h.out)⟩
theorem s7 {K:St → Prop} (hk':qk k = true) (hQ:OpQ P ⟨dst,op,ty,pos,af,g⟩ st K) (hg:gd ops ⟨dst,op,ty,pos,af,g⟩ st.env = some true) (hd:st.fits dst = true) (h:∀ st',K st' → WZ P ops Q h1 l st'):WZ P ops Q h1 ((k,⟨dst,op,ty,pos,af,g⟩) :: l) st :=
 ⟨match k,hk' with
  | .o,_ => .o hd hg hQ (fun st' e => (h st' e).out)
  | .l,_ => .l hd hg hQ.w (fun st' e => (h st' e).out)⟩
theorem s8 {K:St → Prop} (hQ:OpW P ⟨dst,op,ty,pos,af,g⟩ st K) (hg:gd ops ⟨dst,op,ty,pos,af,g⟩ st.env = some true) (hd:st.fits dst = true) (h:∀ st',K st' → WZ P ops Q h1 l st'):WZ P ops Q h1 ((Sk.l,⟨dst,op,ty,pos,af,g⟩) :: l) st :=
 ⟨.l hd hg hQ (fun st' e => (h st' e).out)⟩
theorem xa (hg:gd ops ⟨dst,op,ty,pos,af,g⟩ st.env = some false) (hd:st.fits dst = true) (h:WZ P ops Q h1 l (st.put dst (.tup []))):WZ P ops Q h1 ((k,⟨dst,op,ty,pos,af,g⟩) :: l) st :=
 ⟨.off hd hg h.out⟩
theorem wp (hT:TOk P T) {v:AV} (hv:aP T st.env op = some v) (hg:gd ops ⟨dst,op,ty,pos,af,g⟩ st.env = some true) (hd:st.fits dst = true) (h:WZ P ops Q h1 l (st.put dst v)):WZ P ops Q h1 ((k,⟨dst,op,ty,pos,af,g⟩) :: l) st :=
 mV (m8 hT hv) hg hd h
theorem zj {n:Int} (h0:-9223372036854775808 ≤ n) (h1:n ≤ 9223372036854775807):IntKind.i64.wrap n = n:=by
 rw [IntKind.wrap_i64]
 omega
theorem Dg {x:Operand} {xT:TypeId} {a:Int} (hx:ev st.env x = some (I a)) (hb:-9223372036854775808 ≤ -a ∧ -a ≤ 9223372036854775807) (hg:gd ops ⟨dst,.unOp .neg xT x,ty,pos,af,g⟩ st.env = some true) (hd:st.fits dst = true) (h:WZ P ops Q h1 l (st.put dst (I (-a)))):WZ P ops Q h1 ((k,⟨dst,.unOp .neg xT x,ty,pos,af,g⟩) :: l) st :=
 mV (m8 (T:=[]) (fun t ti h => by cases h) (by unfold aP;simp only [hx,Int.zero_sub,zj hb.1 hb.2])) hg hd h
theorem Dd (hT:TOk P T) {p:Prop} {hdp:Decidable p} {o:BinOp} {xT yT:TypeId} {x y:Operand} (hv:aP T st.env (.binOp o xT x y yT) = some (B (decide p))) (hg:gd ops ⟨dst,.binOp o xT x y yT,ty,pos,af,g⟩ st.env = some true) (hd:st.fits dst = true)
  (ht:p → WZ P ops Q h1 l (st.put dst (B true))) (hf:¬ p → WZ P ops Q h1 l (st.put dst (B false))):WZ P ops Q h1 ((k,⟨dst,.binOp o xT x y yT,ty,pos,af,g⟩) :: l) st:=by
 refine mV (m8 hT hv) hg hd ?_
 by_cases hp:p
 ·rw [decide_eq_true hp]
  exact ht hp
 ·rw [decide_eq_false hp]
  exact hf hp
def ldW (ti:TI) (cs:List AC) (q:Nat):Option AV:=match q,ti.agg,Nat.beq ti.size cs.length with
 | 0,true,true => some (.agg cs)
 | _,_,_ => ldA ti cs q
theorem mn {ti:TI} {cs:List AC} {q:Nat} {v:AV} (h:ldW ti cs q = some v):ldA ti cs q = some v:=by
 unfold ldW at h
 split at h
 ·rename_i h1 h2
  have h2:=Nat.eq_of_beq_eq_true h2
  unfold ldA
  rw [h1,Nat.zero_add,h2,show Nat.ble cs.length cs.length = true from by rw [Nat.ble_eq];exact Nat.le_refl _]
  simpa using h
 ·exact h
def C1 (cs:List AC) (q:Nat) (vcs:List AC):List AC:=match q,Nat.beq vcs.length cs.length,vcs with
 | 0,true,_ => vcs
 | _,_,[x] => cs.set q x
 | _,_,_ => cs.take q ++ vcs ++ cs.drop (q + vcs.length)
theorem vX {cs:List AC} {q:Nat} {vcs:List AC} (h:q + vcs.length ≤ cs.length):C1 cs q vcs = cs.take q ++ vcs ++ cs.drop (q + vcs.length):=by
 unfold C1
 split
 ·rename_i hb
  have hb:=Nat.eq_of_beq_eq_true hb
  simp [hb]
 ·rename_i x _
  rw [List.set_eq_take_append_cons_drop,if_pos (by simp only [List.length_singleton] at h;omega)]
  simp
 ·rfl
def ldv (T:TB) (h:AH) (t:TypeId):AV → Option AV
 | .c (.ptr o i q) => match h[o]?,tlk t T with
   | some (some ob),some ti => match ob.el.get i with
     | some cs => ldW ti cs q
     | none => none
   | _,_ => none
 | _ => none
theorem wld (hT:TOk P T) {t:TypeId} {x:Operand} {p v:AV} (hk':(k != Sk.p) = true) (hx:ev st.env x = some p) (hv:ldv T (hk k h1 st.h) t p = some v) (hg:gd ops ⟨dst,.load t x,ty,pos,af,g⟩ st.env = some true) (hd:st.fits dst = true) (h:WZ P ops Q h1 l (st.put dst v)):WZ P ops Q h1 ((k,⟨dst,.load t x,ty,pos,af,g⟩) :: l) st:=by
 refine Cp hk' ?_ hg hd h
 unfold ldv at hv
 split at hv
 ·split at hv
  ·rename_i ob ti ho ht
   split at hv
   ·rename_i cs hi
    exact pq hT hx ht ho hi (mn hv)
   ·cases hv
  ·cases hv
 ·cases hv
theorem wle (hT:TOk P T) {t:TypeId} {x:Operand} {o i q:Nat} {own:Bool} {e sz:Nat} {xs:List (List Value)} {c:List Value} {ti:TI} {v:AV} (hk':(k != Sk.p) = true) (hx:ev st.env x = some (.c (.ptr o i q))) (ho:(hk k h1 st.h)[o]? = some (some ⟨own,e,sz,.fl xs⟩)) (ht:tlk t T = some ti)
  (hc:xs[i]? = some c) (hv:ldW ti (c.map .sc) q = some v) (hg:gd ops ⟨dst,.load t x,ty,pos,af,g⟩ st.env = some true) (hd:st.fits dst = true) (h:WZ P ops Q h1 l (st.put dst v)):WZ P ops Q h1 ((k,⟨dst,.load t x,ty,pos,af,g⟩) :: l) st :=
 Cp hk' (pq hT hx ht ho (show (xs[i]?).map _ = some (c.map .sc) by rw [hc];rfl) (mn hv)) hg hd h
theorem Dc {t:TypeId} {x:Operand} {v:AV} {cs:List AC} (hk':qk k = true) (hx:ev st.env x = some v) (hv:jy v = some cs) (hg:gd ops ⟨dst,.box t x,ty,pos,af,g⟩ st.env = some true) (hd:st.fits dst = true)
  (h:WZ P ops Q h1 l (({ st with h:=st.h ++ [some ⟨true,t,cs.length,.mx cs⟩] }:St).put dst (.c (.ptr st.h.length 0 0)))):WZ P ops Q h1 ((k,⟨dst,.box t x,ty,pos,af,g⟩) :: l) st :=
 s7 hk' (Ac hd hx hv) hg hd (fun st' e => by cases e;exact h)
theorem Cc (hT:TOk P T) {t:TypeId} {ti:TI} {z:Value} {zs:List Value} (hk':qk k = true) (ht:tlk t T = some ti) (hz:ti.zero = z :: zs) (hg:gd ops ⟨dst,.alloc t,ty,pos,af,g⟩ st.env = some true) (hd:st.fits dst = true)
  (h:WZ P ops Q h1 l (({ st with h:=st.h ++ [some ⟨true,t,(ti.zero.map AC.sc).length,.mx (ti.zero.map .sc)⟩] }:St).put dst (.c (.ptr st.h.length 0 0)))):WZ P ops Q h1 ((k,⟨dst,.alloc t,ty,pos,af,g⟩) :: l) st :=
 s7 hk' (wN hT hd ht hz) hg hd (fun st' e => by cases e;exact h)
def stv (T:TB) (h:AH) (t:TypeId) (v:AV):AV → Option AH
 | .c (.ptr o i q) => match h[o]?,tlk t T,jy v with
   | some (some ⟨own,ty,sz,el⟩),some ti,some vcs => match own,Nat.beq vcs.length ti.size,el.get i with
     | true,true,some cs => match Nat.ble (q + ti.size) cs.length,el.put i (C1 cs q vcs) with
       | true,some e' => some (h.set o (some ⟨true,ty,sz,e'⟩))
       | _,_ => none
     | _,_,_ => none
   | _,_,_ => none
 | _ => none
theorem wst (hT:TOk P T) {t:TypeId} {x y:Operand} {p v:AV} {h':AH} (hx:ev st.env x = some p) (hy:ev st.env y = some v) (hs:stv T st.h t v p = some h') (hg:gd ops ⟨none,.store t x y,ty,pos,af,g⟩ st.env = some true)
  (h:WZ P ops Q h1 l { st with h:=h' }):WZ P ops Q h1 ((Sk.l,⟨none,.store t x y,ty,pos,af,g⟩) :: l) st:=by
 unfold stv at hs
 split at hs
 ·split at hs
  ·rename_i own ty' sz' el ti vcs ho ht hv
   split at hs
   ·rename_i cs hsz hi
    split at hs
    ·rename_i e' hq he
     cases hs
     have hq:=Nat.le_of_ble_eq_true hq
     have hsz:=Nat.eq_of_beq_eq_true hsz
     rw [vX (by omega)] at he
     exact s8 (qN hT rfl hx hy ht hv hsz ho rfl hi hq he) hg rfl (fun st' e => by cases e;exact h)
    ·cases hs
   ·cases hs
  ·cases hs
 ·cases hs
theorem wse (hT:TOk P T) {t:TypeId} {x y:Operand} {o i q:Nat} {e sz:Nat} {xs:List (List Value)} {c c' vs:List Value} {ti:TI} {v:AV} {vcs:List AC} (hx:ev st.env x = some (.c (.ptr o i q))) (hy:ev st.env y = some v) (ho:st.h[o]? = some (some ⟨true,e,sz,.fl xs⟩)) (ht:tlk t T = some ti) (hv:jy v = some vcs) (hp:El.put.plain vcs = some vs)
  (hc:xs[i]? = some c) (hsz:vs.length = ti.size) (hq:q + ti.size ≤ c.length) (hc':c.take q ++ vs ++ c.drop (q + vs.length) = c') (hg:gd ops ⟨none,.store t x y,ty,pos,af,g⟩ st.env = some true)
  (h:WZ P ops Q h1 l { st with h:=st.h.set o (some ⟨true,e,sz,.fl (xs.set i c')⟩) }):WZ P ops Q h1 ((Sk.l,⟨none,.store t x y,ty,pos,af,g⟩) :: l) st:=by
 have hvc:=kz hp
 subst hvc
 have hget:(El.fl xs).get i = some (c.map .sc):=by show (xs[i]?).map _ = _;rw [hc];rfl
 refine s8 (qN hT rfl hx hy ht hv (by rw [List.length_map];exact hsz) ho rfl hget (by rw [List.length_map];exact hq) (e':=.fl (xs.set i c')) ?_) hg rfl (fun st' e => by cases e;exact h)
 have hpl:∀ (us:List Value),El.put.plain (us.map .sc) = some us:=by
  intro us
  induction us with
  | nil => rfl
  | cons u us ih => simp [El.put.plain,ih]
 have:(c.map AC.sc).take q ++ vs.map AC.sc ++ (c.map AC.sc).drop (q + (vs.map AC.sc).length) = c'.map AC.sc:=by
  rw [← hc',List.length_map]
  simp
 unfold El.put
 simp only [this,hpl]
theorem wix (hT:TOk P T) {t e:TypeId} {x y:Operand} {o s n:Nat} {ob:AO} {k':IntKind} {i:Int} {ti te:TI} (hx:ev st.env x = some (.c (.row o s n))) (hy:ev st.env y = some (.c (.sc (.int k' i)))) (ht:tlk t T = some ti) (hs:ti.d = .slice e) (hte:tlk e T = some te) (ho:st.h[o]? = some (some ob)) (hsz:te.size = ob.sz) (hb:0 ≤ i ∧ i < n)
  (hg:gd ops ⟨dst,.indexAddr t x y,ty,pos,af,g⟩ st.env = some true) (hd:st.fits dst = true) (h:WZ P ops Q h1 l (st.put dst (.c (.ptr o (s + i.toNat) 0)))):WZ P ops Q h1 ((k,⟨dst,.indexAddr t x y,ty,pos,af,g⟩) :: l) st :=
 mV (qM hT hx hy ht hs hte ho hsz hb.1 hb.2) hg hd h
theorem wsl (hT:TOk P T) {t e:TypeId} {x:Operand} {lo hi:Option Operand} {o s n:Nat} {ob:AO} {a b:Int} {ti te:TI} (hx:ev st.env x = some (.c (.row o s n))) (ht:tlk t T = some ti) (hs:ti.d = .slice e) (hte:tlk e T = some te) (ho:st.h[o]? = some (some ob)) (hsz:te.size = ob.sz) (hl:loV st.env lo 0 = some a) (hh:loV st.env hi n = some b) (hb:0 ≤ a ∧ a ≤ b ∧ b ≤ n)
  (hg:gd ops ⟨dst,.slice t x lo hi none,ty,pos,af,g⟩ st.env = some true) (hd:st.fits dst = true) (h:WZ P ops Q h1 l (st.put dst (.c (.row o (s + a.toNat) (b.toNat - a.toNat))))):WZ P ops Q h1 ((k,⟨dst,.slice t x lo hi none,ty,pos,af,g⟩) :: l) st :=
 mV (wM hT hx ht hs hte ho hsz hl hh hb.1 hb.2.1 hb.2.2) hg hd h
theorem Df (hT:TOk P T) {t e:TypeId} {len:Nat} {parts:Array (Nat × Operand)} {ti te:TI} {ps:List (Nat × AV)} {L:List (List Value)} (hk':qk k = true) (ht:tlk t T = some ti) (hs:ti.d = .slice e) (hte:tlk e T = some te) (hps:evp st.env parts.toList = some ps) (hL:bsA 0 ps = some L) (hll:L.length = len) (hsz:L.all (fun c => Nat.beq c.length te.size) = true) (hz:0 < te.size) (hb:len * te.size ≤ 16777216)
  (hg:gd ops ⟨dst,.buildSlice t len parts,ty,pos,af,g⟩ st.env = some true) (hd:st.fits dst = true) (h:WZ P ops Q h1 l (({ st with h:=st.h ++ [some ⟨true,e,te.size,.fl L⟩] }:St).put dst (.c (.row st.h.length 0 len)))):WZ P ops Q h1 ((k,⟨dst,.buildSlice t len parts,ty,pos,af,g⟩) :: l) st :=
 s7 hk' (Ae hT hd ht hs hte hps hL hll hsz hz hb) hg hd (fun st' e => by cases e;exact h)
theorem wap (hT:TOk P T) {t e:TypeId} {x y:Operand} {o n o2 s2 m:Nat} {own2:Bool} {e2 sz:Nat} {xs ys:List (List Value)} {ti te:TI} (hx:ev st.env x = some (.c (.row o 0 n))) (hy:ev st.env y = some (.c (.row o2 s2 m))) (ht:tlk t T = some ti) (hs:ti.d = .slice e) (hte:tlk e T = some te) (hsz:te.size = sz)
  (ho:st.h[o]? = some (some ⟨true,e,sz,.fl xs⟩)) (ho2:st.h[o2]? = some (some ⟨own2,e2,sz,.fl ys⟩)) (hn:n ≤ xs.length) (hm:s2 + m ≤ ys.length) (hb:(n + m) * te.bytes ≤ 140737488355328 ∧ n + m ≤ 9223372036854775807)
  (hg:gd ops ⟨dst,.call { callee:=.builtin .append,args:=#[x,y],argTypes:=#[t,t] },ty,pos,af,g⟩ st.env = some true) (hd:st.fits dst = true)
  (h:WZ P ops Q h1 l (({ st with h:=st.h.set o none ++ [some ⟨true,e,sz,.fl (xs.take n ++ (ys.drop s2).take m)⟩] }:St).put dst (.c (.row st.h.length 0 (n + m))))):WZ P ops Q h1 ((Sk.l,⟨dst,.call { callee:=.builtin .append,args:=#[x,y],argTypes:=#[t,t] },ty,pos,af,g⟩) :: l) st :=
 s8 (uI hT hd hx hy ht hs hte hsz ho hn ho2 hm hb.1 hb.2) hg hd (fun st' e => by cases e;exact h)
def Bz:AC → List Nat
 | .ptr o _ _ => [o]
 | .row o _ _ => [o]
 | .fn _ caps => caps.map (·.1)
 | .cp o _ => [o]
 | .e0 => []
 | .sc _ => []
def Cy:AV → List Nat
 | .c x => Bz x
 | .agg cs => cs.flatMap Bz
 | .tup _ => []
def xf (l:List Nat):List Nat → List Nat
 | [] => l
 | x :: xs => match l.any (Nat.beq x) with
   | true => xf l xs
   | false => xf (l ++ [x]) xs
def Cx:Option AO → List Nat
 | some ⟨_,_,_,.mx cs⟩ => cs.flatMap Bz
 | _ => []
def AU (h:AH):Nat → List Nat → List Nat → List Nat
 | 0,m,_ => m
 | _ + 1,m,[] => m
 | n + 1,m,x :: todo => AU h n (xf m (Cx ((h[x]?).join))) (todo ++ (Cx ((h[x]?).join)).filter (fun y => !m.any (Nat.beq y)))
def jK (h:AH) (vs:List AV):List Nat:=AU h 40 (xf [] (vs.flatMap Cy)) (xf [] (vs.flatMap Cy))
theorem xV {i:Nat}:∀ {m:List Nat} {hs hs':AH},hs.all (fun x => match x with | some o => !o.own | none => true) = true → fnd i m hs hs' = none
 | [],_,_,_ => by simp [fnd]
 | _ :: _,[],_,_ => by simp [fnd]
 | _ :: _,none :: _,_,_ => by simp [fnd]
 | _ :: _,some _ :: _,[],_ => by simp [fnd]
 | k :: m,some b :: hs,x :: hs',h => by
   simp only [List.all_cons,Bool.and_eq_true,Bool.not_eq_true'] at h
   unfold fnd
   rw [h.1,Bool.and_false]
   exact xV h.2
theorem wK {f:Nat → Nat} {m:List Nat} {hs hs' h:AH} (hro:hs.all (fun x => match x with | some o => !o.own | none => true) = true):dj f m hs hs' h = h ++ cx f (hs'.drop m.length):=by
 unfold dj
 congr 1
 suffices hh:∀ (h:AH) (i:Nat),qr f m hs hs' i h = h from hh h 0
 intro h
 induction h with
 | nil => intro i;rfl
 | cons x h ih =>
   intro i
   unfold qr
   rw [xV hro,ih]
theorem zh {fo:Operand} {as:Array Operand} {ts:Array TypeId} {f:FuncId} {caps:List (Nat × Nat × Nat)} {vals args:List AV} {hs:AH} {R:AV → AH → Prop} (m:List Nat) (hk':qk k = true) (hc:ACall P f args hs R) (hent:ga P f) (hf:ev st.env fo = some (.c (.fn f caps))) (hev:evs st.env as.toList = some vals)
  (hargs:args.map (AV.ren (mf m st.h.length)) = vals ++ caps.map bK) (hp:cx (mf m st.h.length) hs = cm hs (bP m st.h)) (hb:(hs.all (·.isSome) && Nat.beq hs.length m.length && m.all (fun i => Nat.blt i st.h.length) && hs.all (fun x => match x with | some o => !o.own | none => true)) = true) (hnd:ndO m hs = true) (hno:(∀ v hs',R v hs' → (hs'.drop m.length).all owN = true) ∨ ∀ (j i:Nat) (b oo:AO),m[j]? = some i → hs[j]? = some (some b) → b.own = false → st.h[i]? = some (some oo) → oo.own = false)
  (hg:gd ops ⟨dst,.call { callee:=.value fo,args:=as,argTypes:=ts },ty,pos,af,g⟩ st.env = some true) (hd:st.fits dst = true)
  (h:∀ v hs',R v hs' → WZ P ops Q h1 l (({ st with h:=st.h ++ cx (mf m st.h.length) (hs'.drop m.length) }:St).put dst (v.ren (mf m st.h.length)))):WZ P ops Q h1 ((k,⟨dst,.call { callee:=.value fo,args:=as,argTypes:=ts },ty,pos,af,g⟩) :: l) st:=by
 simp only [Bool.and_eq_true] at hb
 refine s7 hk' (yx rfl hd hf hent hev hc m hargs ⟨hb.1.1.1,Nat.eq_of_beq_eq_true hb.1.1.2,hb.1.2,hnd,hp⟩ hb.2 hno) hg hd (fun st' e => ?_)
 obtain ⟨v,hs',hR,rfl⟩:=e
 rw [wK hb.2]
 exact h v hs' hR
theorem Ce {fo:Operand} {as:Array Operand} {ts:Array TypeId} {f:FuncId} {caps:List (Nat × Nat × Nat)} {vals args:List AV} {hs:AH} {X:AV} {m:List Nat} (hk':qk k = true) (hc:ACall P f args hs (fun v h => v = X ∧ h = hs)) (hent:ga P f) (hf:ev st.env fo = some (.c (.fn f caps))) (hev:evs st.env as.toList = some vals) (hm:jK st.h (vals ++ caps.map bK) = m)
  (hargs:args.map (AV.ren (mf m st.h.length)) = vals ++ caps.map bK) (hp:cx (mf m st.h.length) hs = cm hs (bP m st.h)) (hb:(hs.all (·.isSome) && Nat.beq hs.length m.length && m.all (fun i => Nat.blt i st.h.length) && hs.all (fun x => match x with | some o => !o.own | none => true)) = true) (hnd:ndO m hs = true)
  (hX:∀ f,X.ren f = X) (hg:gd ops ⟨dst,.call { callee:=.value fo,args:=as,argTypes:=ts },ty,pos,af,g⟩ st.env = some true) (hd:st.fits dst = true)
  (h:WZ P ops Q h1 l (st.put dst X)):WZ P ops Q h1 ((k,⟨dst,.call { callee:=.value fo,args:=as,argTypes:=ts },ty,pos,af,g⟩) :: l) st:=by
 refine zh m hk' hc hent hf hev hargs hp hb hnd (.inl fun v hs' e => by simp only [Bool.and_eq_true] at hb;rw [e.2,List.drop_eq_nil_of_le (Nat.le_of_eq (Nat.eq_of_beq_eq_true hb.1.1.2))];rfl) hg hd ?_
 rintro _ _ ⟨rfl,rfl⟩
 simp only [Bool.and_eq_true] at hb
 rw [List.drop_eq_nil_of_le (Nat.le_of_eq (Nat.eq_of_beq_eq_true hb.1.1.2)),hX]
 simpa [cx] using h
theorem zi {fo:Operand} {as:Array Operand} {ts:Array TypeId} {f:FuncId} {caps:List (Nat × Nat × Nat)} {vals args:List AV} {hs:AH} {R:AV → AH → Prop} {m:List Nat} (hc:ACall P f args hs R) (hent:ga P f) (hf:ev st.env fo = some (.c (.fn f caps))) (hev:evs st.env as.toList = some vals)
  (hargs:args.map (AV.ren (mf m st.h.length)) = vals ++ caps.map bK) (hp:cx (mf m st.h.length) hs = cm hs (bP m st.h)) (hb:(hs.all (·.isSome) && Nat.beq hs.length m.length && m.all (fun i => Nat.blt i st.h.length)) = true) (hnd:ndO m hs = true) (hno:∀ (j i:Nat) (b oo:AO),m[j]? = some i → hs[j]? = some (some b) → b.own = false → st.h[i]? = some (some oo) → oo.own = false)
  (hg:gd ops ⟨dst,.call { callee:=.value fo,args:=as,argTypes:=ts },ty,pos,af,g⟩ st.env = some true) (hd:st.fits dst = true)
  (h:∀ v hs',R v hs' → WZ P ops Q h1 l (({ st with h:=dj (mf m st.h.length) m hs hs' st.h }:St).put dst (v.ren (mf m st.h.length)))):WZ P ops Q h1 ((Sk.l,⟨dst,.call { callee:=.value fo,args:=as,argTypes:=ts },ty,pos,af,g⟩) :: l) st:=by
 simp only [Bool.and_eq_true] at hb
 exact s8 (tp rfl hd hf hent hev hc m hargs ⟨hb.1.1,Nat.eq_of_beq_eq_true hb.1.2,hb.2,hnd,hp⟩ (.inr hno)) hg hd (fun st' e => by obtain ⟨v,hs',hR,rfl⟩:=e;exact h v hs' hR)
theorem Cd {fo:Operand} {as:Array Operand} {ts:Array TypeId} {f:FuncId} {caps:List (Nat × Nat × Nat)} {vals args:List AV} {hs:AH} {R:AV → AH → Prop} {m:List Nat} (hc:ACall P f args hs R) (hent:ga P f) (hf:ev st.env fo = some (.c (.fn f caps))) (hev:evs st.env as.toList = some vals)
  (hargs:args.map (AV.ren (mf m st.h.length)) = vals ++ caps.map bK) (hp:cx (mf m st.h.length) hs = cm hs (bP m st.h)) (hb:(hs.all (·.isSome) && Nat.beq hs.length m.length && m.all (fun i => Nat.blt i st.h.length)) = true) (hnd:ndO m hs = true) (hno:∀ v hs',R v hs' → (hs'.drop m.length).all owN = true ∧ hs'.all noD = true)
  (hg:gd ops ⟨dst,.call { callee:=.value fo,args:=as,argTypes:=ts },ty,pos,af,g⟩ st.env = some true) (hd:st.fits dst = true)
  (h:∀ v hs',R v hs' → WZ P ops Q h1 l (({ st with h:=dj (mf m st.h.length) m hs hs' st.h }:St).put dst (v.ren (mf m st.h.length)))):WZ P ops Q h1 ((Sk.l,⟨dst,.call { callee:=.value fo,args:=as,argTypes:=ts },ty,pos,af,g⟩) :: l) st:=by
 simp only [Bool.and_eq_true] at hb
 exact s8 (tp rfl hd hf hent hev hc m hargs ⟨hb.1.1,Nat.eq_of_beq_eq_true hb.1.2,hb.2,hnd,hp⟩ (.inl hno)) hg hd (fun st' e => by obtain ⟨v,hs',hR,rfl⟩:=e;exact h v hs' hR)
theorem Dh (h:Q .normal st):WZ P ops Q h1 [] st:=⟨.nil h⟩
theorem Di {id:Nat} {l:List Oper} (h:WZ P l.toArray Q [] (l.map (fun o => (Sk.l,o))) st):WW P (Code.region id l.toArray false) Q st:=⟨xd h.out⟩
theorem CN {id:Nat} {l:List Oper} (hm:P.follows .mixedOrders = true) (s:List (Sk × Nat)) (ds:List Nat) (hc:(s.length == l.toArray.size && chk l.toArray ds true s (Array.replicate l.toArray.size false)) = true)
  (h:WZ P l.toArray Q st.h (s.map (fun p => (p.1,opn l.toArray p.2))) st):WW P (Code.region id l.toArray true) Q st:=⟨B7 hm s ds hc h.out⟩
theorem CV {x y:Code} (h:WW P x (jc (WW P y Q) Q) st):WW P (Code.seq x y) Q st:=⟨Cr (xc (fun e st hh => by
 cases e with
 | normal => exact WW.out hh
 | _ => exact hh) h.out)⟩
theorem Db {id:Nat} {c:Code} (h:WW P c (pR id Q) st):WW P (Code.block id c) Q st:=⟨zp h.out⟩
theorem CW (h:Q .normal st):WW P Code.skip Q st:=⟨Ba h⟩
theorem Dj (h:Q .ret st):WW P Code.ret Q st:=⟨Cq h⟩
theorem CO {id:Nat} (h:Q (.exit id) st):WW P (Code.exit id) Q st:=⟨B8 h⟩
theorem wct {c:Operand} {x y:Code} (hc:ev st.env c = some (B true)) (h:WW P x Q st):WW P (Code.cond c x y) Q st:=⟨xb hc (fun _ => h.out) (fun h => by cases h)⟩
theorem wcf {c:Operand} {x y:Code} (hc:ev st.env c = some (B false)) (h:WW P y Q st):WW P (Code.cond c x y) Q st:=⟨xb hc (fun h => by cases h) (fun _ => h.out)⟩
theorem zgh {st2:St} (g:Ghost st st2) (h:WZ P ops Q h1 l st2):WZ P ops Q h1 l st:=⟨.ghost (K:=(· = st2)) (fun Γ ρ a w hr => by obtain ⟨ρ',h1,h2⟩:=g Γ ρ a w hr;exact ⟨_,ρ',rfl,h1,h2⟩) (fun st' e => by cases e;exact h.out)⟩
def x9 {X:Type} (Inv:X → Prop) (I:X → St) (μ:X → Nat) (n:Nat) (st:St):Prop:=∃ y m,Inv y ∧ μ y < n ∧ Conv st (I y) m
theorem pQ {c:Code} {X:Type} (Inv:X → Prop) (I:X → St) (μ:X → Nat) (x0:X) (m:List Nat) (h0:Inv x0) (hc:Conv st (I x0) m)
  (hr:∀ x,Inv x → WW P c (jc (x9 Inv I μ (μ x)) Q) (I x)):WW P (Code.loop c) Q st:=⟨B9 Inv I μ x0 m h0 hc (fun x hx => (hr x hx).out)⟩
theorem Ay {N:St → Prop} (h:N st):jc N Q .normal st:=h
theorem Ax {N:St → Prop} {i:Nat} (h:Q (.exit i) st):jc N Q (.exit i) st:=h
theorem Az {N:St → Prop} (h:Q .ret st):jc N Q .ret st:=h
theorem Be {i:Nat} (h:Q .normal st):pR i Q .normal st:=h
theorem Bf {i:Nat} (h:Q .ret st):pR i Q .ret st:=h
theorem ah {i j:Nat} (hb:Nat.beq j i = true) (h:Q .normal st):pR i Q (.exit j) st:=by
 show (match Nat.beq j i with | true => Q .normal st | false => Q (.exit j) st)
 rw [hb]
 exact h
theorem xr {i j:Nat} (hb:Nat.beq j i = false) (h:Q (.exit j) st):pR i Q (.exit j) st:=by
 show (match Nat.beq j i with | true => Q .normal st | false => Q (.exit j) st)
 rw [hb]
 exact h
def oI (RS:St → AV → Prop) (R:AV → AH → Prop) (st:St):Prop:=∃ m v hs,Fin RS st m v hs ∧ R v hs
theorem zx {RS:St → AV → Prop} {R:AV → AH → Prop} (h:oI RS R st):sn RS R .ret st:=h
theorem u9 {RS:St → AV → Prop} {R:AV → AH → Prop} {v:AV} {hs:AH} (m:List Nat) (hR:R v hs) (hf:Fin RS st m v hs):oI RS R st:=⟨m,v,hs,hf,hR⟩
end
end
section
open Go.RowKit Go.Proofs.YtgehbhkfehmdkaaGreatW
def yt:List Nat:=[0,1,2,3,4,5,6,7,8,9,10,11,12,13,14,15,16,17,18,19,20,21,22,23,24,25,26,27,28,29,30,31,32,33,34,35,36,37,38,39,40,41,42,43,44,45,46,47,48,49,50,51,52,53,54,55,56,57,58,59,60,61,62,63,64,65,66,67,68,69,70,71,72,73,74,75,76,77,78,79,80,81,82,83,84,85,86,87,88,89,90,91,92,93,94,95,96,97,98,99,100,101,102,103,104,105,106,107,108,109,110,111,112,113,114,115,116,117,118,119,120,121,122,123,124,125,126,127,128,129,130,131,132,133,134,135,136,137,138,139,140,141,142,143,144,145,146,147,148,149,150,151,152,153,154,155,156,157,158,159]
theorem oz:yt = List.range 160:=rfl
def yb:List Nat → Nat → Option Nat
 | [],_ => none
 | x :: _,0 => some x
 | _ :: r,n + 1 => yb r n
theorem vB:∀ (l:List Nat) (n:Nat),yb l n = l[n]?
 | [],n => by simp [yb]
 | x :: r,0 => rfl
 | x :: r,n + 1 => by simp [yb,vB r n]
theorem kV {k n m:Nat} (h:(List.range k)[n]? = some m):n = m:=by
 obtain ⟨h1,h2⟩:=List.getElem?_eq_some_iff.1 h
 simpa using h2
def lit (n:Nat):Option Nat:=yb yt n
theorem iK {n m:Nat} (h:lit n = some m):n = m:=by
 unfold lit at h
 rw [vB,oz] at h
 exact kV h
def fB:Bool → Option Bool
 | true => some true
 | false => some false
theorem Cv {b c:Bool} (h:fB b = some c):b = c:=by
 cases b <;> exact Option.some.inj h
def vm:List (Nat × Nat × Nat) → Option (List (Nat × Nat × Nat))
 | [] => some []
 | (o,i,q) :: r => match lit o,lit q,vm r with
  | some o',some q',some r' => some ((o',i,q') :: r')
  | _,_,_ => none
theorem sO:∀ {l l':List (Nat × Nat × Nat)},vm l = some l' → l = l'
 | [],_,h => Option.some.inj h
 | (o,i,q) :: r,_,h => by
  unfold vm at h
  split at h
  ·rename_i o' q' r' h1 h2 h3
   cases h
   rw [iK h1,iK h2,sO h3]
  ·cases h
def fAC:AC → Option AC
 | .sc v => some (.sc v)
 | .ptr o i q => match lit o,lit q with
   | some o',some q' => some (.ptr o' i q')
   | _,_ => none
 | .row o s n => match lit o with
   | some o' => some (.row o' s n)
   | none => none
 | .fn f caps => match vm caps with
   | some c => some (.fn f c)
   | none => none
 | .cp o c => match lit o with
   | some o' => some (.cp o' c)
   | none => none
 | .e0 => some .e0
theorem xM:∀ {x y:AC},fAC x = some y → x = y
 | .sc _,_,h => Option.some.inj h
 | .ptr o i q,y,h => by
   simp only [fAC] at h
   split at h
   ·rename_i h1 h2
    cases h
    rw [iK h1,iK h2]
   ·cases h
 | .row o s n,y,h => by
   simp only [fAC] at h
   split at h
   ·rename_i h1
    cases h
    rw [iK h1]
   ·cases h
 | .fn f caps,y,h => by
   simp only [fAC] at h
   split at h
   ·rename_i h1
    cases h
    rw [sO h1]
   ·cases h
 | .cp o c,y,h => by
   simp only [fAC] at h
   split at h
   ·rename_i h1
    cases h
    rw [iK h1]
   ·cases h
 | .e0,_,h => Option.some.inj h
def uk:List AC → Option (List AC)
 | [] => some []
 | x :: r => match fAC x,uk r with
   | some x',some r' => some (x' :: r')
   | _,_ => none
theorem me:∀ {l l':List AC},uk l = some l' → l = l'
 | [],_,h => Option.some.inj h
 | x :: r,_,h => by
   unfold uk at h
   split at h
   ·rename_i h1 h2
    cases h
    rw [xM h1,me h2]
   ·cases h
def fV1:AV → Option AV
 | .c x => match fAC x with
   | some y => some (.c y)
   | none => none
 | .agg cs => match uk cs with
   | some cs' => some (.agg cs')
   | none => none
 | .tup _ => none
theorem rk:∀ {x y:AV},fV1 x = some y → x = y
 | .c x,y,h => by
   simp only [fV1] at h
   split at h
   ·rename_i h1
    cases h
    rw [xM h1]
   ·cases h
 | .agg cs,y,h => by
   simp only [fV1] at h
   split at h
   ·rename_i h1
    cases h
    rw [me h1]
   ·cases h
 | .tup _,y,h => by cases h
def fVs:List AV → Option (List AV)
 | [] => some []
 | x :: r => match fV1 x,fVs r with
   | some x',some r' => some (x' :: r')
   | _,_ => none
theorem xO:∀ {l l':List AV},fVs l = some l' → l = l'
 | [],_,h => Option.some.inj h
 | x :: r,_,h => by
   unfold fVs at h
   split at h
   ·rename_i h1 h2
    cases h
    rw [rk h1,xO h2]
   ·cases h
def fV:AV → Option AV
 | .c (.sc (.bool b)) => match b with
   | true => some (.c (.sc (.bool true)))
   | false => some (.c (.sc (.bool false)))
 | .tup vs => match fVs vs with
   | some vs' => some (.tup vs')
   | none => none
 | x => fV1 x
theorem mh {x y:AV} (h:fV x = some y):x = y:=by
 unfold fV at h
 split at h
 ·split at h <;> exact Option.some.inj h
 ·split at h
  ·rename_i h1
   cases h
   rw [xO h1]
  ·cases h
 ·exact rk h
def fEl:El → Option El
 | .fl xs => some (.fl xs)
 | .mx cs => match uk cs with
   | some cs' => some (.mx cs')
   | none => none
 | .dp xs => some (.dp xs)
theorem Bw:∀ {x y:El},fEl x = some y → x = y
 | .fl _,_,h => Option.some.inj h
 | .mx cs,y,h => by
   simp only [fEl] at h
   split at h
   ·rename_i h1
    cases h
    rw [me h1]
   ·cases h
 | .dp _,_,h => Option.some.inj h
def fAO:Option AO → Option (Option AO)
 | none => some none
 | some ⟨own,ty,sz,el⟩ => match fB own,lit sz,fEl el with
   | some o,some s,some e => some (some ⟨o,ty,s,e⟩)
   | _,_,_ => none
theorem ul:∀ {x y:Option AO},fAO x = some y → x = y
 | none,_,h => Option.some.inj h
 | some ⟨own,ty,sz,el⟩,y,h => by
   simp only [fAO] at h
   split at h
   ·rename_i h1 h2 h3
    cases h
    rw [Cv h1,iK h2,Bw h3]
   ·cases h
def fH:AH → Option AH
 | [] => some []
 | x :: r => match fAO x,fH r with
   | some x',some r' => some (x' :: r')
   | _,_ => none
theorem iU:∀ {l l':AH},fH l = some l' → l = l'
 | [],_,h => Option.some.inj h
 | x :: r,_,h => by
   unfold fH at h
   split at h
   ·rename_i h1 h2
    cases h
    rw [ul h1,iU h2]
   ·cases h
def nr:AH → Nat → Option AO → Option AH
 | _ :: r,0,x => match fAO x with
   | some x' => some (x' :: r)
   | none => none
 | y :: r,n + 1,x => match nr r n x with
   | some r' => some (y :: r')
   | none => none
 | [],_,_ => none
theorem js:∀ {h h':AH} {n:Nat} {x:Option AO},nr h n x = some h' → h.set n x = h'
 | _ :: r,h',0,x,h => by
   unfold nr at h
   split at h
   ·rename_i h1
    cases h
    rw [ul h1]
    rfl
   ·cases h
 | y :: r,h',n + 1,x,h => by
   unfold nr at h
   split at h
   ·rename_i h1
    cases h
    rw [← js h1]
    rfl
   ·cases h
 | [],_,_,_,h => by cases h
def tF:AH → List Nat → Option AO → Option (Nat × AH)
 | [],n :: _,x => match fAO x with
   | some x' => some (n,[x'])
   | none => none
 | y :: r,_ :: ns,x => match tF r ns x with
   | some (n,r') => some (n,y :: r')
   | none => none
 | _,[],_ => none
theorem tG:∀ {h h':AH} {ns:List Nat} {n:Nat} {x:Option AO},tF h ns x = some (n,h') → h ++ [x] = h' ∧ ns[h.length]? = some n
 | [],h',n' :: ns,n,x,h => by
   unfold tF at h
   split at h
   ·rename_i h1
    cases h
    rw [ul h1]
    exact ⟨rfl,rfl⟩
   ·cases h
 | y :: r,h',n' :: ns,n,x,h => by
   unfold tF at h
   split at h
   ·rename_i h1
    cases h
    obtain ⟨h2,h3⟩:=tG h1
    exact ⟨by rw [← h2];rfl,by simpa using h3⟩
   ·cases h
 | [],_,[],_,_,h => by cases h
 | _ :: _,_,[],_,_,h => by cases h
def m9 (h:AH) (x:Option AO):Option (Nat × AH):=tF h yt x
theorem fO {h h':AH} {n:Nat} {x:Option AO} (hh:m9 h x = some (n,h')):h ++ [x] = h' ∧ h.length = n:=by
 obtain ⟨h1,h2⟩:=tG hh
 refine ⟨h1,?_⟩
 rw [oz] at h2
 exact kV h2
class Enc (α:Type) where
 sz:Nat
 enc:α → List Value
 dec:List Value → Option α
 z:α
 len:∀ x,(enc x).length = sz
 pos:0 < sz
 one:∀ x,(enc x).all (·.oneCell') = true
 decE:∀ {vs x},dec vs = some x → enc x = vs
def ow (t:TypeId) {α:Type} [Enc α] (l:List α):Option AO:=some ⟨true,t,Enc.sz α,.fl (l.map Enc.enc)⟩
def ro (t:TypeId) {α:Type} [Enc α] (l:List α):Option AO:=some ⟨false,t,Enc.sz α,.fl (l.map Enc.enc)⟩
def rd {α:Type} [Enc α] (l:List α) (i:Int):α:=l.getD i.toNat Enc.z
def upd {α:Type} (l:List α) (i:Int) (x:α):List α:=l.set i.toNat x
def sub {α:Type} (l:List α) (a b:Int):List α:=(l.take b.toNat).drop a.toNat
theorem kc {α:Type} {l:List α} {i:Int} (h:¬ i < l.length):l.drop i.toNat = []:=List.drop_eq_nil_of_le (by omega)
theorem aG {α:Type} (l:List α) (i:Int) (x:α):(upd l i x).length = l.length:=by simp [upd]
theorem fp {α:Type} {l:List α} {a b:Int} (h:0 ≤ a ∧ a ≤ b ∧ b ≤ l.length):((sub l a b).length:Int) = b - a:=by
 simp only [sub,List.length_drop,List.length_take]
 omega
section
variable {α:Type} [Enc α]
theorem uj {l:List α} {i:Int} (h:0 ≤ i ∧ i < l.length):(l.map Enc.enc)[i.toNat]? = some (Enc.enc (rd l i)):=by
 have h1:i.toNat < l.length:=by omega
 rw [List.getElem?_map,List.getElem?_eq_getElem h1]
 simp [rd,List.getD_eq_getElem?_getD,h1]
theorem dJ {l:List α} {i:Int} (h:0 ≤ i ∧ i < l.length):l.drop i.toNat = rd l i :: l.drop (i + 1).toNat:=by
 have h1:i.toNat < l.length:=by omega
 rw [show (i + 1).toNat = i.toNat + 1 from by omega,List.drop_eq_getElem_cons h1]
 simp [rd,List.getD_eq_getElem?_getD,h1]
theorem xQ (l:List α):(l.map Enc.enc).all (fun c => Nat.beq c.length (Enc.sz α)) = true:=by
 rw [List.all_map,List.all_eq_true]
 intro x _
 simp [Enc.len]
end
theorem Ghost.trans {a b c:St} (h:Ghost a b) (k:Ghost b c):Ghost a c:=fun Γ ρ x w hr => by
 obtain ⟨ρ1,h1,h2⟩:=h Γ ρ x w hr
 obtain ⟨ρ2,h3,h4⟩:=k Γ ρ1 x w h2
 exact ⟨ρ2,h1.trans h3,h4⟩
theorem AC.R_last {ρ:Pl} {sl:Slot}:(ρ ++ [sl])[ρ.length]? = some sl:=by simp
theorem Holds.more {Γ:Ctx} {ρ:Pl} {h:AH} {w:World} (hH:Holds Γ ρ h w) (hl:ρ.length = h.length) {sl:Slot} {ob:AO} (hob:ObjH (ρ ++ [sl]) sl ob w)
  (hb:sl.blk = none ∨ (ob.own = false ∧ ∃ (o:Nat) (oo:AO) (s0:Slot),h[o]? = some (some oo) ∧ oo.own = false ∧ ρ[o]? = some s0 ∧ s0.blk = sl.blk)) (hnd:ob.el.isD = false:=by rfl):Holds Γ (ρ ++ [sl]) (h ++ [some ob]) w:=by
 have hsl:∀ (o:Nat) ob',(h ++ [some ob])[o]? = some (some ob') → (h[o]? = some (some ob') ∧ o < h.length) ∨ (o = h.length ∧ ob' = ob):=by
  intro o ob' ho
  rw [List.getElem?_append] at ho
  split at ho
  ·rename_i hlt
   exact .inl ⟨ho,hlt⟩
  ·rename_i hge
   have h1:=(List.getElem?_eq_some_iff.1 ho).1
   simp at h1
   have:o - h.length = 0:=by omega
   rw [this] at ho
   exact .inr ⟨by omega,by simpa using ho.symm⟩
 have hpl:∀ (o:Nat) sl',o < h.length → (ρ ++ [sl])[o]? = some sl' → ρ[o]? = some sl':=fun o sl' ho hs => by
  rwa [List.getElem?_append_left (by omega)] at hs
 have hpe:∀ sl',(ρ ++ [sl])[h.length]? = some sl' → sl' = sl:=fun sl' hs => by
  rw [← hl] at hs
  simpa using hs.symm
 refine ⟨hH.fr,fun o ob' ho => ?_,fun o ob' sl' g ho hown hs hg => ?_,fun o ob' sl' g ho hs hg => ?_,?_⟩
 ·rcases hsl o ob' ho with ⟨h1,h2⟩ | ⟨rfl,rfl⟩
  ·obtain ⟨s1,h3,h4⟩:=hH.obj o ob' h1
   exact ⟨s1,Ext.append _ _ _ _ h3,h4.ext (Ext.append _ _)⟩
  ·exact ⟨sl,by rw [← hl];simp,hob⟩
 ·rcases hsl o ob' ho with ⟨h1,h2⟩ | ⟨rfl,rfl⟩
  ·have hs:=hpl o sl' h2 hs
   obtain ⟨h3,h4⟩:=hH.sep o ob' sl' g h1 hown hs hg
   refine ⟨h3,fun o2 ob2 sl2 ho2 hne hs2 => ?_⟩
   rcases hsl o2 ob2 ho2 with ⟨k1,k2⟩ | ⟨rfl,rfl⟩
   ·exact h4 o2 ob2 sl2 k1 hne (hpl o2 sl2 k2 hs2)
   ·have:=hpe sl2 hs2
    subst this
    rcases hb with hb | ⟨_,o3,oo,s0,k1,k2,k3,k4⟩
    ·rw [hb]
     simp
    ·rw [← k4]
     refine h4 o3 oo s0 k1 (fun e => ?_) k3
     subst e
     rw [h1] at k1
     cases k1
     rw [hown] at k2
     cases k2
  ·have:=hpe sl' hs
   subst this
   rcases hb with hb | ⟨hb,_⟩
   ·rw [hb] at hg
    cases hg
   ·rw [hown] at hb
    cases hb
 ·rcases hsl o ob' ho with ⟨h1,h2⟩ | ⟨rfl,rfl⟩
  ·exact hH.src o ob' sl' g h1 (hpl o sl' h2 hs) hg
  ·have:=hpe sl' hs
   subst this
   rcases hb with hb | ⟨_,o3,oo,s0,k1,k2,k3,k4⟩
   ·rw [hb] at hg
    cases hg
   ·exact hH.src o3 oo s0 g k1 k3 (k4.trans hg)
 ·obtain ⟨fz,hF⟩:=hH.dp
  refine ⟨fz,hF.base,hF.lt,hF.src,fun o ob' sl' g ho hown hs hg => ?_,fun o own ty sz xs ho => ?_⟩
  ·rcases hsl o ob' ho with ⟨h1,h2⟩ | ⟨rfl,rfl⟩
   ·exact hF.sep o ob' sl' g h1 hown (hpl o sl' h2 hs) hg
   ·have:=hpe sl' hs
    subst this
    rcases hb with hb | ⟨hb,_⟩
    ·rw [hb] at hg
     cases hg
    ·rw [hown] at hb
     cases hb
  ·rcases hsl o _ ho with ⟨h1,h2⟩ | ⟨h1,h2⟩
   ·exact hF.deep o own ty sz xs h1
   ·rw [← h2] at hnd
    cases hnd
theorem Rel.tell {Γ:Ctx} {ρ ρ':Pl} {st:St} {a:Act} {w:World} {h':AH} {d:Nat} {v v':AV} (hr:Rel Γ ρ st a w) (he:Ext ρ ρ') (hH:Holds Γ ρ' h' w) (hl:ρ'.length = h'.length) (hx:lk d st.env = some v) (hv:∀ u,v.R ρ u → v'.R ρ' u):Rel Γ ρ' ⟨st.n,st.k,(d,v') :: st.env,h'⟩ a w :=
 ⟨hH,hl,hr.klen,hr.args.trans he,fun t x ht => by
  by_cases e:d = t
  ·subst e
   rw [er] at ht
   cases ht
   obtain ⟨u,h1,h2⟩:=hr.env d v hx
   exact ⟨u,h1,hv u h2⟩
  ·rw [dz e] at ht
   obtain ⟨u,h1,h2⟩:=hr.env t x ht
   exact ⟨u,h1,AV.R_ext he h2⟩,hr.defers,hr.size⟩
theorem add_zero' (a:Addr):a.add 0 = a:=by simp [Addr.add]
theorem wD {st:St} {d o s n:Nat} {t sz:Nat} {xs:List (List Value)} (hx:lk d st.env = some (.c (.row o s n))) (ho:st.h[o]? = some (some ⟨false,t,sz,.fl xs⟩)) (hb:s + n ≤ xs.length) :
  Ghost st ⟨st.n,st.k,(d,.c (.row st.h.length 0 n)) :: st.env,st.h ++ [some ⟨false,t,sz,.fl ((xs.drop s).take n)⟩]⟩:=fun Γ ρ a w hr => by
 obtain ⟨sl,h1,h2⟩:=hr.holds.obj o _ ho
 have hlen:xs.length ≤ sl.cap:=h2.len
 have hsz:sl.sz = sz:=h2.sz
 refine ⟨ρ ++ [⟨sl.a.map (·.add (s * sz)),sl.cap - s,sz,true⟩],Ext.append _ _,hr.tell (Ext.append _ _) (hr.holds.more hr.len ?_ (.inr ⟨rfl,o,_,sl,ho,rfl,h1,?_⟩)) (by simp [hr.len]) hx (fun u hu => ?_)⟩
 ·refine ⟨rfl,h2.pos,?_,by have:=h2.max;show sl.cap - s ≤ _;omega,fun a ha => ?_,fun ha => ?_,fun i cs hi => ?_,fun h => by cases h⟩
  ·show ((xs.drop s).take n).length ≤ sl.cap - s
   rw [List.length_take,List.length_drop]
   omega
  ·obtain ⟨a0,ha0,rfl⟩:=Option.map_eq_some_iff.1 ha
   rw [add_block]
   exact h2.lt a0 ha0
  ·have:sl.a = none:=by simpa using ha
   have:=h2.nil this
   show sl.cap - s = 0
   omega
  ·have hi:(((xs.drop s).take n)[i]?).map (·.map AC.sc) = some cs:=hi
   have hin:i < n:=by
    obtain ⟨c,hc,_⟩:=Option.map_eq_some_iff.1 hi
    have:=(List.getElem?_eq_some_iff.1 hc).1
    rw [List.length_take] at this
    omega
   rw [List.getElem?_take_of_lt hin,List.getElem?_drop] at hi
   obtain ⟨h3,a0,h4,h5⟩:=h2.cell (s + i) cs hi
   refine ⟨h3,a0.add (s * sz),by simp [h4],fun j x hj => ?_⟩
   obtain ⟨v,h6,h7⟩:=h5 j x hj
   refine ⟨v,?_,AC.R_ext (Ext.append _ _) h7⟩
   rw [iq]
   have:s * sz + (i * sz + j) = (s + i) * sz + j:=by rw [Nat.add_mul,Nat.add_assoc]
   show w.cell? (a0.add (s * sz + (i * sz + j))) = some v
   rw [this]
   exact h6
 ·cases hsa:sl.a with
  | none => simp [Slot.blk,hsa]
  | some a0 => simp [Slot.blk,hsa,add_block]
 ·obtain ⟨sl',h3,h4,h5⟩:RowR ρ o s n u:=hu
  have:sl = sl':=by rw [h1] at h3;exact Option.some.inj h3
  subst this
  refine ⟨_,by rw [← hr.len];exact AC.R_last,by show 0 + n ≤ sl.cap - s;omega,?_⟩
  rcases h5 with ⟨cc,h5,h8,_⟩ | ⟨h5,h6,h7⟩
  ·refine .inl ⟨cc,?_,h8,fun h => by cases h⟩
   rw [h5]
   simp [hsz,Option.map_map,Function.comp_def,add_zero']
  ·obtain ⟨A,c,h7,_⟩:=h7
   exact .inr ⟨h5,.inr (.inl rfl),A,c,h7,fun _ h => by cases h⟩
theorem vG {ρ:Pl} {w:World} (t:Nat) {sz:Nat} (hz:0 < sz):ObjH ρ ⟨none,0,sz,false⟩ ⟨true,t,sz,.fl []⟩ w where
 sz:=rfl
 pos:=hz
 len:=Nat.le_refl 0
 max:=Nat.zero_le _
 lt:=fun a ha => by cases ha
 nil:=fun _ => rfl
 cell:=fun i cs hi => by
  have hi:(([]:List (List Value))[i]?).map (fun c => c.map AC.sc) = some cs:=hi
  simp at hi
 own:=fun _ => ⟨rfl,.inl ⟨rfl,rfl⟩⟩
theorem vH {ρ:Pl} (sz:Nat):RowR (ρ ++ [⟨none,0,sz,false⟩]) ρ.length 0 0 (.slice none 0 0):=⟨_,AC.R_last,Nat.le_refl _,.inl ⟨0,rfl,Nat.le_refl _,fun _ => rfl⟩⟩
theorem wC {st:St} {d:Nat} (t:Nat) {sz:Nat} (hz:0 < sz) (hx:lk d st.env = some (.c (.sc (.slice none 0 0)))) :
  Ghost st ⟨st.n,st.k,(d,.c (.row st.h.length 0 0)) :: st.env,st.h ++ [some ⟨true,t,sz,.fl []⟩]⟩:=fun Γ ρ a w hr =>
 ⟨ρ ++ [⟨none,0,sz,false⟩],Ext.append _ _,hr.tell (Ext.append _ _) (hr.holds.more hr.len (vG t hz) (.inl rfl)) (by simp [hr.len]) hx (fun u hu => by
  have hu:u = .slice none 0 0:=hu.1
  subst hu
  have:=vH (ρ:=ρ) sz
  rw [hr.len] at this
  exact this)⟩
theorem um {st:St} {d q:Nat} (t:Nat) {sz:Nat} (hz:0 < sz) {cs:List AC} (hx:lk d st.env = some (.agg cs)) (hq:cs[q]? = some (.sc (.slice none 0 0))) :
  Ghost st ⟨st.n,st.k,(d,.agg (cs.set q (.row st.h.length 0 0))) :: st.env,st.h ++ [some ⟨true,t,sz,.fl []⟩]⟩:=fun Γ ρ a w hr =>
 ⟨ρ ++ [⟨none,0,sz,false⟩],Ext.append _ _,hr.tell (Ext.append _ _) (hr.holds.more hr.len (vG t hz) (.inl rfl)) (by simp [hr.len]) hx (fun u hu => by
  obtain ⟨arr,rfl,h2⟩:=hu
  refine ⟨arr,rfl,?_⟩
  have h3:All2 (AC.R (ρ ++ [⟨none,0,sz,false⟩])) cs arr.toList:=All2.imp (fun _ _ => AC.R_ext (Ext.append _ _)) h2
  refine All2.of_get (by rw [List.length_set];exact h3.length) (fun i x y hx hy => ?_)
  rw [List.getElem?_set] at hx
  split at hx
  ·rename_i e
   subst e
   split at hx
   ·cases hx
    obtain ⟨y',h4,h5⟩:=h2.get hq
    rw [hy] at h4
    cases h4
    have h5:y = .slice none 0 0:=h5.1
    subst h5
    have:=vH (ρ:=ρ) sz
    rw [hr.len] at this
    exact this
   ·cases hx
  ·obtain ⟨y',h4,h5⟩:=h3.get hx
   rw [hy] at h4
   cases h4
   exact h5)⟩
theorem Ap {Γ:Ctx} {ρ:Pl} {st:St} {a:Act} {w:World} (hr:Rel Γ ρ st a w) {o:Nat} {own:Bool} {t sz:Nat} {xs:List (List Value)} (ho:st.h[o]? = some (some ⟨own,t,sz,.fl xs⟩)):xs.length ≤ 9223372036854775807:=by
 obtain ⟨sl,h1,h2⟩:=hr.holds.obj o _ ho
 have h3:xs.length ≤ sl.cap:=h2.len
 exact Nat.le_trans h3 h2.max
end
section
open Go.RowKit Go.Proofs.YtgehbhkfehmdkaaGreatW
def kN:List Sk → List Oper → List (Sk × Oper)
 | _,[] => []
 | [],o :: l => (.l,o) :: kN [] l
 | k :: ks,o :: l => (k,o) :: kN ks l
def stK:List Sk → Sk × List Sk
 | [] => (.l,[])
 | k :: ks => (k,ks)
theorem aI {ks ks':List Sk} {k:Sk} (h:stK ks = (k,ks')) (o:Oper) (l:List Oper):kN ks (o :: l) = (k,o) :: kN ks' l:=by
 cases ks with
 | nil => cases h;rfl
 | cons a as => cases h;rfl
theorem ub:∀ (l:List Oper),kN [] l = l.map (fun o => (Sk.l,o))
 | [] => rfl
 | o :: l => by rw [List.map_cons,← ub l];rfl
theorem je (f:Nat → Oper):∀ (s:List (Sk × Nat)),kN (s.map (·.1)) (s.map (fun p => f p.2)) = s.map (fun p => (p.1,f p.2))
 | [] => rfl
 | p :: s => by simp only [List.map_cons];rw [← je f s];rfl
structure ZZ (P:Program) (ops:Array Oper) (Q:Exit → St → Prop) (h1:AH) (ks:List Sk) (l:List Oper) (st:St):Prop where
 out:WZ P ops Q h1 (kN ks l) st
def ldm (T:TB) (h:AH) (t:TypeId):AV → Option AV
 | .c (.ptr o i q) => match h[o]?,tlk t T with
   | some (some ⟨_,_,_,.mx cs⟩),some ti => match i with
     | 0 => ldW ti cs q
     | _ => none
   | _,_ => none
 | _ => none
theorem vA {T:TB} {h:AH} {t:TypeId} {p v:AV} (hh:ldm T h t p = some v):ldv T h t p = some v:=by
 unfold ldm at hh
 split at hh
 ·split at hh
  ·rename_i h1 h2
   split at hh
   ·simp only [ldv,h1,h2]
    exact hh
   ·cases hh
  ·cases hh
 ·cases hh
def sv (T:TB) (h1:AH) (k:Sk) (op:Op) (e:List (Nat × AV)) (h:AH):Option (AV × AH) :=
 match op with
 | .load t x => match k != Sk.p,ev e x with
   | true,some p => match ldm T (hk k h1 h) t p with
     | some v => some (v,h)
     | none => none
   | _,_ => none
 | .alloc t => match qk k,tlk t T with
   | true,some ti => match ti.zero with
     | _ :: _ => match m9 h (some ⟨true,t,(ti.zero.map AC.sc).length,.mx (ti.zero.map .sc)⟩) with
       | some (n,h') => some (.c (.ptr n 0 0),h')
       | none => none
     | [] => none
   | _,_ => none
 | .box t x => match qk k,ev e x with
   | true,some v => match jy v with
     | some cs => match m9 h (some ⟨true,t,cs.length,.mx cs⟩) with
       | some (n,h') => some (.c (.ptr n 0 0),h')
       | none => none
     | none => none
   | _,_ => none
 | .binOp _ _ _ _ _ => none
 | .unOp .neg _ _ => none
 | .convert _ _ _ => none
 | op => match aP T e op with
   | some v => some (v,h)
   | none => none
def sx (T:TB) (N:Nat) (ops:Array Oper) (h1:AH) (k:Sk) (o:Oper) (e:List (Nat × AV)) (h:AH):Option (List (Nat × AV) × AH) :=
 match gd ops o e,o.dst with
 | some false,some d => match Nat.blt d N with
   | true => some ((d,.tup []) :: e,h)
   | false => none
 | some false,none => some (e,h)
 | some true,some d => match Nat.blt d N with
   | true => match sv T h1 k o.op e h with
     | some (v,h') => match fV v with
       | some v' => some ((d,v') :: e,h')
       | none => none
     | none => none
   | false => none
 | some true,none => match k,o.op with
   | .l,.store t x y => match ev e x,ev e y with
     | some p,some v => match stv T h t v p with
       | some h' => match fH h' with
         | some h2 => some (e,h2)
         | none => none
       | none => none
     | _,_ => none
   | _,_ => none
 | none,_ => none
section
variable {P:Program} {T:TB} {ops:Array Oper} {Q:Exit → St → Prop} {h1:AH} {k:Sk} {ks ks':List Sk} {l:List Oper} {N0 k0 d0:Nat} {e0:List (Nat × AV)} {h0:AH} {op:Op} {ty:TypeId} {pos:String} {af:Array Edge} {g:Option (Nat × Bool)} {st:St}
theorem Dq (h:Q .normal st):ZZ P ops Q h1 ks [] st:=⟨by cases ks <;> exact Dh h⟩
theorem Dr {id:Nat} {l:List Oper} (h:ZZ P l.toArray Q [] [] l st):WW P (Code.region id l.toArray false) Q st:=Di (by rw [← ub];exact h.out)
def gq (l:List Oper):List (Sk × Nat) → Option (List Oper)
 | [] => some []
 | (_,i) :: r => match l[i]?,gq l r with
  | some o,some os => some (o :: os)
  | _,_ => none
theorem i7 {l:List Oper}:∀ {s:List (Sk × Nat)} {L:List Oper},gq l s = some L → s.map (fun p => opn l.toArray p.2) = L
 | [],L,h => Option.some.inj h
 | (_,i) :: r,L,h => by
  unfold gq at h
  split at h
  ·rename_i h1 h2
   cases h
   rw [List.map_cons,i7 h2]
   simp [opn,h1]
  ·cases h
theorem CY {id:Nat} {l L:List Oper} (hm:P.follows .mixedOrders = true) (s:List (Sk × Nat)) (ds:List Nat) (hc:(s.length == l.toArray.size && chk l.toArray ds true s (Array.replicate l.toArray.size false)) = true) (hL:gq l s = some L)
  (h:ZZ P l.toArray Q st.h (s.map (·.1)) L st):WW P (Code.region id l.toArray true) Q st:=CN hm s ds hc (by rw [← je,i7 hL];exact h.out)
theorem CZ {st':St} (g:Ghost st st') (h:ZZ P ops Q h1 ks l st'):ZZ P ops Q h1 ks l st:=⟨zgh g h.out⟩
theorem Av (hT:TOk P T) {v:AV} {h':AH} {L:List (Sk × Oper)} (hv:sv T h1 k op e0 h0 = some (v,h')) (hg:gd ops ⟨some d0,op,ty,pos,af,g⟩ e0 = some true) (hd:Nat.blt d0 N0 = true) (h:WZ P ops Q h1 L ⟨N0,k0,(d0,v) :: e0,h'⟩):WZ P ops Q h1 ((k,⟨some d0,op,ty,pos,af,g⟩) :: L) ⟨N0,k0,e0,h0⟩:=by
 unfold sv at hv
 split at hv
 ·split at hv
  ·rename_i hk hx
   split at hv
   ·rename_i hl
    cases hv
    exact wld (st:=⟨N0,k0,e0,h0⟩) (dst:=some d0) hT hk hx (vA hl) hg hd h
   ·cases hv
  ·cases hv
 ·split at hv
  ·rename_i hk ht
   split at hv
   ·rename_i hz
    split at hv
    ·rename_i hh
     cases hv
     obtain ⟨h2,h3⟩:=fO hh
     refine Cc (st:=⟨N0,k0,e0,h0⟩) (dst:=some d0) hT hk ht hz hg hd ?_
     show WZ P ops Q h1 L ⟨N0,k0,(d0,.c (.ptr h0.length 0 0)) :: e0,_⟩
     rw [h3,h2]
     exact h
    ·cases hv
   ·cases hv
  ·cases hv
 ·split at hv
  ·rename_i hk hx
   split at hv
   ·rename_i hb
    split at hv
    ·rename_i hh
     cases hv
     obtain ⟨h2,h3⟩:=fO hh
     refine Dc (st:=⟨N0,k0,e0,h0⟩) (dst:=some d0) hk hx hb hg hd ?_
     show WZ P ops Q h1 L ⟨N0,k0,(d0,.c (.ptr h0.length 0 0)) :: e0,_⟩
     rw [h3,h2]
     exact h
    ·cases hv
   ·cases hv
  ·cases hv
 ·cases hv
 ·cases hv
 ·cases hv
 ·split at hv
  ·rename_i hp
   cases hv
   exact wp (st:=⟨N0,k0,e0,h0⟩) (dst:=some d0) hT hp hg hd h
  ·cases hv
theorem zd (hs0:stK ks = (k,ks')) (hT:TOk P T) {o:Oper} {e':List (Nat × AV)} {h':AH} (hx:sx T N0 ops h1 k o e0 h0 = some (e',h')) (h:ZZ P ops Q h1 ks' l ⟨N0,k0,e',h'⟩):ZZ P ops Q h1 ks (o :: l) ⟨N0,k0,e0,h0⟩:=⟨by
 rw [aI hs0]
 obtain ⟨dst,op,ty,pos,af,g⟩:=o
 unfold sx at hx
 split at hx
 ·rename_i d hg hd
  cases dst with
  | none => cases hd
  | some d' =>
    have hd:some d' = some d:=hd
    injection hd with hd
    subst hd
    split at hx
    ·rename_i hdn
     cases hx
     exact xa (st:=⟨N0,k0,e0,h0⟩) (dst:=some d') hg hdn h.out
    ·cases hx
 ·rename_i hg hd
  cases dst with
  | some d => cases hd
  | none =>
    cases hx
    exact xa (st:=⟨N0,k0,e0,h0⟩) (dst:=none) hg rfl h.out
 ·rename_i d hg hd
  cases dst with
  | none => cases hd
  | some d' =>
    have hd:some d' = some d:=hd
    injection hd with hd
    subst hd
    split at hx
    ·rename_i hdn
     split at hx
     ·rename_i hv
      split at hx
      ·rename_i hf
       cases hx
       rw [← mh hf] at h
       exact Av hT hv hg hdn h.out
      ·cases hx
     ·cases hx
    ·cases hx
 ·rename_i hg hd
  cases dst with
  | some d => cases hd
  | none =>
    split at hx
    ·rename_i t x y hop
     have hop:op = .store t x y:=hop
     subst hop
     split at hx
     ·rename_i h2 h3
      split at hx
      ·rename_i hs
       split at hx
       ·rename_i hf
        cases hx
        rw [← iU hf] at h
        exact wst (st:=⟨N0,k0,e0,h0⟩) hT h2 h3 hs hg h.out
       ·cases hx
      ·cases hx
     ·cases hx
    ·cases hx
 ·cases hx⟩
def yO (T:TB) (e:List (Nat × AV)) (h:AH):ResultVar → Option AV
 | .tmp t => match lk t e with
   | some (.c x) => some (.c x)
   | some (.agg cs) => some (.agg cs)
   | _ => none
 | .cell a t => match lk a e with
   | some p => match ldm T h t p with
     | some (.c x) => some (.c x)
     | some (.agg cs) => some (.agg cs)
     | _ => none
   | none => none
def yP (T:TB) (e:List (Nat × AV)) (h:AH):List ResultVar → Option (List AV)
 | [] => some []
 | r :: rs => match yO T e h r,yP T e h rs with
   | some v,some vs => some (v :: vs)
   | _,_ => none
def qi (T:TB) (rs:List ResultVar) (e:List (Nat × AV)) (h:AH):Option AV:=match rs with
 | [r] => yO T e h r
 | rs => match yP T e h rs with
   | some vs => some (.tup vs)
   | none => none
def rsS (T:TB) (rs:List ResultVar) (st:St) (v:AV):Prop:=qi T rs st.env st.h = some v
def rsF (tmps:Array Value):ResultVar → Sem Value
 | .tmp t => pure (tmps.getD t undef)
 | .cell a t => do loadVar t (← asAddr (tmps.getD a undef))
theorem tx (hT:TOk P T) {Γ:Ctx} {ρ:Pl} {st:St} {a:Act} {w:World} (hr:Rel Γ ρ st a w):∀ {r:ResultVar} {v:AV},yO T st.env st.h r = some v → ∃ v',(rsF a.tmps r).run P w = .ok v' w ∧ v.R ρ v' ∧ v.R1 ρ v'
 | .tmp t,v,h => by
   simp only [yO] at h
   have key:∀ {x:AV},lk t st.env = some x → (rsF a.tmps (.tmp t)).run P w = .ok (a.tmps.getD t undef) w ∧ x.R ρ (a.tmps.getD t undef):=fun hx => by
    obtain ⟨u,h1,h2⟩:=hr.env t _ hx
    refine ⟨rfl,?_⟩
    rw [Array.getD_eq_getD_getElem?,h1]
    exact h2
   split at h
   ·rename_i hx
    cases h
    exact ⟨_,(key hx).1,(key hx).2,(key hx).2⟩
   ·rename_i hx
    cases h
    exact ⟨_,(key hx).1,(key hx).2,(key hx).2⟩
   ·cases h
 | .cell b t,v,h => by
   simp only [yO] at h
   split at h
   ·rename_i p hp
    have key:∀ {x:AV},ldm T st.h t p = some x → ∃ v',(rsF a.tmps (.cell b t)).run P w = .ok v' w ∧ x.R ρ v':=fun {x} hx => by
     have h1:=vA hx
     unfold ldv at h1
     split at h1
     ·rename_i o i q
      split at h1
      ·rename_i ob ti ho ht
       split at h1
       ·rename_i cs hi
        have hl:=pq (dst:=none) (ty:=0) (pos := "") (af:=#[]) (g:=none) (x:=.tmp b) hT (st:=st) (h1:=st.h) hp ht ho hi (mn h1)
        obtain ⟨v',h2,h3⟩:=hl Γ ρ ρ a w w (Ext.refl _) hr hr.holds
        have h4:=h3 w (Same.refl _)
        obtain ⟨sl,ad,e1,e2,e3⟩:=oJ (show AV.R ρ (.c (.ptr o i q)) (a.eval (.tmp b)) from bq hr.env (x:=.tmp b) hp)
        refine ⟨v',?_,h2⟩
        have e3:a.tmps.getD b undef = .pointer (some (ad.add (i * sl.sz + q))):=e3
        unfold execOp at h4
        simp only [Instr.loadAt,Act.eval,e3,Instr.sureAddr,Sem.run_bind,Sem.run_pure,Result.andThen_ok] at h4
        unfold rsF
        simp only [Sem.run_bind,e3,asAddr,Sem.run_pure,Result.andThen_ok]
        cases hlv:(loadVar t (ad.add (i * sl.sz + q))).run P w with
        | ok u w' =>
          rw [hlv] at h4
          simp at h4
          rw [h4.1,h4.2]
        | halt a b =>
          rw [hlv] at h4
          simp at h4
       ·cases h1
      ·cases h1
     ·cases h1
    split at h
    ·rename_i hx
     cases h
     obtain ⟨v',h1,h2⟩:=key hx
     exact ⟨v',h1,h2,h2⟩
    ·rename_i hx
     cases h
     obtain ⟨v',h1,h2⟩:=key hx
     exact ⟨v',h1,h2,h2⟩
    ·cases h
   ·cases h
theorem tz (hT:TOk P T) {Γ:Ctx} {ρ:Pl} {st:St} {a:Act} {w:World} (hr:Rel Γ ρ st a w):∀ {rs:List ResultVar} {vs:List AV},yP T st.env st.h rs = some vs → ∃ vs',(rs.mapM (rsF a.tmps)).run P w = .ok vs' w ∧ All2 (AV.R1 ρ) vs vs'
 | [],vs,h => by
   cases h
   exact ⟨[],rfl,trivial⟩
 | r :: rs,vs,h => by
   unfold yP at h
   split at h
   ·rename_i h1 h2
    cases h
    obtain ⟨v',h3,_,h4⟩:=tx hT hr h1
    obtain ⟨vs',h5,h6⟩:=tz hT hr h2
    refine ⟨v' :: vs',?_,h4,h6⟩
    rw [List.mapM_cons]
    simp only [Sem.run_bind,Sem.run_pure,h3,h5,Result.andThen_ok]
   ·cases h
theorem tA (hT:TOk P T) {fn:Func} {rs:List ResultVar} (hres:fn.results = rs.toArray):∀ st v,rsS T rs st v → ∀ Γ ρ a w,Rel Γ ρ st a w → ∃ v',(results fn a.tmps).run P w = .ok v' w ∧ v.R ρ v':=by
 intro st v h Γ ρ a w hr
 have hrun:∀ vs',(rs.mapM (rsF a.tmps)).run P w = .ok vs' w → (results fn a.tmps).run P w = .ok (if h:vs'.toArray.size = 1 then vs'.toArray[0] else .tuple vs'.toArray) w:=by
  intro vs' h1
  unfold results
  simp only [hres,List.mapM_toArray,map_eq_pure_bind,Sem.run_bind,Sem.run_pure]
  rw [show ∀ (f:ResultVar → Sem Value),f = rsF a.tmps → (rs.mapM f).run P w = .ok vs' w from fun f e => by rw [e];exact h1]
  ·rfl
  ·funext x
   cases x <;> rfl
 unfold rsS qi at h
 split at h
 ·rename_i r
  obtain ⟨v',h1,h2,_⟩:=tx hT hr h
  refine ⟨v',?_,h2⟩
  exact hrun [v'] (by rw [List.mapM_cons];simp only [Sem.run_bind,Sem.run_pure,h1,List.mapM_nil,Result.andThen_ok])
 ·rename_i hne
  split at h
  ·rename_i vs h1
   cases h
   obtain ⟨vs',h2,h3⟩:=tz hT hr h1
   refine ⟨_,hrun vs' h2,?_⟩
   have hlen:vs'.length ≠ 1:=by
    have e1:=h3.length
    have e2:vs.length = rs.length:=by
     clear hne h2 h3 e1 hres hrun
     induction rs generalizing vs with
     | nil => cases h1;rfl
     | cons r rs ih =>
       unfold yP at h1
       split at h1
       ·rename_i h5 h6
        cases h1
        simp [ih _ h6]
       ·cases h1
    intro e
    match rs,e2,hne with
    | [],e2,_ => exact absurd (show vs.length = 0 from e2) (by omega)
    | [r],_,hne => exact hne r rfl
    | _ :: _ :: _,e2,_ => simp at e2;omega
   rw [dif_neg (by simpa using hlen)]
   exact ⟨_,rfl,h3⟩
  ·cases h
def arA:BinOp → Int → Int → Option Int
 | .add,a,b => some (a + b)
 | .sub,a,b => some (a - b)
 | .mul,a,b => some (a * b)
 | _,_,_ => none
end
class Nv (p:Prop) (q:outParam Prop):Prop where
 h:q → p
theorem nv {p q:Prop} [i:Nv p q] (h:q):p:=i.h h
section
variable {P:Program} {Q:Exit → St → Prop} {st:St} {x y:Code} {N:St → Prop} {i:Nat} {ops:Array Oper} {h1:AH} {ks:List Sk} {l:List Oper}
instance:Nv (WW P (Code.seq x y) Q st) (WW P x (jc (WW P y Q) Q) st):=⟨CV⟩
instance:Nv (WW P (Code.region i l.toArray false) Q st) (ZZ P l.toArray Q [] [] l st):=⟨Dr⟩
instance:Nv (WW P (Code.block i x) Q st) (WW P x (pR i Q) st):=⟨Db⟩
instance:Nv (WW P Code.skip Q st) (Q .normal st):=⟨CW⟩
instance:Nv (WW P Code.ret Q st) (Q .ret st):=⟨Dj⟩
instance:Nv (WW P (Code.exit i) Q st) (Q (.exit i) st):=⟨CO⟩
instance:Nv (jc N Q .normal st) (N st):=⟨Ay⟩
instance:Nv (jc N Q (.exit i) st) (Q (.exit i) st):=⟨Ax⟩
instance:Nv (jc N Q .ret st) (Q .ret st):=⟨Az⟩
instance:Nv (pR i Q .normal st) (Q .normal st):=⟨Be⟩
instance:Nv (pR i Q .ret st) (Q .ret st):=⟨Bf⟩
instance {RS:St → AV → Prop} {R:AV → AH → Prop}:Nv (sn RS R .ret st) (oI RS R st):=⟨zx⟩
instance:Nv (ZZ P ops Q h1 ks [] st) (Q .normal st):=⟨Dq⟩
end
end
end Go.Proofs.YtgehbhkfehmdkaaGreat.Sh
