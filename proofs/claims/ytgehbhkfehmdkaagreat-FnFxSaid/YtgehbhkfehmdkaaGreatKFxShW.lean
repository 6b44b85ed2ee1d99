/- Symbolic memory: the steps of a walk. No condition. -/
import Derived.Test.YtgehbhkfehmdkaaGreatKFxShG
set_option linter.unusedVariables false
namespace Go.Proofs.YtgehbhkfehmdkaaGreat.Sh
open Go.RowKit Go.Proofs.YtgehbhkfehmdkaaGreatW
structure WZ (P:Program) (ops:Array Oper) (Q:Exit → St → Prop) (h1:AH) (l:List (Sk × Oper)) (st:St):Prop where
 out:WS P ops Q h1 l st
structure WW (P:Program) (c:Code) (Q:Exit → St → Prop) (st:St):Prop where
 out:W P c Q st
section
variable {P:Program} {T:TB} {ops:Array Oper} {Q:Exit → St → Prop} {h1:AH} {k:Sk} {l:List (Sk × Oper)} {st:St} {dst:Option Tmp} {op:Op} {ty:TypeId} {pos:String} {af:Array Edge} {g:Option (Nat × Bool)}
def hk (k:Sk) (h1 h:AH):AH:=match k with
 | .t => h1
 | _ => h
def qk:Sk → Bool
 | .o => true
 | .l => true
 | _ => false
theorem jc {v:AV} (hP:OpP P ⟨dst,op,ty,pos,af,g⟩ st v) (hg:gd ops ⟨dst,op,ty,pos,af,g⟩ st.env = some true) (hd:st.fits dst = true) (h:WZ P ops Q h1 l (st.put dst v)):WZ P ops Q h1 ((k,⟨dst,op,ty,pos,af,g⟩) :: l) st :=
 ⟨match k with
  | .p => .p hd hg hP h.out
  | .t => .t hd hg (hP.r h1) h.out
  | .o => .o hd hg ((hP.r st.h).q hd) (fun st' e => by cases e;exact h.out)
  | .l => .l hd hg ((hP.r st.h).q hd).w (fun st' e => by cases e;exact h.out)⟩
theorem yG {v:AV} (hk':(k != Sk.p) = true) (hR:OpR P ⟨dst,op,ty,pos,af,g⟩ st (hk k h1 st.h) v) (hg:gd ops ⟨dst,op,ty,pos,af,g⟩ st.env = some true) (hd:st.fits dst = true) (h:WZ P ops Q h1 l (st.put dst v)):WZ P ops Q h1 ((k,⟨dst,op,ty,pos,af,g⟩) :: l) st :=
 ⟨match k,hk',hR with
  | .t,_,hR => .t hd hg hR h.out
  | .o,_,hR => .o hd hg (hR.q hd) (fun st' e => by cases e;exact h.out)
  | .l,_,hR => .l hd hg (hR.q hd).w (fun st' e => by cases e;exact h.out)⟩
theorem nH {K:St → Prop} (hk':qk k = true) (hQ:OpQ P ⟨dst,op,ty,pos,af,g⟩ st K) (hg:gd ops ⟨dst,op,ty,pos,af,g⟩ st.env = some true) (hd:st.fits dst = true) (h:∀ st',K st' → WZ P ops Q h1 l st'):WZ P ops Q h1 ((k,⟨dst,op,ty,pos,af,g⟩) :: l) st :=
 ⟨match k,hk' with
  | .o,_ => .o hd hg hQ (fun st' e => (h st' e).out)
  | .l,_ => .l hd hg hQ.w (fun st' e => (h st' e).out)⟩
theorem nI {K:St → Prop} (hQ:OpW P ⟨dst,op,ty,pos,af,g⟩ st K) (hg:gd ops ⟨dst,op,ty,pos,af,g⟩ st.env = some true) (hd:st.fits dst = true) (h:∀ st',K st' → WZ P ops Q h1 l st'):WZ P ops Q h1 ((Sk.l,⟨dst,op,ty,pos,af,g⟩) :: l) st :=
 ⟨.l hd hg hQ (fun st' e => (h st' e).out)⟩
theorem t8 (hg:gd ops ⟨dst,op,ty,pos,af,g⟩ st.env = some false) (hd:st.fits dst = true) (h:WZ P ops Q h1 l (st.put dst (.tup []))):WZ P ops Q h1 ((k,⟨dst,op,ty,pos,af,g⟩) :: l) st :=
 ⟨.off hd hg h.out⟩
theorem wp (hT:TOk P T) {v:AV} (hv:aP T st.env op = some v) (hg:gd ops ⟨dst,op,ty,pos,af,g⟩ st.env = some true) (hd:st.fits dst = true) (h:WZ P ops Q h1 l (st.put dst v)):WZ P ops Q h1 ((k,⟨dst,op,ty,pos,af,g⟩) :: l) st :=
 jc (iB hT hv) hg hd h
theorem vt {n:Int} (h0:-9223372036854775808 ≤ n) (h1:n ≤ 9223372036854775807):IntKind.i64.wrap n = n:=by
 rw [IntKind.wrap_i64]
 omega
theorem zS {x:Operand} {xT:TypeId} {a:Int} (hx:ev st.env x = some (I a)) (hb:-9223372036854775808 ≤ -a ∧ -a ≤ 9223372036854775807) (hg:gd ops ⟨dst,.unOp .neg xT x,ty,pos,af,g⟩ st.env = some true) (hd:st.fits dst = true) (h:WZ P ops Q h1 l (st.put dst (I (-a)))):WZ P ops Q h1 ((k,⟨dst,.unOp .neg xT x,ty,pos,af,g⟩) :: l) st :=
 jc (iB (T:=[]) (fun t ti h => by cases h) (by unfold aP;simp only [hx,Int.zero_sub,vt hb.1 hb.2])) hg hd h
theorem zP (hT:TOk P T) {p:Prop} {hdp:Decidable p} {o:BinOp} {xT yT:TypeId} {x y:Operand} (hv:aP T st.env (.binOp o xT x y yT) = some (B (decide p))) (hg:gd ops ⟨dst,.binOp o xT x y yT,ty,pos,af,g⟩ st.env = some true) (hd:st.fits dst = true)
  (ht:p → WZ P ops Q h1 l (st.put dst (B true))) (hf:¬ p → WZ P ops Q h1 l (st.put dst (B false))):WZ P ops Q h1 ((k,⟨dst,.binOp o xT x y yT,ty,pos,af,g⟩) :: l) st:=by
 refine jc (iB hT hv) hg hd ?_
 by_cases hp:p
 ·rw [decide_eq_true hp]
  exact ht hp
 ·rw [decide_eq_false hp]
  exact hf hp
def ldW (ti:TI) (cs:List AC) (q:Nat):Option AV:=match q,ti.agg,Nat.beq ti.size cs.length with
 | 0,true,true => some (.agg cs)
 | _,_,_ => ldA ti cs q
theorem iR {ti:TI} {cs:List AC} {q:Nat} {v:AV} (h:ldW ti cs q = some v):ldA ti cs q = some v:=by
 unfold ldW at h
 split at h
 ·rename_i h1 h2
  have h2:=Nat.eq_of_beq_eq_true h2
  unfold ldA
  rw [h1,Nat.zero_add,h2,show Nat.ble cs.length cs.length = true from by rw [Nat.ble_eq];exact Nat.le_refl _]
  simpa using h
 ·exact h
def yj (cs:List AC) (q:Nat) (vcs:List AC):List AC:=match q,Nat.beq vcs.length cs.length,vcs with
 | 0,true,_ => vcs
 | _,_,[x] => cs.set q x
 | _,_,_ => cs.take q ++ vcs ++ cs.drop (q + vcs.length)
theorem rM {cs:List AC} {q:Nat} {vcs:List AC} (h:q + vcs.length ≤ cs.length):yj cs q vcs = cs.take q ++ vcs ++ cs.drop (q + vcs.length):=by
 unfold yj
 split
 ·rename_i hb
  have hb:=Nat.eq_of_beq_eq_true hb
  simp [hb]
 ·rename_i x _
  rw [List.set_eq_take_append_cons_drop,if_pos (by simp only [List.length_singleton] at h;omega)]
  simp
 ·rfl
def ldv (T:TB) (h:AH) (t:TypeId):AV → Option AV
 | .c (.ptr o i q) => match h[o]?,tlk t T with
   | some (some ob),some ti => match ob.el.get i with
     | some cs => ldW ti cs q
     | none => none
   | _,_ => none
 | _ => none
theorem wld (hT:TOk P T) {t:TypeId} {x:Operand} {p v:AV} (hk':(k != Sk.p) = true) (hx:ev st.env x = some p) (hv:ldv T (hk k h1 st.h) t p = some v) (hg:gd ops ⟨dst,.load t x,ty,pos,af,g⟩ st.env = some true) (hd:st.fits dst = true) (h:WZ P ops Q h1 l (st.put dst v)):WZ P ops Q h1 ((k,⟨dst,.load t x,ty,pos,af,g⟩) :: l) st:=by
 refine yG hk' ?_ hg hd h
 unfold ldv at hv
 split at hv
 ·split at hv
  ·rename_i ob ti ho ht
   split at hv
   ·rename_i cs hi
    exact la hT hx ht ho hi (iR hv)
   ·cases hv
  ·cases hv
 ·cases hv
theorem wle (hT:TOk P T) {t:TypeId} {x:Operand} {o i q:Nat} {own:Bool} {e sz:Nat} {xs:List (List Value)} {c:List Value} {ti:TI} {v:AV} (hk':(k != Sk.p) = true) (hx:ev st.env x = some (.c (.ptr o i q))) (ho:(hk k h1 st.h)[o]? = some (some ⟨own,e,sz,.fl xs⟩)) (ht:tlk t T = some ti)
  (hc:xs[i]? = some c) (hv:ldW ti (c.map .sc) q = some v) (hg:gd ops ⟨dst,.load t x,ty,pos,af,g⟩ st.env = some true) (hd:st.fits dst = true) (h:WZ P ops Q h1 l (st.put dst v)):WZ P ops Q h1 ((k,⟨dst,.load t x,ty,pos,af,g⟩) :: l) st :=
 yG hk' (la hT hx ht ho (show (xs[i]?).map _ = some (c.map .sc) by rw [hc];rfl) (iR hv)) hg hd h
theorem zO {t:TypeId} {x:Operand} {v:AV} {cs:List AC} (hk':qk k = true) (hx:ev st.env x = some v) (hv:fN v = some cs) (hg:gd ops ⟨dst,.box t x,ty,pos,af,g⟩ st.env = some true) (hd:st.fits dst = true)
  (h:WZ P ops Q h1 l (({ st with h:=st.h ++ [some ⟨true,t,cs.length,.mx cs⟩] }:St).put dst (.c (.ptr st.h.length 0 0)))):WZ P ops Q h1 ((k,⟨dst,.box t x,ty,pos,af,g⟩) :: l) st :=
 nH hk' (wm hd hx hv) hg hd (fun st' e => by cases e;exact h)
theorem yy (hT:TOk P T) {t:TypeId} {ti:TI} {z:Value} {zs:List Value} (hk':qk k = true) (ht:tlk t T = some ti) (hz:ti.zero = z :: zs) (hg:gd ops ⟨dst,.alloc t,ty,pos,af,g⟩ st.env = some true) (hd:st.fits dst = true)
  (h:WZ P ops Q h1 l (({ st with h:=st.h ++ [some ⟨true,t,(ti.zero.map AC.sc).length,.mx (ti.zero.map .sc)⟩] }:St).put dst (.c (.ptr st.h.length 0 0)))):WZ P ops Q h1 ((k,⟨dst,.alloc t,ty,pos,af,g⟩) :: l) st :=
 nH hk' (sM hT hd ht hz) hg hd (fun st' e => by cases e;exact h)
def stv (T:TB) (h:AH) (t:TypeId) (v:AV):AV → Option AH
 | .c (.ptr o i q) => match h[o]?,tlk t T,fN v with
   | some (some ⟨own,ty,sz,el⟩),some ti,some vcs => match own,Nat.beq vcs.length ti.size,el.get i with
     | true,true,some cs => match Nat.ble (q + ti.size) cs.length,el.put i (yj cs q vcs) with
       | true,some e' => some (h.set o (some ⟨true,ty,sz,e'⟩))
       | _,_ => none
     | _,_,_ => none
   | _,_,_ => none
 | _ => none
theorem wst (hT:TOk P T) {t:TypeId} {x y:Operand} {p v:AV} {h':AH} (hx:ev st.env x = some p) (hy:ev st.env y = some v) (hs:stv T st.h t v p = some h') (hg:gd ops ⟨none,.store t x y,ty,pos,af,g⟩ st.env = some true)
  (h:WZ P ops Q h1 l { st with h:=h' }):WZ P ops Q h1 ((Sk.l,⟨none,.store t x y,ty,pos,af,g⟩) :: l) st:=by
 unfold stv at hs
 split at hs
 ·split at hs
  ·rename_i own ty' sz' el ti vcs ho ht hv
   split at hs
   ·rename_i cs hsz hi
    split at hs
    ·rename_i e' hq he
     cases hs
     have hq:=Nat.le_of_ble_eq_true hq
     have hsz:=Nat.eq_of_beq_eq_true hsz
     rw [rM (by omega)] at he
     exact nI (mn hT rfl hx hy ht hv hsz ho rfl hi hq he) hg rfl (fun st' e => by cases e;exact h)
    ·cases hs
   ·cases hs
  ·cases hs
 ·cases hs
theorem wse (hT:TOk P T) {t:TypeId} {x y:Operand} {o i q:Nat} {e sz:Nat} {xs:List (List Value)} {c c' vs:List Value} {ti:TI} {v:AV} {vcs:List AC} (hx:ev st.env x = some (.c (.ptr o i q))) (hy:ev st.env y = some v) (ho:st.h[o]? = some (some ⟨true,e,sz,.fl xs⟩)) (ht:tlk t T = some ti) (hv:fN v = some vcs) (hp:El.put.plain vcs = some vs)
  (hc:xs[i]? = some c) (hsz:vs.length = ti.size) (hq:q + ti.size ≤ c.length) (hc':c.take q ++ vs ++ c.drop (q + vs.length) = c') (hg:gd ops ⟨none,.store t x y,ty,pos,af,g⟩ st.env = some true)
  (h:WZ P ops Q h1 l { st with h:=st.h.set o (some ⟨true,e,sz,.fl (xs.set i c')⟩) }):WZ P ops Q h1 ((Sk.l,⟨none,.store t x y,ty,pos,af,g⟩) :: l) st:=by
 have hvc:=gy hp
 subst hvc
 have hget:(El.fl xs).get i = some (c.map .sc):=by show (xs[i]?).map _ = _;rw [hc];rfl
 refine nI (mn hT rfl hx hy ht hv (by rw [List.length_map];exact hsz) ho rfl hget (by rw [List.length_map];exact hq) (e':=.fl (xs.set i c')) ?_) hg rfl (fun st' e => by cases e;exact h)
 have hpl:∀ (us:List Value),El.put.plain (us.map .sc) = some us:=by
  intro us
  induction us with
  | nil => rfl
  | cons u us ih => simp [El.put.plain,ih]
 have:(c.map AC.sc).take q ++ vs.map AC.sc ++ (c.map AC.sc).drop (q + (vs.map AC.sc).length) = c'.map AC.sc:=by
  rw [← hc',List.length_map]
  simp
 unfold El.put
 simp only [this,hpl]
theorem wix (hT:TOk P T) {t e:TypeId} {x y:Operand} {o s n:Nat} {ob:AO} {k':IntKind} {i:Int} {ti te:TI} (hx:ev st.env x = some (.c (.row o s n))) (hy:ev st.env y = some (.c (.sc (.int k' i)))) (ht:tlk t T = some ti) (hs:ti.d = .slice e) (hte:tlk e T = some te) (ho:st.h[o]? = some (some ob)) (hsz:te.size = ob.sz) (hb:0 ≤ i ∧ i < n)
  (hg:gd ops ⟨dst,.indexAddr t x y,ty,pos,af,g⟩ st.env = some true) (hd:st.fits dst = true) (h:WZ P ops Q h1 l (st.put dst (.c (.ptr o (s + i.toNat) 0)))):WZ P ops Q h1 ((k,⟨dst,.indexAddr t x y,ty,pos,af,g⟩) :: l) st :=
 jc (mm hT hx hy ht hs hte ho hsz hb.1 hb.2) hg hd h
theorem wsl (hT:TOk P T) {t e:TypeId} {x:Operand} {lo hi:Option Operand} {o s n:Nat} {ob:AO} {a b:Int} {ti te:TI} (hx:ev st.env x = some (.c (.row o s n))) (ht:tlk t T = some ti) (hs:ti.d = .slice e) (hte:tlk e T = some te) (ho:st.h[o]? = some (some ob)) (hsz:te.size = ob.sz) (hl:loV st.env lo 0 = some a) (hh:loV st.env hi n = some b) (hb:0 ≤ a ∧ a ≤ b ∧ b ≤ n)
  (hg:gd ops ⟨dst,.slice t x lo hi none,ty,pos,af,g⟩ st.env = some true) (hd:st.fits dst = true) (h:WZ P ops Q h1 l (st.put dst (.c (.row o (s + a.toNat) (b.toNat - a.toNat))))):WZ P ops Q h1 ((k,⟨dst,.slice t x lo hi none,ty,pos,af,g⟩) :: l) st :=
 jc (sL hT hx ht hs hte ho hsz hl hh hb.1 hb.2.1 hb.2.2) hg hd h
theorem zR (hT:TOk P T) {t e:TypeId} {len:Nat} {parts:Array (Nat × Operand)} {ti te:TI} {ps:List (Nat × AV)} {L:List (List Value)} (hk':qk k = true) (ht:tlk t T = some ti) (hs:ti.d = .slice e) (hte:tlk e T = some te) (hps:evp st.env parts.toList = some ps) (hL:bsA 0 ps = some L) (hll:L.length = len) (hsz:L.all (fun c => Nat.beq c.length te.size) = true) (hz:0 < te.size) (hb:len * te.size ≤ 16777216)
  (hg:gd ops ⟨dst,.buildSlice t len parts,ty,pos,af,g⟩ st.env = some true) (hd:st.fits dst = true) (h:WZ P ops Q h1 l (({ st with h:=st.h ++ [some ⟨true,e,te.size,.fl L⟩] }:St).put dst (.c (.row st.h.length 0 len)))):WZ P ops Q h1 ((k,⟨dst,.buildSlice t len parts,ty,pos,af,g⟩) :: l) st :=
 nH hk' (wo hT hd ht hs hte hps hL hll hsz hz hb) hg hd (fun st' e => by cases e;exact h)
theorem wap (hT:TOk P T) {t e:TypeId} {x y:Operand} {o n o2 s2 m:Nat} {own2:Bool} {e2 sz:Nat} {xs ys:List (List Value)} {ti te:TI} (hx:ev st.env x = some (.c (.row o 0 n))) (hy:ev st.env y = some (.c (.row o2 s2 m))) (ht:tlk t T = some ti) (hs:ti.d = .slice e) (hte:tlk e T = some te) (hsz:te.size = sz)
  (ho:st.h[o]? = some (some ⟨true,e,sz,.fl xs⟩)) (ho2:st.h[o2]? = some (some ⟨own2,e2,sz,.fl ys⟩)) (hn:n ≤ xs.length) (hm:s2 + m ≤ ys.length) (hb:(n + m) * te.bytes ≤ 140737488355328 ∧ n + m ≤ 9223372036854775807)
  (hg:gd ops ⟨dst,.call { callee:=.builtin .append,args:=#[x,y],argTypes:=#[t,t] },ty,pos,af,g⟩ st.env = some true) (hd:st.fits dst = true)
  (h:WZ P ops Q h1 l (({ st with h:=st.h.set o none ++ [some ⟨true,e,sz,.fl (xs.take n ++ (ys.drop s2).take m)⟩] }:St).put dst (.c (.row st.h.length 0 (n + m))))):WZ P ops Q h1 ((Sk.l,⟨dst,.call { callee:=.builtin .append,args:=#[x,y],argTypes:=#[t,t] },ty,pos,af,g⟩) :: l) st :=
 nI (qw hT hd hx hy ht hs hte hsz ho hn ho2 hm hb.1 hb.2) hg hd (fun st' e => by cases e;exact h)
def xJ:AC → List Nat
 | .ptr o _ _ => [o]
 | .row o _ _ => [o]
 | .fn _ caps => caps.map (·.1)
 | .cp o _ => [o]
 | .e0 => []
 | .sc _ => []
def yQ:AV → List Nat
 | .c x => xJ x
 | .agg cs => cs.flatMap xJ
 | .tup _ => []
def td (l:List Nat):List Nat → List Nat
 | [] => l
 | x :: xs => match l.any (Nat.beq x) with
   | true => td l xs
   | false => td (l ++ [x]) xs
def yP:Option AO → List Nat
 | some ⟨_,_,_,.mx cs⟩ => cs.flatMap xJ
 | _ => []
def x7 (h:AH):Nat → List Nat → List Nat → List Nat
 | 0,m,_ => m
 | _ + 1,m,[] => m
 | n + 1,m,x :: todo => x7 h n (td m (yP ((h[x]?).join))) (todo ++ (yP ((h[x]?).join)).filter (fun y => !m.any (Nat.beq y)))
def fU (h:AH) (vs:List AV):List Nat:=x7 h 40 (td [] (vs.flatMap yQ)) (td [] (vs.flatMap yQ))
theorem tQ {i:Nat}:∀ {m:List Nat} {hs hs':AH},hs.all (fun x => match x with | some o => !o.own | none => true) = true → fnd i m hs hs' = none
 | [],_,_,_ => by simp [fnd]
 | _ :: _,[],_,_ => by simp [fnd]
 | _ :: _,none :: _,_,_ => by simp [fnd]
 | _ :: _,some _ :: _,[],_ => by simp [fnd]
 | k :: m,some b :: hs,x :: hs',h => by
   simp only [List.all_cons,Bool.and_eq_true,Bool.not_eq_true'] at h
   unfold fnd
   rw [h.1,Bool.and_false]
   exact tQ h.2
theorem sJ {f:Nat → Nat} {m:List Nat} {hs hs' h:AH} (hro:hs.all (fun x => match x with | some o => !o.own | none => true) = true):cG f m hs hs' h = h ++ bS f (hs'.drop m.length):=by
 unfold cG
 congr 1
 suffices hh:∀ (h:AH) (i:Nat),m0 f m hs hs' i h = h from hh h 0
 intro h
 induction h with
 | nil => intro i;rfl
 | cons x h ih =>
   intro i
   unfold m0
   rw [tQ hro,ih]
theorem vp {fo:Operand} {as:Array Operand} {ts:Array TypeId} {f:FuncId} {caps:List (Nat × Nat × Nat)} {vals args:List AV} {hs:AH} {R:AV → AH → Prop} (m:List Nat) (hk':qk k = true) (hc:ACall P f args hs R) (hent:dV P f) (hf:ev st.env fo = some (.c (.fn f caps))) (hev:evs st.env as.toList = some vals)
  (hargs:args.map (AV.ren (mf m st.h.length)) = vals ++ caps.map bw) (hp:bS (mf m st.h.length) hs = bN hs (bF m st.h)) (hb:(hs.all (·.isSome) && Nat.beq hs.length m.length && m.all (fun i => Nat.blt i st.h.length) && hs.all (fun x => match x with | some o => !o.own | none => true)) = true) (hnd:ndO m hs = true) (hno:(∀ v hs',R v hs' → (hs'.drop m.length).all owN = true) ∨ ∀ (j i:Nat) (b oo:AO),m[j]? = some i → hs[j]? = some (some b) → b.own = false → st.h[i]? = some (some oo) → oo.own = false)
  (hg:gd ops ⟨dst,.call { callee:=.value fo,args:=as,argTypes:=ts },ty,pos,af,g⟩ st.env = some true) (hd:st.fits dst = true)
  (h:∀ v hs',R v hs' → WZ P ops Q h1 l (({ st with h:=st.h ++ bS (mf m st.h.length) (hs'.drop m.length) }:St).put dst (v.ren (mf m st.h.length)))):WZ P ops Q h1 ((k,⟨dst,.call { callee:=.value fo,args:=as,argTypes:=ts },ty,pos,af,g⟩) :: l) st:=by
 simp only [Bool.and_eq_true] at hb
 refine nH hk' (uM rfl hd hf hent hev hc m hargs ⟨hb.1.1.1,Nat.eq_of_beq_eq_true hb.1.1.2,hb.1.2,hnd,hp⟩ hb.2 hno) hg hd (fun st' e => ?_)
 obtain ⟨v,hs',hR,rfl⟩:=e
 rw [sJ hb.2]
 exact h v hs' hR
theorem yA {fo:Operand} {as:Array Operand} {ts:Array TypeId} {f:FuncId} {caps:List (Nat × Nat × Nat)} {vals args:List AV} {hs:AH} {X:AV} {m:List Nat} (hk':qk k = true) (hc:ACall P f args hs (fun v h => v = X ∧ h = hs)) (hent:dV P f) (hf:ev st.env fo = some (.c (.fn f caps))) (hev:evs st.env as.toList = some vals) (hm:fU st.h (vals ++ caps.map bw) = m)
  (hargs:args.map (AV.ren (mf m st.h.length)) = vals ++ caps.map bw) (hp:bS (mf m st.h.length) hs = bN hs (bF m st.h)) (hb:(hs.all (·.isSome) && Nat.beq hs.length m.length && m.all (fun i => Nat.blt i st.h.length) && hs.all (fun x => match x with | some o => !o.own | none => true)) = true) (hnd:ndO m hs = true)
  (hX:∀ f,X.ren f = X) (hg:gd ops ⟨dst,.call { callee:=.value fo,args:=as,argTypes:=ts },ty,pos,af,g⟩ st.env = some true) (hd:st.fits dst = true)
  (h:WZ P ops Q h1 l (st.put dst X)):WZ P ops Q h1 ((k,⟨dst,.call { callee:=.value fo,args:=as,argTypes:=ts },ty,pos,af,g⟩) :: l) st:=by
 refine vp m hk' hc hent hf hev hargs hp hb hnd (.inl fun v hs' e => by simp only [Bool.and_eq_true] at hb;rw [e.2,List.drop_eq_nil_of_le (Nat.le_of_eq (Nat.eq_of_beq_eq_true hb.1.1.2))];rfl) hg hd ?_
 rintro _ _ ⟨rfl,rfl⟩
 simp only [Bool.and_eq_true] at hb
 rw [List.drop_eq_nil_of_le (Nat.le_of_eq (Nat.eq_of_beq_eq_true hb.1.1.2)),hX]
 simpa [bS] using h
theorem vq {fo:Operand} {as:Array Operand} {ts:Array TypeId} {f:FuncId} {caps:List (Nat × Nat × Nat)} {vals args:List AV} {hs:AH} {R:AV → AH → Prop} {m:List Nat} (hc:ACall P f args hs R) (hent:dV P f) (hf:ev st.env fo = some (.c (.fn f caps))) (hev:evs st.env as.toList = some vals)
  (hargs:args.map (AV.ren (mf m st.h.length)) = vals ++ caps.map bw) (hp:bS (mf m st.h.length) hs = bN hs (bF m st.h)) (hb:(hs.all (·.isSome) && Nat.beq hs.length m.length && m.all (fun i => Nat.blt i st.h.length)) = true) (hnd:ndO m hs = true) (hno:∀ (j i:Nat) (b oo:AO),m[j]? = some i → hs[j]? = some (some b) → b.own = false → st.h[i]? = some (some oo) → oo.own = false)
  (hg:gd ops ⟨dst,.call { callee:=.value fo,args:=as,argTypes:=ts },ty,pos,af,g⟩ st.env = some true) (hd:st.fits dst = true)
  (h:∀ v hs',R v hs' → WZ P ops Q h1 l (({ st with h:=cG (mf m st.h.length) m hs hs' st.h }:St).put dst (v.ren (mf m st.h.length)))):WZ P ops Q h1 ((Sk.l,⟨dst,.call { callee:=.value fo,args:=as,argTypes:=ts },ty,pos,af,g⟩) :: l) st:=by
 simp only [Bool.and_eq_true] at hb
 exact nI (p7 rfl hd hf hent hev hc m hargs ⟨hb.1.1,Nat.eq_of_beq_eq_true hb.1.2,hb.2,hnd,hp⟩ (.inr hno)) hg hd (fun st' e => by obtain ⟨v,hs',hR,rfl⟩:=e;exact h v hs' hR)
theorem yz {fo:Operand} {as:Array Operand} {ts:Array TypeId} {f:FuncId} {caps:List (Nat × Nat × Nat)} {vals args:List AV} {hs:AH} {R:AV → AH → Prop} {m:List Nat} (hc:ACall P f args hs R) (hent:dV P f) (hf:ev st.env fo = some (.c (.fn f caps))) (hev:evs st.env as.toList = some vals)
  (hargs:args.map (AV.ren (mf m st.h.length)) = vals ++ caps.map bw) (hp:bS (mf m st.h.length) hs = bN hs (bF m st.h)) (hb:(hs.all (·.isSome) && Nat.beq hs.length m.length && m.all (fun i => Nat.blt i st.h.length)) = true) (hnd:ndO m hs = true) (hno:∀ v hs',R v hs' → (hs'.drop m.length).all owN = true ∧ hs'.all noD = true)
  (hg:gd ops ⟨dst,.call { callee:=.value fo,args:=as,argTypes:=ts },ty,pos,af,g⟩ st.env = some true) (hd:st.fits dst = true)
  (h:∀ v hs',R v hs' → WZ P ops Q h1 l (({ st with h:=cG (mf m st.h.length) m hs hs' st.h }:St).put dst (v.ren (mf m st.h.length)))):WZ P ops Q h1 ((Sk.l,⟨dst,.call { callee:=.value fo,args:=as,argTypes:=ts },ty,pos,af,g⟩) :: l) st:=by
 simp only [Bool.and_eq_true] at hb
 exact nI (p7 rfl hd hf hent hev hc m hargs ⟨hb.1.1,Nat.eq_of_beq_eq_true hb.1.2,hb.2,hnd,hp⟩ (.inl hno)) hg hd (fun st' e => by obtain ⟨v,hs',hR,rfl⟩:=e;exact h v hs' hR)
theorem zT (h:Q .normal st):WZ P ops Q h1 [] st:=⟨.nil h⟩
theorem zU {id:Nat} {l:List Oper} (h:WZ P l.toArray Q [] (l.map (fun o => (Sk.l,o))) st):WW P (Code.region id l.toArray false) Q st:=⟨tb h.out⟩
theorem zf {id:Nat} {l:List Oper} (hm:P.follows .mixedOrders = true) (s:List (Sk × Nat)) (ds:List Nat) (hc:(s.length == l.toArray.size && chk l.toArray ds true s (Array.replicate l.toArray.size false)) = true)
  (h:WZ P l.toArray Q st.h (s.map (fun p => (p.1,opn l.toArray p.2))) st):WW P (Code.region id l.toArray true) Q st:=⟨xh hm s ds hc h.out⟩
theorem zo {x y:Code} (h:WW P x (fi (WW P y Q) Q) st):WW P (Code.seq x y) Q st:=⟨yI (ta (fun e st hh => by
 cases e with
 | normal => exact WW.out hh
 | _ => exact hh) h.out)⟩
theorem zN {id:Nat} {c:Code} (h:WW P c (lA id Q) st):WW P (Code.block id c) Q st:=⟨vv h.out⟩
theorem zp (h:Q .normal st):WW P Code.skip Q st:=⟨xk h⟩
theorem zV (h:Q .ret st):WW P Code.ret Q st:=⟨yH h⟩
theorem zg {id:Nat} (h:Q (.exit id) st):WW P (Code.exit id) Q st:=⟨xi h⟩
theorem wct {c:Operand} {x y:Code} (hc:ev st.env c = some (B true)) (h:WW P x Q st):WW P (Code.cond c x y) Q st:=⟨t9 hc (fun _ => h.out) (fun h => by cases h)⟩
theorem wcf {c:Operand} {x y:Code} (hc:ev st.env c = some (B false)) (h:WW P y Q st):WW P (Code.cond c x y) Q st:=⟨t9 hc (fun h => by cases h) (fun _ => h.out)⟩
theorem zgh {st2:St} (g:Ghost st st2) (h:WZ P ops Q h1 l st2):WZ P ops Q h1 l st:=⟨.ghost (K:=(· = st2)) (fun Γ ρ a w hr => by obtain ⟨ρ',h1,h2⟩:=g Γ ρ a w hr;exact ⟨_,ρ',rfl,h1,h2⟩) (fun st' e => by cases e;exact h.out)⟩
def t7 {X:Type} (Inv:X → Prop) (I:X → St) (μ:X → Nat) (n:Nat) (st:St):Prop:=∃ y m,Inv y ∧ μ y < n ∧ Conv st (I y) m
theorem lx {c:Code} {X:Type} (Inv:X → Prop) (I:X → St) (μ:X → Nat) (x0:X) (m:List Nat) (h0:Inv x0) (hc:Conv st (I x0) m)
  (hr:∀ x,Inv x → WW P c (fi (t7 Inv I μ (μ x)) Q) (I x)):WW P (Code.loop c) Q st:=⟨xj Inv I μ x0 m h0 hc (fun x hx => (hr x hx).out)⟩
theorem wM {N:St → Prop} (h:N st):fi N Q .normal st:=h
theorem wL {N:St → Prop} {i:Nat} (h:Q (.exit i) st):fi N Q (.exit i) st:=h
theorem wN {N:St → Prop} (h:Q .ret st):fi N Q .ret st:=h
theorem xq {i:Nat} (h:Q .normal st):lA i Q .normal st:=h
theorem xr {i:Nat} (h:Q .ret st):lA i Q .ret st:=h
theorem ah {i j:Nat} (hb:Nat.beq j i = true) (h:Q .normal st):lA i Q (.exit j) st:=by
 show (match Nat.beq j i with | true => Q .normal st | false => Q (.exit j) st)
 rw [hb]
 exact h
theorem tq {i j:Nat} (hb:Nat.beq j i = false) (h:Q (.exit j) st):lA i Q (.exit j) st:=by
 show (match Nat.beq j i with | true => Q .normal st | false => Q (.exit j) st)
 rw [hb]
 exact h
def ky (RS:St → AV → Prop) (R:AV → AH → Prop) (st:St):Prop:=∃ m v hs,Fin RS st m v hs ∧ R v hs
theorem vC {RS:St → AV → Prop} {R:AV → AH → Prop} (h:ky RS R st):nS RS R .ret st:=h
theorem pK {RS:St → AV → Prop} {R:AV → AH → Prop} {v:AV} {hs:AH} (m:List Nat) (hR:R v hs) (hf:Fin RS st m v hs):ky RS R st:=⟨m,v,hs,hf,hR⟩
end
end Go.Proofs.YtgehbhkfehmdkaaGreat.Sh
