/- Short forms of the walk's rules. No condition. -/
import Derived.Test.YtgehbhkfehmdkaaGreatKUShU
import Derived.Test.YtgehbhkfehmdkaaGreatKUShT
import Derived.Test.YtgehbhkfehmdkaaGreatKUShM
set_option maxRecDepth 100000
set_option maxHeartbeats 40000000
set_option linter.unusedVariables false
namespace Go.Proofs.YtgehbhkfehmdkaaGreat.Sh
section
open Go.RowKit Go.Proofs.YtgehbhkfehmdkaaGreatW
theorem p1 {α β:Type _} {a c:α} {b d:β} (e:(a,b) = (c,d)):a = c:=congrArg Prod.fst e
theorem p2 {α β:Type _} {a c:α} {b d:β} (e:(a,b) = (c,d)):b = d:=congrArg Prod.snd e
theorem lE {α:Type}:(∀ a b:List α,(a ++ b).length = a.length + b.length) ∧ (∀ (x:α) (a:List α),(x :: a).length = a.length + 1) ∧ ([]:List α).length = 0:=⟨fun _ _ => List.length_append,fun _ _ => rfl,rfl⟩
theorem lM {α β:Type} (f:α → β) (a:List α):(a.map f).length = a.length:=List.length_map f
theorem yix {ops:Array Oper} {Q:Exit → St → Prop} {h1:AH} {k:Sk} {ks ks':List Sk} {l:List Oper} {N0 k0 d0:Nat} {e0:List (Nat × AV)} {h0:AH} {ty:TypeId} {pos:String} {af:Array Edge} {g:Option (Nat × Bool)} {t e:TypeId} {x y:Operand} {o n:Nat} {ob:AO} {k':IntKind} {i:Int} {ti te:TI} (q0:(stK ks,ev e0 x,ev e0 y,tlk t Tb,ti.d,tlk e Tb,h0[o]?,te.size,gd ops { dst:=some d0,op:=Op.indexAddr t x y,type:=ty,pos:=pos,after:=af,guard:=g } e0,d0.blt N0) = ((k,ks'),some (AV.c (AC.row o 0 n)),some (AV.c (AC.sc (Value.int k' i))),some ti,TD.slice e,some te,some (some ob),ob.sz,some true,true)) (hb:0 ≤ i ∧ i < ↑n) (h:ZZ Tryz.prog ops Q h1 ks' l { n:=N0,k:=k0,env:=(d0,AV.c (AC.ptr o i.toNat 0)) :: e0,h:=h0 }):ZZ Tryz.prog ops Q h1 ks ({ dst:=some d0,op:=Op.indexAddr t x y,type:=ty,pos:=pos,after:=af,guard:=g } :: l) { n:=N0,k:=k0,env:=e0,h:=h0 }:=zix (hs0:=(p1 q0)) (hT:=tk) (hx:=(p1 (p2 q0))) (hy:=(p1 (p2 (p2 q0)))) (ht:=(p1 (p2 (p2 (p2 q0))))) (hs:=(p1 (p2 (p2 (p2 (p2 q0)))))) (hte:=(p1 (p2 (p2 (p2 (p2 (p2 q0))))))) (ho:=(p1 (p2 (p2 (p2 (p2 (p2 (p2 q0)))))))) (hsz:=(p1 (p2 (p2 (p2 (p2 (p2 (p2 (p2 q0))))))))) (hb:=hb) (hg:=(p1 (p2 (p2 (p2 (p2 (p2 (p2 (p2 (p2 q0)))))))))) (hd:=(p2 (p2 (p2 (p2 (p2 (p2 (p2 (p2 (p2 q0)))))))))) (h:=h)
theorem yle {ops:Array Oper} {Q:Exit → St → Prop} {h1:AH} {k:Sk} {ks ks':List Sk} {l:List Oper} {N0 k0 d0:Nat} {e0:List (Nat × AV)} {h0:AH} {ty:TypeId} {pos:String} {af:Array Edge} {g:Option (Nat × Bool)} {α:Type} {inst:Enc α} {t:TypeId} {x:Operand} {o q:Nat} {i:Int} {own:Bool} {e sz:Nat} {xs:List α} {ti:TI} {v v':AV} (q0:(stK ks,(k != Sk.p),ev e0 x,(hk k h1 h0)[o]?,tlk t Tb,ldW ti (List.map AC.sc (Enc.enc (rd xs i))) q,fV1 v,gd ops { dst:=some d0,op:=Op.load t x,type:=ty,pos:=pos,after:=af,guard:=g } e0,d0.blt N0) = ((k,ks'),true,some (AV.c (AC.ptr o i.toNat q)),some (some { own:=own,ty:=e,sz:=sz,el:=El.fl (List.map Enc.enc xs) }),some ti,some v,some v',some true,true)) (hb:0 ≤ i ∧ i < ↑xs.length) (h:ZZ Tryz.prog ops Q h1 ks' l { n:=N0,k:=k0,env:=(d0,v') :: e0,h:=h0 }):ZZ Tryz.prog ops Q h1 ks ({ dst:=some d0,op:=Op.load t x,type:=ty,pos:=pos,after:=af,guard:=g } :: l) { n:=N0,k:=k0,env:=e0,h:=h0 }:=zle (hs0:=(p1 q0)) (hT:=tk) (hk':=(p1 (p2 q0))) (hx:=(p1 (p2 (p2 q0)))) (ho:=(p1 (p2 (p2 (p2 q0))))) (ht:=(p1 (p2 (p2 (p2 (p2 q0)))))) (hb:=hb) (hv:=(p1 (p2 (p2 (p2 (p2 (p2 q0))))))) (hf:=(p1 (p2 (p2 (p2 (p2 (p2 (p2 q0)))))))) (hg:=(p1 (p2 (p2 (p2 (p2 (p2 (p2 (p2 q0))))))))) (hd:=(p2 (p2 (p2 (p2 (p2 (p2 (p2 (p2 q0))))))))) (h:=h)
theorem yar {ops:Array Oper} {Q:Exit → St → Prop} {h1:AH} {k:Sk} {ks ks':List Sk} {l:List Oper} {N0 k0 d0:Nat} {e0:List (Nat × AV)} {h0:AH} {ty:TypeId} {pos:String} {af:Array Edge} {g:Option (Nat × Bool)} {x y:Operand} {xT yT:TypeId} {a b r:Int} {o:BinOp} (q0:(stK ks,ev e0 x,ev e0 y,arA o a b,gd ops { dst:=some d0,op:=Op.binOp o xT x y yT,type:=ty,pos:=pos,after:=af,guard:=g } e0,d0.blt N0) = ((k,ks'),some (I a),some (I b),some r,some true,true)) (hb:-9223372036854775808 ≤ r ∧ r ≤ 9223372036854775807) (h:ZZ Tryz.prog ops Q h1 ks' l { n:=N0,k:=k0,env:=(d0,I r) :: e0,h:=h0 }):ZZ Tryz.prog ops Q h1 ks ({ dst:=some d0,op:=Op.binOp o xT x y yT,type:=ty,pos:=pos,after:=af,guard:=g } :: l) { n:=N0,k:=k0,env:=e0,h:=h0 }:=zar (hs0:=(p1 q0)) (hx:=(p1 (p2 q0))) (hy:=(p1 (p2 (p2 q0)))) (hr:=(p1 (p2 (p2 (p2 q0))))) (hb:=hb) (hg:=(p1 (p2 (p2 (p2 (p2 q0)))))) (hd:=(p2 (p2 (p2 (p2 (p2 q0)))))) (h:=h)
theorem ycf {ops:Array Oper} {Q:Exit → St → Prop} {h1:AH} {k:Sk} {ks ks':List Sk} {l:List Oper} {N0 k0 d0:Nat} {e0:List (Nat × AV)} {h0:AH} {ty:TypeId} {pos:String} {af:Array Edge} {g:Option (Nat × Bool)} {fo:Operand} {«as»:Array Operand} {ts:Array TypeId} {f:FuncId} {caps:List (Nat × Nat × Nat)} {vals args:List AV} {hs hs2 h':AH} {X X':AV} {m:List Nat} (q0:(stK ks,qk k,ev e0 fo,evs e0 «as».toList,fL (jK h0 (vals ++ List.map bK caps)),jX m (vals ++ List.map bK caps),jY [] m h0,List.map (AV.ren (mf m (List.length h0))) args,cx (mf m (List.length h0)) hs,(dr hs m (List.length h0) && roA hs)) = ((k,ks'),true,some (AV.c (AC.fn f caps)),some vals,some m,some args,some hs,vals ++ List.map bK caps,cm hs (bP m h0),true)) (hc:FC Tryz.prog f args hs X hs2) (q1:((List.drop m.length hs2).all owN,fV (AV.ren (mf m (List.length h0)) X),fH (h0 ++ cx (mf m (List.length h0)) (List.drop m.length hs2)),gd ops { dst:=some d0,op:=Op.call { callee:=Callee.value fo,args:=«as»,argTypes:=ts },type:=ty,pos:=pos,after:=af,guard:=g } e0,d0.blt N0) = (true,some X',some h',some true,true)) (h:ZZ Tryz.prog ops Q h1 ks' l { n:=N0,k:=k0,env:=(d0,X') :: e0,h:=h' }):ZZ Tryz.prog ops Q h1 ks ({ dst:=some d0,op:=Op.call { callee:=Callee.value fo,args:=«as»,argTypes:=ts },type:=ty,pos:=pos,after:=af,guard:=g } :: l) { n:=N0,k:=k0,env:=e0,h:=h0 }:=zcf (hs0:=(p1 q0)) (hk':=(p1 (p2 q0))) (hf:=(p1 (p2 (p2 q0)))) (hev:=(p1 (p2 (p2 (p2 q0))))) (hm:=(p1 (p2 (p2 (p2 (p2 q0)))))) (hca:=(p1 (p2 (p2 (p2 (p2 (p2 q0))))))) (hch:=(p1 (p2 (p2 (p2 (p2 (p2 (p2 q0)))))))) (hargs:=(p1 (p2 (p2 (p2 (p2 (p2 (p2 (p2 q0))))))))) (hp:=(p1 (p2 (p2 (p2 (p2 (p2 (p2 (p2 (p2 q0)))))))))) (hb:=(p2 (p2 (p2 (p2 (p2 (p2 (p2 (p2 (p2 q0)))))))))) (hc:=hc) (hno:=(p1 q1)) (hX':=(p1 (p2 q1))) (hh:=(p1 (p2 (p2 q1)))) (hg:=(p1 (p2 (p2 (p2 q1))))) (hd:=(p2 (p2 (p2 (p2 q1))))) (h:=h)
theorem ycp {ops:Array Oper} {Q:Exit → St → Prop} {h1:AH} {k:Sk} {ks ks':List Sk} {l:List Oper} {N0 k0 d0:Nat} {e0:List (Nat × AV)} {h0:AH} {ty:TypeId} {pos:String} {af:Array Edge} {g:Option (Nat × Bool)} {fo:Operand} {«as»:Array Operand} {ts:Array TypeId} {f:FuncId} {caps:List (Nat × Nat × Nat)} {vals args:List AV} {hs:AH} {p:Prop} {m:List Nat} (q0:(stK ks,qk k,ev e0 fo,evs e0 «as».toList,fL (jK h0 (vals ++ List.map bK caps)),jX m (vals ++ List.map bK caps),jY [] m h0,List.map (AV.ren (mf m (List.length h0))) args,cx (mf m (List.length h0)) hs,(dr hs m (List.length h0) && roA hs)) = ((k,ks'),true,some (AV.c (AC.fn f caps)),some vals,some m,some args,some hs,vals ++ List.map bK caps,cm hs (bP m h0),true)) (hc:FC Tryz.prog f args hs (B (dB p)) hs) (q1:(gd ops { dst:=some d0,op:=Op.call { callee:=Callee.value fo,args:=«as»,argTypes:=ts },type:=ty,pos:=pos,after:=af,guard:=g } e0,d0.blt N0) = (some true,true)) (ht:p → ZZ Tryz.prog ops Q h1 ks' l { n:=N0,k:=k0,env:=(d0,B true) :: e0,h:=h0 }) (hf':¬p → ZZ Tryz.prog ops Q h1 ks' l { n:=N0,k:=k0,env:=(d0,B false) :: e0,h:=h0 }):ZZ Tryz.prog ops Q h1 ks ({ dst:=some d0,op:=Op.call { callee:=Callee.value fo,args:=«as»,argTypes:=ts },type:=ty,pos:=pos,after:=af,guard:=g } :: l) { n:=N0,k:=k0,env:=e0,h:=h0 }:=zcp (hs0:=(p1 q0)) (hk':=(p1 (p2 q0))) (hf:=(p1 (p2 (p2 q0)))) (hev:=(p1 (p2 (p2 (p2 q0))))) (hm:=(p1 (p2 (p2 (p2 (p2 q0)))))) (hca:=(p1 (p2 (p2 (p2 (p2 (p2 q0))))))) (hch:=(p1 (p2 (p2 (p2 (p2 (p2 (p2 q0)))))))) (hargs:=(p1 (p2 (p2 (p2 (p2 (p2 (p2 (p2 q0))))))))) (hp:=(p1 (p2 (p2 (p2 (p2 (p2 (p2 (p2 (p2 q0)))))))))) (hb:=(p2 (p2 (p2 (p2 (p2 (p2 (p2 (p2 (p2 q0)))))))))) (hc:=hc) (hg:=(p1 q1)) (hd:=(p2 q1)) (ht:=ht) (hf':=hf')
theorem yap {ops:Array Oper} {Q:Exit → St → Prop} {h1:AH} {ks ks':List Sk} {l:List Oper} {N0 k0 d0:Nat} {e0:List (Nat × AV)} {h0:AH} {ty:TypeId} {pos:String} {af:Array Edge} {g:Option (Nat × Bool)} {α:Type} {inst:Enc α} {t e:TypeId} {x y:Operand} {o o2 nn:Nat} {own2:Bool} {e2 sz sz2:Nat} {xs ys:List α} {ti te:TI} {hm h':AH} (q0:(stK ks,ev e0 x,ev e0 y,tlk t Tb,ti.d,tlk e Tb,te.size,h0[o]?,h0[o2]?,sz2.beq sz,Nat.blt 0 te.bytes,Enc.sz α,nr h0 o none,m9 hm (ow e (xs ++ ys)),gd ops { dst:=some d0,op:=Op.call { callee:=Callee.builtin Builtin.append,args:=#[x,y],argTypes:=#[t,t] },type:=ty,pos:=pos,after:=af,guard:=g } e0,d0.blt N0) = ((Sk.l,ks'),some (AV.c (AC.row o 0 xs.length)),some (AV.c (AC.row o2 0 ys.length)),some ti,TD.slice e,some te,sz,some (some { own:=true,ty:=e,sz:=sz,el:=El.fl (List.map Enc.enc xs) }),some (some { own:=own2,ty:=e2,sz:=sz2,el:=El.fl (List.map Enc.enc ys) }),true,true,sz,some hm,some (nn,h'),some true,true)) (hb:(xs.length + ys.length) * te.bytes ≤ 140737488355328) (h:ZZ Tryz.prog ops Q h1 ks' l { n:=N0,k:=k0,env:=(d0,AV.c (AC.row nn 0 (xs ++ ys).length)) :: e0,h:=h' }):ZZ Tryz.prog ops Q h1 ks ({ dst:=some d0,op:=Op.call { callee:=Callee.builtin Builtin.append,args:=#[x,y],argTypes:=#[t,t] },type:=ty,pos:=pos,after:=af,guard:=g } :: l) { n:=N0,k:=k0,env:=e0,h:=h0 }:=zap (hs0:=(p1 q0)) (hT:=tk) (hx:=(p1 (p2 q0))) (hy:=(p1 (p2 (p2 q0)))) (ht:=(p1 (p2 (p2 (p2 q0))))) (hs:=(p1 (p2 (p2 (p2 (p2 q0)))))) (hte:=(p1 (p2 (p2 (p2 (p2 (p2 q0))))))) (hsz:=(p1 (p2 (p2 (p2 (p2 (p2 (p2 q0)))))))) (ho:=(p1 (p2 (p2 (p2 (p2 (p2 (p2 (p2 q0))))))))) (ho2:=(p1 (p2 (p2 (p2 (p2 (p2 (p2 (p2 (p2 q0)))))))))) (hs2:=(p1 (p2 (p2 (p2 (p2 (p2 (p2 (p2 (p2 (p2 q0))))))))))) (hbp:=(p1 (p2 (p2 (p2 (p2 (p2 (p2 (p2 (p2 (p2 (p2 q0)))))))))))) (hb:=hb) (hse:=(p1 (p2 (p2 (p2 (p2 (p2 (p2 (p2 (p2 (p2 (p2 (p2 q0))))))))))))) (hh1:=(p1 (p2 (p2 (p2 (p2 (p2 (p2 (p2 (p2 (p2 (p2 (p2 (p2 q0)))))))))))))) (hh2:=(p1 (p2 (p2 (p2 (p2 (p2 (p2 (p2 (p2 (p2 (p2 (p2 (p2 (p2 q0))))))))))))))) (hg:=(p1 (p2 (p2 (p2 (p2 (p2 (p2 (p2 (p2 (p2 (p2 (p2 (p2 (p2 (p2 q0)))))))))))))))) (hd:=(p2 (p2 (p2 (p2 (p2 (p2 (p2 (p2 (p2 (p2 (p2 (p2 (p2 (p2 (p2 q0)))))))))))))))) (h:=h)
theorem yc {ops:Array Oper} {Q:Exit → St → Prop} {h1:AH} {k:Sk} {ks ks':List Sk} {l:List Oper} {N0 k0 d0:Nat} {e0:List (Nat × AV)} {h0:AH} {ty:TypeId} {pos:String} {af:Array Edge} {g:Option (Nat × Bool)} {fo:Operand} {«as»:Array Operand} {ts:Array TypeId} {f:FuncId} {caps:List (Nat × Nat × Nat)} {vals args:List AV} {hs:AH} {X X':AV} {m:List Nat} (q0:(stK ks,qk k,ev e0 fo,evs e0 «as».toList,fL (jK h0 (vals ++ List.map bK caps)),jX m (vals ++ List.map bK caps),jY [] m h0,List.map (AV.ren (mf m (List.length h0))) args,cx (mf m (List.length h0)) hs,(dr hs m (List.length h0) && roA hs)) = ((k,ks'),true,some (AV.c (AC.fn f caps)),some vals,some m,some args,some hs,vals ++ List.map bK caps,cm hs (bP m h0),true)) (hc:FC Tryz.prog f args hs X hs) (q1:(fV X,gd ops { dst:=some d0,op:=Op.call { callee:=Callee.value fo,args:=«as»,argTypes:=ts },type:=ty,pos:=pos,after:=af,guard:=g } e0,d0.blt N0) = (some X',some true,true)) (hX:∀ (f:Nat → Nat),AV.ren f X = X) (h:ZZ Tryz.prog ops Q h1 ks' l { n:=N0,k:=k0,env:=(d0,X') :: e0,h:=h0 }):ZZ Tryz.prog ops Q h1 ks ({ dst:=some d0,op:=Op.call { callee:=Callee.value fo,args:=«as»,argTypes:=ts },type:=ty,pos:=pos,after:=af,guard:=g } :: l) { n:=N0,k:=k0,env:=e0,h:=h0 }:=zc (hs0:=(p1 q0)) (hk':=(p1 (p2 q0))) (hf:=(p1 (p2 (p2 q0)))) (hev:=(p1 (p2 (p2 (p2 q0))))) (hm:=(p1 (p2 (p2 (p2 (p2 q0)))))) (hca:=(p1 (p2 (p2 (p2 (p2 (p2 q0))))))) (hch:=(p1 (p2 (p2 (p2 (p2 (p2 (p2 q0)))))))) (hargs:=(p1 (p2 (p2 (p2 (p2 (p2 (p2 (p2 q0))))))))) (hp:=(p1 (p2 (p2 (p2 (p2 (p2 (p2 (p2 (p2 q0)))))))))) (hb:=(p2 (p2 (p2 (p2 (p2 (p2 (p2 (p2 (p2 q0)))))))))) (hc:=hc) (hX:=hX) (hX':=(p1 q1)) (hg:=(p1 (p2 q1))) (hd:=(p2 (p2 q1))) (h:=h)
theorem yds {ops:Array Oper} {Q:Exit → St → Prop} {h1:AH} {ks ks1 ks2 ks':List Sk} {k1 k2:Sk} {o o2:Oper} {l l':List Oper} {N k:Nat} {e e1 e2 e':List (Nat × AV)} {h g1 g2 h':AH} (q0:(stK ks,sx Tb N ops h1 k1 o e h,stK ks1,sx Tb N ops h1 k2 o2 e1 g1,sxs Tb N ops h1 l ks2 e2 g2) = ((k1,ks1),some (e1,g1),(k2,ks2),some (e2,g2),(ks',l',e',h'))) (hz:ZZ Tryz.prog ops Q h1 ks' l' { n:=N,k:=k,env:=e',h:=h' }):ZZ Tryz.prog ops Q h1 ks (o :: o2 :: l) { n:=N,k:=k,env:=e,h:=h }:=zds (hT:=tk) (hs0:=(p1 q0)) (hx:=(p1 (p2 q0))) (hs1:=(p1 (p2 (p2 q0)))) (hx2:=(p1 (p2 (p2 (p2 q0))))) (hxs:=(p2 (p2 (p2 (p2 q0))))) (hz:=hz)
theorem aH {ops:Array Oper} {Q:Exit → St → Prop} {h1:AH} {k:Sk} {ks ks':List Sk} {l:List Oper} {N0 k0 d0:Nat} {e0:List (Nat × AV)} {h0:AH} {ty:TypeId} {pos:String} {af:Array Edge} {g:Option (Nat × Bool)} {α:Type} [Enc α] {t e:TypeId} {len nn:Nat} {parts:Array (Nat × Operand)} {ti te:TI} {ps:List (Nat × AV)} {L:List (List Value)} {xs:List α} {h':AH} (q0:(stK ks,qk k,tlk t Tb,ti.d,tlk e Tb,evp e0 parts.toList,bsA 0 ps,xH L,xs.length.beq len,(Enc.sz α).beq te.size,(len * te.size).ble 16777216,m9 h0 (ow e xs),gd ops { dst:=some d0,op:=Op.buildSlice t len parts,type:=ty,pos:=pos,after:=af,guard:=g } e0,d0.blt N0) = ((k,ks'),true,some ti,TD.slice e,some te,some ps,some L,some xs,true,true,true,some (nn,h'),some true,true)) (h:ZZ Tryz.prog ops Q h1 ks' l { n:=N0,k:=k0,env:=(d0,AV.c (AC.row nn 0 xs.length)) :: e0,h:=h' }):ZZ Tryz.prog ops Q h1 ks ({ dst:=some d0,op:=Op.buildSlice t len parts,type:=ty,pos:=pos,after:=af,guard:=g } :: l) { n:=N0,k:=k0,env:=e0,h:=h0 }:=Dp (hs0:=(p1 q0)) (hT:=tk) (hk':=(p1 (p2 q0))) (ht:=(p1 (p2 (p2 q0)))) (hs:=(p1 (p2 (p2 (p2 q0))))) (hte:=(p1 (p2 (p2 (p2 (p2 q0)))))) (hps:=(p1 (p2 (p2 (p2 (p2 (p2 q0))))))) (hL:=(p1 (p2 (p2 (p2 (p2 (p2 (p2 q0)))))))) (hxs:=(p1 (p2 (p2 (p2 (p2 (p2 (p2 (p2 q0))))))))) (hll:=(p1 (p2 (p2 (p2 (p2 (p2 (p2 (p2 (p2 q0)))))))))) (hsz:=(p1 (p2 (p2 (p2 (p2 (p2 (p2 (p2 (p2 (p2 q0))))))))))) (hb:=(p1 (p2 (p2 (p2 (p2 (p2 (p2 (p2 (p2 (p2 (p2 q0)))))))))))) (hh:=(p1 (p2 (p2 (p2 (p2 (p2 (p2 (p2 (p2 (p2 (p2 (p2 q0))))))))))))) (hg:=(p1 (p2 (p2 (p2 (p2 (p2 (p2 (p2 (p2 (p2 (p2 (p2 (p2 q0)))))))))))))) (hd:=(p2 (p2 (p2 (p2 (p2 (p2 (p2 (p2 (p2 (p2 (p2 (p2 (p2 q0)))))))))))))) (h:=h)
theorem yd {ops:Array Oper} {Q:Exit → St → Prop} {h1:AH} {k:Sk} {ks ks':List Sk} {l:List Oper} {N0 k0:Nat} {e0:List (Nat × AV)} {h0:AH} {o:Oper} {e':List (Nat × AV)} {h':AH} (q0:(stK ks,sx Tb N0 ops h1 k o e0 h0) = ((k,ks'),some (e',h'))) (h:ZZ Tryz.prog ops Q h1 ks' l { n:=N0,k:=k0,env:=e',h:=h' }):ZZ Tryz.prog ops Q h1 ks (o :: l) { n:=N0,k:=k0,env:=e0,h:=h0 }:=zd (hs0:=(p1 q0)) (hT:=tk) (hx:=(p2 q0)) (h:=h)
theorem ai {ops:Array Oper} {Q:Exit → St → Prop} {h1:AH} {k:Sk} {ks ks':List Sk} {l:List Oper} {N0 k0 d0:Nat} {e0:List (Nat × AV)} {h0:AH} {ty:TypeId} {pos:String} {af:Array Edge} {g:Option (Nat × Bool)} {p:Prop} {hdp:Decidable p} {o:BinOp} {xT yT:TypeId} {x y:Operand} (q0:(stK ks,aP Tb e0 (Op.binOp o xT x y yT),gd ops { dst:=some d0,op:=Op.binOp o xT x y yT,type:=ty,pos:=pos,after:=af,guard:=g } e0,d0.blt N0) = ((k,ks'),some (B (decide p)),some true,true)) (ht:p → ZZ Tryz.prog ops Q h1 ks' l { n:=N0,k:=k0,env:=(d0,B true) :: e0,h:=h0 }) (hf:¬p → ZZ Tryz.prog ops Q h1 ks' l { n:=N0,k:=k0,env:=(d0,B false) :: e0,h:=h0 }):ZZ Tryz.prog ops Q h1 ks ({ dst:=some d0,op:=Op.binOp o xT x y yT,type:=ty,pos:=pos,after:=af,guard:=g } :: l) { n:=N0,k:=k0,env:=e0,h:=h0 }:=Dm (hs0:=(p1 q0)) (hT:=tk) (hv:=(p1 (p2 q0))) (hg:=(p1 (p2 (p2 q0)))) (hd:=(p2 (p2 (p2 q0)))) (ht:=ht) (hf:=hf)
theorem yeq {ops:Array Oper} {Q:Exit → St → Prop} {h1:AH} {k:Sk} {ks ks':List Sk} {l:List Oper} {N0 k0 d0:Nat} {e0:List (Nat × AV)} {h0:AH} {ty:TypeId} {pos:String} {af:Array Edge} {g:Option (Nat × Bool)} {kk:IntKind} {a b:Int} {xT yT:TypeId} {x y:Operand} (q0:(stK ks,ev e0 x,ev e0 y,gd ops { dst:=some d0,op:=Op.binOp BinOp.eql xT x y yT,type:=ty,pos:=pos,after:=af,guard:=g } e0,d0.blt N0) = ((k,ks'),some (AV.c (AC.sc (Value.int kk a))),some (AV.c (AC.sc (Value.int kk b))),some true,true)) (ht:a = b → ZZ Tryz.prog ops Q h1 ks' l { n:=N0,k:=k0,env:=(d0,B true) :: e0,h:=h0 }) (hf:¬a = b → ZZ Tryz.prog ops Q h1 ks' l { n:=N0,k:=k0,env:=(d0,B false) :: e0,h:=h0 }):ZZ Tryz.prog ops Q h1 ks ({ dst:=some d0,op:=Op.binOp BinOp.eql xT x y yT,type:=ty,pos:=pos,after:=af,guard:=g } :: l) { n:=N0,k:=k0,env:=e0,h:=h0 }:=zeq (hs0:=(p1 q0)) (hT:=tk) (hx:=(p1 (p2 q0))) (hy:=(p1 (p2 (p2 q0)))) (hg:=(p1 (p2 (p2 (p2 q0))))) (hd:=(p2 (p2 (p2 (p2 q0))))) (ht:=ht) (hf:=hf)
theorem ycw {ops:Array Oper} {Q:Exit → St → Prop} {h1:AH} {ks ks':List Sk} {l:List Oper} {N0 k0 d0:Nat} {e0:List (Nat × AV)} {h0:AH} {ty:TypeId} {pos:String} {af:Array Edge} {g:Option (Nat × Bool)} {fo:Operand} {«as»:Array Operand} {ts:Array TypeId} {f:FuncId} {caps:List (Nat × Nat × Nat)} {vals args:List AV} {hs hs2 hv h':AH} {X X':AV} {m:List Nat} (fl:List Bool) (q0:(stK ks,ev e0 fo,evs e0 «as».toList,fL (jK h0 (vals ++ List.map bK caps)),jX m (vals ++ List.map bK caps),jY fl m h0,fH (vwH m hs h0),List.map (AV.ren (mf m (List.length h0))) args,cx (mf m (List.length h0)) hs,dr hs m (List.length h0)) = ((Sk.l,ks'),some (AV.c (AC.fn f caps)),some vals,some m,some args,some hs,some hv,vals ++ List.map bK caps,cm hs (bP m hv),true)) (hc:FC Tryz.prog f args hs X hs2) (q1:(fV (AV.ren (mf m (List.length h0)) X),fH (dj (mf m (List.length h0)) m hs hs2 hv),gd ops { dst:=some d0,op:=Op.call { callee:=Callee.value fo,args:=«as»,argTypes:=ts },type:=ty,pos:=pos,after:=af,guard:=g } e0,d0.blt N0) = (some X',some h',some true,true)) (h:ZZ Tryz.prog ops Q h1 ks' l { n:=N0,k:=k0,env:=(d0,X') :: e0,h:=h' }):ZZ Tryz.prog ops Q h1 ks ({ dst:=some d0,op:=Op.call { callee:=Callee.value fo,args:=«as»,argTypes:=ts },type:=ty,pos:=pos,after:=af,guard:=g } :: l) { n:=N0,k:=k0,env:=e0,h:=h0 }:=zcw fl (hs0:=(p1 q0)) (hf:=(p1 (p2 q0))) (hev:=(p1 (p2 (p2 q0)))) (hm:=(p1 (p2 (p2 (p2 q0))))) (hca:=(p1 (p2 (p2 (p2 (p2 q0)))))) (hch:=(p1 (p2 (p2 (p2 (p2 (p2 q0))))))) (hvw:=(p1 (p2 (p2 (p2 (p2 (p2 (p2 q0)))))))) (hargs:=(p1 (p2 (p2 (p2 (p2 (p2 (p2 (p2 q0))))))))) (hp:=(p1 (p2 (p2 (p2 (p2 (p2 (p2 (p2 (p2 q0)))))))))) (hb:=(p2 (p2 (p2 (p2 (p2 (p2 (p2 (p2 (p2 q0)))))))))) (hc:=hc) (hX':=(p1 q1)) (hh:=(p1 (p2 q1))) (hg:=(p1 (p2 (p2 q1)))) (hd:=(p2 (p2 (p2 q1)))) (h:=h)
theorem yne {ops:Array Oper} {Q:Exit → St → Prop} {h1:AH} {k:Sk} {ks ks':List Sk} {l:List Oper} {N0 k0 d0:Nat} {e0:List (Nat × AV)} {h0:AH} {ty:TypeId} {pos:String} {af:Array Edge} {g:Option (Nat × Bool)} {kk:IntKind} {a b:Int} {xT yT:TypeId} {x y:Operand} (q0:(stK ks,ev e0 x,ev e0 y,gd ops { dst:=some d0,op:=Op.binOp BinOp.neq xT x y yT,type:=ty,pos:=pos,after:=af,guard:=g } e0,d0.blt N0) = ((k,ks'),some (AV.c (AC.sc (Value.int kk a))),some (AV.c (AC.sc (Value.int kk b))),some true,true)) (ht:¬a = b → ZZ Tryz.prog ops Q h1 ks' l { n:=N0,k:=k0,env:=(d0,B true) :: e0,h:=h0 }) (hf:a = b → ZZ Tryz.prog ops Q h1 ks' l { n:=N0,k:=k0,env:=(d0,B false) :: e0,h:=h0 }):ZZ Tryz.prog ops Q h1 ks ({ dst:=some d0,op:=Op.binOp BinOp.neq xT x y yT,type:=ty,pos:=pos,after:=af,guard:=g } :: l) { n:=N0,k:=k0,env:=e0,h:=h0 }:=zne (hs0:=(p1 q0)) (hT:=tk) (hx:=(p1 (p2 q0))) (hy:=(p1 (p2 (p2 q0)))) (hg:=(p1 (p2 (p2 (p2 q0))))) (hd:=(p2 (p2 (p2 (p2 q0))))) (ht:=ht) (hf:=hf)
theorem ysl {ops:Array Oper} {Q:Exit → St → Prop} {h1:AH} {k:Sk} {ks ks':List Sk} {l:List Oper} {N0 k0 d0:Nat} {e0:List (Nat × AV)} {h0:AH} {ty:TypeId} {pos:String} {af:Array Edge} {g:Option (Nat × Bool)} {α:Type} {inst:Enc α} {t e:TypeId} {x:Operand} {lo hi:Option Operand} {o:Nat} {own:Bool} {e' sz:Nat} {xs:List α} {a b:Int} {ti te:TI} {hv h':AH} {nn:Nat} (q0:(stK ks,ev e0 x,tlk t Tb,ti.d,tlk e Tb,h0[o]?,te.size,loV e0 lo 0,loV e0 hi ↑xs.length,nr h0 o (some { own:=false,ty:=e',sz:=sz,el:=El.fl (List.map Enc.enc xs) }),m9 hv (ro e' (sub xs a b)),Enc.sz α,gd ops { dst:=some d0,op:=Op.slice t x lo hi none,type:=ty,pos:=pos,after:=af,guard:=g } e0,d0.blt N0) = ((k,ks'),some (AV.c (AC.row o 0 xs.length)),some ti,TD.slice e,some te,some (some { own:=own,ty:=e',sz:=sz,el:=El.fl (List.map Enc.enc xs) }),sz,some a,some b,some hv,some (nn,h'),sz,some true,true)) (hb:0 ≤ a ∧ a ≤ b ∧ b ≤ ↑xs.length) (h:ZZ Tryz.prog ops Q h1 ks' l { n:=N0,k:=k0,env:=(d0,AV.c (AC.row nn 0 (sub xs a b).length)) :: e0,h:=h' }):ZZ Tryz.prog ops Q h1 ks ({ dst:=some d0,op:=Op.slice t x lo hi none,type:=ty,pos:=pos,after:=af,guard:=g } :: l) { n:=N0,k:=k0,env:=e0,h:=h0 }:=zsl (hs0:=(p1 q0)) (hT:=tk) (hx:=(p1 (p2 q0))) (ht:=(p1 (p2 (p2 q0)))) (hs:=(p1 (p2 (p2 (p2 q0))))) (hte:=(p1 (p2 (p2 (p2 (p2 q0)))))) (ho:=(p1 (p2 (p2 (p2 (p2 (p2 q0))))))) (hsz:=(p1 (p2 (p2 (p2 (p2 (p2 (p2 q0)))))))) (hl:=(p1 (p2 (p2 (p2 (p2 (p2 (p2 (p2 q0))))))))) (hh:=(p1 (p2 (p2 (p2 (p2 (p2 (p2 (p2 (p2 q0)))))))))) (hb:=hb) (hvw:=(p1 (p2 (p2 (p2 (p2 (p2 (p2 (p2 (p2 (p2 q0))))))))))) (hadd:=(p1 (p2 (p2 (p2 (p2 (p2 (p2 (p2 (p2 (p2 (p2 q0)))))))))))) (hse:=(p1 (p2 (p2 (p2 (p2 (p2 (p2 (p2 (p2 (p2 (p2 (p2 q0))))))))))))) (hg:=(p1 (p2 (p2 (p2 (p2 (p2 (p2 (p2 (p2 (p2 (p2 (p2 (p2 q0)))))))))))))) (hd:=(p2 (p2 (p2 (p2 (p2 (p2 (p2 (p2 (p2 (p2 (p2 (p2 (p2 q0)))))))))))))) (h:=h)
theorem ycq {ops:Array Oper} {Q:Exit → St → Prop} {h1:AH} {k:Sk} {ks ks':List Sk} {l:List Oper} {N0 k0 d0:Nat} {e0:List (Nat × AV)} {h0:AH} {ty:TypeId} {pos:String} {af:Array Edge} {g:Option (Nat × Bool)} {fo:Operand} {«as»:Array Operand} {ts:Array TypeId} {f:FuncId} {caps:List (Nat × Nat × Nat)} {vals args:List AV} {hs:AH} {p:Prop} {a b:Int} {m:List Nat} (q0:(stK ks,qk k,ev e0 fo,evs e0 «as».toList,fL (jK h0 (vals ++ List.map bK caps)),jX m (vals ++ List.map bK caps),jY [] m h0,List.map (AV.ren (mf m (List.length h0))) args,cx (mf m (List.length h0)) hs,(dr hs m (List.length h0) && roA hs)) = ((k,ks'),true,some (AV.c (AC.fn f caps)),some vals,some m,some args,some hs,vals ++ List.map bK caps,cm hs (bP m h0),true)) (hc:FC Tryz.prog f args hs (I (pick p a b)) hs) (q1:(gd ops { dst:=some d0,op:=Op.call { callee:=Callee.value fo,args:=«as»,argTypes:=ts },type:=ty,pos:=pos,after:=af,guard:=g } e0,d0.blt N0) = (some true,true)) (ht:p → ZZ Tryz.prog ops Q h1 ks' l { n:=N0,k:=k0,env:=(d0,I a) :: e0,h:=h0 }) (hf':¬p → ZZ Tryz.prog ops Q h1 ks' l { n:=N0,k:=k0,env:=(d0,I b) :: e0,h:=h0 }):ZZ Tryz.prog ops Q h1 ks ({ dst:=some d0,op:=Op.call { callee:=Callee.value fo,args:=«as»,argTypes:=ts },type:=ty,pos:=pos,after:=af,guard:=g } :: l) { n:=N0,k:=k0,env:=e0,h:=h0 }:=zcq (hs0:=(p1 q0)) (hk':=(p1 (p2 q0))) (hf:=(p1 (p2 (p2 q0)))) (hev:=(p1 (p2 (p2 (p2 q0))))) (hm:=(p1 (p2 (p2 (p2 (p2 q0)))))) (hca:=(p1 (p2 (p2 (p2 (p2 (p2 q0))))))) (hch:=(p1 (p2 (p2 (p2 (p2 (p2 (p2 q0)))))))) (hargs:=(p1 (p2 (p2 (p2 (p2 (p2 (p2 (p2 q0))))))))) (hp:=(p1 (p2 (p2 (p2 (p2 (p2 (p2 (p2 (p2 q0)))))))))) (hb:=(p2 (p2 (p2 (p2 (p2 (p2 (p2 (p2 (p2 q0)))))))))) (hc:=hc) (hg:=(p1 q1)) (hd:=(p2 q1)) (ht:=ht) (hf':=hf')
end
section
open Go.RowKit
def inP (x lo hi:Int):Prop:=lo ≤ x ∧ x ≤ hi
theorem bm {x lo hi:Int}:FC Tryz.prog 95 [I x,I lo,I hi] ([]) (B (dB (inP x lo hi))) ([]):=by
 refine ax tk 15 [.tmp 6] Tryz.func95 (by kernel_rfl) rfl rfl rfl rfl rfl rfl rfl ?_
 repeat' (first
| apply yds;rfl
| apply yd;rfl
| intro _
| refine nv ?_
| apply ai;rfl
| fail)
 all_goals first | exact bF [] rfl rfl rfl rfl rfl rfl (by unfold inP;omega) | exact b5 [] rfl rfl rfl rfl rfl rfl (by unfold inP;omega)
theorem aO {x lo hi:Int}:FC Tryz.prog 100 [I x,I lo,I hi] ([]) (B (dB (inP x lo hi))) ([]):=by
 refine ax tk 15 [.tmp 6] Tryz.func100 (by kernel_rfl) rfl rfl rfl rfl rfl rfl rfl ?_
 repeat' (first
| apply yds;rfl
| apply yd;rfl
| intro _
| refine nv ?_
| apply ai;rfl
| fail)
 all_goals first | exact bF [] rfl rfl rfl rfl rfl rfl (by unfold inP;omega) | exact b5 [] rfl rfl rfl rfl rfl rfl (by unfold inP;omega)
def aj (x:Int):Prop:=inP x 1 1000
theorem cQ {x:Int}:FC Tryz.prog 109 [I x] ([]) (B (dB (aj x))) ([]):=by
 refine ax tk 5 [.tmp 2] Tryz.func109 (by kernel_rfl) rfl rfl rfl rfl rfl rfl rfl ?_
 repeat' (first
| apply yd;rfl
| intro _
| refine nv ?_
| apply ycp;rfl;exact bm;rfl
| fail)
 all_goals first | exact bF [] rfl rfl rfl rfl rfl rfl (by assumption) | exact b5 [] rfl rfl rfl rfl rfl rfl (by assumption)
theorem aQ {x:Int}:FC Tryz.prog 99 [I x] ([]) (B (dB (aj x))) ([]):=by
 refine ax tk 5 [.tmp 2] Tryz.func99 (by kernel_rfl) rfl rfl rfl rfl rfl rfl rfl ?_
 repeat' (first
| apply yd;rfl
| intro _
| refine nv ?_
| apply ycp;rfl;exact aO;rfl
| fail)
 all_goals first | exact bF [] rfl rfl rfl rfl rfl rfl (by assumption) | exact b5 [] rfl rfl rfl rfl rfl rfl (by assumption)
def aq (x:Int):Prop:=inP x (-1000000000000000) 1000000000000000
theorem dU {x:Int}:FC Tryz.prog 97 [I x] ([]) (B (dB (aq x))) ([]):=by
 refine ax tk 5 [.tmp 2] Tryz.func97 (by kernel_rfl) rfl rfl rfl rfl rfl rfl rfl ?_
 repeat' (first
| apply yd;rfl
| intro _
| refine nv ?_
| apply ycp;rfl;exact bm;rfl
| fail)
 all_goals first | exact bF [] rfl rfl rfl rfl rfl rfl (by assumption) | exact b5 [] rfl rfl rfl rfl rfl rfl (by assumption)
theorem bL {x:Int}:FC Tryz.prog 103 [I x] ([]) (B (dB (aq x))) ([]):=by
 refine ax tk 5 [.tmp 2] Tryz.func103 (by kernel_rfl) rfl rfl rfl rfl rfl rfl rfl ?_
 repeat' (first
| apply yd;rfl
| intro _
| refine nv ?_
| apply ycp;rfl;exact aO;rfl
| fail)
 all_goals first | exact bF [] rfl rfl rfl rfl rfl rfl (by assumption) | exact b5 [] rfl rfl rfl rfl rfl rfl (by assumption)
theorem aJ {x lo:Int}:FC Tryz.prog 140 [I x,I lo] ([]) (B (dB (inP x lo 1000000000000000))) ([]):=by
 refine ax tk 8 [.tmp 4] Tryz.func140 (by kernel_rfl) rfl rfl rfl rfl rfl rfl rfl ?_
 repeat' (first
| apply yds;rfl
| apply yd;rfl
| intro _
| refine nv ?_
| apply ycp;rfl;exact aO;rfl
| fail)
 all_goals first | exact bF [] rfl rfl rfl rfl rfl rfl (by assumption) | exact b5 [] rfl rfl rfl rfl rfl rfl (by assumption)
def bef (a b c d:Int):Prop:=a < c ∨ a = c ∧ b < d
noncomputable def dO (a b c d:Int):Int:=pick (bef a b c d) (-1) (pick (a = c ∧ b = d) 0 1)
theorem byBoth_lt {a b c d:Int}:dO a b c d < 0 ↔ bef a b c d:=by
 unfold dO
 by_cases h:bef a b c d
 ·rw [aK h];simp [h]
 ·rw [aC h]
  by_cases h2:a = c ∧ b = d
  ·rw [aK h2];simp [h]
  ·rw [aC h2];simp [h]
theorem kj {a b c d:Int}:FC Tryz.prog 227 [I a,I b,I c,I d] ([]) (I (dO a b c d)) ([]):=by
 refine ax tk 32 [.tmp 8] Tryz.func227 (by kernel_rfl) rfl rfl rfl rfl rfl rfl rfl ?_
 repeat' (first
| apply yds;rfl
| apply yd;rfl
| intro _
| refine nv ?_
| apply wct rfl
| apply wcf rfl
| apply ai;rfl
| fail)
 all_goals exact du [] rfl rfl rfl rfl rfl rfl (by
  unfold dO
  first
  | exact aK (by unfold bef;omega)
  | (rw [aC (by unfold bef;omega)];first | exact aK (by omega) | exact aC (by omega)))
theorem iP {a b c d:Int}:FC Tryz.prog 263 [I a,I b,I c,I d] ([]) (B (dB (bef a b c d))) ([]):=by
 refine ax tk 22 [.tmp 8] Tryz.func263 (by kernel_rfl) rfl rfl rfl rfl rfl rfl rfl ?_
 repeat' (first
| apply yds;rfl
| apply yd;rfl
| intro _
| refine nv ?_
| apply ai;rfl
| fail)
 all_goals first | exact bF [] rfl rfl rfl rfl rfl rfl (by unfold bef;omega) | exact b5 [] rfl rfl rfl rfl rfl rfl (by unfold bef;omega)
def v6 (l:List Account) (i:Int):Prop:=aj (rd l i).No ∧ inP (rd l i).Kind 1 4 ∧ (0 < i → (rd l (i - 1)).No < (rd l i).No)
def aU (l:List Account):Prop:=(∀ i:Int,0 ≤ i → i < l.length → v6 l i) ∧ l.length ≤ 20
theorem nT {l:List Account}:FC Tryz.prog 145 [.c (.row 0 0 l.length)] ([ro 42 l]) (B (dB (aU l))) ([ro 42 l]):=by
 refine ax tk 41 [.tmp 2] Tryz.func145 (by kernel_rfl) rfl rfl rfl rfl rfl rfl rfl ?_
 refine bX l 0 rfl (fun hl => ?_)
 repeat' (first
| apply yds;rfl
| apply yd;rfl
| refine nv ?_
| fail)
 all_goals skip
 refine wlp (X:=Int) [0,5,6] [0] (fun i => [(7,I i)]) (fun _ => []) (fun i => 0 ≤ i ∧ i ≤ l.length ∧ ∀ j,0 ≤ j → j < i → v6 l j) (fun i => (l.length - i).toNat) 0 ⟨by omega,by omega,fun j h0 h1 => by omega⟩ rfl rfl (fun _ => rfl) (fun _ => rfl) ⟨rfl,rfl,rfl,rfl,rfl,rfl,rfl,rfl⟩ (fun i hi => ?_)
 obtain ⟨h0,hi,hall⟩:=hi
 repeat' (first
| apply yds;rfl
| apply yd;rfl
| intro _
| refine nv ?_
| apply wct rfl
| apply wcf rfl
| apply ah rfl
| apply ai;rfl
| apply yar;rfl;omega
| apply yix;rfl;omega
| apply yle;rfl;omega
| refine zdq (id:=4) rfl (by kernel_rfl) [(.p,0),(.t,1),(.o,2),(.p,3),(.p,4),(.p,5),(.t,6),(.o,7),(.p,8),(.p,9),(.p,10),(.p,11),(.p,12),(.p,13),(.p,14),(.p,15),(.p,16),(.p,17),(.p,18),(.p,20),(.t,19),(.t,21),(.p,22),(.p,23),(.p,24)] [] (by kernel_rfl) rfl ?_
| apply ycp;rfl;(first | exact cQ | exact bm);rfl
| fail)
 all_goals first
  | exact bF [0] rfl rfl rfl rfl rfl rfl ⟨fun j h0 h1 => hall j h0 (by omega),by omega⟩
  | exact b5 [0] rfl rfl rfl rfl rfl rfl (fun h => by
     first
     | exact absurd h.2 (by omega)
     | (obtain ⟨g0,g1,g2⟩:=h.1 i (by omega) (by omega)
        first | contradiction | omega))
  | exact aB (i + 1) [0] ⟨rfl,rfl,rfl,rfl,rfl,rfl,rfl,rfl⟩ ⟨by omega,by omega,aD hall ⟨by first | assumption | omega,by first | assumption | omega,fun _ => by first | assumption | omega | exact byBoth_lt.1 (by omega)⟩⟩ (by first | omega | (dsimp only;omega))
theorem co {l:List Account}:FC Tryz.prog 219 [.c (.row 0 0 l.length)] ([ro 42 l]) (B (dB (aU l))) ([ro 42 l]):=by
 refine ax tk 47 [.tmp 2] Tryz.func219 (by kernel_rfl) rfl rfl rfl rfl rfl rfl rfl ?_
 refine bX l 0 rfl (fun hl => ?_)
 repeat' (first
| apply yds;rfl
| apply yd;rfl
| intro _
| refine nv ?_
| apply wct rfl
| apply wcf rfl
| apply ai;rfl
| fail)
 all_goals first | exact b5 [0] rfl rfl rfl rfl rfl rfl (fun h => absurd h.2 (by omega)) | skip
 refine wlp (X:=Int) [0] [0] (fun i => [(3,I i)]) (fun _ => []) (fun i => 0 ≤ i ∧ i ≤ l.length ∧ ∀ j,0 ≤ j → j < i → v6 l j) (fun i => (l.length - i).toNat) 0 ⟨by omega,by omega,fun j h0 h1 => by omega⟩ rfl rfl (fun _ => rfl) (fun _ => rfl) ⟨rfl,rfl,rfl,rfl,rfl,rfl,rfl,rfl⟩ (fun i hi => ?_)
 obtain ⟨h0,hi,hall⟩:=hi
 repeat' (first
| apply yds;rfl
| apply yd;rfl
| intro _
| refine nv ?_
| apply wct rfl
| apply wcf rfl
| apply ah rfl
| apply ai;rfl
| apply yar;rfl;omega
| apply yix;rfl;omega
| apply yle;rfl;omega
| refine zdq (id:=6) rfl (by kernel_rfl) [(.p,0),(.p,1),(.p,2),(.p,3),(.t,4),(.o,5),(.p,6),(.p,7),(.p,8),(.p,9),(.p,10),(.p,11),(.t,12),(.o,13),(.p,14),(.p,15),(.p,16),(.p,17),(.p,18),(.p,19),(.p,20),(.p,21),(.p,22),(.p,23),(.p,24),(.p,26),(.p,27),(.p,28),(.p,29),(.t,25),(.t,30),(.p,31),(.p,32),(.p,33)] [] (by kernel_rfl) rfl ?_
| apply ycp;rfl;(first | exact aQ | exact aO);rfl
| fail)
 all_goals first
  | exact bF [0] rfl rfl rfl rfl rfl rfl ⟨fun j h0 h1 => hall j h0 (by omega),by omega⟩
  | exact b5 [0] rfl rfl rfl rfl rfl rfl (fun h => by
     first
     | exact absurd h.2 (by omega)
     | (obtain ⟨g0,g1,g2⟩:=h.1 i (by omega) (by omega)
        first | contradiction | omega))
  | exact aB (i + 1) [0] ⟨rfl,rfl,rfl,rfl,rfl,rfl,rfl,rfl⟩ ⟨by omega,by omega,aD hall ⟨by first | assumption | omega,by first | assumption | omega,fun _ => by first | assumption | omega | exact byBoth_lt.1 (by omega)⟩⟩ (by first | omega | (dsimp only;omega))
def vv (l:List Instr) (i:Int):Prop:=aj (rd l i).No ∧ inP (rd l i).Kind 1 2 ∧ (0 < i → (rd l (i - 1)).No < (rd l i).No)
def bH (l:List Instr):Prop:=(∀ i:Int,0 ≤ i → i < l.length → vv l i) ∧ l.length ≤ 8
theorem pY {l:List Instr}:FC Tryz.prog 146 [.c (.row 0 0 l.length)] ([ro 74 l]) (B (dB (bH l))) ([ro 74 l]):=by
 refine ax tk 41 [.tmp 2] Tryz.func146 (by kernel_rfl) rfl rfl rfl rfl rfl rfl rfl ?_
 refine bX l 0 rfl (fun hl => ?_)
 repeat' (first
| apply yds;rfl
| apply yd;rfl
| refine nv ?_
| fail)
 all_goals skip
 refine wlp (X:=Int) [0,5,6] [0] (fun i => [(7,I i)]) (fun _ => []) (fun i => 0 ≤ i ∧ i ≤ l.length ∧ ∀ j,0 ≤ j → j < i → vv l j) (fun i => (l.length - i).toNat) 0 ⟨by omega,by omega,fun j h0 h1 => by omega⟩ rfl rfl (fun _ => rfl) (fun _ => rfl) ⟨rfl,rfl,rfl,rfl,rfl,rfl,rfl,rfl⟩ (fun i hi => ?_)
 obtain ⟨h0,hi,hall⟩:=hi
 repeat' (first
| apply yds;rfl
| apply yd;rfl
| intro _
| refine nv ?_
| apply wct rfl
| apply wcf rfl
| apply ah rfl
| apply ai;rfl
| apply yar;rfl;omega
| apply yix;rfl;omega
| apply yle;rfl;omega
| refine zdq (id:=4) rfl (by kernel_rfl) [(.p,0),(.t,1),(.o,2),(.p,3),(.p,4),(.p,5),(.t,6),(.o,7),(.p,8),(.p,9),(.p,10),(.p,11),(.p,12),(.p,13),(.p,14),(.p,15),(.p,16),(.p,17),(.p,18),(.p,20),(.t,19),(.t,21),(.p,22),(.p,23),(.p,24)] [] (by kernel_rfl) rfl ?_
| apply ycp;rfl;(first | exact cQ | exact bm);rfl
| fail)
 all_goals first
  | exact bF [0] rfl rfl rfl rfl rfl rfl ⟨fun j h0 h1 => hall j h0 (by omega),by omega⟩
  | exact b5 [0] rfl rfl rfl rfl rfl rfl (fun h => by
     first
     | exact absurd h.2 (by omega)
     | (obtain ⟨g0,g1,g2⟩:=h.1 i (by omega) (by omega)
        first | contradiction | omega))
  | exact aB (i + 1) [0] ⟨rfl,rfl,rfl,rfl,rfl,rfl,rfl,rfl⟩ ⟨by omega,by omega,aD hall ⟨by first | assumption | omega,by first | assumption | omega,fun _ => by first | assumption | omega | exact byBoth_lt.1 (by omega)⟩⟩ (by first | omega | (dsimp only;omega))
theorem cW {l:List Instr}:FC Tryz.prog 173 [.c (.row 0 0 l.length)] ([ro 74 l]) (B (dB (bH l))) ([ro 74 l]):=by
 refine ax tk 47 [.tmp 2] Tryz.func173 (by kernel_rfl) rfl rfl rfl rfl rfl rfl rfl ?_
 refine bX l 0 rfl (fun hl => ?_)
 repeat' (first
| apply yds;rfl
| apply yd;rfl
| intro _
| refine nv ?_
| apply wct rfl
| apply wcf rfl
| apply ai;rfl
| fail)
 all_goals first | exact b5 [0] rfl rfl rfl rfl rfl rfl (fun h => absurd h.2 (by omega)) | skip
 refine wlp (X:=Int) [0] [0] (fun i => [(3,I i)]) (fun _ => []) (fun i => 0 ≤ i ∧ i ≤ l.length ∧ ∀ j,0 ≤ j → j < i → vv l j) (fun i => (l.length - i).toNat) 0 ⟨by omega,by omega,fun j h0 h1 => by omega⟩ rfl rfl (fun _ => rfl) (fun _ => rfl) ⟨rfl,rfl,rfl,rfl,rfl,rfl,rfl,rfl⟩ (fun i hi => ?_)
 obtain ⟨h0,hi,hall⟩:=hi
 repeat' (first
| apply yds;rfl
| apply yd;rfl
| intro _
| refine nv ?_
| apply wct rfl
| apply wcf rfl
| apply ah rfl
| apply ai;rfl
| apply yar;rfl;omega
| apply yix;rfl;omega
| apply yle;rfl;omega
| refine zdq (id:=6) rfl (by kernel_rfl) [(.p,0),(.p,1),(.p,2),(.p,3),(.t,4),(.o,5),(.p,6),(.p,7),(.p,8),(.p,9),(.p,10),(.p,11),(.t,12),(.o,13),(.p,14),(.p,15),(.p,16),(.p,17),(.p,18),(.p,19),(.p,20),(.p,21),(.p,22),(.p,23),(.p,24),(.p,26),(.p,27),(.p,28),(.p,29),(.t,25),(.t,30),(.p,31),(.p,32),(.p,33)] [] (by kernel_rfl) rfl ?_
| apply ycp;rfl;(first | exact aQ | exact aO);rfl
| fail)
 all_goals first
  | exact bF [0] rfl rfl rfl rfl rfl rfl ⟨fun j h0 h1 => hall j h0 (by omega),by omega⟩
  | exact b5 [0] rfl rfl rfl rfl rfl rfl (fun h => by
     first
     | exact absurd h.2 (by omega)
     | (obtain ⟨g0,g1,g2⟩:=h.1 i (by omega) (by omega)
        first | contradiction | omega))
  | exact aB (i + 1) [0] ⟨rfl,rfl,rfl,rfl,rfl,rfl,rfl,rfl⟩ ⟨by omega,by omega,aD hall ⟨by first | assumption | omega,by first | assumption | omega,fun _ => by first | assumption | omega | exact byBoth_lt.1 (by omega)⟩⟩ (by first | omega | (dsimp only;omega))
def xj (l:List Bal) (i:Int):Prop:=aj (rd l i).Account ∧ aj (rd l i).Instr ∧ aq (rd l i).Amount ∧ (rd l i).Amount ≠ 0 ∧ (0 < i → bef (rd l (i - 1)).Account (rd l (i - 1)).Instr (rd l i).Account (rd l i).Instr)
def BalsOk (l:List Bal):Prop:=(∀ i:Int,0 ≤ i → i < l.length → xj l i) ∧ l.length ≤ 160
theorem fT {l:List Bal}:FC Tryz.prog 115 [.c (.row 0 0 l.length)] ([ro 135 l]) (B (dB (BalsOk l))) ([ro 135 l]):=by
 refine ax tk 59 [.tmp 2] Tryz.func115 (by kernel_rfl) rfl rfl rfl rfl rfl rfl rfl ?_
 refine bX l 0 rfl (fun hl => ?_)
 repeat' (first
| apply yds;rfl
| apply yd;rfl
| refine nv ?_
| fail)
 all_goals skip
 refine wlp (X:=Int) [0,5,6] [0] (fun i => [(7,I i)]) (fun _ => []) (fun i => 0 ≤ i ∧ i ≤ l.length ∧ ∀ j,0 ≤ j → j < i → xj l j) (fun i => (l.length - i).toNat) 0 ⟨by omega,by omega,fun j h0 h1 => by omega⟩ rfl rfl (fun _ => rfl) (fun _ => rfl) ⟨rfl,rfl,rfl,rfl,rfl,rfl,rfl,rfl⟩ (fun i hi => ?_)
 obtain ⟨h0,hi,hall⟩:=hi
 repeat' (first
| apply yds;rfl
| apply yd;rfl
| intro _
| refine nv ?_
| apply wct rfl
| apply wcf rfl
| apply ah rfl
| apply ai;rfl
| apply yar;rfl;omega
| apply yix;rfl;omega
| apply yle;rfl;omega
| refine zdq (id:=6) rfl (by kernel_rfl) [(.p,0),(.p,1),(.p,2),(.p,3),(.p,4),(.p,5),(.p,6),(.p,7),(.p,9),(.p,10),(.p,11),(.p,12),(.p,13),(.p,15),(.p,17),(.t,8),(.t,14),(.t,16),(.t,18),(.o,19),(.p,20),(.p,21)] [] (by kernel_rfl) rfl ?_
| apply ycp;rfl;(first | exact cQ | exact dU);rfl
| apply yc;rfl;exact kj;rfl;exact fun _ => rfl
| fail)
 all_goals first
  | exact bF [0] rfl rfl rfl rfl rfl rfl ⟨fun j h0 h1 => hall j h0 (by omega),by omega⟩
  | exact b5 [0] rfl rfl rfl rfl rfl rfl (fun h => by
     first
     | exact absurd h.2 (by omega)
     | (obtain ⟨g0,g1,g2,g3,g4⟩:=h.1 i (by omega) (by omega)
        first | contradiction | (have:=g4 (by omega);(have:=byBoth_lt.2 this;omega))))
  | exact aB (i + 1) [0] ⟨rfl,rfl,rfl,rfl,rfl,rfl,rfl,rfl⟩ ⟨by omega,by omega,aD hall ⟨by first | assumption | omega,by first | assumption | omega,by first | assumption | omega,by first | assumption | omega,fun _ => by first | assumption | omega | exact byBoth_lt.1 (by omega)⟩⟩ (by first | omega | (dsimp only;omega))
theorem da {l:List Bal}:FC Tryz.prog 174 [.c (.row 0 0 l.length)] ([ro 135 l]) (B (dB (BalsOk l))) ([ro 135 l]):=by
 refine ax tk 63 [.tmp 2] Tryz.func174 (by kernel_rfl) rfl rfl rfl rfl rfl rfl rfl ?_
 refine bX l 0 rfl (fun hl => ?_)
 repeat' (first
| apply yds;rfl
| apply yd;rfl
| intro _
| refine nv ?_
| apply wct rfl
| apply wcf rfl
| apply ai;rfl
| fail)
 all_goals first | exact b5 [0] rfl rfl rfl rfl rfl rfl (fun h => absurd h.2 (by omega)) | skip
 refine wlp (X:=Int) [0] [0] (fun i => [(3,I i)]) (fun _ => []) (fun i => 0 ≤ i ∧ i ≤ l.length ∧ ∀ j,0 ≤ j → j < i → xj l j) (fun i => (l.length - i).toNat) 0 ⟨by omega,by omega,fun j h0 h1 => by omega⟩ rfl rfl (fun _ => rfl) (fun _ => rfl) ⟨rfl,rfl,rfl,rfl,rfl,rfl,rfl,rfl⟩ (fun i hi => ?_)
 obtain ⟨h0,hi,hall⟩:=hi
 repeat' (first
| apply yds;rfl
| apply yd;rfl
| intro _
| refine nv ?_
| apply wct rfl
| apply wcf rfl
| apply ah rfl
| apply ai;rfl
| apply yar;rfl;omega
| apply yix;rfl;omega
| apply yle;rfl;omega
| refine zdq (id:=7) rfl (by kernel_rfl) [(.p,0),(.t,1),(.o,2),(.p,3),(.p,4),(.p,5),(.t,6),(.o,7),(.p,8),(.p,9),(.p,10),(.p,11),(.t,12),(.o,13),(.p,14),(.p,15),(.p,16),(.p,17),(.t,18),(.p,19),(.p,20),(.p,21),(.p,22),(.p,23),(.p,24),(.p,25),(.p,26),(.p,27),(.p,28),(.p,29),(.p,31),(.p,32),(.p,33),(.p,34),(.p,35),(.p,37),(.p,39),(.t,30),(.t,36),(.t,38),(.t,40),(.o,41),(.p,42),(.p,43),(.p,44)] [] (by kernel_rfl) rfl ?_
| apply ycp;rfl;(first | exact aQ | exact bL | exact iP);rfl
| fail)
 all_goals first
  | exact bF [0] rfl rfl rfl rfl rfl rfl ⟨fun j h0 h1 => hall j h0 (by omega),by omega⟩
  | exact b5 [0] rfl rfl rfl rfl rfl rfl (fun h => by
     first
     | exact absurd h.2 (by omega)
     | (obtain ⟨g0,g1,g2,g3,g4⟩:=h.1 i (by omega) (by omega)
        first | contradiction | (have:=g4 (by omega);contradiction)))
  | exact aB (i + 1) [0] ⟨rfl,rfl,rfl,rfl,rfl,rfl,rfl,rfl⟩ ⟨by omega,by omega,aD hall ⟨by first | assumption | omega,by first | assumption | omega,by first | assumption | omega,by first | assumption | omega,fun _ => by first | assumption | omega | exact byBoth_lt.1 (by omega)⟩⟩ (by first | omega | (dsimp only;omega))
def rY (l:List Trade) (i:Int):Prop:=aj (rd l i).No ∧ aj (rd l i).Buyer ∧ aj (rd l i).Seller ∧ aj (rd l i).Paper ∧ aj (rd l i).Cash ∧ (rd l i).Buyer ≠ (rd l i).Seller ∧ inP (rd l i).Qty 1 1000000000000000 ∧ inP (rd l i).Price 0 1000000000000000 ∧ inP (rd l i).State 1 3 ∧ (0 < i → (rd l (i - 1)).No < (rd l i).No)
def dS (l:List Trade):Prop:=(∀ i:Int,0 ≤ i → i < l.length → rY l i) ∧ l.length ≤ 30
theorem q8 {l:List Trade}:FC Tryz.prog 148 [.c (.row 0 0 l.length)] ([ro 103 l]) (B (dB (dS l))) ([ro 103 l]):=by
 refine ax tk 82 [.tmp 2] Tryz.func148 (by kernel_rfl) rfl rfl rfl rfl rfl rfl rfl ?_
 refine bX l 0 rfl (fun hl => ?_)
 repeat' (first
| apply yds;rfl
| apply yd;rfl
| refine nv ?_
| fail)
 all_goals skip
 refine wlp (X:=Int) [0,5,6] [0] (fun i => [(7,I i)]) (fun _ => []) (fun i => 0 ≤ i ∧ i ≤ l.length ∧ ∀ j,0 ≤ j → j < i → rY l j) (fun i => (l.length - i).toNat) 0 ⟨by omega,by omega,fun j h0 h1 => by omega⟩ rfl rfl (fun _ => rfl) (fun _ => rfl) ⟨rfl,rfl,rfl,rfl,rfl,rfl,rfl,rfl⟩ (fun i hi => ?_)
 obtain ⟨h0,hi,hall⟩:=hi
 repeat' (first
| apply yds;rfl
| apply yd;rfl
| intro _
| refine nv ?_
| apply wct rfl
| apply wcf rfl
| apply ah rfl
| apply ai;rfl
| apply yar;rfl;omega
| apply yix;rfl;omega
| apply yle;rfl;omega
| refine zdq (id:=6) rfl (by kernel_rfl) [(.p,0),(.t,1),(.o,2),(.p,3),(.p,4),(.p,5),(.t,6),(.o,7),(.p,8),(.p,9),(.p,10),(.p,11),(.t,12),(.o,13),(.p,14),(.p,15),(.p,16),(.p,17),(.p,18),(.p,19),(.p,20),(.p,21),(.p,22),(.p,23),(.p,24),(.p,26),(.t,25),(.t,27),(.p,28),(.p,29),(.p,30)] [] (by kernel_rfl) rfl ?_
| apply ycp;rfl;(first | exact cQ | exact bm);rfl
| fail)
 all_goals first
  | exact bF [0] rfl rfl rfl rfl rfl rfl ⟨fun j h0 h1 => hall j h0 (by omega),by omega⟩
  | exact b5 [0] rfl rfl rfl rfl rfl rfl (fun h => by
     first
     | exact absurd h.2 (by omega)
     | (obtain ⟨g0,g1,g2,g3,g4,g5,g6,g7,g8,g9⟩:=h.1 i (by omega) (by omega)
        first | contradiction | omega))
  | exact aB (i + 1) [0] ⟨rfl,rfl,rfl,rfl,rfl,rfl,rfl,rfl⟩ ⟨by omega,by omega,aD hall ⟨by first | assumption | omega,by first | assumption | omega,by first | assumption | omega,by first | assumption | omega,by first | assumption | omega,by first | assumption | omega,by first | assumption | omega,by first | assumption | omega,by first | assumption | omega,fun _ => by first | assumption | omega | exact byBoth_lt.1 (by omega)⟩⟩ (by first | omega | (dsimp only;omega))
theorem qn {l:List Trade}:FC Tryz.prog 221 [.c (.row 0 0 l.length)] ([ro 103 l]) (B (dB (dS l))) ([ro 103 l]):=by
 refine ax tk 86 [.tmp 2] Tryz.func221 (by kernel_rfl) rfl rfl rfl rfl rfl rfl rfl ?_
 refine bX l 0 rfl (fun hl => ?_)
 repeat' (first
| apply yds;rfl
| apply yd;rfl
| intro _
| refine nv ?_
| apply wct rfl
| apply wcf rfl
| apply ai;rfl
| fail)
 all_goals first | exact b5 [0] rfl rfl rfl rfl rfl rfl (fun h => absurd h.2 (by omega)) | skip
 refine wlp (X:=Int) [0] [0] (fun i => [(3,I i)]) (fun _ => []) (fun i => 0 ≤ i ∧ i ≤ l.length ∧ ∀ j,0 ≤ j → j < i → rY l j) (fun i => (l.length - i).toNat) 0 ⟨by omega,by omega,fun j h0 h1 => by omega⟩ rfl rfl (fun _ => rfl) (fun _ => rfl) ⟨rfl,rfl,rfl,rfl,rfl,rfl,rfl,rfl⟩ (fun i hi => ?_)
 obtain ⟨h0,hi,hall⟩:=hi
 repeat' (first
| apply yds;rfl
| apply yd;rfl
| intro _
| refine nv ?_
| apply wct rfl
| apply wcf rfl
| apply ah rfl
| apply ai;rfl
| apply yar;rfl;omega
| apply yix;rfl;omega
| apply yle;rfl;omega
| refine zdq (id:=7) rfl (by kernel_rfl) [(.p,0),(.t,1),(.o,2),(.p,3),(.p,4),(.p,5),(.t,6),(.o,7),(.p,8),(.p,9),(.p,10),(.p,11),(.t,12),(.o,13),(.p,14),(.p,15),(.p,16),(.p,17),(.t,18),(.o,19),(.p,20),(.p,21),(.p,22),(.p,23),(.t,24),(.o,25),(.p,26),(.p,27),(.p,28),(.p,29),(.p,31),(.t,30),(.t,32),(.p,33),(.p,34),(.p,35),(.p,36),(.t,37),(.o,38),(.p,39),(.p,40),(.p,41),(.p,42),(.t,43),(.o,44),(.p,45),(.p,46),(.p,47),(.p,48),(.t,49),(.o,50),(.p,51),(.p,52),(.p,53),(.p,54),(.p,55),(.p,56),(.p,57),(.p,58),(.p,59),(.p,60),(.p,61),(.p,63),(.t,62),(.t,64),(.p,65),(.p,66),(.p,67)] [] (by kernel_rfl) rfl ?_
| apply ycp;rfl;(first | exact aQ | exact aJ | exact aO);rfl
| fail)
 all_goals first
  | exact bF [0] rfl rfl rfl rfl rfl rfl ⟨fun j h0 h1 => hall j h0 (by omega),by omega⟩
  | exact b5 [0] rfl rfl rfl rfl rfl rfl (fun h => by
     first
     | exact absurd h.2 (by omega)
     | (obtain ⟨g0,g1,g2,g3,g4,g5,g6,g7,g8,g9⟩:=h.1 i (by omega) (by omega)
        first | contradiction | omega))
  | exact aB (i + 1) [0] ⟨rfl,rfl,rfl,rfl,rfl,rfl,rfl,rfl⟩ ⟨by omega,by omega,aD hall ⟨by first | assumption | omega,by first | assumption | omega,by first | assumption | omega,by first | assumption | omega,by first | assumption | omega,by first | assumption | omega,by first | assumption | omega,by first | assumption | omega,by first | assumption | omega,fun _ => by first | assumption | omega | exact byBoth_lt.1 (by omega)⟩⟩ (by first | omega | (dsimp only;omega))
end
end Go.Proofs.YtgehbhkfehmdkaaGreat.Sh
