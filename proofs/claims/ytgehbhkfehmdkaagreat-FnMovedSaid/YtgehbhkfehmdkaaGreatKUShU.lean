/- Symbolic memory: rows written upon as a whole, how aw a row bears. No condition. -/
import Derived.Test.YtgehbhkfehmdkaaGreatKUShM
import Derived.Laws.CopyRow
import Derived.Lib.AppendZerosOnto
import Derived.Lib.Overlaps
import Derived.Laws.Cover3
set_option linter.unusedVariables false
namespace Go.Proofs.YtgehbhkfehmdkaaGreat.Sh
open Go.RowKit Go.Proofs.YtgehbhkfehmdkaaGreatW
theorem yW {cur:List Value} {xs:List (List Value)} {sz k:Nat} (hF:gv sz xs) (ht:cur.take (xs.length * sz) = xs.flatten) (hk:k ≤ xs.length):cur.take (k * sz) = (xs.take k).flatten:=by
 have h1:k * sz ≤ xs.length * sz:=Nat.mul_le_mul_right _ hk
 have h2:cur.take (k * sz) = (cur.take (xs.length * sz)).take (k * sz):=by rw [List.take_take,Nat.min_eq_left h1]
 have h3:(xs.take k).flatten.length = k * sz:=by rw [cq (fun c hc => (hF c (List.mem_of_mem_take hc)).1),List.length_take,Nat.min_eq_left hk]
 have h4:xs.flatten = (xs.take k).flatten ++ (xs.drop k).flatten:=by rw [← List.flatten_append,List.take_append_drop]
 rw [h2,ht,h4,← h3]
 exact List.take_left
theorem yV {cur:List Value} {xs:List (List Value)} {sz k:Nat} (hF:gv sz xs) (ht:cur.take (xs.length * sz) = xs.flatten):(cur.drop (k * sz)).take ((xs.length - k) * sz) = (xs.drop k).flatten:=by
 rcases Nat.lt_or_ge xs.length k with hk | hk
 ·rw [show xs.drop k = [] from List.drop_eq_nil_of_le (by omega),show xs.length - k = 0 from by omega,Nat.zero_mul]
  simp
 have h3:(xs.take k).flatten.length = k * sz:=by rw [cq (fun c hc => (hF c (List.mem_of_mem_take hc)).1),List.length_take,Nat.min_eq_left hk]
 have h4:xs.flatten = (xs.take k).flatten ++ (xs.drop k).flatten:=by rw [← List.flatten_append,List.take_append_drop]
 have h5:(cur.drop (k * sz)).take ((xs.length - k) * sz) = (cur.take (xs.length * sz)).drop (k * sz):=by
  rw [List.drop_take,Nat.sub_mul]
 rw [h5,ht,h4,← h3]
 exact List.drop_left
theorem kY {cur:List Value} {xs M:List (List Value)} {sz s cap:Nat} (hF:gv sz xs) (hM:gv sz M) (hcur:cur.length = cap * sz) (ht:cur.take (xs.length * sz) = xs.flatten) (hl:xs.length ≤ cap) (hs:s ≤ xs.length) (hfit:s + M.length ≤ cap) :
  (cur.take (s * sz) ++ M.flatten ++ cur.drop (s * sz + M.flatten.length)).length = cap * sz ∧ (xs.take s ++ M ++ xs.drop (s + M.length)).length ≤ cap ∧
  (cur.take (s * sz) ++ M.flatten ++ cur.drop (s * sz + M.flatten.length)).take ((xs.take s ++ M ++ xs.drop (s + M.length)).length * sz) = (xs.take s ++ M ++ xs.drop (s + M.length)).flatten:=by
 have hm:M.flatten.length = M.length * sz:=cq (fun c hc => (hM c hc).1)
 have h1:s * sz + M.length * sz ≤ cap * sz:=by rw [← Nat.add_mul];exact Nat.mul_le_mul_right _ hfit
 have hzl:(xs.take s ++ M ++ xs.drop (s + M.length)).length = s + M.length + (xs.length - (s + M.length)):=by
  simp only [List.length_append,List.length_take,List.length_drop]
  omega
 refine ⟨?_,by rw [hzl];omega,?_⟩
 ·simp only [List.length_append,List.length_take,List.length_drop,hm,hcur]
  omega
 ·have hA:(cur.take (s * sz)).length = s * sz:=by rw [List.length_take,hcur];omega
  have hAB:(cur.take (s * sz) ++ M.flatten).length = (s + M.length) * sz:=by rw [List.length_append,hA,hm,Nat.add_mul]
  rw [hzl,Nat.add_mul,← hAB,List.take_length_add_append,hm,← Nat.add_mul,yV hF ht,yW hF ht hs,List.flatten_append,List.flatten_append]
theorem qS (z:Array Value) (n:Nat):(Builtin.zeroCells z n).toList = (List.replicate n z.toList).flatten:=by
 apply List.ext_getElem?
 intro i
 have hlen:(List.replicate n z.toList).flatten.length = n * z.size:=by simp
 by_cases hi:i < n * z.size
 ·have hpos:0 < z.size:=by
   rcases Nat.eq_zero_or_pos z.size with h | h
   ·rw [h] at hi;omega
   ·exact h
  have hdiv:i / z.size < n:=Nat.div_lt_of_lt_mul (by rw [Nat.mul_comm];exact hi)
  have hmod:i % z.size < z.size:=Nat.mod_lt _ hpos
  have h1:(List.replicate n z.toList)[i / z.size]? = some z.toList:=by simp [hdiv]
  have h2:z.toList[i % z.size]? = some z[i % z.size]:=by simp [hmod]
  have h3:=og (sz:=z.size) (fun c hc => by rw [List.eq_of_mem_replicate hc];simp) h1 h2
  rw [Nat.div_add_mod'] at h3
  rw [h3]
  simp [Builtin.zeroCells,hi,hmod]
 ·rw [List.getElem?_eq_none (by simp [Builtin.zeroCells];omega),List.getElem?_eq_none (by omega)]
theorem rQ {s:Slot} {gb sz:Nat} (h1:s.a = some ⟨gb,0,none⟩) (h2:s.sz = sz) (h3:s.ro = false):s = ⟨some ⟨gb,0,none⟩,s.cap,sz,false⟩:=by
 cases s
 cases h1
 cases h2
 cases h3
 rfl
section
variable {P:Program} {T:TB}
theorem rG {st:St} {oo:Oper} {o e sz:Nat} {xs zs:List (List Value)} {X:AV} (hd:st.fits oo.dst = true) (ho:st.h[o]? = some (some ⟨true,e,sz,.fl xs⟩)) (hz:∀ Γ ρ a w,Rel Γ ρ st a w → gv sz xs → gv sz zs)
  (hrun:∀ Γ ρ a w sl gb cur,Rel Γ ρ st a w → ρ[o]? = some sl → sl = ⟨some ⟨gb,0,none⟩,sl.cap,sz,false⟩ → 0 < sz → xs.length ≤ sl.cap → w.heap[gb]? = some (.cells cur e (0,0)) → cur.size = sl.cap * sz → cur.toList.take (xs.length * sz) = xs.flatten → gv sz xs →
    ∃ v',∃ cur':List Value,(execOp a.eval oo).run P w = .ok (.value v') (w.setRow gb cur'.toArray) ∧ (cur'.length = sl.cap * sz ∧ zs.length ≤ sl.cap ∧ cur'.take (zs.length * sz) = zs.flatten) ∧ X.R ρ v')
  (hnil:∀ Γ ρ a w sl,Rel Γ ρ st a w → ρ[o]? = some sl → sl.ro = false → sl.cap = 0 → xs = [] → zs = [] ∧ ∃ v',(execOp a.eval oo).run P w = .ok (.value v') w ∧ X.R ρ v') :
  OpW P oo st (fun st' => st' = ({ st with h:=st.h.set o (some ⟨true,e,sz,.fl zs⟩) }:St).put oo.dst X):=fun Γ ρ a w hr K' Q' hk => by
 obtain ⟨sl,k1,k2⟩:=hr.holds.obj o _ ho
 obtain ⟨q1,q2⟩:=k2.own rfl
 have hF:=hZ k2
 have hlen:xs.length ≤ sl.cap:=k2.len
 have hsz:sl.sz = sz:=k2.sz
 have holt:o < st.h.length:=(List.getElem?_eq_some_iff.1 ho).1
 rcases q2 with ⟨q2,q3⟩ | ⟨gb,cur,q2,q3,q4⟩
 ·have hx0:xs = []:=List.length_eq_zero_iff.1 (by omega)
  obtain ⟨hz0,v',hv,hX⟩:=hnil Γ ρ a w sl hr k1 q1 q3 hx0
  subst hx0;subst hz0
  unfold Oper.wp
  rw [hv]
  have hset:st.h.set o (some ⟨true,e,sz,.fl []⟩) = st.h:=by
   apply List.ext_getElem?
   intro i
   by_cases hi:o = i
   ·subst hi
    rw [List.getElem?_set_self holt,ho]
   ·rw [List.getElem?_set_ne hi]
  refine hk _ ρ _ w rfl (hr.put _ oo.dst hd X v' (Ext.refl _) (by simp [hr.len]) (by rw [hset];exact hr.holds) hX)
 ·have q3':w.heap[gb]? = some (.cells cur e (0,0)):=q3
  have q4':cur.size = sl.cap * sz:=q4
  have hsl:sl = ⟨some ⟨gb,0,none⟩,sl.cap,sz,false⟩:=rQ q2 hsz q1
  obtain ⟨v',cur',hv,⟨hc,hzl,hzt⟩,hX⟩:=hrun Γ ρ a w sl gb cur hr k1 hsl k2.pos hlen q3' q4' (pn k2 q2 q3' q4') hF
  unfold Oper.wp
  rw [hv]
  have hobj:ObjH ρ sl ⟨true,e,sz,.fl zs⟩ (w.setRow gb cur'.toArray):=by
   have:=ju (ρ:=ρ) (setRow_heap w gb cur cur'.toArray e _ q3') (by simpa using hc) (hz _ _ _ _ hr hF) hzl k2.max k2.pos (by simpa using hzt)
   rwa [← hsl] at this
  have hblk:sl.blk = some gb:=by simp [Slot.blk,q2]
  have hH:Holds Γ ρ (st.h.set o (some ⟨true,e,sz,.fl zs⟩)) (w.setRow gb cur'.toArray):=by
   refine hr.holds.one rfl rfl rfl (by rw [dD];exact Nat.le_refl _) (some gb) (fun k _ hne => setRow_other' _ _ _ _ (fun e => hne (by rw [e]))) (Ext.refl _) o _ sl k1 hobj
    (fun g' hg' => ⟨o,_,sl,ho,rfl,k1,by rw [hblk];exact hg',fun _ _ => rfl⟩) (fun o' ob' ho' hne => by rwa [List.getElem?_set_ne (Ne.symm hne)] at ho') (List.getElem?_set_self holt) (fun g' hg' => .inl (by rw [← hblk];exact hg'))
  exact hk _ ρ _ _ rfl (hr.put _ oo.dst hd X v' (Ext.refl _) (by simp [hr.len]) hH hX)
theorem tU {Γ:Ctx} {ρ:Pl} {h:AH} {w:World} (hH:Holds Γ ρ h w) {o s m:Nat} {own:Bool} {e sz:Nat} {ys:List (List Value)} (ho:h[o]? = some (some ⟨own,e,sz,.fl ys⟩)) (hm:0 < m) {v:Value} (hv:RowR ρ o s m v) :
  ∃ a c,v = .slice (some a) m c ∧ ∀ (j:Nat) (u:Value),(ys.drop s).flatten[j]? = some u → w.cell? (a.add j) = some u:=by
 obtain ⟨sl,k1,k2⟩:=hH.obj o _ ho
 have hF:=hZ k2
 obtain ⟨sl',e1,e2,e3⟩:=hv
 have:sl = sl':=by rw [k1] at e1;exact Option.some.inj e1
 subst this
 rcases e3 with ⟨cc,e3,_⟩ | ⟨e0,_⟩
 ·cases ha:sl.a with
  | none => have:=k2.nil ha;omega
  | some a =>
    rw [ha] at e3
    refine ⟨_,_,e3,fun j u hu => ?_⟩
    obtain ⟨i,r,c,h2,h3,h4⟩:=iV (fun c hc => (hF c (List.mem_of_mem_drop hc)).1) hu
    rw [List.getElem?_drop] at h3
    obtain ⟨_,a',ha',h5⟩:=k2.cell (s + i) (c.map .sc) (by show (ys[s + i]?).map _ = _;rw [h3];rfl)
    rw [ha] at ha'
    cases ha'
    obtain ⟨x,h6,h7⟩:=h5 r (.sc u) (by rw [List.getElem?_map,h4];rfl)
    have h6:w.cell? (a.add ((s + i) * sz + r)) = some x:=h6
    rw [iq,h2,k2.sz,show s * (⟨own,e,sz,.fl ys⟩:AO).sz + (i * sz + r) = (s + i) * sz + r from by show s * sz + _ = _;rw [Nat.add_mul];omega,h6,h7.1]
 ·omega
theorem oA {ρ:Pl} {o s n:Nat} {sl:Slot} {v:Value} {gb cap sz:Nat} (h1:ρ[o]? = some sl) (hs:sl = ⟨some ⟨gb,0,none⟩,cap,sz,false⟩) (hv:RowR ρ o s n v) (hn:0 < n):v = .slice (some ⟨gb,s * sz,none⟩) n (cap - s) ∧ s + n ≤ cap:=by
 obtain ⟨sl',e1,e2,e3⟩:=hv
 rw [h1] at e1
 cases e1
 subst hs
 rcases e3 with ⟨c,e3,_,e4⟩ | ⟨e3,_⟩
 ·refine ⟨?_,e2⟩
  rw [e3,e4 rfl]
  simp [fe]
 ·omega
theorem cR {b:Builtin} {ars:Array Operand} {ts:Array TypeId} {dst:Option Tmp} {ty:TypeId} {pos:String} {af:Array Edge} {g:Option (Nat × Bool)} {a:Act} {w w':World} {v:Value} (h:∀ cc,(builtin b ts ty cc (ars.map a.eval)).run P w = .ok (.value v) w') :
  (execOp a.eval ⟨dst,.call { callee:=.builtin b,args:=ars,argTypes:=ts },ty,pos,af,g⟩).run P w = .ok (.value v) w':=by
 unfold execOp
 simp [resolve,invoke,h]
theorem sI {x y:Operand} {ts:Array TypeId} {dst:Option Tmp} {ty:TypeId} {pos:String} {af:Array Edge} {g:Option (Nat × Bool)} {a:Act} {w w':World} {v:Value} (h:(Builtin.append_ ts ty #[a.eval x,a.eval y]).run P w = .ok v w') :
  (execOp a.eval ⟨dst,.call { callee:=.builtin .append,args:=#[x,y],argTypes:=ts },ty,pos,af,g⟩).run P w = .ok (.value v) w':=cR (fun _ => by simp [builtin,h])
theorem tE (w:World) (dT sT ty elem:TypeId) (g o dLen dCap:Nat) (a:Addr) (sLen sCap sz:Nat) (cur:Array Value) (t:TypeId) (cs:List Value)
  (hu:P.underlying dT = some (.slice elem)) (hs:∀ w,(sizeOf elem).run P w = .ok sz w)
  (hg:w.heap[g]? = some (.cells cur t (0,0))) (hn:cs.length = Nat.min sLen dLen * sz)
  (hsrc:∀ j v,cs[j]? = some v → w.cell? (a.add j) = some v) (hfit:o + cs.length ≤ cur.size) (h1:∀ v ∈ cs,v.oneCell' = true) :
  (Builtin.copy_ #[dT,sT] ty #[.slice (some ⟨g,o,none⟩) dLen dCap,.slice (some a) sLen sCap]).run P w =
    .ok (goInt (Nat.min sLen dLen:Nat)) (w.setRow g (cur.toList.take o ++ cs ++ cur.toList.drop (o + cs.length)).toArray):=by
 have hl:=run_loadCells_list (P:=P) w a cs hsrc
 have hst:=run_storeCells_at P g o t cs 0 cur w hg (by simpa using hfit) h1
 simp [Builtin.copy_,run_underlying hu,Builtin.lenOf,Builtin.firstCells,hs,← hn,hl,hst]
theorem oU {sz:Nat} {L:List (List Value)} (h:gv sz L):∀ v ∈ L.flatten,v.oneCell' = true:=fun v hv => by
 obtain ⟨c,h1,h2⟩:=List.mem_flatten.1 hv
 exact (h c h1).2 v h2
theorem eC {sz:Nat} {L:List (List Value)} (h:gv sz L) {s c:Nat}:gv sz ((L.drop s).take c):=fun d hd => h d (List.mem_of_mem_drop (List.mem_of_mem_take hd))
theorem sU {L:List (List Value)} {c:Nat}:∀ (j:Nat) (u:Value),((L.take c).flatten)[j]? = some u → L.flatten[j]? = some u:=fun j u h => by
 have h4:L.flatten = (L.take c).flatten ++ (L.drop c).flatten:=by rw [← List.flatten_append,List.take_append_drop]
 rw [h4,List.getElem?_append_left (List.getElem?_eq_some_iff.1 h).1]
 exact h
theorem xP {sz:Nat} {xs M:List (List Value)} {s c:Nat} (h:gv sz xs) (hM:gv sz M):gv sz (xs.take s ++ M ++ xs.drop c):=fun d hd => by
 rcases List.mem_append.1 hd with hd | hd
 ·rcases List.mem_append.1 hd with hd | hd
  ·exact h d (List.mem_of_mem_take hd)
  ·exact hM d hd
 ·exact h d (List.mem_of_mem_drop hd)
theorem yz (hT:TOk P T) {st:St} {dst:Option Tmp} {t t' e:TypeId} {x y:Operand} {ty:TypeId} {pos:String} {af:Array Edge} {g:Option (Nat × Bool)} {o s n o2 s2 n2 c:Nat} {own2:Bool} {e2 sz:Nat} {xs ys:List (List Value)} {ti te:TI} (hd:st.fits dst = true)
  (hx:ev st.env x = some (.c (.row o s n))) (hy:ev st.env y = some (.c (.row o2 s2 n2))) (ht:tlk t T = some ti) (hs:ti.d = .slice e) (hte:tlk e T = some te) (hsz:te.size = sz)
  (ho:st.h[o]? = some (some ⟨true,e,sz,.fl xs⟩)) (ho2:st.h[o2]? = some (some ⟨own2,e2,sz,.fl ys⟩)) (hc:Nat.min n2 n = c) (hc0:0 < c) (hsx:s ≤ xs.length) (hsy:s2 + c ≤ ys.length) :
  OpW P ⟨dst,.call { callee:=.builtin .copy,args:=#[x,y],argTypes:=#[t,t'] },ty,pos,af,g⟩ st (fun st' => st' = ({ st with h:=st.h.set o (some ⟨true,e,sz,.fl (xs.take s ++ (ys.drop s2).take c ++ xs.drop (s + ((ys.drop s2).take c).length))⟩) }:St).put dst (.c (.sc (.int .i64 c)))):=by
 have hn0:0 < n:=by have:Nat.min n2 n ≤ n:=Nat.min_le_right n2 n;omega
 have hn20:0 < n2:=by have:Nat.min n2 n ≤ n2:=Nat.min_le_left n2 n;omega
 have hFy:∀ {Γ:Ctx} {ρ:Pl} {a:Act} {w:World},Rel Γ ρ st a w → gv sz ys:=fun hr => by
  obtain ⟨sl2,_,k⟩:=hr.holds.obj o2 _ ho2
  exact hZ k
 have hl:((ys.drop s2).take c).length = c:=by rw [List.length_take,List.length_drop];omega
 have hu:P.underlying t = some (.slice e):=by have:=bO hT ht;rw [hs] at this;exact this
 refine rG hd ho (fun _ _ _ _ hr hF => xP hF (eC (hFy hr))) ?_ ?_
 ·intro Γ ρ a w sl gb cur hr h1 h2 h3 h4 h5 h6 h7 hF
  have hY:=hFy hr
  obtain ⟨ex,hcap⟩:=oA h1 h2 (show RowR ρ o s n (a.eval x) from bq hr.env hx) hn0
  obtain ⟨A,c',ey,hsrc⟩:=tU hr.holds ho2 hn20 (show RowR ρ o2 s2 n2 (a.eval y) from bq hr.env hy)
  have hcc:c ≤ n:=by rw [← hc];exact Nat.min_le_right _ _
  have hfl:((ys.drop s2).take c).flatten.length = c * sz:=by rw [cq (fun d hd => (eC hY d hd).1),hl]
  have hcl:cur.toList.length = sl.cap * sz:=by rw [Array.length_toList];exact h6
  refine ⟨_,_,cR (v:=.int .i64 c) ?_,kY hF (eC hY) hcl h7 h4 hsx (by rw [hl];omega),⟨rfl,rfl⟩⟩
  have:=tE (P:=P) w t t' ty e gb (s * sz) n (sl.cap - s) A n2 c' sz cur e ((ys.drop s2).take c).flatten hu (by intro w;rw [← hsz];exact cN hT hte w) h5 (by rw [hfl,hc])
   (fun j v hj => hsrc j v (sU j v hj)) (by rw [hfl,h6,← Nat.add_mul];exact Nat.mul_le_mul_right _ (by omega)) (oU (eC hY))
  rw [hc] at this
  simp [builtin,ex,ey,this,goInt]
 ·intro Γ ρ a w sl hr h1 h2 h3 h4
  obtain ⟨sl',e1,e2,_⟩:RowR ρ o s n (a.eval x):=bq hr.env hx
  rw [h1] at e1
  cases e1
  omega
theorem yy (hT:TOk P T) {st:St} {dst:Option Tmp} {t e:TypeId} {x y:Operand} {ty:TypeId} {pos:String} {af:Array Edge} {g:Option (Nat × Bool)} {o i j c:Nat} {sz:Nat} {xs:List (List Value)} {ti te:TI} (hd:st.fits dst = true)
  (hx:ev st.env x = some (.c (.row o 0 i))) (hy:ev st.env y = some (.c (.row o j c))) (ht:tlk t T = some ti) (hs:ti.d = .slice e) (hte:tlk e T = some te) (hsz:te.size = sz)
  (ho:st.h[o]? = some (some ⟨true,e,sz,.fl xs⟩)) (hij:i ≤ j) (hjc:j + c ≤ xs.length) :
  OpW P ⟨dst,.call { callee:=.builtin .append,args:=#[x,y],argTypes:=#[t,t] },ty,pos,af,g⟩ st (fun st' => st' = ({ st with h:=st.h.set o (some ⟨true,e,sz,.fl (xs.take i ++ (xs.drop j).take c ++ xs.drop (i + ((xs.drop j).take c).length))⟩) }:St).put dst (.c (.row o 0 (i + c)))):=by
 have hl:((xs.drop j).take c).length = c:=by rw [List.length_take,List.length_drop];omega
 have hu:P.underlying t = some (.slice e):=by have:=bO hT ht;rw [hs] at this;exact this
 obtain ⟨ie,z,i1,i2,i3,i4,i5⟩:=(hT e te hte).info
 refine rG hd ho (fun _ _ _ _ _ hF => xP hF (eC hF)) ?_ ?_
 ·intro Γ ρ a w sl gb cur hr h1 h2 h3 h4 h5 h6 h7 hF
  have hfl:((xs.drop j).take c).flatten.length = c * sz:=by rw [cq (fun d hd => (eC hF d hd).1),hl]
  have hcl:cur.toList.length = sl.cap * sz:=by rw [Array.length_toList];exact h6
  obtain ⟨sl',e1,e2,e3⟩:RowR ρ o 0 i (a.eval x):=bq hr.env hx
  rw [h1] at e1
  cases e1
  have hcap0:¬ sl.cap = 0 ∨ sl.cap = 0:=by omega
  rcases Nat.eq_zero_or_pos c with hc0 | hc0
  ·subst hc0
   have hno:cur.toList.take (i * sz) ++ ((xs.drop j).take 0).flatten ++ cur.toList.drop (i * sz + ((xs.drop j).take 0).flatten.length) = cur.toList:=by simp
   obtain ⟨A,cA,ey⟩:∃ A cA,a.eval y = .slice A 0 cA:=by
    obtain ⟨_,_,_,e6⟩:RowR ρ o j 0 (a.eval y):=bq hr.env hy
    rcases e6 with ⟨cc,e6,_⟩ | ⟨_,_,A,cc,e6,_⟩
    ·exact ⟨_,_,e6⟩
    ·exact ⟨_,_,e6⟩
   obtain ⟨B,cB,ex,hB⟩:∃ B cB,a.eval x = .slice B i cB ∧ i ≤ cB:=by
    rcases e3 with ⟨cc,e6,e7,_⟩ | ⟨rfl,_,A,cc,e6,_⟩
    ·exact ⟨_,_,e6,e7⟩
    ·exact ⟨_,_,e6,Nat.zero_le _⟩
   refine ⟨a.eval x,cur.toList.take (i * sz) ++ ((xs.drop j).take 0).flatten ++ cur.toList.drop (i * sz + ((xs.drop j).take 0).flatten.length),cR ?_,kY hF (eC hF) hcl h7 h4 (by omega) (by rw [hl];omega),?_⟩
   ·rw [hno]
    have hsr:w.setRow gb cur = w:=by exact setRow_self w gb cur e (0,0) h5
    simp only [Array.toArray_toList,hsr]
    have:=oK (P:=P) (ty:=ty) hu i1 B i cB hB A cA w
    simp [builtin,ex,ey,this]
   ·show RowR ρ o 0 (i + 0) (a.eval x)
    rw [Nat.add_zero]
    exact bq hr.env hx
  ·have hci:i + c ≤ sl.cap:=by omega
   have ex:a.eval x = .slice (some ⟨gb,0,none⟩) i sl.cap:=by
    rcases e3 with ⟨cc,e6,_,e7⟩ | ⟨rfl,e8,A,cc,e6,e7⟩
    ·rw [e6,e7 (by rw [h2])]
     rw [h2]
     simp [fe]
    ·exfalso
     rcases e8 with e8 | e8 | e8
     ·omega
     ·rw [h2] at e8;cases e8
     ·omega
   obtain ⟨ey,hey⟩:=oA h1 h2 (show RowR ρ o j c (a.eval y) from bq hr.env hy) hc0
   refine ⟨_,_,cR (v:=.slice (some ⟨gb,0,none⟩) (i + c) sl.cap) ?_,kY hF (eC hF) hcl h7 h4 (by omega) (by rw [hl];omega),?_⟩
   ·obtain ⟨A,c',ey',hsrc⟩:=tU hr.holds ho hc0 (show RowR ρ o j c (a.eval y) from bq hr.env hy)
    have:=run_append_room (P:=P) w t ty e ie hu i1 gb i sl.cap cur h5 A c c' ((xs.drop j).take c).flatten (by rw [hfl,i2,hsz]) (fun j v hj => hsrc j v (sU j v hj)) (oU (eC hF)) hci (by rw [hfl,i2,hsz,h6,← Nat.add_mul];exact Nat.mul_le_mul_right _ hci)
    rw [i2,hsz] at this
    simp [builtin,ex,ey',this]
   ·refine ⟨sl,h1,by omega,.inl ⟨sl.cap,?_,hci,fun _ => rfl⟩⟩
    rw [h2]
    simp [fe]
 ·intro Γ ρ a w sl hr h1 h2 h3 h4
  subst h4
  have hl0:j + c ≤ 0:=hjc
  have hj0:j = 0:=by omega
  have hc0:c = 0:=by omega
  have hi0:i = 0:=by omega
  subst hj0;subst hc0;subst hi0
  refine ⟨by simp,a.eval x,cR ?_,?_⟩
  ·obtain ⟨A,cA,ey⟩:∃ A cA,a.eval y = .slice A 0 cA:=by
    obtain ⟨_,_,_,e6⟩:RowR ρ o 0 0 (a.eval y):=bq hr.env hy
    rcases e6 with ⟨cc,e6,_⟩ | ⟨_,_,A,cc,e6,_⟩
    ·exact ⟨_,_,e6⟩
    ·exact ⟨_,_,e6⟩
   obtain ⟨B,cB,ex⟩:∃ B cB,a.eval x = .slice B 0 cB:=by
    obtain ⟨_,_,_,e6⟩:RowR ρ o 0 0 (a.eval x):=bq hr.env hx
    rcases e6 with ⟨cc,e6,_⟩ | ⟨_,_,A,cc,e6,_⟩
    ·exact ⟨_,_,e6⟩
    ·exact ⟨_,_,e6⟩
   have:=oK (P:=P) (ty:=ty) hu i1 B 0 cB (Nat.zero_le _) A cA w
   simp [builtin,ex,ey,this]
  ·exact bq hr.env hx
theorem wP (hT:TOk P T) {st:St} {dst:Option Tmp} {t e:TypeId} {x:Operand} {ty:TypeId} {pos:String} {af:Array Edge} {g:Option (Nat × Bool)} {o s n:Nat} {sz:Nat} {xs:List (List Value)} {ti te:TI} (hd:st.fits dst = true)
  (hx:ev st.env x = some (.c (.row o s n))) (ht:tlk t T = some ti) (hs:ti.d = .slice e) (hte:tlk e T = some te) (hsz:te.size = sz)
  (ho:st.h[o]? = some (some ⟨true,e,sz,.fl xs⟩)) (hsn:s + n ≤ xs.length) :
  OpW P ⟨dst,.call { callee:=.builtin .clear,args:=#[x],argTypes:=#[t] },ty,pos,af,g⟩ st (fun st' => st' = ({ st with h:=st.h.set o (some ⟨true,e,sz,.fl (xs.take s ++ List.replicate n te.zero ++ xs.drop (s + (List.replicate n te.zero).length))⟩) }:St).put dst (.tup [])):=by
 have hu:P.underlying t = some (.slice e):=by have:=bO hT ht;rw [hs] at this;exact this
 obtain ⟨ie,z,i1,i2,i3,i4,i5⟩:=(hT e te hte).info
 have hM:gv sz (List.replicate n te.zero):=fun c hc => by
  rw [List.eq_of_mem_replicate hc,← hsz]
  exact ⟨(hT e te hte).zl,fun u hu => List.all_eq_true.1 (hT e te hte).one u hu⟩
 refine rG hd ho (fun _ _ _ _ _ hF => xP hF hM) ?_ ?_
 ·intro Γ ρ a w sl gb cur hr h1 h2 h3 h4 h5 h6 h7 hF
  have hcl:cur.toList.length = sl.cap * sz:=by rw [Array.length_toList];exact h6
  refine ⟨.tuple #[],_,cR ?_,kY hF hM hcl h7 h4 (by omega) (by rw [List.length_replicate];omega),⟨#[],rfl,trivial⟩⟩
  rcases Nat.eq_zero_or_pos n with hn0 | hn0
  ·subst hn0
   obtain ⟨A,cA,ey⟩:∃ A cA,a.eval x = .slice A 0 cA:=by
    obtain ⟨_,_,_,e6⟩:RowR ρ o s 0 (a.eval x):=bq hr.env hx
    rcases e6 with ⟨cc,e6,_⟩ | ⟨_,_,A,cc,e6,_⟩
    ·exact ⟨_,_,e6⟩
    ·exact ⟨_,_,e6⟩
   have hsr:w.setRow gb cur = w:=setRow_self w gb cur e (0,0) h5
   cases A <;> simp [builtin,ey,Builtin.clear_,run_underlying hu,hsr]
  ·obtain ⟨ex,hcap⟩:=oA h1 h2 (show RowR ρ o s n (a.eval x) from bq hr.env hx) hn0
   have hzc:(Builtin.zeroCells z.cells n).toList = (List.replicate n te.zero).flatten:=by rw [← i5];exact qS _ _
   have hfl:(List.replicate n te.zero).flatten.length = n * sz:=by rw [cq (fun d hd => (hM d hd).1),List.length_replicate]
   have hst:=run_storeCells_at P gb (s * sz) e (List.replicate n te.zero).flatten 0 cur w h5 (by rw [hfl,h6,Nat.add_zero,← Nat.add_mul];exact Nat.mul_le_mul_right _ (by omega)) (oU hM)
   have hzv:∀ w,(zeroValue e).run P w = .ok z w:=fun w => by simp [zeroValue,typeInfo,i1,i4]
   obtain ⟨n',rfl⟩:∃ n',n = n' + 1:=⟨n - 1,by omega⟩
   simp only [Nat.add_zero] at hst
   simp [builtin,ex,Builtin.clear_,run_underlying hu,hzv,hzc,hst]
 ·intro Γ ρ a w sl hr h1 h2 h3 h4
  subst h4
  have hn0:n = 0:=by have:s + n ≤ 0:=hsn;omega
  subst hn0
  refine ⟨by simp,.tuple #[],cR ?_,⟨#[],rfl,trivial⟩⟩
  obtain ⟨A,cA,ey⟩:∃ A cA,a.eval x = .slice A 0 cA:=by
   obtain ⟨_,_,_,e6⟩:RowR ρ o s 0 (a.eval x):=bq hr.env hx
   rcases e6 with ⟨cc,e6,_⟩ | ⟨_,_,A,cc,e6,_⟩
   ·exact ⟨_,_,e6⟩
   ·exact ⟨_,_,e6⟩
  cases A <;> simp [builtin,ey,Builtin.clear_,run_underlying hu]
theorem wB {st:St} {o t sz:Nat} {xs:List (List Value)} (n:Nat) (ho:st.h[o]? = some (some ⟨true,t,sz,.fl xs⟩)) :
  Ghost st ⟨st.n,st.k,st.env,st.h.set o (some ⟨true,t,sz,.fl (xs.take n)⟩)⟩:=fun Γ ρ a w hr => by
 have holt:o < st.h.length:=(List.getElem?_eq_some_iff.1 ho).1
 have hget:∀ (i:Nat) ob,(st.h.set o (some ⟨true,t,sz,.fl (xs.take n)⟩))[i]? = some (some ob) → ∃ oo,st.h[i]? = some (some oo) ∧ oo.own = ob.own ∧ ∀ sl,ObjH ρ sl oo w → ObjH ρ sl ob w:=fun i ob hi => by
  by_cases e:o = i
  ·subst e
   rw [List.getElem?_set_self holt] at hi
   cases hi
   refine ⟨_,ho,rfl,fun sl h => ⟨h.sz,h.pos,?_,h.max,h.lt,h.nil,fun i cs hi => ?_,h.own⟩⟩
   ·have h1:xs.length ≤ sl.cap:=h.len
    show (xs.take n).length ≤ sl.cap
    rw [List.length_take]
    omega
   ·obtain ⟨d,hd',rfl⟩:=Option.map_eq_some_iff.1 hi
    have hin:i < n:=by have:=(List.getElem?_eq_some_iff.1 hd').1;rw [List.length_take] at this;omega
    rw [List.getElem?_take_of_lt hin] at hd'
    exact h.cell i _ (by show (xs[i]?).map _ = _;rw [hd'];rfl)
  ·rw [List.getElem?_set_ne e] at hi
   exact ⟨ob,hi,rfl,fun _ h => h⟩
 refine ⟨ρ,Ext.refl _,⟨hr.holds.fr,fun i ob hi => ?_,fun i ob sl g hi hown hs hg => ?_,fun i ob sl g hi hs hg => ?_,?_⟩,by simp [hr.len],hr.klen,hr.args,hr.env,hr.defers,hr.size⟩
 ·obtain ⟨oo,h1,h2,h3⟩:=hget i ob hi
  obtain ⟨sl,h4,h5⟩:=hr.holds.obj i oo h1
  exact ⟨sl,h4,h3 sl h5⟩
 ·obtain ⟨oo,h1,h2,h3⟩:=hget i ob hi
  obtain ⟨h4,h5⟩:=hr.holds.sep i oo sl g h1 (h2.trans hown) hs hg
  refine ⟨h4,fun o' ob' sl' ho' hne hs' => ?_⟩
  obtain ⟨oo',k1,_,_⟩:=hget o' ob' ho'
  exact h5 o' oo' sl' k1 hne hs'
 ·obtain ⟨oo,h1,h2,h3⟩:=hget i ob hi
  exact hr.holds.src i oo sl g h1 hs hg
 ·obtain ⟨fz,hF⟩:=hr.holds.dp
  refine ⟨fz,hF.base,hF.lt,hF.src,fun i ob sl g hi hown hs hg => ?_,fun i own ty sz2 ys hi => ?_⟩
  ·obtain ⟨oo,h1,h2,h3⟩:=hget i ob hi
   exact hF.sep i oo sl g h1 (h2.trans hown) hs hg
  ·by_cases e:o = i
   ·subst e
    rw [List.getElem?_set_self holt] at hi
    cases hi
   ·rw [List.getElem?_set_ne e] at hi
    exact hF.deep i own ty sz2 ys hi
theorem Ad (hT:TOk P T) {st:St} {dst:Option Tmp} {t e:TypeId} {x:Operand} {ty:TypeId} {pos:String} {af:Array Edge} {g:Option (Nat × Bool)} {o n sz:Nat} {xs:List (List Value)} {ti:TI} (hd:st.fits dst = true)
  (hx:ev st.env x = some (.c (.row o 0 n))) (ht:tlk t T = some ti) (hs:ti.d = .slice e) (ho:st.h[o]? = some (some ⟨true,e,sz,.fl xs⟩)) :
  OpQ P ⟨dst,.call { callee:=.builtin .cap,args:=#[x],argTypes:=#[t] },ty,pos,af,g⟩ st (fun st' => ∃ c,xs.length ≤ c ∧ n ≤ c ∧ c ≤ 9223372036854775807 ∧ st' = st.put dst (.c (.cp o c))):=fun Γ ρ a w hr K' Q' hk => by
 obtain ⟨sl,k1,k2⟩:=hr.holds.obj o _ ho
 obtain ⟨sl',e1,e2,e3⟩:RowR ρ o 0 n (a.eval x):=bq hr.env hx
 rw [k1] at e1
 cases e1
 have q1:=(k2.own rfl).1
 have hu:P.underlying t = some (.slice e):=by have:=bO hT ht;rw [hs] at this;exact this
 obtain ⟨A,ex⟩:∃ A,a.eval x = .slice A n sl.cap:=by
  rcases e3 with ⟨cc,e6,_,e7⟩ | ⟨_,e8,A,cc,e6,e7⟩
  ·exact ⟨_,by rw [e6,e7 q1];rfl⟩
  ·refine ⟨A,?_⟩
   rcases e8 with e8 | e8 | e8
   ·omega
   ·rw [q1] at e8;cases e8
   ·rw [e6,e7 rfl q1,e8]
    rename_i hn
    rw [hn]
 have hrun:(execOp a.eval ⟨dst,.call { callee:=.builtin .cap,args:=#[x],argTypes:=#[t] },ty,pos,af,g⟩).run P w = .ok (.value (.int .i64 sl.cap)) w:=by
  refine cR ?_
  simp [builtin,ex,Builtin.cap_,cO hu,goInt]
 unfold Oper.wp
 rw [hrun]
 exact hk _ ρ _ w ⟨sl.cap,k2.len,by omega,k2.max,rfl⟩ (hr.put st.h dst hd (.c (.cp o sl.cap)) _ (Ext.refl _) hr.len hr.holds ⟨sl,k1,rfl,rfl⟩) (Ext.refl _) (Same.refl w)
theorem Aa {o c:Nat} {n:Int} {xT yT:TypeId} {x y:Operand} {st:St} {dst:Option Tmp} {ty:TypeId} {pos:String} {af:Array Edge} {g:Option (Nat × Bool)} (hx:ev st.env x = some (.c (.sc (.int .i64 n)))) (hy:ev st.env y = some (.c (.cp o c))) :
  OpP P ⟨dst,.binOp .gtr xT x y yT,ty,pos,af,g⟩ st (.c (.sc (.bool (decide (n > (c:Int)))))):=fun Γ ρ ac w0 hrel => by
 obtain ⟨sl,_,_,h2⟩:=bq hrel.env hy
 obtain ⟨z,h3,h4⟩:=sk (P:=P) (op:=.gtr) (x:=.c (.sc (.int .i64 n))) (y:=.c (.sc (.int .i64 c))) (r:=.c (.sc (.bool (decide (n > (c:Int)))))) (ρ:=ρ) (u:=ac.eval x) (v:=ac.eval y) rfl (bq hrel.env hx) ⟨h2,rfl⟩ xT x y
 refine ⟨z,h3,fun w => ?_⟩
 have h5:=h4 w
 unfold execOp
 simp only [Sem.run_bind,Sem.run_pure]
 simp only [Sem.run_bind] at h5
 rw [h5]
 rfl
theorem uG (hT:TOk P T) {st:St} {dst:Option Tmp} {t e:TypeId} {x:Operand} {hi:Option Operand} {ty:TypeId} {pos:String} {af:Array Edge} {g:Option (Nat × Bool)} {o n dc c sz:Nat} {xs:List (List Value)} {h:Int} {ti te:TI} (hx:ev st.env x = some (.c (.row o 0 n)))
  (ht:tlk t T = some ti) (hs:ti.d = .slice e) (hte:tlk e T = some te) (ho:st.h[o]? = some (some ⟨true,e,sz,.fl xs⟩)) (hc:lk dc st.env = some (.c (.cp o c))) (hh:loV st.env hi n = some h) (h0:0 < h) (h2:h ≤ c) :
  OpP P ⟨dst,.slice t x none hi none,ty,pos,af,g⟩ st (.c (.row o 0 h.toNat)):=fun Γ ρ a w0 hr => by
 obtain ⟨sl,k1,k2⟩:=hr.holds.obj o _ ho
 obtain ⟨sl',e1,e2,e3⟩:RowR ρ o 0 n (a.eval x):=bq hr.env hx
 rw [k1] at e1
 cases e1
 obtain ⟨v',_,sl',e4,e5,_⟩:=hr.env dc _ hc
 rw [k1] at e4
 cases e4
 have q1:=(k2.own rfl).1
 have hu:P.underlying t = some (.slice e):=by have:=bO hT ht;rw [hs] at this;exact this
 have hhi:=tf hr.env hh
 obtain ⟨hn,rfl⟩:=Int.eq_ofNat_of_zero_le (Int.le_of_lt h0)
 rw [Int.toNat_natCast]
 have hcap:¬ sl.cap = 0:=by omega
 have ex:a.eval x = .slice sl.a n sl.cap:=by
  rcases e3 with ⟨cc,e6,_,e7⟩ | ⟨_,e8,A,cc,e6,e7⟩
  ·rw [e6,e7 q1]
   cases sl.a <;> simp [Addr.add]
  ·exfalso
   rcases e8 with e8 | e8 | e8
   ·omega
   ·rw [q1] at e8;cases e8
   ·exact hcap e8
 refine ⟨.slice sl.a hn sl.cap,⟨sl,k1,by omega,.inl ⟨sl.cap,?_,by omega,fun _ => rfl⟩⟩,fun w => ?_⟩
 ·cases sl.a <;> simp [Addr.add]
 ·have:=nx (P:=P) hu w (cN hT hte) sl.a n sl.cap 0 hn none (hi.map a.eval) (.inl ⟨rfl,rfl⟩) hhi (Nat.zero_le _) (by omega) (by omega)
  unfold execOp
  simp only [Option.map_none,ex,Sem.run_bind,this,Result.andThen_ok,Sem.run_pure,Nat.sub_zero,hcap,if_false,Nat.zero_mul]
  cases sl.a <;> simp [Addr.add]
theorem uH (hT:TOk P T) {st:St} {dst:Option Tmp} {t e:TypeId} {x:Operand} {lo hi:Option Operand} {ty:TypeId} {pos:String} {af:Array Edge} {g:Option (Nat × Bool)} {o n sz:Nat} {xs:List (List Value)} {l h:Int} {ti te:TI} (hx:ev st.env x = some (.c (.row o 0 n)))
  (ht:tlk t T = some ti) (hs:ti.d = .slice e) (hte:tlk e T = some te) (hsz:te.size = sz) (ho:st.h[o]? = some (some ⟨true,e,sz,.fl xs⟩)) (hl:loV st.env lo 0 = some l) (hh:loV st.env hi n = some h) (h0:0 ≤ l) (h1:l ≤ h) (h2:h ≤ xs.length) :
  OpP P ⟨dst,.slice t x lo hi none,ty,pos,af,g⟩ st (.c (.row o l.toNat (h.toNat - l.toNat))):=fun Γ ρ a w0 hr => by
 obtain ⟨sl,k1,k2⟩:=hr.holds.obj o _ ho
 obtain ⟨sl',e1,e2,e3⟩:RowR ρ o 0 n (a.eval x):=bq hr.env hx
 rw [k1] at e1
 cases e1
 have q1:=(k2.own rfl).1
 have hlen:xs.length ≤ sl.cap:=k2.len
 have hu:P.underlying t = some (.slice e):=by have:=bO hT ht;rw [hs] at this;exact this
 have hlo:=tf hr.env hl
 have hhi:=tf hr.env hh
 obtain ⟨ln,rfl⟩:=Int.eq_ofNat_of_zero_le h0
 obtain ⟨hn,rfl⟩:=Int.eq_ofNat_of_zero_le (Int.le_trans h0 h1)
 rw [Int.toNat_natCast,Int.toNat_natCast]
 obtain ⟨A,ex,eA⟩:∃ A,a.eval x = .slice A n sl.cap ∧ (A = sl.a ∨ sl.cap = 0):=by
  rcases e3 with ⟨cc,e6,_,e7⟩ | ⟨hi0,e8,A,cc,e6,e7⟩
  ·refine ⟨sl.a,?_,.inl rfl⟩
   rw [e6,e7 q1]
   cases sl.a <;> simp [Addr.add]
  ·have hc0:sl.cap = 0:=by
    rcases e8 with e8 | e8 | e8
    ·omega
    ·rw [q1] at e8;cases e8
    ·exact e8
   exact ⟨A,by rw [e6,e7 rfl q1,hc0,hi0],.inr hc0⟩
 refine ⟨.slice (if sl.cap = ln then A else A.map (·.add (ln * te.size))) (hn - ln) (sl.cap - ln),⟨sl,k1,by omega,?_⟩,fun w => by
  have:=nx (P:=P) hu w (cN hT hte) A n sl.cap ln hn (lo.map a.eval) (hi.map a.eval) hlo hhi (by omega) (by omega) (by omega)
  unfold execOp
  simp only [Option.map_none,ex,Sem.run_bind,this,Result.andThen_ok,Sem.run_pure]⟩
 by_cases hc:sl.cap = ln
 ·rw [if_pos hc]
  have hz:hn - ln = 0:=by omega
  rw [hz]
  refine .inr ⟨rfl,?_,_,_,rfl,fun h _ => by omega⟩
  rcases Nat.eq_zero_or_pos ln with h | h
  ·exact .inr (.inr (by omega))
  ·exact .inl h
 ·rw [if_neg hc]
  rcases eA with rfl | hA
  ·refine .inl ⟨sl.cap - ln,?_,by omega,fun _ => rfl⟩
   rw [hsz,show sz = sl.sz from k2.sz.symm]
  ·refine .inr ⟨by omega,.inr (.inr hA),_,_,by rw [show hn - ln = 0 from by omega],fun h _ => by omega⟩
theorem uF (hT:TOk P T) {st:St} {dst:Option Tmp} {t e:TypeId} {x i j m:Operand} {k1 k2 k3:IntKind} {ty:TypeId} {pos:String} {af:Array Edge} {g:Option (Nat × Bool)} {o n:Nat} {a b c:Int} {ti te:TI} (hx:ev st.env x = some (.c (.row o 0 n)))
  (ht:tlk t T = some ti) (hs:ti.d = .slice e) (hte:tlk e T = some te) (hi:ev st.env i = some (.c (.sc (.int k1 a)))) (hj:ev st.env j = some (.c (.sc (.int k2 b)))) (hm:ev st.env m = some (.c (.sc (.int k3 c)))) (hb:0 ≤ a ∧ a ≤ b ∧ b ≤ c ∧ c ≤ n) :
  OpP P ⟨dst,.slice t x (some i) (some j) (some m),ty,pos,af,g⟩ st (.c .e0):=fun Γ ρ ac w0 hr => by
 obtain ⟨sl,e1,e2,e3⟩:RowR ρ o 0 n (ac.eval x):=bq hr.env hx
 have hu:P.underlying t = some (.slice e):=by have:=bO hT ht;rw [hs] at this;exact this
 have ei:=fy (bq hr.env hi)
 have ej:=fy (bq hr.env hj)
 have em:=fy (bq hr.env hm)
 obtain ⟨A,cc,ex,hnc⟩:∃ A cc,ac.eval x = .slice A n cc ∧ n ≤ cc:=by
  rcases e3 with ⟨cc,e6,e7,_⟩ | ⟨rfl,_,A,cc,e6,_⟩
  ·exact ⟨_,_,e6,e7⟩
  ·exact ⟨_,_,e6,Nat.zero_le _⟩
 obtain ⟨h0,h1,h2,h3⟩:=hb
 obtain ⟨a,rfl⟩:=Int.eq_ofNat_of_zero_le h0
 obtain ⟨b,rfl⟩:=Int.eq_ofNat_of_zero_le (by omega:0 ≤ b)
 obtain ⟨c,rfl⟩:=Int.eq_ofNat_of_zero_le (by omega:0 ≤ c)
 have hbn:∀ (k:IntKind) (i y:Nat) code w,i ≤ y → (Instr.sliceBound (.int k i) y code).run P w = .ok i w:=fun k i y code w hi => by
  have h5:(i:Int) ≤ y:=by omega
  simp [Instr.sliceBound,asIntOf,h5]
 have hsz:=cN hT hte
 refine ⟨.slice (if c = a then A else A.map (·.add (a * te.size))) (b - a) (c - a),⟨_,_,_,rfl⟩,fun w => ?_⟩
 unfold execOp
 simp [ex,ei,ej,em,Instr.sliceAt,cO hu,Instr.slice,Instr.sliceBounds,hsz,hbn k3 c cc _ _ (by omega),hbn k2 b c _ _ (by omega),hbn k1 a b _ _ (by omega)]
theorem Ab (hT:TOk P T) {st:St} {dst:Option Tmp} {t yT e:TypeId} {x:Operand} {ty:TypeId} {pos:String} {af:Array Edge} {g:Option (Nat × Bool)} {o s n:Nat} {ob:AO} {ti:TI} (hx:ev st.env x = some (.c (.row o s n))) (ho:st.h[o]? = some (some ob)) (ht:tlk t T = some ti) (hs:ti.d = .slice e) (hd:st.fits dst = true) :
  OpQ P ⟨dst,.binOp .eql t x (.const (.slice none 0 0)) yT,ty,pos,af,g⟩ st (fun st' => ∃ b,(b = true → n = 0) ∧ st' = st.put dst (B b)):=fun Γ ρ a w hr K' Q' hk => by
 obtain ⟨sl,k1,k2⟩:=hr.holds.obj o ob ho
 obtain ⟨sl',e1,e2,e3⟩:RowR ρ o s n (a.eval x):=bq hr.env hx
 rw [k1] at e1
 cases e1
 have hu:P.underlying t = some (.slice e):=by have:=bO hT ht;rw [hs] at this;exact this
 obtain ⟨A,c,ex,hA⟩:∃ A c,a.eval x = .slice A n c ∧ (A.isNone = true → n = 0):=by
  rcases e3 with ⟨cc,e6,e7,_⟩ | ⟨rfl,_,A,cc,e6,_⟩
  ·refine ⟨_,_,e6,fun h => ?_⟩
   have:sl.a = none:=by cases h1:sl.a <;> simp_all
   have:=k2.nil this
   omega
  ·exact ⟨_,_,e6,fun _ => rfl⟩
 have hrun:(execOp a.eval ⟨dst,.binOp .eql t x (.const (.slice none 0 0)) yT,ty,pos,af,g⟩).run P w = .ok (.value (.bool A.isNone)) w:=by
  have hq:=run_equal_slice_nil (P:=P) (w:=w) t e A n c hu
  rw [← ex] at hq
  have hg:∀ v w,(eqGuard .eql t x (.const (.slice none 0 0)) v (.slice none 0 0)).run P w = .ok () w:=fun v w => by
   cases v <;> simp [eqGuard]
  have he:a.eval (.const (.slice none 0 0)) = .slice none 0 0:=rfl
  have hbo:(binOp .eql t (a.eval x) (.slice none 0 0)).run P w = .ok (.bool A.isNone) w:=by
   rw [ex] at hq ⊢
   simp [binOp,hq]
  unfold execOp
  simp only [Sem.run_bind,he,hg,Result.andThen_ok,hbo,Sem.run_pure]
 unfold Oper.wp
 rw [hrun]
 exact hk _ ρ _ w ⟨A.isNone,hA,rfl⟩ (hr.put st.h dst hd (B A.isNone) _ (Ext.refl _) hr.len hr.holds ⟨rfl,rfl⟩) (Ext.refl _) (Same.refl w)
theorem A6 {Γ:Ctx} {ρ:Pl} {st:St} {a:Act} {w:World} {oo:Oper} {K':Act → World → Prop} {Q':Exit → Act → World → Prop} (hr:Rel Γ ρ st a w) (hd:st.fits oo.dst = true) {e sz n cap:Nat} {cells:Array Value} {L:List (List Value)}
  (hrun:(execOp a.eval oo).run P w = .ok (.value (.slice (some ⟨w.heap.size,0,none⟩) n cap)) (w.drew.alloc (.cells cells e))) (hs:cells.size = cap * sz) (hF:gv sz L) (hn:L.length = n) (hl:n ≤ cap) (hm:cap ≤ 9223372036854775807) (hz:0 < sz) (ht:cells.toList.take (L.length * sz) = L.flatten)
  (hk:∀ st' ρ' a' w',st' = ({ st with h:=st.h ++ [some ⟨true,e,sz,.fl L⟩] }:St).put oo.dst (.c (.row st.h.length 0 n)) → Rel Γ ρ' st' a' w' → Ext ρ ρ' → Same w w' → K' a' w'):Oper.wp P oo a w K' Q':=by
 unfold Oper.wp
 rw [hrun]
 have hob:ObjH (ρ ++ [⟨some ⟨w.heap.size,0,none⟩,cap,sz,false⟩]) ⟨some ⟨w.heap.size,0,none⟩,cap,sz,false⟩ ⟨true,e,sz,.fl L⟩ (w.drew.alloc (.cells cells e)) :=
  ju (heap_alloc_new w.drew _) hs hF (by omega) hm hz ht
 have hH:Holds Γ (ρ ++ [⟨some ⟨w.heap.size,0,none⟩,cap,sz,false⟩]) (st.h ++ [some ⟨true,e,sz,.fl L⟩]) (w.drew.alloc (.cells cells e)):=by
  refine hr.holds.one rfl rfl rfl (by simp) none (fun k hk _ => Below.heap_alloc w.drew _ k hk) (Ext.append _ _) st.h.length _ _ (by rw [← hr.len];exact bA _ _) hob (fun g h => by cases h) (fun o' ob' ho' hne => ?_) (bA _ _) (fun gg hgg => .inr ?_)
  ·rw [List.getElem?_append] at ho'
   split at ho'
   ·exact ho'
   ·have h1:=(List.getElem?_eq_some_iff.1 ho').1
    simp at h1
    omega
  ·have:w.heap.size = gg:=Option.some.inj hgg
   omega
 refine hk _ _ _ _ rfl (hr.put _ oo.dst hd _ _ (Ext.append _ _) (by simp [hr.len]) hH ⟨_,by rw [← hr.len];exact bA _ _,by simpa using hl,.inl ⟨cap,by simp [Addr.add],hl,fun _ => rfl⟩⟩) (Ext.append _ _) ⟨by simp,fun k hk => Below.heap_alloc w.drew _ k hk⟩
theorem yw (hT:TOk P T) {st:St} {dst:Option Tmp} {t tn e:TypeId} {x y:Operand} {ty:TypeId} {pos:String} {af:Array Edge} {g:Option (Nat × Bool)} {o i dc c sz:Nat} {k:Int} {kq kn:IntKind} {xs:List (List Value)} {ti te tni:TI} (hd:st.fits dst = true)
  (hx:ev st.env x = some (.c (.row o 0 i))) (hy:ev st.env y = some (.c (.sc (.int kq k)))) (ht:tlk t T = some ti) (hs:ti.d = .slice e) (hte:tlk e T = some te) (hsz:te.size = sz) (htn:tlk tn T = some tni) (hns:tni.d = .int kn)
  (ho:st.h[o]? = some (some ⟨true,e,sz,.fl xs⟩)) (hi:i ≤ xs.length) (hc:lk dc st.env = some (.c (.cp o c))) (hg:(c:Int) < i + k) (hb:((i:Int) + k) * te.bytes ≤ 140737488355328) (hb1:(i:Int) + k ≤ 9223372036854775807) :
  OpQ P ⟨dst,.call { callee:=.builtin .append,args:=#[x,y],argTypes:=#[t,tn] },ty,pos,af,g⟩ st (fun st' => st' = ({ st with h:=st.h ++ [some ⟨true,e,sz,.fl (xs.take i ++ List.replicate k.toNat te.zero)⟩] }:St).put dst (.c (.row st.h.length 0 (i + k.toNat)))):=fun Γ ρ a w hr K' Q' hk => by
 obtain ⟨sl,k1,k2⟩:=hr.holds.obj o _ ho
 obtain ⟨sl',e1,e2,e3⟩:RowR ρ o 0 i (a.eval x):=bq hr.env hx
 rw [k1] at e1
 cases e1
 obtain ⟨v',_,sl',e4,e5,_⟩:=hr.env dc _ hc
 rw [k1] at e4
 cases e4
 have q1:=(k2.own rfl).1
 have hF:=hZ k2
 have hlen:xs.length ≤ sl.cap:=k2.len
 have hu:P.underlying t = some (.slice e):=by have:=bO hT ht;rw [hs] at this;exact this
 have hun:P.underlying tn = some (.int kn):=by have:=bO hT htn;rw [hns] at this;exact this
 have ek:=fy (bq hr.env hy)
 have hk0:0 < k:=by omega
 obtain ⟨kn',rfl⟩:=Int.eq_ofNat_of_zero_le (Int.le_of_lt hk0)
 rw [Int.toNat_natCast] at *
 obtain ⟨ie,z,i1,i2,i3,i4,i5⟩:=(hT e te hte).info
 obtain ⟨A,ex,eA⟩:∃ A,a.eval x = .slice A i sl.cap ∧ (A = sl.a ∨ sl.cap = 0):=by
  rcases e3 with ⟨cc,e6,_,e7⟩ | ⟨hi0,e8,A,cc,e6,e7⟩
  ·refine ⟨sl.a,?_,.inl rfl⟩
   rw [e6,e7 q1]
   cases sl.a <;> simp [Addr.add]
  ·have hc0:sl.cap = 0:=by
    rcases e8 with e8 | e8 | e8
    ·omega
    ·rw [q1] at e8;cases e8
    ·exact e8
   exact ⟨A,by rw [e6,e7 rfl q1,hc0,hi0],.inr hc0⟩
 have hFx:∀ c ∈ xs.take i,c.length = sz:=fun c hc => (hF c (List.mem_of_mem_take hc)).1
 have hxl:(xs.take i).flatten.length = i * sz:=by rw [cq hFx,List.length_take,Nat.min_eq_left hi]
 have hold:(Builtin.firstCells ie.size i (.slice A i sl.cap)).run P w.drew = .ok (xs.take i).flatten.toArray w.drew:=by
  rcases Nat.eq_zero_or_pos i with hi0 | hi0
  ·subst hi0
   cases A <;> simp [Builtin.firstCells,loadCells,loadCellsFrom]
  ·have hA:A = sl.a:=by
    rcases eA with h | h
    ·exact h
    ·omega
   subst hA
   cases ha:sl.a with
   | none => have:=k2.nil ha;omega
   | some ad =>
     refine run_firstCells_some (P:=P) w.drew ie.size i ad i sl.cap _ (by rw [hxl,i2,hsz]) (fun j u hu => ?_)
     obtain ⟨i',r,cc,h2,h3,h4⟩:=iV hFx hu
     have hin:i' < i:=by have:=(List.getElem?_eq_some_iff.1 h3).1;rw [List.length_take] at this;omega
     rw [List.getElem?_take_of_lt hin] at h3
     obtain ⟨_,a',ha',h5⟩:=k2.cell i' (cc.map .sc) (by show (xs[i']?).map _ = _;rw [h3];rfl)
     rw [ha] at ha'
     cases ha'
     obtain ⟨xx,h6,h7⟩:=h5 r (.sc u) (by rw [List.getElem?_map,h4];rfl)
     have h6:w.cell? (ad.add (i' * sz + r)) = some xx:=h6
     rw [h2]
     show w.cell? (ad.add (i' * sz + r)) = some u
     rw [h6,h7.1]
 have hbn:(i + kn') * te.bytes ≤ 140737488355328:=by
  have:(((i + kn') * te.bytes:Nat):Int) ≤ 140737488355328:=by push_cast;exact hb
  omega
 have hkb:kn' * te.bytes ≤ (i + kn') * te.bytes:=Nat.mul_le_mul_right _ (by omega)
 have hrun:=Lib.run_append_grow_zeros (P:=P) w t tn ty e ie z kq kn hu hun i1 i4 A i sl.cap (xs.take i).flatten hold kn' (by omega) (by rw [i2,hsz];exact k2.pos) (by omega) (by omega) (by rw [i3];omega) (growslice_fits (by omega) (by rw [i3];exact hbn))
 have hge:=grownCap_ge w (i + kn') sl.cap e
 have hle:=grownCap_le_maxLen w (i + kn') sl.cap e (by unfold maxLen;omega)
 unfold maxLen at hle
 have hzs:z.cells.size = sz:=by
  have h0:z.cells.toList.length = z.cells.size:=Array.length_toList
  rw [← h0,i5,(hT e te hte).zl,hsz]
 have hM:gv sz (List.replicate kn' te.zero):=fun c hc => by
  rw [List.eq_of_mem_replicate hc,← hsz]
  exact ⟨(hT e te hte).zl,fun u hu => List.all_eq_true.1 (hT e te hte).one u hu⟩
 have hL:gv sz (xs.take i ++ List.replicate kn' te.zero):=fun c hc => by
  rcases List.mem_append.1 hc with h | h
  ·exact hF c (List.mem_of_mem_take h)
  ·exact hM c h
 have hLl:(xs.take i ++ List.replicate kn' te.zero).length = i + kn':=by rw [List.length_append,List.length_take,List.length_replicate];omega
 rw [← ex,← ek] at hrun
 refine A6 (sz:=sz) (L:=xs.take i ++ List.replicate kn' te.zero) hr hd (sI hrun) ?_ hL hLl hge hle k2.pos ?_ hk
 ·simp only [Array.size_append,List.size_toArray,size_zeroCells,hzs,hxl,← Nat.add_mul]
  congr 1
  omega
 ·rw [hLl]
  have hzf:(Builtin.zeroCells z.cells kn').toList = (List.replicate kn' te.zero).flatten:=by rw [← i5];exact qS _ _
  have hzl2:(List.replicate kn' te.zero).flatten.length = kn' * sz:=by rw [cq (fun d hd => (hM d hd).1),List.length_replicate]
  simp only [Array.toList_append,List.flatten_append,hzf]
  have h7:((xs.take i).flatten ++ (List.replicate kn' te.zero).flatten).length = (i + kn') * sz:=by rw [List.length_append,hxl,hzl2,Nat.add_mul]
  rw [← h7]
  exact List.take_left
theorem blk_frozen' {w:World} {g:Nat} {cur:Array Value} {t:TypeId} (h:w.heap[g]? = some (.cells cur t (0,0))) (off:Nat):w.frozen? ⟨g,off,none⟩ = false:=by
 simp [World.frozen?,h]
theorem tr {Γ:Ctx} {ρ:Pl} {st:St} {a:Act} {w:World} (hr:Rel Γ ρ st a w) {o e sz s n:Nat} {xs:List (List Value)} (ho:st.h[o]? = some (some ⟨true,e,sz,.fl xs⟩)) {v:Value} (hv:RowR ρ o s n v) (hn:0 < n) :
  ∃ sl g cur c,ρ[o]? = some sl ∧ sl.blk = some g ∧ w.heap[g]? = some (.cells cur e (0,0)) ∧ 0 < cur.size ∧ v = .slice (some ⟨g,s * sz,none⟩) n c:=by
 obtain ⟨sl,k1,k2⟩:=hr.holds.obj o _ ho
 have hv':=hv
 obtain ⟨sl',e1,e2,e3⟩:=hv
 rw [k1] at e1
 cases e1
 rcases (k2.own rfl).2 with ⟨_,q3⟩ | ⟨gb,cur,q2,q3,q4⟩
 ·omega
 ·have hsz:sl.sz = sz:=k2.sz
  have hro:=(k2.own rfl).1
  have hsl:sl = ⟨some ⟨gb,0,none⟩,sl.cap,sz,false⟩:=rQ q2 hsz hro
  obtain ⟨h1,_⟩:=oA k1 hsl hv' hn
  refine ⟨sl,gb,cur,_,k1,by simp [Slot.blk,q2],q3,?_,h1⟩
  have q4:cur.size = sl.cap * sz:=q4
  rw [q4]
  exact Nat.mul_pos (by omega) k2.pos
theorem Af (hT:TOk P T) {st:St} {dst:Option Tmp} {t tR e:TypeId} {fo x y:Operand} {ts:Array TypeId} {ty:TypeId} {pos:String} {af:Array Edge} {g:Option (Nat × Bool)} {f:FuncId} {o1 s1 n1 o2 s2 n2:Nat} {e1 sz1 e2 sz2:Nat} {xs ys:List (List Value)} {ti te:TI} (hd:st.fits dst = true)
  (hcall:∀ args w,(callFunc f args).run P w = ((Extern.SlicesOverlaps.overlaps #[t,t] #[tR] args).run P w).andThen fun v w' => .ok (.value v) w')
  (hf:ev st.env fo = some (.c (.fn f []))) (hx:ev st.env x = some (.c (.row o1 s1 n1))) (hy:ev st.env y = some (.c (.row o2 s2 n2))) (ht:tlk t T = some ti) (hs:ti.d = .slice e) (hte:tlk e T = some te)
  (ho1:st.h[o1]? = some (some ⟨true,e1,sz1,.fl xs⟩)) (ho2:st.h[o2]? = some (some ⟨true,e2,sz2,.fl ys⟩)) (hne:o1 ≠ o2) (hn1:0 < n1) (hn2:0 < n2) :
  OpQ P ⟨dst,.call { callee:=.value fo,args:=#[x,y],argTypes:=ts },ty,pos,af,g⟩ st (fun st' => st' = st.put dst (B false)):=fun Γ ρ a w hr K' Q' hk => by
 have hu:P.underlying t = some (.slice e):=by have:=bO hT ht;rw [hs] at this;exact this
 obtain ⟨sl1,g1,cur1,c1,a1,a2,a3,a4,ex⟩:=tr hr ho1 (show RowR ρ o1 s1 n1 (a.eval x) from bq hr.env hx) hn1
 obtain ⟨sl2,g2,cur2,c2,b1,b2,b3,b4,ey⟩:=tr hr ho2 (show RowR ρ o2 s2 n2 (a.eval y) from bq hr.env hy) hn2
 have hgne:g1 ≠ g2:=fun h => by
  subst h
  exact (hr.holds.sep o1 _ sl1 g1 ho1 rfl a1 a2).2 o2 _ sl2 ho2 (Ne.symm hne) b1 b2
 obtain ⟨cs,hfv,hcs⟩:=bq hr.env hf
 have hcs0:cs = #[]:=by
  have:=hcs.length
  exact Array.eq_empty_of_size_eq_zero (by simpa using this.symm)
 subst hcs0
 have hov:=Lib.run_overlaps_apart (P:=P) w t tR e hu te.size (cN hT hte) ⟨g1,s1 * sz1,none⟩ ⟨g2,s2 * sz2,none⟩ n1 c1 n2 c2 hgne e1 e2 cur1.size cur2.size (by simp [World.shape?,a3]) (by simp [World.shape?,b3]) (by omega) (blk_frozen' a3 _) (blk_frozen' a3 _)
 have hrun:(execOp a.eval ⟨dst,.call { callee:=.value fo,args:=#[x,y],argTypes:=ts },ty,pos,af,g⟩).run P w = .ok (.value (.bool false)) w:=by
  unfold execOp
  simp [resolve,Deferred.ofValue,invoke,hfv,hcall,ex,ey,hov]
 unfold Oper.wp
 rw [hrun]
 exact hk _ ρ _ w rfl (hr.put st.h dst hd (B false) _ (Ext.refl _) hr.len hr.holds ⟨rfl,rfl⟩) (Ext.refl _) (Same.refl w)
end
section
variable {P:Program} {T:TB} {ops:Array Oper} {Q:Exit → St → Prop} {h1:AH} {k:Sk} {ks ks':List Sk} {l:List Oper} {N0 k0 d0:Nat} {e0:List (Nat × AV)} {h0:AH} {op:Op} {ty:TypeId} {pos:String} {af:Array Edge} {g:Option (Nat × Bool)} {st:St}
theorem o7 {α:Type} {inst:Enc α} {t t' e:TypeId} {x y:Operand} {o s n o2 s2 n2:Nat} {own2:Bool} {e2 sz sz2:Nat} {xs ys:List α} {ti te:TI} {h':AH} (zs:List α) (c:Nat) (hs0:stK ks = (Sk.l,ks')) (hT:TOk P T)
  (hx:ev e0 x = some (.c (.row o s n))) (hy:ev e0 y = some (.c (.row o2 s2 n2))) (ht:tlk t T = some ti) (hs:ti.d = .slice e) (hte:tlk e T = some te) (hsz:te.size = sz)
  (ho:h0[o]? = some (some ⟨true,e,sz,.fl (xs.map Enc.enc)⟩)) (ho2:h0[o2]? = some (some ⟨own2,e2,sz2,.fl (ys.map Enc.enc)⟩)) (hs2:Nat.beq sz2 sz = true) (hse:Enc.sz α = sz)
  (hc:Nat.min n2 n = c ∧ 0 < c ∧ s ≤ xs.length ∧ s2 + c ≤ ys.length) (hz:xs.take s ++ (ys.drop s2).take c ++ xs.drop (s + c) = zs)
  (hh:nr h0 o (ow e zs) = some h') (hg:gd ops ⟨some d0,.call { callee:=.builtin .copy,args:=#[x,y],argTypes:=#[t,t'] },ty,pos,af,g⟩ e0 = some true) (hd:Nat.blt d0 N0 = true)
  (h:ZZ P ops Q h1 ks' l ⟨N0,k0,(d0,.c (.sc (.int .i64 c))) :: e0,h'⟩):ZZ P ops Q h1 ks (⟨some d0,.call { callee:=.builtin .copy,args:=#[x,y],argTypes:=#[t,t'] },ty,pos,af,g⟩ :: l) ⟨N0,k0,e0,h0⟩ :=
 ⟨by
  rw [aI hs0]
  have e1:=Nat.eq_of_beq_eq_true hs2
  subst e1
  refine s8 (st:=⟨N0,k0,e0,h0⟩) (yz (st:=⟨N0,k0,e0,h0⟩) hT hd hx hy ht hs hte hsz ho ho2 hc.1 hc.2.1 (by rw [List.length_map];exact hc.2.2.1) (by rw [List.length_map];exact hc.2.2.2)) hg hd (fun st' e => ?_)
  cases e
  have h2:=js hh
  have h3:(xs.map Enc.enc).take s ++ ((ys.map Enc.enc).drop s2).take c ++ (xs.map Enc.enc).drop (s + (((ys.map Enc.enc).drop s2).take c).length) = zs.map (Enc.enc (α:=α)):=by
   have h4:(((ys.map (Enc.enc (α:=α))).drop s2).take c).length = c:=by
    rw [List.length_take,List.length_drop,List.length_map]
    omega
   rw [h4,← hz]
   simp
  show WZ P ops Q h1 (kN ks' l) ⟨N0,k0,(d0,.c (.sc (.int .i64 c))) :: e0,h0.set o (some ⟨true,e,sz2,.fl ((xs.map Enc.enc).take s ++ ((ys.map Enc.enc).drop s2).take c ++ (xs.map Enc.enc).drop (s + (((ys.map Enc.enc).drop s2).take c).length))⟩)⟩
  rw [h3,show (some (⟨true,e,sz2,.fl (zs.map (Enc.enc (α:=α)))⟩:AO)) = ow e zs from by rw [ow,hse],h2]
  exact h.out⟩
theorem Dk {α:Type} {inst:Enc α} {t e:TypeId} {x y:Operand} {o i j c:Nat} {sz:Nat} {xs:List α} {ti te:TI} {h':AH} (zs:List α) (hs0:stK ks = (Sk.l,ks')) (hT:TOk P T)
  (hx:ev e0 x = some (.c (.row o 0 i))) (hy:ev e0 y = some (.c (.row o j c))) (ht:tlk t T = some ti) (hs:ti.d = .slice e) (hte:tlk e T = some te) (hsz:te.size = sz)
  (ho:h0[o]? = some (some ⟨true,e,sz,.fl (xs.map Enc.enc)⟩)) (hse:Enc.sz α = sz) (hb:i ≤ j ∧ j + c ≤ xs.length) (hz:xs.take i ++ (xs.drop j).take c ++ xs.drop (i + c) = zs)
  (hh:nr h0 o (ow e zs) = some h') (hg:gd ops ⟨some d0,.call { callee:=.builtin .append,args:=#[x,y],argTypes:=#[t,t] },ty,pos,af,g⟩ e0 = some true) (hd:Nat.blt d0 N0 = true)
  (h:ZZ P ops Q h1 ks' l ⟨N0,k0,(d0,.c (.row o 0 (i + c))) :: e0,h'⟩):ZZ P ops Q h1 ks (⟨some d0,.call { callee:=.builtin .append,args:=#[x,y],argTypes:=#[t,t] },ty,pos,af,g⟩ :: l) ⟨N0,k0,e0,h0⟩ :=
 ⟨by
  rw [aI hs0]
  refine s8 (st:=⟨N0,k0,e0,h0⟩) (yy (st:=⟨N0,k0,e0,h0⟩) hT hd hx hy ht hs hte hsz ho hb.1 (by rw [List.length_map];exact hb.2)) hg hd (fun st' e => ?_)
  cases e
  have h2:=js hh
  have h3:(xs.map Enc.enc).take i ++ ((xs.map Enc.enc).drop j).take c ++ (xs.map Enc.enc).drop (i + (((xs.map Enc.enc).drop j).take c).length) = zs.map (Enc.enc (α:=α)):=by
   have h4:(((xs.map (Enc.enc (α:=α))).drop j).take c).length = c:=by
    rw [List.length_take,List.length_drop,List.length_map]
    omega
   rw [h4,← hz]
   simp
  show WZ P ops Q h1 (kN ks' l) ⟨N0,k0,(d0,.c (.row o 0 (i + c))) :: e0,h0.set o (some ⟨true,e,sz,.fl ((xs.map Enc.enc).take i ++ ((xs.map Enc.enc).drop j).take c ++ (xs.map Enc.enc).drop (i + (((xs.map Enc.enc).drop j).take c).length))⟩)⟩
  rw [h3,show (some (⟨true,e,sz,.fl (zs.map (Enc.enc (α:=α)))⟩:AO)) = ow e zs from by rw [ow,hse],h2]
  exact h.out⟩
theorem Cj {α:Type} {inst:Enc α} {t e:TypeId} {x:Operand} {o s n:Nat} {sz:Nat} {xs:List α} {ti te:TI} {h':AH} (hs0:stK ks = (Sk.l,ks')) (hT:TOk P T)
  (hx:ev e0 x = some (.c (.row o s n))) (ht:tlk t T = some ti) (hs:ti.d = .slice e) (hte:tlk e T = some te) (hsz:te.size = sz)
  (ho:h0[o]? = some (some ⟨true,e,sz,.fl (xs.map Enc.enc)⟩)) (hse:Enc.sz α = sz) (hb:s + n ≤ xs.length) (hh:nr h0 o (ow e (xs.take s)) = some h') (hg:gd ops ⟨none,.call { callee:=.builtin .clear,args:=#[x],argTypes:=#[t] },ty,pos,af,g⟩ e0 = some true)
  (h:ZZ P ops Q h1 ks' l ⟨N0,k0,e0,h'⟩):ZZ P ops Q h1 ks (⟨none,.call { callee:=.builtin .clear,args:=#[x],argTypes:=#[t] },ty,pos,af,g⟩ :: l) ⟨N0,k0,e0,h0⟩ :=
 ⟨by
  rw [aI hs0]
  refine s8 (st:=⟨N0,k0,e0,h0⟩) (wP (st:=⟨N0,k0,e0,h0⟩) (dst:=none) hT rfl hx ht hs hte hsz ho (by rw [List.length_map];exact hb)) hg rfl (fun st' e => ?_)
  cases e
  have h2:=js hh
  have holt:o < h0.length:=(List.getElem?_eq_some_iff.1 ho).1
  have hcut:=wB (st:=⟨N0,k0,e0,h0.set o (some ⟨true,e,sz,.fl ((xs.map Enc.enc).take s ++ List.replicate n te.zero ++ (xs.map Enc.enc).drop (s + (List.replicate n te.zero).length))⟩)⟩) (o:=o) s (List.getElem?_set_self holt)
  refine zgh hcut ?_
  show WZ P ops Q h1 (kN ks' l) ⟨N0,k0,e0,(h0.set o _).set o (some ⟨true,e,sz,.fl (((xs.map Enc.enc).take s ++ List.replicate n te.zero ++ (xs.map Enc.enc).drop (s + (List.replicate n te.zero).length)).take s)⟩)⟩
  have h3:((xs.map Enc.enc).take s ++ List.replicate n te.zero ++ (xs.map Enc.enc).drop (s + (List.replicate n te.zero).length)).take s = (xs.take s).map (Enc.enc (α:=α)):=by
   rw [List.append_assoc,List.take_append_of_le_length (by rw [List.length_take,List.length_map];omega),List.take_take,Nat.min_self,List.map_take]
  rw [h3,List.set_set,show (some (⟨true,e,sz,.fl ((xs.take s).map (Enc.enc (α:=α)))⟩:AO)) = ow e (xs.take s) from by rw [ow,hse],h2]
  exact h.out⟩
theorem Ci {t e:TypeId} {x:Operand} {o n sz:Nat} {xs:List (List Value)} {ti:TI} (hs0:stK ks = (k,ks')) (hT:TOk P T) (hk':qk k = true) (hx:ev e0 x = some (.c (.row o 0 n))) (ht:tlk t T = some ti) (hs:ti.d = .slice e) (ho:h0[o]? = some (some ⟨true,e,sz,.fl xs⟩))
  (hg:gd ops ⟨some d0,.call { callee:=.builtin .cap,args:=#[x],argTypes:=#[t] },ty,pos,af,g⟩ e0 = some true) (hd:Nat.blt d0 N0 = true)
  (h:∀ c:Nat,n ≤ c → c ≤ 9223372036854775807 → ZZ P ops Q h1 ks' l ⟨N0,k0,(d0,.c (.cp o c)) :: e0,h0⟩):ZZ P ops Q h1 ks (⟨some d0,.call { callee:=.builtin .cap,args:=#[x],argTypes:=#[t] },ty,pos,af,g⟩ :: l) ⟨N0,k0,e0,h0⟩ :=
 ⟨by
  rw [aI hs0]
  refine s7 (st:=⟨N0,k0,e0,h0⟩) hk' (Ad (st:=⟨N0,k0,e0,h0⟩) hT hd hx ht hs ho) hg hd (fun st' e => ?_)
  obtain ⟨c,_,h2,h3,rfl⟩:=e
  exact (h c h2 h3).out⟩
theorem Ck {o c:Nat} {n:Int} {xT yT:TypeId} {x y:Operand} (hs0:stK ks = (k,ks')) (hx:ev e0 x = some (.c (.sc (.int .i64 n)))) (hy:ev e0 y = some (.c (.cp o c))) (hg:gd ops ⟨some d0,.binOp .gtr xT x y yT,ty,pos,af,g⟩ e0 = some true) (hd:Nat.blt d0 N0 = true)
  (ht:n > c → ZZ P ops Q h1 ks' l ⟨N0,k0,(d0,B true) :: e0,h0⟩) (hf:¬ n > c → ZZ P ops Q h1 ks' l ⟨N0,k0,(d0,B false) :: e0,h0⟩):ZZ P ops Q h1 ks (⟨some d0,.binOp .gtr xT x y yT,ty,pos,af,g⟩ :: l) ⟨N0,k0,e0,h0⟩ :=
 ⟨by
  rw [aI hs0]
  refine mV (st:=⟨N0,k0,e0,h0⟩) (dst:=some d0) (Aa hx hy) hg hd ?_
  by_cases hp:n > c
  ·rw [decide_eq_true hp]
   exact (ht hp).out
  ·rw [decide_eq_false hp]
   exact (hf hp).out⟩
theorem mU {t e:TypeId} {x:Operand} {lo hi:Option Operand} {o n:Nat} {ob:AO} {a b:Int} {ti te:TI} (hs0:stK ks = (k,ks')) (hT:TOk P T) (hx:ev e0 x = some (.c (.row o 0 n))) (ht:tlk t T = some ti) (hs:ti.d = .slice e) (hte:tlk e T = some te) (ho:h0[o]? = some (some ob)) (hsz:te.size = ob.sz) (hl:loV e0 lo 0 = some a) (hh:loV e0 hi n = some b) (hb:0 ≤ a ∧ a ≤ b ∧ b ≤ n)
  (hg:gd ops ⟨some d0,.slice t x lo hi none,ty,pos,af,g⟩ e0 = some true) (hd:Nat.blt d0 N0 = true) (h:ZZ P ops Q h1 ks' l ⟨N0,k0,(d0,(.c (.row o a.toNat (b.toNat - a.toNat)))) :: e0,h0⟩):ZZ P ops Q h1 ks (⟨some d0,.slice t x lo hi none,ty,pos,af,g⟩ :: l) ⟨N0,k0,e0,h0⟩ :=
 ⟨by
  rw [aI hs0]
  refine wsl (st:=⟨N0,k0,e0,h0⟩) (dst:=some d0) hT hx ht hs hte ho hsz hl hh hb hg hd ?_
  rw [Nat.zero_add]
  exact h.out⟩
theorem Co {t e:TypeId} {x:Operand} {hi:Option Operand} {o n c sz:Nat} {xs:List (List Value)} {b:Int} {ti te:TI} (dc:Nat) (hs0:stK ks = (k,ks')) (hT:TOk P T) (hx:ev e0 x = some (.c (.row o 0 n))) (ht:tlk t T = some ti) (hs:ti.d = .slice e) (hte:tlk e T = some te) (ho:h0[o]? = some (some ⟨true,e,sz,.fl xs⟩)) (hc:lk dc e0 = some (.c (.cp o c))) (hh:loV e0 hi n = some b) (hb:0 < b ∧ b ≤ c)
  (hg:gd ops ⟨some d0,.slice t x none hi none,ty,pos,af,g⟩ e0 = some true) (hd:Nat.blt d0 N0 = true) (h:ZZ P ops Q h1 ks' l ⟨N0,k0,(d0,(.c (.row o 0 b.toNat))) :: e0,h0⟩):ZZ P ops Q h1 ks (⟨some d0,.slice t x none hi none,ty,pos,af,g⟩ :: l) ⟨N0,k0,e0,h0⟩ :=
 ⟨by
  rw [aI hs0]
  exact mV (st:=⟨N0,k0,e0,h0⟩) (dst:=some d0) (uG hT hx ht hs hte ho hc hh hb.1 hb.2) hg hd h.out⟩
theorem Dt {t e:TypeId} {x:Operand} {lo hi:Option Operand} {o n sz:Nat} {xs:List (List Value)} {a b:Int} {ti te:TI} (hs0:stK ks = (k,ks')) (hT:TOk P T) (hx:ev e0 x = some (.c (.row o 0 n))) (ht:tlk t T = some ti) (hs:ti.d = .slice e) (hte:tlk e T = some te) (hsz:te.size = sz) (ho:h0[o]? = some (some ⟨true,e,sz,.fl xs⟩)) (hl:loV e0 lo 0 = some a) (hh:loV e0 hi n = some b) (hb:0 ≤ a ∧ a ≤ b ∧ b ≤ xs.length)
  (hg:gd ops ⟨some d0,.slice t x lo hi none,ty,pos,af,g⟩ e0 = some true) (hd:Nat.blt d0 N0 = true) (h:ZZ P ops Q h1 ks' l ⟨N0,k0,(d0,(.c (.row o a.toNat (b.toNat - a.toNat)))) :: e0,h0⟩):ZZ P ops Q h1 ks (⟨some d0,.slice t x lo hi none,ty,pos,af,g⟩ :: l) ⟨N0,k0,e0,h0⟩ :=
 ⟨by
  rw [aI hs0]
  exact mV (st:=⟨N0,k0,e0,h0⟩) (dst:=some d0) (uH hT hx ht hs hte hsz ho hl hh hb.1 hb.2.1 hb.2.2) hg hd h.out⟩
theorem Ds {t e:TypeId} {x i j m:Operand} {k1 k2 k3:IntKind} {o n:Nat} {a b c:Int} {ti te:TI} (hs0:stK ks = (k,ks')) (hT:TOk P T) (hx:ev e0 x = some (.c (.row o 0 n))) (ht:tlk t T = some ti) (hs:ti.d = .slice e) (hte:tlk e T = some te) (hi:ev e0 i = some (.c (.sc (.int k1 a)))) (hj:ev e0 j = some (.c (.sc (.int k2 b)))) (hm:ev e0 m = some (.c (.sc (.int k3 c)))) (hb:0 ≤ a ∧ a ≤ b ∧ b ≤ c ∧ c ≤ n)
  (hg:gd ops ⟨some d0,.slice t x (some i) (some j) (some m),ty,pos,af,g⟩ e0 = some true) (hd:Nat.blt d0 N0 = true) (h:ZZ P ops Q h1 ks' l ⟨N0,k0,(d0,.c .e0) :: e0,h0⟩):ZZ P ops Q h1 ks (⟨some d0,.slice t x (some i) (some j) (some m),ty,pos,af,g⟩ :: l) ⟨N0,k0,e0,h0⟩ :=
 ⟨by
  rw [aI hs0]
  exact mV (st:=⟨N0,k0,e0,h0⟩) (dst:=some d0) (uF hT hx ht hs hte hi hj hm hb) hg hd h.out⟩
theorem zen {t yT e:TypeId} {x:Operand} {o s n:Nat} {ob:AO} {ti:TI} (hs0:stK ks = (k,ks')) (hT:TOk P T) (hk':qk k = true) (hx:ev e0 x = some (.c (.row o s n))) (ho:h0[o]? = some (some ob)) (ht:tlk t T = some ti) (hs:ti.d = .slice e)
  (hg:gd ops ⟨some d0,.binOp .eql t x (.const (.slice none 0 0)) yT,ty,pos,af,g⟩ e0 = some true) (hd:Nat.blt d0 N0 = true)
  (hy:n = 0 → ZZ P ops Q h1 ks' l ⟨N0,k0,(d0,B true) :: e0,h0⟩) (hn:ZZ P ops Q h1 ks' l ⟨N0,k0,(d0,B false) :: e0,h0⟩):ZZ P ops Q h1 ks (⟨some d0,.binOp .eql t x (.const (.slice none 0 0)) yT,ty,pos,af,g⟩ :: l) ⟨N0,k0,e0,h0⟩ :=
 ⟨by
  rw [aI hs0]
  refine s7 (st:=⟨N0,k0,e0,h0⟩) hk' (Ab (st:=⟨N0,k0,e0,h0⟩) hT hx ho ht hs hd) hg hd (fun st' e => ?_)
  obtain ⟨b,hb,rfl⟩:=e
  cases b
  ·exact hn.out
  ·exact (hy (hb rfl)).out⟩
theorem dP {rs:List ResultVar} {X X':AV} {hs hs':AH} (m:List Nat) (hr:qi T rs st.env st.h = some (X'.ren (mf m st.h.length))) (hl:hs'.length = m.length) (ha:m.take st.k = List.range st.k) (hlt:m.all (fun i => Nat.blt i st.h.length) = true) (hn:ndO m hs' = true) (hh:cx (mf m st.h.length) hs' = cm hs' (bP m st.h)) (hX:X' = X) (hH:hs' = hs):oI (rsS T rs) (fun v h => v = X ∧ h = hs) st:=by
 subst hX;subst hH
 exact ak m hr hl ha hlt hn hh
theorem zn {α:Type} {inst:Enc α} {t tn e:TypeId} {x y:Operand} {o i c sz nn:Nat} {m:Int} {kq kn:IntKind} {xs:List α} {z:α} {ti te tni:TI} {h':AH} (dc:Nat) (hs0:stK ks = (k,ks')) (hT:TOk P T) (hk':qk k = true) (hx:ev e0 x = some (.c (.row o 0 i))) (hy:ev e0 y = some (.c (.sc (.int kq m)))) (ht:tlk t T = some ti) (hs:ti.d = .slice e) (hte:tlk e T = some te) (hsz:te.size = sz) (htn:tlk tn T = some tni) (hns:tni.d = .int kn)
  (ho:h0[o]? = some (some ⟨true,e,sz,.fl (xs.map Enc.enc)⟩)) (hse:Enc.sz α = sz) (hz:Enc.dec te.zero = some z) (hc:lk dc e0 = some (.c (.cp o c))) (hb:i ≤ xs.length ∧ (c:Int) < i + m ∧ ((i:Int) + m) * te.bytes ≤ 140737488355328 ∧ (i:Int) + m ≤ 9223372036854775807) (hh:m9 h0 (ow e (xs.take i ++ List.replicate m.toNat z)) = some (nn,h'))
  (hg:gd ops ⟨some d0,.call { callee:=.builtin .append,args:=#[x,y],argTypes:=#[t,tn] },ty,pos,af,g⟩ e0 = some true) (hd:Nat.blt d0 N0 = true)
  (h:ZZ P ops Q h1 ks' l ⟨N0,k0,(d0,.c (.row nn 0 (i + m.toNat))) :: e0,h'⟩):ZZ P ops Q h1 ks (⟨some d0,.call { callee:=.builtin .append,args:=#[x,y],argTypes:=#[t,tn] },ty,pos,af,g⟩ :: l) ⟨N0,k0,e0,h0⟩ :=
 ⟨by
  rw [aI hs0]
  refine s7 (st:=⟨N0,k0,e0,h0⟩) hk' (yw (st:=⟨N0,k0,e0,h0⟩) hT hd hx hy ht hs hte hsz htn hns ho (by rw [List.length_map];exact hb.1) hc hb.2.1 hb.2.2.1 hb.2.2.2) hg hd (fun st' e => ?_)
  cases e
  obtain ⟨h2,h3⟩:=fO hh
  show WZ P ops Q h1 (kN ks' l) ⟨N0,k0,(d0,.c (.row h0.length 0 (i + m.toNat))) :: e0,h0 ++ [some ⟨true,e,sz,.fl ((xs.map Enc.enc).take i ++ List.replicate m.toNat te.zero)⟩]⟩
  have h4:(some (⟨true,e,sz,.fl ((xs.map (Enc.enc (α:=α))).take i ++ List.replicate m.toNat te.zero)⟩:AO)) = ow e (xs.take i ++ List.replicate m.toNat z):=by
   rw [ow,hse,List.map_append,List.map_take,List.map_replicate,Enc.decE hz]
  rw [h4,h2,h3]
  exact h.out⟩
theorem Cn {t tR e:TypeId} {fo x y:Operand} {ts:Array TypeId} {f:FuncId} {o1 s1 n1 o2 s2 n2:Nat} {e1 sz1 e2 sz2:Nat} {xs ys:List (List Value)} {ti te:TI} (hs0:stK ks = (k,ks')) (hT:TOk P T) (hk':qk k = true)
  (hcall:∀ args w,(callFunc f args).run P w = ((Extern.SlicesOverlaps.overlaps #[t,t] #[tR] args).run P w).andThen fun v w' => .ok (.value v) w')
  (hf:ev e0 fo = some (.c (.fn f []))) (hx:ev e0 x = some (.c (.row o1 s1 n1))) (hy:ev e0 y = some (.c (.row o2 s2 n2))) (ht:tlk t T = some ti) (hs:ti.d = .slice e) (hte:tlk e T = some te)
  (ho1:h0[o1]? = some (some ⟨true,e1,sz1,.fl xs⟩)) (ho2:h0[o2]? = some (some ⟨true,e2,sz2,.fl ys⟩)) (hb:o1 ≠ o2 ∧ 0 < n1 ∧ 0 < n2)
  (hg:gd ops ⟨some d0,.call { callee:=.value fo,args:=#[x,y],argTypes:=ts },ty,pos,af,g⟩ e0 = some true) (hd:Nat.blt d0 N0 = true)
  (h:ZZ P ops Q h1 ks' l ⟨N0,k0,(d0,B false) :: e0,h0⟩):ZZ P ops Q h1 ks (⟨some d0,.call { callee:=.value fo,args:=#[x,y],argTypes:=ts },ty,pos,af,g⟩ :: l) ⟨N0,k0,e0,h0⟩ :=
 ⟨by
  rw [aI hs0]
  refine s7 (st:=⟨N0,k0,e0,h0⟩) hk' (Af (st:=⟨N0,k0,e0,h0⟩) hT hd hcall hf hx hy ht hs hte ho1 ho2 hb.1 hb.2.1 hb.2.2) hg hd (fun st' e => ?_)
  cases e
  exact h.out⟩
noncomputable def sel {β:Type} (p:Prop) (a b:β):β:=if dB p = true then a else b
theorem au {β:Type} {p:Prop} {a b:β} (h:p):sel p a b = a:=by rw [sel,nR h];rfl
theorem ab {β:Type} {p:Prop} {a b:β} (h:¬ p):sel p a b = b:=by rw [sel,rf h];rfl
theorem iH {rs:List ResultVar} {p:Prop} {X Y:AV} {hs hs2:AH} (hp:p) (m:List Nat) (hr:qi T rs st.env st.h = some (X.ren (mf m st.h.length))) (hl:hs.length = m.length) (ha:m.take st.k = List.range st.k) (hlt:m.all (fun i => Nat.blt i st.h.length) = true) (hn:ndO m hs = true) (hh:cx (mf m st.h.length) hs = cm hs (bP m st.h)):oI (rsS T rs) (fun v h => v = sel p X Y ∧ h = sel p hs hs2) st :=
 dP m hr hl ha hlt hn hh (au hp).symm (au hp).symm
theorem bQ {rs:List ResultVar} {p:Prop} {X Y:AV} {hs hs2:AH} (hp:¬ p) (m:List Nat) (hr:qi T rs st.env st.h = some (Y.ren (mf m st.h.length))) (hl:hs2.length = m.length) (ha:m.take st.k = List.range st.k) (hlt:m.all (fun i => Nat.blt i st.h.length) = true) (hn:ndO m hs2 = true) (hh:cx (mf m st.h.length) hs2 = cm hs2 (bP m st.h)):oI (rsS T rs) (fun v h => v = sel p X Y ∧ h = sel p hs hs2) st :=
 dP m hr hl ha hlt hn hh (ab hp).symm (ab hp).symm
theorem zcs {fo:Operand} {ars:Array Operand} {ts:Array TypeId} {f:FuncId} {caps:List (Nat × Nat × Nat)} {vals args:List AV} {hs:AH} {p:Prop} {X Y X' Y':AV} {m:List Nat} (hs0:stK ks = (k,ks')) (hk':qk k = true) (hf:ev e0 fo = some (.c (.fn f caps))) (hev:evs e0 ars.toList = some vals) (hm:fL (jK h0 (vals ++ caps.map bK)) = some m) (hca:jX m (vals ++ caps.map bK) = some args) (hch:jY [] m h0 = some hs)
  (hargs:args.map (AV.ren (mf m h0.length)) = vals ++ caps.map bK) (hp:cx (mf m h0.length) hs = cm hs (bP m h0)) (hb:(dr hs m h0.length && roA hs) = true) (hc:FC P f args hs (sel p X Y) (sel p hs hs))
  (hX:∀ f,X.ren f = X) (hY:∀ f,Y.ren f = Y) (hX':fV X = some X') (hY':fV Y = some Y') (hg:gd ops ⟨some d0,.call { callee:=.value fo,args:=ars,argTypes:=ts },ty,pos,af,g⟩ e0 = some true) (hd:Nat.blt d0 N0 = true)
  (ht:p → ZZ P ops Q h1 ks' l ⟨N0,k0,(d0,X') :: e0,h0⟩) (hf':¬ p → ZZ P ops Q h1 ks' l ⟨N0,k0,(d0,Y') :: e0,h0⟩):ZZ P ops Q h1 ks (⟨some d0,.call { callee:=.value fo,args:=ars,argTypes:=ts },ty,pos,af,g⟩ :: l) ⟨N0,k0,e0,h0⟩:=by
 by_cases h:p
 ·rw [au h,au h] at hc
  exact zc hs0 hk' hf hev hm hca hch hargs hp hb hc hX hX' hg hd (ht h)
 ·rw [ab h,ab h] at hc
  exact zc hs0 hk' hf hev hm hca hch hargs hp hb hc hY hY' hg hd (hf' h)
theorem mT {fo:Operand} {ars:Array Operand} {ts:Array TypeId} {f:FuncId} {caps:List (Nat × Nat × Nat)} {vals args:List AV} {hs hs2 hs3 h2' h3':AH} {p:Prop} {X Y X' Y':AV} {m:List Nat} (hs0:stK ks = (k,ks')) (hk':qk k = true) (hf:ev e0 fo = some (.c (.fn f caps))) (hev:evs e0 ars.toList = some vals) (hm:fL (jK h0 (vals ++ caps.map bK)) = some m) (hca:jX m (vals ++ caps.map bK) = some args) (hch:jY [] m h0 = some hs)
  (hargs:args.map (AV.ren (mf m h0.length)) = vals ++ caps.map bK) (hp:cx (mf m h0.length) hs = cm hs (bP m h0)) (hb:(dr hs m h0.length && roA hs) = true) (hc:FC P f args hs (sel p X Y) (sel p hs2 hs3))
  (hno2:(hs2.drop m.length).all owN = true) (hno3:(hs3.drop m.length).all owN = true) (hX':fV (X.ren (mf m h0.length)) = some X') (hY':fV (Y.ren (mf m h0.length)) = some Y') (hh2:fH (h0 ++ cx (mf m h0.length) (hs2.drop m.length)) = some h2') (hh3:fH (h0 ++ cx (mf m h0.length) (hs3.drop m.length)) = some h3') (hg:gd ops ⟨some d0,.call { callee:=.value fo,args:=ars,argTypes:=ts },ty,pos,af,g⟩ e0 = some true) (hd:Nat.blt d0 N0 = true)
  (ht:p → ZZ P ops Q h1 ks' l ⟨N0,k0,(d0,X') :: e0,h2'⟩) (hf':¬ p → ZZ P ops Q h1 ks' l ⟨N0,k0,(d0,Y') :: e0,h3'⟩):ZZ P ops Q h1 ks (⟨some d0,.call { callee:=.value fo,args:=ars,argTypes:=ts },ty,pos,af,g⟩ :: l) ⟨N0,k0,e0,h0⟩:=by
 by_cases h:p
 ·rw [au h,au h] at hc
  exact zcf hs0 hk' hf hev hm hca hch hargs hp hb hc hno2 hX' hh2 hg hd (ht h)
 ·rw [ab h,ab h] at hc
  exact zcf hs0 hk' hf hev hm hca hch hargs hp hb hc hno3 hY' hh3 hg hd (hf' h)
end
end Go.Proofs.YtgehbhkfehmdkaaGreat.Sh
