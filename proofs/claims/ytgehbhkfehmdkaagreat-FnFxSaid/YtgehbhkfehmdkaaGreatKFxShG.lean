/- Symbolic memory: rows made, cut and grown. No condition. -/
import Derived.Test.YtgehbhkfehmdkaaGreatKFxShE
set_option linter.unusedVariables false
namespace Go.Proofs.YtgehbhkfehmdkaaGreat.Sh
section
open Go.RowKit Go.Proofs.YtgehbhkfehmdkaaGreatW
theorem f7 {sz:Nat}:∀ {L:List (List Value)},(∀ c ∈ L,c.length = sz) → ∀ {j:Nat} {u:Value},L.flatten[j]? = some u → ∃ (i r:Nat) (c:List Value),j = i * sz + r ∧ L[i]? = some c ∧ c[r]? = some u
 | [],_,j,u,h => by simp at h
 | c :: L,hL,j,u,h => by
   have hc:c.length = sz:=hL c (by simp)
   rw [List.flatten_cons] at h
   by_cases hj:j < sz
   ·rw [List.getElem?_append_left (by omega)] at h
    exact ⟨0,j,c,by omega,rfl,h⟩
   ·rw [List.getElem?_append_right (by omega)] at h
    obtain ⟨i,r,c',h1,h2,h3⟩:=f7 (fun d hd => hL d (by simp [hd])) h
    exact ⟨i + 1,r,c',by rw [Nat.add_mul];omega,by simpa using h2,h3⟩
theorem mR {sz:Nat}:∀ {L:List (List Value)},(∀ c ∈ L,c.length = sz) → ∀ {i j:Nat} {c:List Value} {u:Value},L[i]? = some c → c[j]? = some u → L.flatten[i * sz + j]? = some u
 | [],_,i,j,c,u,h,_ => by simp at h
 | d :: L,hL,0,j,c,u,h,hu => by
   have:d = c:=by simpa using h
   subst this
   rw [List.flatten_cons,Nat.zero_mul,Nat.zero_add,List.getElem?_append_left (List.getElem?_eq_some_iff.1 hu).1]
   exact hu
 | d :: L,hL,i + 1,j,c,u,h,hu => by
   have hd:d.length = sz:=hL d (by simp)
   rw [List.flatten_cons,List.getElem?_append_right (by rw [Nat.add_mul];omega),show (i + 1) * sz + j - d.length = i * sz + j from by rw [Nat.add_mul];omega]
   exact mR (fun e he => hL e (by simp [he])) (by simpa using h) hu
theorem bX {sz:Nat}:∀ {L:List (List Value)},(∀ c ∈ L,c.length = sz) → L.flatten.length = L.length * sz
 | [],_ => by simp
 | c :: L,hL => by
   rw [List.flatten_cons,List.length_append,bX (fun d hd => hL d (by simp [hd])),hL c (by simp),List.length_cons,Nat.add_mul]
   omega
def dW (sz:Nat) (L:List (List Value)):Prop:=∀ c ∈ L,c.length = sz ∧ ∀ u ∈ c,u.oneCell' = true
theorem gS {ρ:Pl} {w:World} {g cap sz:Nat} {e:TypeId} {cur:Array Value} {L:List (List Value)} (hg:w.heap[g]? = some (.cells cur e (0,0))) (hs:cur.size = cap * sz) (hF:dW sz L) (hl:L.length ≤ cap) (hm:cap ≤ 9223372036854775807) (hz:0 < sz) (ht:cur.toList.take (L.length * sz) = L.flatten) :
  ObjH ρ ⟨some ⟨g,0,none⟩,cap,sz,false⟩ ⟨true,e,sz,.fl L⟩ w:=by
 refine ⟨rfl,hz,hl,hm,fun a ha => ?_,fun h => by simp at h,fun i cs hi => ?_,fun _ => ⟨rfl,.inr ⟨g,cur,rfl,hg,hs⟩⟩⟩
 ·cases ha
  exact (Array.getElem?_eq_some_iff.1 hg).1
 ·obtain ⟨c,hc,rfl⟩:=Option.map_eq_some_iff.1 hi
  obtain ⟨h1,h2⟩:=hF c (List.mem_of_getElem? hc)
  refine ⟨by rw [List.length_map];exact h1,_,rfl,fun j x hx => ?_⟩
  rw [List.getElem?_map] at hx
  obtain ⟨u,hu,rfl⟩:=Option.map_eq_some_iff.1 hx
  refine ⟨u,?_,rfl,h2 u (List.mem_of_getElem? hu)⟩
  have h3:=mR (fun d hd => (hF d hd).1) hc hu
  rw [← ht] at h3
  have h4:i * sz + j < L.length * sz:=by
   have:=(List.getElem?_eq_some_iff.1 h3).1
   rw [List.length_take] at this
   omega
  rw [List.getElem?_take_of_lt h4] at h3
  show w.cell? ((⟨g,0,none⟩:Addr).add (i * sz + j)) = some u
  rw [dk,cell_of_row _ _ _ _ _ _ hg,← Array.getElem?_toList]
  exact h3
theorem ec {ρ:Pl} {s:Slot} {own:Bool} {e sz:Nat} {L:List (List Value)} {w:World} (h:ObjH ρ s ⟨own,e,sz,.fl L⟩ w):dW sz L:=fun c hc => by
 obtain ⟨i,hi⟩:=List.getElem?_of_mem hc
 obtain ⟨h1,a,_,h2⟩:=h.cell i (c.map .sc) (by show (L[i]?).map _ = _;rw [hi];rfl)
 refine ⟨by rw [List.length_map] at h1;exact h1,fun u hu => ?_⟩
 obtain ⟨j,hj⟩:=List.getElem?_of_mem hu
 obtain ⟨v,_,h3⟩:=h2 j (.sc u) (by rw [List.getElem?_map,hj];rfl)
 exact h3.2
theorem p6 {ρ:Pl} {s:Slot} {e sz:Nat} {L:List (List Value)} {w:World} (h:ObjH ρ s ⟨true,e,sz,.fl L⟩ w) {g:Nat} {cur:Array Value} (ha:s.a = some ⟨g,0,none⟩) (hg:w.heap[g]? = some (.cells cur e (0,0))) (hs:cur.size = s.cap * sz):cur.toList.take (L.length * sz) = L.flatten:=by
 have hF:=ec h
 have hl:L.length ≤ s.cap:=h.len
 have h1:L.length * sz ≤ cur.toList.length:=by have h0:cur.toList.length = cur.size:=Array.length_toList;rw [h0,hs];exact Nat.mul_le_mul_right _ hl
 apply List.ext_getElem?
 intro k
 by_cases hk:k < L.length * sz
 ·rw [List.getElem?_take_of_lt hk]
  have hkf:k < L.flatten.length:=by rw [bX (fun d hd => (hF d hd).1)];exact hk
  obtain ⟨i,r,c,h2,h3,h4⟩:=f7 (fun d hd => (hF d hd).1) (List.getElem?_eq_getElem hkf)
  obtain ⟨_,a,ha',h5⟩:=h.cell i (c.map .sc) (by show (L[i]?).map _ = _;rw [h3];rfl)
  rw [ha] at ha'
  cases ha'
  obtain ⟨v,h6,h7⟩:=h5 r (.sc L.flatten[k]) (by rw [List.getElem?_map,h4];rfl)
  have h6:w.cell? ((⟨g,0,none⟩:Addr).add (i * sz + r)) = some v:=h6
  rw [dk,cell_of_row _ _ _ _ _ _ hg,← Array.getElem?_toList,← h2] at h6
  rw [h6,h7.1,List.getElem?_eq_getElem hkf]
 ·rw [List.getElem?_eq_none (by rw [List.length_take];omega),List.getElem?_eq_none (by rw [bX (fun d hd => (hF d hd).1)];omega)]
theorem sX {Γ:Ctx} {ρ:Pl} {h:AH} {w:World} (hH:Holds Γ ρ h w) {o s m:Nat} {own:Bool} {e sz:Nat} {ys:List (List Value)} (ho:h[o]? = some (some ⟨own,e,sz,.fl ys⟩)) (hb:s + m ≤ ys.length) {v:Value} (hv:RowR ρ o s m v) :
  dW sz ys ∧ ((m = 0 ∧ ∃ A c,v = .slice A 0 c) ∨ ∃ a c,v = .slice (some a) m c ∧ ∀ j u,((ys.drop s).take m).flatten[j]? = some u → w.cell? (a.add j) = some u):=by
 obtain ⟨sl,k1,k2⟩:=hH.obj o _ ho
 have hF:=ec k2
 refine ⟨hF,?_⟩
 obtain ⟨sl',e1,e2,e3⟩:=hv
 have:sl = sl':=by rw [k1] at e1;exact Option.some.inj e1
 subst this
 rcases Nat.eq_zero_or_pos m with hm | hm
 ·left
  subst hm
  refine ⟨rfl,?_⟩
  rcases e3 with ⟨cc,e3,_⟩ | ⟨_,_,A,c,e3,_⟩
  ·exact ⟨_,_,e3⟩
  ·exact ⟨A,c,e3⟩
 ·right
  rcases e3 with ⟨cc,e3,_⟩ | ⟨e0,_⟩
  ·cases ha:sl.a with
   | none => have:=k2.nil ha;omega
   | some a =>
     rw [ha] at e3
     refine ⟨_,_,e3,fun j u hu => ?_⟩
     have hsub:∀ c ∈ (ys.drop s).take m,c.length = sz:=fun c hc => (hF c (List.mem_of_mem_drop (List.mem_of_mem_take hc))).1
     obtain ⟨i,r,c,h2,h3,h4⟩:=f7 hsub hu
     have hi:i < m:=by have:=(List.getElem?_eq_some_iff.1 h3).1;rw [List.length_take] at this;omega
     rw [List.getElem?_take_of_lt hi,List.getElem?_drop] at h3
     obtain ⟨_,a',ha',h5⟩:=k2.cell (s + i) (c.map .sc) (by show (ys[s + i]?).map _ = _;rw [h3];rfl)
     rw [ha] at ha'
     cases ha'
     obtain ⟨x,h6,h7⟩:=h5 r (.sc u) (by rw [List.getElem?_map,h4];rfl)
     have h6:w.cell? (a.add ((s + i) * sz + r)) = some x:=h6
     rw [eG,h2,k2.sz,show s * (⟨own,e,sz,.fl ys⟩:AO).sz + (i * sz + r) = (s + i) * sz + r from by show s * sz + _ = _;rw [Nat.add_mul];omega,h6,h7.1]
  ·omega
section
variable {P:Program} {T:TB}
theorem kA {t ty e:TypeId} {i:TypeInfo} (ht:P.underlying t = some (.slice e)) (hi:P.info? e = some i) (b:Option Addr) (n c:Nat) (hc:n ≤ c) (A:Option Addr) (c':Nat) (w:World) :
  (Builtin.append_ #[t,t] ty #[.slice b n c,.slice A 0 c']).run P w = .ok (.slice b n c) w:=by
 cases A <;> cases b <;> simp [Builtin.append_,run_underlying ht,sizeOf,typeInfo,hi,Builtin.lenOf,Builtin.firstCells,loadCells,loadCellsFrom,hc,storeCells]
theorem qw (hT:TOk P T) {st:St} {dst:Option Tmp} {t e:TypeId} {x y:Operand} {ty:TypeId} {pos:String} {af:Array Edge} {g:Option (Nat × Bool)} {o n o2 s2 m:Nat} {own2:Bool} {e2 sz:Nat} {xs ys:List (List Value)} {ti te:TI} (hd:st.fits dst = true)
  (hx:ev st.env x = some (.c (.row o 0 n))) (hy:ev st.env y = some (.c (.row o2 s2 m))) (ht:tlk t T = some ti) (hs:ti.d = .slice e) (hte:tlk e T = some te) (hsz:te.size = sz)
  (ho:st.h[o]? = some (some ⟨true,e,sz,.fl xs⟩)) (hn:n ≤ xs.length) (ho2:st.h[o2]? = some (some ⟨own2,e2,sz,.fl ys⟩)) (hm:s2 + m ≤ ys.length) (hb:(n + m) * te.bytes ≤ 140737488355328) (hb1:n + m ≤ 9223372036854775807) :
  OpW P ⟨dst,.call { callee:=.builtin .append,args:=#[x,y],argTypes:=#[t,t] },ty,pos,af,g⟩ st (fun st' => st' = ({ st with h:=st.h.set o none ++ [some ⟨true,e,sz,.fl (xs.take n ++ (ys.drop s2).take m)⟩] }:St).put dst (.c (.row st.h.length 0 (n + m)))):=fun Γ ρ a w hr K' Q' hk => by
 obtain ⟨sl,k1,k2⟩:=hr.holds.obj o _ ho
 obtain ⟨sl',r1,r2,r3⟩:RowR ρ o 0 n (a.eval x):=b7 hr.env hx
 have:sl = sl':=by rw [k1] at r1;exact Option.some.inj r1
 subst this
 obtain ⟨q1,q2⟩:=k2.own rfl
 have r4':∃ b,a.eval x = .slice b n sl.cap ∧ (b = sl.a ∨ sl.cap = 0):=by
  rcases r3 with ⟨cc,r3,_,r6⟩ | ⟨r7,r5,A,c,r8,r9⟩
  ·refine ⟨sl.a,?_,.inl rfl⟩
   rw [r3,r6 q1]
   cases sl.a <;> simp [Addr.add]
  ·have hc:sl.cap = 0:=by
    rcases r5 with r5 | r5 | r5
    ·omega
    ·rw [q1] at r5;cases r5
    ·exact r5
   exact ⟨A,by rw [r8,r9 rfl q1,hc,r7],.inr hc⟩
 obtain ⟨bx,r4,r4c⟩:=r4'
 obtain ⟨hF2,hsrc⟩:=sX hr.holds ho2 hm (b7 hr.env hy)
 have hF:=ec k2
 obtain ⟨ie,z,i1,i2,i3,i4,i5⟩:=(hT e te hte).info
 have hu:P.underlying t = some (.slice e):=by have:=bE hT ht;rw [hs] at this;exact this
 have hpos:0 < sz:=k2.pos
 have holt:o < st.h.length:=(List.getElem?_eq_some_iff.1 ho).1
 have hLl:(xs.take n ++ (ys.drop s2).take m).length = n + m:=by
  rw [List.length_append,List.length_take,List.length_take,List.length_drop]
  omega
 have hLF:dW sz (xs.take n ++ (ys.drop s2).take m):=fun c hc => by
  rcases List.mem_append.1 hc with h | h
  ·exact hF c (List.mem_of_mem_take h)
  ·exact hF2 c (List.mem_of_mem_drop (List.mem_of_mem_take h))
 have hFx:∀ c ∈ xs.take n,c.length = sz:=fun c hc => (hF c (List.mem_of_mem_take hc)).1
 have hFy:∀ c ∈ (ys.drop s2).take m,c.length = sz:=fun c hc => (hF2 c (List.mem_of_mem_drop (List.mem_of_mem_take hc))).1
 have hxl:(xs.take n).flatten.length = n * sz:=by rw [bX hFx,List.length_take,Nat.min_eq_left hn]
 have hyl:((ys.drop s2).take m).flatten.length = m * sz:=by rw [bX hFy,List.length_take,List.length_drop,Nat.min_eq_left (by omega)]
 -- what is to be shown at a world,a slot
 have fin:∀ (v:Value) (w':World) (sl1:Slot),(execOp a.eval ⟨dst,.call { callee:=.builtin .append,args:=#[x,y],argTypes:=#[t,t] },ty,pos,af,g⟩).run P w = .ok (.value v) w' →
   w'.os = w.os → w'.tape = w.tape → w'.output = w.output → w.heap.size ≤ w'.heap.size → (∀ k,k < w.heap.size → sl.blk ≠ some k → w'.heap[k]? = w.heap[k]?) → sl1.sz = sz → sl1.ro = false →
   ObjH (ρ ++ [sl1]) sl1 ⟨true,e,sz,.fl (xs.take n ++ (ys.drop s2).take m)⟩ w' → (∀ gg,sl1.blk = some gg → sl.blk = some gg ∨ w.heap.size ≤ gg) → (∃ b,v = .slice b (n + m) sl1.cap ∧ (b = sl1.a ∨ sl1.cap = 0)) →
   Oper.wp P ⟨dst,.call { callee:=.builtin .append,args:=#[x,y],argTypes:=#[t,t] },ty,pos,af,g⟩ a w K' Q':=by
  intro v w' sl1 hrun e1 e2' e3 e4 e5 e6 e7 e8 e9 e10
  unfold Oper.wp
  rw [hrun]
  have hlen:(ρ ++ [sl1]).length = (st.h.set o none ++ [some (⟨true,e,sz,.fl (xs.take n ++ (ys.drop s2).take m)⟩:AO)]).length:=by simp [hr.len]
  have hH:Holds Γ (ρ ++ [sl1]) (st.h.set o none ++ [some ⟨true,e,sz,.fl (xs.take n ++ (ys.drop s2).take m)⟩]) w':=by
   have hget:∀ (o':Nat) ob,(st.h.set o none ++ [some (⟨true,e,sz,.fl (xs.take n ++ (ys.drop s2).take m)⟩:AO)])[o']? = some (some ob) → o' ≠ st.h.length → st.h[o']? = some (some ob) ∧ o' ≠ o:=by
    intro o' ob ho' hne
    rw [List.getElem?_append] at ho'
    split at ho'
    ·by_cases e:o = o'
     ·subst e
      rw [List.getElem?_set_self holt] at ho'
      simp at ho'
     ·rw [List.getElem?_set_ne e] at ho'
      exact ⟨ho',fun h => e h.symm⟩
    ·have h1:=(List.getElem?_eq_some_iff.1 ho').1
     simp at h1
     rename_i hh
     simp at hh
     omega
   refine hr.holds.one e1 e2' e3 e4 sl.blk e5 (Ext.append _ _) st.h.length _ sl1 (by rw [← hr.len];exact bc _ _) e8 (fun gg hgg => ⟨o,_,sl,ho,rfl,k1,hgg,fun ob' hob' => ?_⟩) (fun o' ob' ho' hne => (hget o' ob' ho' hne).1) ?_ e9
   ·by_cases e:o = st.h.length
    ·exact e
    ·exact ((hget o ob' hob' e).2 rfl).elim
   ·have:(st.h.set o none).length = st.h.length:=by simp
    rw [← this]
    exact bc _ _
  refine hk _ _ _ _ rfl (hr.put _ dst hd _ v (Ext.append _ _) hlen hH ⟨sl1,by rw [← hr.len];exact bc _ _,?_,?_⟩)
  ·have:=e8.len
   rw [show (⟨true,e,sz,.fl (xs.take n ++ (ys.drop s2).take m)⟩:AO).el.len = n + m from hLl] at this
   omega
  ·have h9:=e8.len
   rw [show (⟨true,e,sz,.fl (xs.take n ++ (ys.drop s2).take m)⟩:AO).el.len = n + m from hLl] at h9
   obtain ⟨b,e10,e11⟩:=e10
   rcases e11 with e11 | e11
   ·refine .inl ⟨sl1.cap,?_,h9,fun _ => rfl⟩
    rw [e10,e11]
    cases sl1.a <;> simp [Addr.add]
   ·refine .inr ⟨by omega,.inr (.inr e11),b,sl1.cap,by rw [e10,show n + m = 0 from by omega],fun _ _ => e11⟩
 have hexec:∀ v w',(Builtin.append_ #[t,t] ty #[a.eval x,a.eval y]).run P w = .ok v w' → (execOp a.eval ⟨dst,.call { callee:=.builtin .append,args:=#[x,y],argTypes:=#[t,t] },ty,pos,af,g⟩).run P w = .ok (.value v) w':=by
  intro v w' h
  unfold execOp
  simp [resolve,invoke,builtin,h]
 have hh0:m = 0 → Oper.wp P ⟨dst,.call { callee:=.builtin .append,args:=#[x,y],argTypes:=#[t,t] },ty,pos,af,g⟩ a w K' Q':=fun hm0 => by
  subst hm0
  obtain ⟨A,c,hsv⟩:∃ A c,a.eval y = .slice A 0 c:=by
   rcases hsrc with ⟨_,A,c,h⟩ | ⟨ad,c,h,_⟩
   ·exact ⟨A,c,h⟩
   ·exact ⟨_,c,h⟩
  refine fin _ w sl (hexec _ _ (by rw [r4,hsv];exact kA hu i1 bx n sl.cap (by omega) A c w)) rfl rfl rfl (Nat.le_refl _) (fun _ _ _ => rfl) k2.sz q1 ?_ (fun gg hgg => .inl hgg) ⟨bx,rfl,r4c⟩
  have h1:ObjH ρ sl ⟨true,e,sz,.fl (xs.take n ++ (ys.drop s2).take 0)⟩ w:=by
   rw [List.take_zero,List.append_nil]
   refine ⟨k2.sz,k2.pos,by show (xs.take n).length ≤ _;rw [List.length_take];omega,k2.max,k2.lt,k2.nil,fun i cs hi => ?_,k2.own⟩
   obtain ⟨d,hd',rfl⟩:=Option.map_eq_some_iff.1 hi
   have hin:i < n:=by have:=(List.getElem?_eq_some_iff.1 hd').1;rw [List.length_take] at this;omega
   rw [List.getElem?_take_of_lt hin] at hd'
   exact k2.cell i _ (by show (xs[i]?).map _ = _;rw [hd'];rfl)
  exact h1.ext (Ext.append _ _)
 rcases Nat.eq_zero_or_pos m with hm0 | hm0
 ·exact hh0 hm0
 rcases hsrc with ⟨hm1,_⟩ | ⟨ad,c,hsv,hsc⟩
 ·omega
 ·by_cases hcap0:sl.cap = 0
  ·-- the row bears nothing
   have hn0:n = 0:=by omega
   subst hn0
   have hzs:z.cells.size = sz:=by
    have h0:z.cells.toList.length = z.cells.size:=Array.length_toList
    rw [← h0,i5,(hT e te hte).zl,hsz]
   have hge:=grownCap_ge w m 0 e
   have hle:=grownCap_le_maxLen w m 0 e (by unfold maxLen;omega)
   unfold maxLen at hle
   have hrun:(Builtin.append_ #[t,t] ty #[a.eval x,a.eval y]).run P w = .ok (.slice (some ⟨w.heap.size,0,none⟩) m (grownCap w m 0 e)) (w.drew.alloc (.cells (((ys.drop s2).take m).flatten.toArray ++ Builtin.zeroCells z.cells (grownCap w m 0 e - m)) e)):=by
    rw [r4,hsv,hcap0]
    cases bx with
    | none => exact run_append_nil (P:=P) w t ty e ie z hu i1 i4 ad m c _ (by rw [hyl,i2,hsz]) hsc hm0 (by omega) (by rw [i3];have h9:=hb;rw [Nat.zero_add] at h9;omega)
    | some bd =>
      have hg:=run_append_grow (P:=P) w t ty e ie z hu i1 i4 bd 0 0 [] (by simp) (fun j v h => by simp at h) ad m c _ (by rw [hyl,i2,hsz]) hsc (by omega) (by omega) (growslice_fits (by omega) (by rw [i3];exact hb))
      simpa using hg
   refine fin _ _ ⟨some ⟨w.heap.size,0,none⟩,grownCap w m 0 e,sz,false⟩ (hexec _ _ hrun) rfl rfl rfl (by simp) (fun k hk _ => Below.heap_alloc w.drew _ k hk) rfl rfl ?_ (fun gg hgg => .inr ?_) ⟨_,by simp,.inl rfl⟩
   ·refine gS (heap_alloc_new w.drew _) ?_ hLF (by rw [hLl];omega) hle hpos ?_
    ·simp only [Array.size_append,List.size_toArray,size_zeroCells,hzs,hyl,← Nat.add_mul]
     congr 1
     omega
    ·rw [hLl]
     simp only [List.take_zero,List.nil_append,Nat.zero_add,Array.toList_append]
     rw [← hyl]
     exact List.take_left
   ·have:w.heap.size = gg:=Option.some.inj hgg
    omega
  obtain rfl:bx = sl.a:=by
   rcases r4c with h | h
   ·exact h
   ·exact (hcap0 h).elim
  rcases q2 with ⟨_,q3⟩ | ⟨gb,cur,q2,q3,q4⟩
  ·exact (hcap0 q3).elim
  ·by_cases hroom:n + m ≤ sl.cap
   ·-- in place
    have hrun:=run_append_room (P:=P) w t ty e ie hu i1 gb n sl.cap cur q3 ad m c _ (by rw [hyl,i2,hsz]) hsc (fun u hu => by
     obtain ⟨cc,h1,h2⟩:=List.mem_flatten.1 hu
     exact (hF2 cc (List.mem_of_mem_drop (List.mem_of_mem_take h1))).2 u h2) hroom (by rw [hyl,i2,hsz,q4,← Nat.add_mul];exact Nat.mul_le_mul_right _ hroom)
    rw [← q2,← r4,← hsv] at hrun
    refine fin _ _ sl (hexec _ _ hrun) rfl rfl rfl (by rw [cQ];exact Nat.le_refl _) (fun k _ hne => setRow_other' _ _ _ _ (fun e => hne (by simp [Slot.blk,q2,e]))) k2.sz q1 ?_ (fun gg hgg => .inl hgg) ⟨_,by rw [q2],.inl rfl⟩
    have h1:ObjH (ρ ++ [sl]) ⟨some ⟨gb,0,none⟩,sl.cap,sz,false⟩ ⟨true,e,sz,.fl (xs.take n ++ (ys.drop s2).take m)⟩ (w.setRow gb (cur.toList.take (n * ie.size) ++ ((ys.drop s2).take m).flatten ++ cur.toList.drop (n * ie.size + ((ys.drop s2).take m).flatten.length)).toArray):=by
     have hcl:cur.toList.length = sl.cap * sz:=by rw [Array.length_toList];exact q4
     have hbd:n * sz + m * sz ≤ sl.cap * sz:=by rw [← Nat.add_mul];exact Nat.mul_le_mul_right _ hroom
     refine gS (setRow_heap w gb cur _ e _ q3) ?_ hLF (by rw [hLl];exact hroom) k2.max hpos ?_
     ·simp only [List.size_toArray,List.length_append,List.length_take,List.length_drop,hyl,i2,hsz,hcl]
      omega
     ·rw [hLl,List.flatten_append,i2,hsz]
      have h2:=p6 k2 q2 q3 q4
      have h3:cur.toList.take (n * sz) = (xs.take n).flatten:=by
       have h4:n * sz ≤ xs.length * sz:=Nat.mul_le_mul_right _ hn
       have h5:cur.toList.take (n * sz) = (cur.toList.take (xs.length * sz)).take (n * sz):=by rw [List.take_take,Nat.min_eq_left h4]
       rw [h5,h2]
       have h6:xs.flatten = (xs.take n).flatten ++ (xs.drop n).flatten:=by rw [← List.flatten_append,List.take_append_drop]
       rw [h6,← hxl]
       exact List.take_left
      rw [h3]
      have h7:((xs.take n).flatten ++ ((ys.drop s2).take m).flatten).length = (n + m) * sz:=by rw [List.length_append,hxl,hyl,Nat.add_mul]
      rw [← h7]
      exact List.take_left
    have h8:sl = ⟨some ⟨gb,0,none⟩,sl.cap,sz,false⟩:=by
     obtain ⟨sa,sc,ss,sr⟩:=sl
     have:=k2.sz
     simp_all
    rw [← h8] at h1
    exact h1
   ·have hold:∀ j u,(xs.take n).flatten[j]? = some u → w.cell? ((⟨gb,0,none⟩:Addr).add j) = some u:=by
     intro j u hu
     obtain ⟨i,r,cc,h2,h3,h4⟩:=f7 hFx hu
     have hin:i < n:=by have:=(List.getElem?_eq_some_iff.1 h3).1;rw [List.length_take] at this;omega
     rw [List.getElem?_take_of_lt hin] at h3
     obtain ⟨_,a',ha',h5⟩:=k2.cell i (cc.map .sc) (by show (xs[i]?).map _ = _;rw [h3];rfl)
     rw [q2] at ha'
     cases ha'
     obtain ⟨xx,h6,h7⟩:=h5 r (.sc u) (by rw [List.getElem?_map,h4];rfl)
     have h6:w.cell? ((⟨gb,0,none⟩:Addr).add (i * sz + r)) = some xx:=h6
     rw [h2,h6,h7.1]
    have hrun:=run_append_grow (P:=P) w t ty e ie z hu i1 i4 ⟨gb,0,none⟩ n sl.cap _ (by rw [hxl,i2,hsz]) hold ad m c _ (by rw [hyl,i2,hsz]) hsc (by omega) (by omega) (growslice_fits (by omega) (by rw [i3];exact hb))
    have hge:=grownCap_ge w (n + m) sl.cap e
    have hle:=grownCap_le_maxLen w (n + m) sl.cap e (by unfold maxLen;omega)
    unfold maxLen at hle
    have hzs:z.cells.size = sz:=by
     have h0:z.cells.toList.length = z.cells.size:=Array.length_toList
     rw [← h0,i5,(hT e te hte).zl,hsz]
    rw [← q2,← r4,← hsv] at hrun
    refine fin _ _ ⟨some ⟨w.heap.size,0,none⟩,grownCap w (n + m) sl.cap e,sz,false⟩ (hexec _ _ hrun) rfl rfl rfl (by simp) (fun k hk _ => Below.heap_alloc w.drew _ k hk) rfl rfl ?_ (fun gg hgg => .inr ?_) ⟨_,rfl,.inl rfl⟩
    ·refine gS (heap_alloc_new w.drew _) ?_ hLF (by rw [hLl];exact hge) hle hpos ?_
     ·simp only [Array.size_append,List.size_toArray,size_zeroCells,hzs,hyl,hxl,← Nat.add_mul]
      congr 1
      omega
     ·rw [hLl]
      simp only [Array.toList_append,List.flatten_append]
      have h7:((xs.take n).flatten ++ ((ys.drop s2).take m).flatten).length = (n + m) * sz:=by rw [List.length_append,hxl,hyl,Nat.add_mul]
      rw [← h7]
      exact List.take_left
    ·have:w.heap.size = gg:=Option.some.inj hgg
     omega
end
end
section
open Go.RowKit Go.Proofs.YtgehbhkfehmdkaaGreatW
theorem oH (off:Nat):∀ (l:List Value) (j:Nat) (cs:Array Value),off + j + l.length ≤ cs.size → ∀ k,((l.zipIdx j).foldl (fun cs (p:Value × Nat) => cs.setIfInBounds (off + p.2) p.1) cs)[k]? = (if off + j ≤ k ∧ k < off + j + l.length then l[k - (off + j)]? else cs[k]?) ∧ ((l.zipIdx j).foldl (fun cs (p:Value × Nat) => cs.setIfInBounds (off + p.2) p.1) cs).size = cs.size
 | [],j,cs,h,k => by
   simp only [List.zipIdx_nil,List.foldl_nil,List.length_nil,Nat.add_zero,and_true]
   rw [if_neg (by omega)]
 | c :: l,j,cs,h,k => by
   simp only [List.length_cons] at h
   obtain ⟨h1,h2⟩:=oH off l (j + 1) (cs.setIfInBounds (off + j) c) (by simp;omega) k
   simp only [List.zipIdx_cons,List.foldl_cons]
   refine ⟨?_,by rw [h2];simp⟩
   rw [h1]
   by_cases hk:k = off + j
   ·subst hk
    rw [if_neg (by omega),if_pos (by simp),Nat.sub_self,Array.getElem?_setIfInBounds_self_of_lt (by omega)]
    rfl
   ·by_cases hin:off + (j + 1) ≤ k ∧ k < off + (j + 1) + l.length
    ·rw [if_pos hin,if_pos (by simp only [List.length_cons];omega),show k - (off + j) = (k - (off + (j + 1))) + 1 from by omega]
     rfl
    ·rw [if_neg hin,if_neg (by simp only [List.length_cons];omega),Array.getElem?_setIfInBounds_ne (by omega)]
theorem oE {sz:Nat} (hz:0 < sz):∀ (L:List (List Value)) (vs:List Value) (k0:Nat) (cs:Array Value),All2 (fun c (v:Value) => v.cells.toList = c ∧ c.length = sz) L vs → (k0 + L.length) * sz ≤ cs.size →
  ∃ r,Instr.fill (fun i => some (i * sz,sz)) cs (vs.mapIdx (fun i v => (k0 + i,v))) = some r ∧ r.size = cs.size ∧ ∀ k,r[k]? = if k0 * sz ≤ k ∧ k < (k0 + L.length) * sz then L.flatten[k - k0 * sz]? else cs[k]?
 | [],[],k0,cs,_,_ => ⟨cs,rfl,rfl,fun k => by rw [if_neg (by simp only [List.length_nil,Nat.add_zero];omega)]⟩
 | c :: L,v :: vs,k0,cs,h,hs => by
   obtain ⟨⟨h1,h2⟩,h3⟩:=h
   have hvs:v.cells.size = sz:=by rw [← h2,← h1,Array.length_toList]
   have hsz:k0 * sz + sz ≤ cs.size:=by
    have:(k0 + 1) * sz ≤ (k0 + (c :: L).length) * sz:=Nat.mul_le_mul_right _ (by simp)
    rw [Nat.add_mul,Nat.one_mul] at this
    omega
   have hf:=oH (k0 * sz) c 0 cs (by omega)
   obtain ⟨C,hC⟩:∃ C,C = (c.zipIdx 0).foldl (fun cs (p:Value × Nat) => cs.setIfInBounds (k0 * sz + p.2) p.1) cs:=⟨_,rfl⟩
   rw [← hC] at hf
   obtain ⟨r,h4,h5,h6⟩:=oE hz L vs (k0 + 1) C h3 (by rw [(hf 0).2];rw [List.length_cons] at hs;rwa [Nat.add_assoc,Nat.add_comm 1])
   refine ⟨r,?_,by rw [h5,(hf 0).2],fun k => ?_⟩
   ·rw [List.mapIdx_cons]
    unfold Instr.fill
    simp only [Nat.add_zero]
    rw [if_neg (by simp only [Bool.or_eq_true,decide_eq_true_eq];rintro (hc | hc) <;> omega)]
    have e1:v.cells.zipIdx.foldl (fun cs (c,j) => cs.setIfInBounds (k0 * sz + j) c) cs = C:=by
     rw [hC,← Array.foldl_toList,Array.toList_zipIdx,h1]
    rw [e1]
    have e2:(fun (i:Nat) (v:Value) => (k0 + (i + 1),v)) = (fun i v => (k0 + 1 + i,v)):=by
     funext i v
     rw [show k0 + (i + 1) = k0 + 1 + i from by omega]
    rw [e2]
    exact h4
   ·rw [h6]
    have hk1:(k0 + 1) * sz = k0 * sz + sz:=by rw [Nat.add_mul,Nat.one_mul]
    have hk2:(k0 + (c :: L).length) * sz = (k0 + 1 + L.length) * sz:=by rw [List.length_cons];congr 1;omega
    rw [hk2]
    have hle:(k0 + 1) * sz ≤ (k0 + 1 + L.length) * sz:=Nat.mul_le_mul_right _ (by omega)
    rw [List.flatten_cons]
    by_cases hin:(k0 + 1) * sz ≤ k ∧ k < (k0 + 1 + L.length) * sz
    ·rw [if_pos hin,if_pos (by omega),List.getElem?_append_right (by omega),h2]
     congr 1
     omega
    ·rw [if_neg hin,(hf k).1]
     simp only [Nat.add_zero]
     by_cases hin2:k0 * sz ≤ k ∧ k < k0 * sz + c.length
     ·rw [if_pos hin2,if_pos (by omega),List.getElem?_append_left (by omega)]
     ·rw [if_neg hin2,if_neg (by omega)]
section
variable {P:Program} {T:TB}
def loV (env:List (Nat × AV)):Option Operand → Int → Option Int
 | none,d => some d
 | some x,_ => match ev env x with
   | some (.c (.sc (.int _ i))) => some i
   | _ => none
theorem oU {ρ:Pl} {env:List (Nat × AV)} {a:Act} (he:EnvR ρ env a.tmps) {d i:Int}:∀ {x:Option Operand},loV env x d = some i → (x.map a.eval = none ∧ i = d) ∨ ∃ k,x.map a.eval = some (.int k i)
 | none,h => by
   cases h
   exact .inl ⟨rfl,rfl⟩
 | some x,h => by
   have h:(match ev env x with
    | some (.c (.sc (.int _ i))) => some i
    | _ => none) = some i:=h
   split at h
   ·rename_i k j hj
    cases h
    exact .inr ⟨k,congrArg some (dr (b7 he hj))⟩
   ·cases h
theorem jt {t e:TypeId} (hu:P.underlying t = some (.slice e)) {sz:Nat} (w:World) (hsz:∀ w,(sizeOf e).run P w = .ok sz w) (A:Option Addr) (n c l h:Nat) (lo hi:Option Value) (hlo:(lo = none ∧ (l:Int) = 0) ∨ ∃ k,lo = some (.int k l)) (hhi:(hi = none ∧ (h:Int) = n) ∨ ∃ k,hi = some (.int k h)) (h1:l ≤ h) (h2:h ≤ c) (h3:n ≤ c) :
  (Instr.sliceAt t (.slice A n c) lo hi none).run P w = .ok (.slice (if c = l then A else A.map (·.add (l * sz))) (h - l) (c - l)) w:=by
 have e1:∀ (k:IntKind) (i y:Nat) code w,i ≤ y → (Instr.sliceBound (.int k i) y code).run P w = .ok i w:=fun k i y code w hi => by
  have h5:(i:Int) ≤ y:=by omega
  simp [Instr.sliceBound,asIntOf,h5]
 rcases hlo with ⟨rfl,hl⟩ | ⟨k,rfl⟩
 ·have hl:l = 0:=by omega
  subst hl
  rcases hhi with ⟨rfl,hh⟩ | ⟨k',rfl⟩
  ·have hh:h = n:=by omega
   subst hh
   simp [Instr.sliceAt,cd hu,Instr.slice,Instr.sliceBounds,hsz]
  ·simp [Instr.sliceAt,cd hu,Instr.slice,Instr.sliceBounds,hsz,e1 k' h c _ _ (by omega)]
 ·rcases hhi with ⟨rfl,hh⟩ | ⟨k',rfl⟩
  ·have hh:h = n:=by omega
   subst hh
   simp [Instr.sliceAt,cd hu,Instr.slice,Instr.sliceBounds,hsz,e1 k l h _ _ h1]
  ·simp [Instr.sliceAt,cd hu,Instr.slice,Instr.sliceBounds,hsz,e1 k' h c _ _ (by omega),e1 k l h _ _ h1]
theorem sL (hT:TOk P T) {st:St} {dst:Option Tmp} {t e:TypeId} {x:Operand} {lo hi:Option Operand} {ty:TypeId} {pos:String} {af:Array Edge} {g:Option (Nat × Bool)} {o s n:Nat} {ob:AO} {l h:Int} {ti te:TI} (hx:ev st.env x = some (.c (.row o s n)))
  (ht:tlk t T = some ti) (hs:ti.d = .slice e) (hte:tlk e T = some te) (ho:st.h[o]? = some (some ob)) (hsz:te.size = ob.sz) (hl:loV st.env lo 0 = some l) (hh:loV st.env hi n = some h) (h0:0 ≤ l) (h1:l ≤ h) (h2:h ≤ n) :
  OpP P ⟨dst,.slice t x lo hi none,ty,pos,af,g⟩ st (.c (.row o (s + l.toNat) (h.toNat - l.toNat))):=fun Γ ρ a w0 hr => by
 obtain ⟨sl,k1,k2⟩:=hr.holds.obj o ob ho
 obtain ⟨sl',e1,e2,e3⟩:RowR ρ o s n (a.eval x):=b7 hr.env hx
 have:sl = sl':=by rw [k1] at e1;exact Option.some.inj e1
 subst this
 have hu:P.underlying t = some (.slice e):=by have:=bE hT ht;rw [hs] at this;exact this
 have hlo:=oU hr.env hl
 have hhi:=oU hr.env hh
 obtain ⟨ln,rfl⟩:=Int.eq_ofNat_of_zero_le h0
 obtain ⟨hn,rfl⟩:=Int.eq_ofNat_of_zero_le (Int.le_trans h0 h1)
 rw [Int.toNat_natCast,Int.toNat_natCast]
 have key:∀ (A:Option Addr) (c:Nat),n ≤ c → a.eval x = .slice A n c → ∀ w,(execOp a.eval ⟨dst,.slice t x lo hi none,ty,pos,af,g⟩).run P w = .ok (.value (.slice (if c = ln then A else A.map (·.add (ln * te.size))) (hn - ln) (c - ln))) w:=by
  intro A c hc hA w
  have:=jt (P:=P) hu w (cf hT hte) A n c ln hn (lo.map a.eval) (hi.map a.eval) hlo hhi (by omega) (by omega) hc
  unfold execOp
  simp only [Option.map_none,hA,Sem.run_bind,this,Result.andThen_ok,Sem.run_pure]
 rcases e3 with ⟨cc,e3,hcc,hro⟩ | ⟨rfl,hro,A,c,e3,hc0⟩
 ·refine ⟨_,⟨sl,k1,by omega,?_⟩,key _ _ hcc e3⟩
  by_cases hc:cc = ln
  ·rw [if_pos hc]
   have hz:hn - ln = 0:=by omega
   rw [hz]
   by_cases hp:0 < s + ln
   ·exact .inr ⟨rfl,.inl hp,_,_,rfl,fun h => by omega⟩
   ·left
    have hs0:s = 0:=by omega
    have hl0:ln = 0:=by omega
    subst hs0;subst hl0
    refine ⟨cc - 0,?_,by omega,fun h => by rw [hro h];omega⟩
    cases sl.a <;> simp [Addr.add]
  ·left
   rw [if_neg hc]
   refine ⟨cc - ln,?_,by omega,fun h => by rw [hro h];omega⟩
   rw [hsz,← k2.sz]
   cases sl.a with
   | none => rfl
   | some ad => simp only [Option.map_some,eG,← Nat.add_mul]
 ·have hl0:ln = 0:=by omega
  have hn0:hn = 0:=by omega
  subst hl0;subst hn0
  refine ⟨_,⟨sl,k1,by omega,.inr ⟨rfl,?_,_,_,rfl,fun h1 h2 => by have:=hc0 (by omega) h2;omega⟩⟩,key A c (by omega) e3⟩
  rcases hro with h | h
  ·exact .inl (by omega)
  ·exact .inr h
def bsA:Nat → List (Nat × AV) → Option (List (List Value))
 | _,[] => some []
 | k,(i,v) :: r => match Nat.beq i k,fN v with
   | true,some cs => match El.put.plain cs,bsA (k + 1) r with
     | some vs,some L => some (vs :: L)
     | _,_ => none
   | _,_ => none
theorem rC {ρ:Pl} {cs:List AC} {vs us:List Value} (h:El.put.plain cs = some vs) (hr:All2 (AC.R ρ) cs us):us = vs:=by
 have:=gy h
 subst this
 clear h
 induction vs generalizing us with
 | nil => cases us with
   | nil => rfl
   | cons => exact hr.elim
 | cons v vs ih => cases us with
   | nil => exact hr.elim
   | cons u us => rw [ih hr.2,hr.1.1]
theorem wT {ρ:Pl} {sz:Nat}:∀ {k:Nat} {ps:List (Nat × AV)} {qs:List (Nat × Value)} {L:List (List Value)},bsA k ps = some L → (∀ c ∈ L,c.length = sz) → All2 (fun p q => p.1 = q.1 ∧ p.2.R ρ q.2) ps qs → ∃ vs:List Value,qs = vs.mapIdx (fun i v => (k + i,v)) ∧ All2 (fun c (v:Value) => v.cells.toList = c ∧ c.length = sz) L vs
 | k,[],[],L,h,_,_ => by
   cases h
   exact ⟨[],rfl,trivial⟩
 | k,(i,v) :: ps,(j,u) :: qs,L,h,hL,hq => by
   unfold bsA at h
   split at h
   ·rename_i cs hb hc
    split at h
    ·rename_i vs0 L' hp hrec
     cases h
     have hik:i = k:=Nat.eq_of_beq_eq_true hb
     obtain ⟨⟨q1,q2⟩,q3⟩:=hq
     have q1:i = j:=q1
     obtain ⟨vs,h1,h2⟩:=wT hrec (fun c hc => hL c (by simp [hc])) q3
     refine ⟨u :: vs,?_,⟨?_,hL _ (by simp)⟩,h2⟩
     ·rw [List.mapIdx_cons,h1,← q1,hik]
      congr 1
      apply List.ext_getElem?
      intro x
      simp only [List.getElem?_mapIdx]
      cases vs[x]? with
      | none => rfl
      | some y => simp;omega
     ·exact rC hp (oh hc q2).1
    ·cases h
   ·cases h
theorem wo (hT:TOk P T) {st:St} {dst:Option Tmp} {t e:TypeId} {len:Nat} {parts:Array (Nat × Operand)} {ty:TypeId} {pos:String} {af:Array Edge} {g:Option (Nat × Bool)} {ti te:TI} {ps:List (Nat × AV)} {L:List (List Value)} (hd:st.fits dst = true)
  (ht:tlk t T = some ti) (hs:ti.d = .slice e) (hte:tlk e T = some te) (hps:evp st.env parts.toList = some ps) (hL:bsA 0 ps = some L) (hll:L.length = len) (hsz:L.all (fun c => Nat.beq c.length te.size) = true) (hz:0 < te.size) (hb:len * te.size ≤ 16777216) :
  OpQ P ⟨dst,.buildSlice t len parts,ty,pos,af,g⟩ st (fun st' => st' = ({ st with h:=st.h ++ [some ⟨true,e,te.size,.fl L⟩] }:St).put dst (.c (.row st.h.length 0 len))):=fun Γ ρ a w hr K' Q' hk => by
 have hu:P.underlying t = some (.slice e):=by have:=bE hT ht;rw [hs] at this;exact this
 have hLs:∀ c ∈ L,c.length = te.size:=fun c hc => Nat.eq_of_beq_eq_true (List.all_eq_true.1 hsz c hc)
 have hq:=tH hr.env hps
 obtain ⟨vs,h1,h2⟩:=wT hL hLs hq
 have hF:dW te.size L:=fun c hc => ⟨hLs c hc,fun u hu' => by
  obtain ⟨i,hi⟩:=List.getElem?_of_mem hc
  obtain ⟨v,hv,hv2,_⟩:=h2.get hi
  have hone:∀ p ∈ ps,∀ cs,fN p.2 = some cs → ∀ vs0,El.put.plain cs = some vs0 → ∀ u ∈ vs0,u.oneCell' = true:=fun p hp cs hcs vs0 hvs0 u hu0 => by
   obtain ⟨j,hj⟩:=List.getElem?_of_mem hp
   obtain ⟨q,_,_,q2⟩:=hq.get hj
   have h3:=(oh hcs q2).1
   rw [rC hvs0 h3] at h3
   obtain ⟨jj,hjj⟩:=List.getElem?_of_mem hu0
   have:=gy hvs0
   subst this
   obtain ⟨y,hy1,hy2⟩:=h3.get (i:=jj) (x:=.sc u) (by rw [List.getElem?_map,hjj];rfl)
   exact hy2.2
  have hmem:∀ (k:Nat) (ps':List (Nat × AV)) (L':List (List Value)),(∀ p ∈ ps',p ∈ ps) → bsA k ps' = some L' → ∀ c ∈ L',∀ u ∈ c,u.oneCell' = true:=by
   intro k ps'
   induction ps' generalizing k with
   | nil => intro L' _ h;cases h;intro c hc;simp at hc
   | cons p ps' ih =>
     intro L' hsub h
     obtain ⟨i,v⟩:=p
     unfold bsA at h
     split at h
     ·rename_i cs hb hc
      split at h
      ·rename_i vs0 L2 hp hrec
       cases h
       intro c hc2
       rcases List.mem_cons.1 hc2 with rfl | hc2
       ·exact hone (i,v) (hsub _ (by simp)) cs hc _ hp
       ·exact ih (k + 1) L2 (fun p hp => hsub p (by simp [hp])) hrec c hc2
      ·cases h
     ·cases h
  exact hmem 0 ps L (fun _ h => h) hL c hc u hu'⟩
 obtain ⟨iz,z,i1,i2,i3,i4,i5⟩:=(hT e te hte).info
 obtain ⟨C,hC⟩:∃ C:Array Value,C = (Array.range (len * te.size)).map (fun i => z.cells[i % z.cells.size]!):=⟨_,rfl⟩
 have hCs:C.size = len * te.size:=by rw [hC];simp
 obtain ⟨r,f1,f2,f3⟩:=oE hz L vs 0 C h2 (by rw [hCs,hll,Nat.zero_add];exact Nat.le_refl _)
 have hrl:r.toList = L.flatten:=by
  apply List.ext_getElem?
  intro k
  rw [Array.getElem?_toList,f3]
  simp only [Nat.zero_mul,Nat.zero_le,true_and,Nat.zero_add,Nat.sub_zero]
  by_cases hk':k < L.length * te.size
  ·rw [if_pos hk']
  ·rw [if_neg hk',List.getElem?_eq_none (by rw [bX hLs];omega),Array.getElem?_eq_none (by rw [hCs,← hll];omega)]
 have hrun:(execOp a.eval ⟨dst,.buildSlice t len parts,ty,pos,af,g⟩).run P w = .ok (.value (.slice (some ⟨w.heap.size,0,none⟩) len len)) (w.alloc (.cells r e)):=by
  have h7:(parts.map (fun (i,x) => (i,a.eval x))).toList = parts.toList.map (fun p => (p.1,a.eval p.2)):=by simp
  have hnb:¬ (len * te.size > 2 ^ 24):=by omega
  have hfill:Instr.fill (fun i => some (i * te.size,te.size)) C (parts.toList.map (fun p => (p.1,a.eval p.2))) = some r:=by
   rw [h1]
   exact f1
  unfold execOp
  by_cases hl0:len * te.size = 0
  ·have hC0:C = #[]:=Array.eq_empty_of_size_eq_zero (by rw [hCs,hl0])
   rw [hC0] at hfill
   simp only [Instr.buildSlice,Sem.run_bind,cd hu,Result.andThen_ok,cf hT hte,Sem.run_ite,hl0,if_true,Sem.run_pure]
   simp [hfill,newRow,Array.range_zero']
  ·simp only [Instr.buildSlice,Sem.run_bind,cd hu,Result.andThen_ok,cf hT hte,Sem.run_ite,hnb,if_false,hl0,Sem.run_pure,zeroValue,typeInfo,run_program,i1,i4]
   rw [hC] at hfill
   simp [hfill,newRow]
 unfold Oper.wp
 rw [hrun]
 have hob:ObjH (ρ ++ [⟨some ⟨w.heap.size,0,none⟩,len,te.size,false⟩]) ⟨some ⟨w.heap.size,0,none⟩,len,te.size,false⟩ ⟨true,e,te.size,.fl L⟩ (w.alloc (.cells r e)):=by
  refine gS (heap_alloc_new w _) (by rw [f2,hCs]) hF (by omega) ?_ hz ?_
  ·have:len * 1 ≤ len * te.size:=Nat.mul_le_mul_left _ hz
   omega
  ·rw [hrl,← bX hLs,List.take_length]
 have hH:=hr.holds.alloc hr.len r e _ _ rfl hob
 refine hk _ _ _ _ rfl (hr.put _ dst hd _ _ (Ext.append _ _) (by simp [hr.len]) hH ⟨_,by rw [← hr.len];exact bc _ _,by simp,.inl ⟨len,by simp [Addr.add],Nat.le_refl _,fun _ => by simp⟩⟩) (Ext.append _ _) (iu w _)
end
end
end Go.Proofs.YtgehbhkfehmdkaaGreat.Sh
