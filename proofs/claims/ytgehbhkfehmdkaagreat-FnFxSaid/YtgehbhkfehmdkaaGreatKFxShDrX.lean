/- A region that draws its order, in which a variable of one's own is written that nothing in the region reads: what is read is read as at its beginning, wherever the store comes up. No condition. -/
import Derived.Test.YtgehbhkfehmdkaaGreatKFxShBo
set_option linter.unusedSimpArgs false
set_option linter.unusedVariables false
namespace Go.Proofs.YtgehbhkfehmdkaaGreat.Sh
open Go.RowKit Go.Proofs.YtgehbhkfehmdkaaGreatW
def SameX (D:Option Nat) (w1 w:World):Prop:=w1.heap.size ≤ w.heap.size ∧ ∀ k,k < w1.heap.size → D ≠ some k → w.heap[k]? = w1.heap[k]?
theorem SameX.refl (D:Option Nat) (w:World):SameX D w w:=⟨Nat.le_refl _,fun _ _ _ => rfl⟩
theorem SameX.trans {D:Option Nat} {a b c:World} (h:SameX D a b) (k:SameX D b c):SameX D a c:=⟨Nat.le_trans h.1 k.1,fun i hi hn => (k.2 i (Nat.lt_of_lt_of_le hi h.1) hn).trans (h.2 i hi hn)⟩
def OpX (P:Program) (o:Oper) (st:St) (h:AH) (ox:Nat) (v:AV):Prop :=
 ∀ (Γ:Ctx) (ρ1 ρ:Pl) (a:Act) (w0 w1:World),Ext ρ1 ρ → Rel Γ ρ st a w0 → Holds Γ ρ1 h w1 → ∃ v',v.R ρ v' ∧ ∀ sl w,ρ1[ox]? = some sl → SameX sl.blk w1 w → (execOp a.eval o).run P w = .ok (.value v') w
def OpS (P:Program) (o:Oper) (st:St) (ox:Nat) (K:St → Prop):Prop :=
 ∀ Γ ρ a w,Rel Γ ρ st a w → ∀ (K':Act → World → Prop) Q',(∀ st' a' w' sl,K st' → Rel Γ ρ st' a' w' → ρ[ox]? = some sl → SameX sl.blk w w' → K' a' w') → o.wp P a w K' Q'
inductive WX (P:Program) (ops:Array Oper) (Q:Exit → St → Prop) (h1:AH) (ox:Nat):List (Sk × Oper) → St → Prop where
 | nil {st:St} (h:Q .normal st):WX P ops Q h1 ox [] st
 | p {o:Oper} {l:List (Sk × Oper)} {st:St} {v:AV} (hd:st.fits o.dst = true) (hg:gd ops o st.env = some true) (ho:OpP P o st v) (h:WX P ops Q h1 ox l (st.put o.dst v)):WX P ops Q h1 ox ((.p,o) :: l) st
 | t {o:Oper} {l:List (Sk × Oper)} {st:St} {v:AV} (hd:st.fits o.dst = true) (hg:gd ops o st.env = some true) (ho:OpX P o st h1 ox v) (h:WX P ops Q h1 ox l (st.put o.dst v)):WX P ops Q h1 ox ((.t,o) :: l) st
 | l {o:Oper} {l:List (Sk × Oper)} {st:St} {K:St → Prop} (hg:gd ops o st.env = some true) (ho:OpS P o st ox K) (h:∀ st',K st' → WX P ops Q h1 ox l st'):WX P ops Q h1 ox ((.l,o) :: l) st
def qa (ops:Array Oper):List (Sk × Nat) → Array Bool → Bool
 | [],l => Region.ready .any ops l == []
 | (k,i) :: r,l => (ops[i]?).isSome && (match k with
  | .p => PrintLast.anyB .any ops l (l.setIfInBounds i true) i
  | .t => PrintLast.takeB .any ops [] l (l.setIfInBounds i true) i
  | .l => PrintLast.readyB .any ops l (l.setIfInBounds i true) i
  | .o => false) && qa ops r (l.setIfInBounds i true)
theorem wR {P:Program} {ops:Array Oper} {Q:Exit → St → Prop} {h1:AH} {ox:Nat} {slx:Slot} {Γ:Ctx} {ρ1:Pl} {w1:World} (hH:Holds Γ ρ1 h1 w1) (hx:ρ1[ox]? = some slx) {ks:List (Sk × Oper)} {st:St} (h:WX P ops Q h1 ox ks st) :
  ∀ (s:List (Sk × Nat)) (l:Array Bool),ks = s.map (fun p => (p.1,opn ops p.2)) → qa ops s l = true → ∀ {ρ a w},Rel Γ ρ st a w → Ext ρ1 ρ → SameX slx.blk w1 w →
   PrintLast.wpAnyLast P .any ops (cX Q Γ) (SameX slx.blk w1) [] s.length l a w:=by
 induction h with
 | nil h =>
   intro s l e hc ρ a w hr he hS
   cases s with
   | nil => exact PrintLast.done_ hc ⟨_,ρ,h,hr⟩
   | cons o s => cases e
 | @p o ks st v hd hg ho' _ ih =>
   intro s l e hc ρ a w hr he hS
   cases s with
   | nil => cases e
   | cons p s =>
     obtain ⟨k',i⟩:=p
     simp only [List.map_cons,List.cons.injEq,Prod.mk.injEq] at e
     obtain ⟨⟨rfl,e1⟩,e2⟩:=e
     simp only [qa,Bool.and_eq_true] at hc
     obtain ⟨⟨hi,hk⟩,hrest⟩:=hc
     have ho:ops[i]? = some o:=by
      obtain ⟨o',ho'⟩:=Option.isSome_iff_exists.1 hi
      rw [e1,opn,ho']
      rfl
     have hw:=aT hg hr.env
     obtain ⟨v',hv,hv2⟩:=ho' Γ ρ a w hr
     exact PrintLast.pure_ _ ho rfl hk (fun _ _ _ h => h) (Or.inl ⟨hw,hv2⟩) rfl (ih s _ e2 hrest (hr.put st.h o.dst hd v v' (Ext.refl _) hr.len hr.holds hv) he hS)
 | @t o ks st v hd hg ho' _ ih =>
   intro s l e hc ρ a w hr he hS
   cases s with
   | nil => cases e
   | cons p s =>
     obtain ⟨k',i⟩:=p
     simp only [List.map_cons,List.cons.injEq,Prod.mk.injEq] at e
     obtain ⟨⟨rfl,e1⟩,e2⟩:=e
     simp only [qa,Bool.and_eq_true] at hc
     obtain ⟨⟨hi,hk⟩,hrest⟩:=hc
     have ho:ops[i]? = some o:=by
      obtain ⟨o',ho'⟩:=Option.isSome_iff_exists.1 hi
      rw [e1,opn,ho']
      rfl
     have hw:=aT hg hr.env
     obtain ⟨v',hv,hv2⟩:=ho' Γ ρ1 ρ a w w1 he hr hH
     exact PrintLast.take_ _ ho rfl hk (fun _ _ _ h => h) (Or.inl ⟨hw,fun w hw => hv2 slx w hx hw⟩) hS rfl (ih s _ e2 hrest (hr.put st.h o.dst hd v v' (Ext.refl _) hr.len hr.holds hv) he hS)
 | @l o ks st Kp hg h2 _ ih =>
   intro s l e hc ρ a w hr he hS
   cases s with
   | nil => cases e
   | cons p s =>
     obtain ⟨k',i⟩:=p
     simp only [List.map_cons,List.cons.injEq,Prod.mk.injEq] at e
     obtain ⟨⟨rfl,e1⟩,e2⟩:=e
     simp only [qa,Bool.and_eq_true] at hc
     obtain ⟨⟨hi,hk⟩,hrest⟩:=hc
     have ho:ops[i]? = some o:=by
      obtain ⟨o',ho'⟩:=Option.isSome_iff_exists.1 hi
      rw [e1,opn,ho']
      rfl
     have hw:=aT hg hr.env
     refine PrintLast.one_ _ ho rfl hk (by simp) (fun K hK => ?_)
     rw [if_pos hw]
     exact h2 Γ ρ a w hr K (cX Q Γ) (fun st' a' w' sl hk' hr' hsl hs' => by
      have:sl = slx:=by rw [he ox slx hx] at hsl;exact (Option.some.inj hsl).symm
      subst this
      exact hK.out _ _ (hS.trans hs') (fun hs'' => ih st' hk' s _ e2 hrest hr' he hs''))
theorem vy {P:Program} {id:Nat} {l:List Oper} {Q:Exit → St → Prop} {st:St} (hm:P.follows .mixedOrders = true) (s:List (Sk × Nat)) (ox:Nat) {obx:AO} (hox:st.h[ox]? = some (some obx)) (hc:(Nat.beq s.length l.toArray.size && qa l.toArray s (Array.replicate l.toArray.size false)) = true)
  (h:WX P l.toArray Q st.h ox (s.map (fun p => (p.1,opn l.toArray p.2))) st):W P (Code.region id l.toArray true) Q st:=fun Γ ρ a w hr => by
 simp only [Bool.and_eq_true] at hc
 have e:=Nat.eq_of_beq_eq_true hc.1
 obtain ⟨sl,h3,_⟩:=hr.holds.obj ox obx hox
 have h2:=wR hr.drew.holds h3 h s _ rfl hc.2 hr.drew (Ext.refl _) (SameX.refl _ _)
 exact PrintLast.start_ (ds:=[]) (S:=SameX sl.blk w.drew) _ hm e.symm rfl (SameX.refl _ _) (fun _ => by rw [e] at h2 ⊢;exact h2)
section
variable {P:Program} {T:TB}
theorem p8 (hT:TOk P T) {st:St} {h1:AH} {dst:Option Tmp} {t:TypeId} {x:Operand} {ty:TypeId} {pos:String} {af:Array Edge} {g:Option (Nat × Bool)} {o i q ox:Nat} {ob obx:AO} {cs:List AC} {ti:TI} {v:AV} (hx:ev st.env x = some (.c (.ptr o i q))) (ht:tlk t T = some ti)
  (ho:h1[o]? = some (some ob)) (hox:h1[ox]? = some (some obx)) (hown:obx.own = true) (hne:o ≠ ox) (hi:ob.el.get i = some cs) (hv:ldA ti cs q = some v):OpX P ⟨dst,.load t x,ty,pos,af,g⟩ st h1 ox v:=fun Γ ρ1 ρ a w0 w1 he hr hH => by
 obtain ⟨sl,ad,vs,k1,k2,k3,k4,k5,k6,k7⟩:=ou hH ho hi
 obtain ⟨sl',ad',e1,e2,e3⟩:=kz (b7 hr.env hx)
 have:sl = sl':=by rw [he o sl k1] at e1;exact Option.some.inj e1
 subst this
 have:ad = ad':=by rw [k4] at e2;exact Option.some.inj e2
 subst this
 have hcell:∀ slx w,ρ1[ox]? = some slx → SameX slx.blk w1 w → ∀ j u,vs[j]? = some u → w.cell? (ad.add (i * ob.sz + j)) = some u:=fun slx w hsx hw j u hu => by
  rw [fu (w:=w1) (by
   rw [add_block]
   refine hw.2 _ k5 (fun hb => ?_)
   exact (hH.sep ox obx slx _ hox hown hsx hb).2 o ob sl ho hne k1 (by simp [Slot.blk,k4]))]
  exact k7 j u hu
 unfold ldA at hv
 split at hv
 ·rename_i hag
  split at hv
  ·rename_i hle
   have hle:q + ti.size ≤ cs.length:=Nat.le_of_ble_eq_true hle
   cases hv
   refine ⟨.agg ((vs.drop q).take ti.size).toArray,⟨_,rfl,All2.imp (fun _ _ => AC.R_ext he) ((k6.drop q).take _)⟩,fun slx w hsx hw => ?_⟩
   have hl:((vs.drop q).take ti.size).length = ti.size:=by
    have:=k6.length
    rw [List.length_take,List.length_drop]
    omega
   have h5:=run_loadCells_list (P:=P) w (ad.add (i * sl.sz + q)) ((vs.drop q).take ti.size) (fun j u hu => by
    have hj:j < ti.size:=by have:=(List.getElem?_eq_some_iff.1 hu).1;omega
    rw [List.getElem?_take_of_lt hj,List.getElem?_drop] at hu
    rw [eG,k2,Nat.add_assoc]
    exact hcell slx w hsx hw _ _ hu)
   rw [hl] at h5
   unfold execOp
   simp [Instr.loadAt,e3,Instr.sureAddr,loadVar,dU hT ht,hag,cf hT ht,h5]
  ·cases hv
 ·rename_i hag
  obtain ⟨c,hc,rfl⟩:=Option.map_eq_some_iff.1 hv
  obtain ⟨u,hu,hr2⟩:=k6.get hc
  refine ⟨u,AC.R_ext he hr2,fun slx w hsx hw => ?_⟩
  have h5:=hcell slx w hsx hw q u hu
  rw [← k2] at h5
  unfold execOp
  simp [Instr.loadAt,e3,Instr.sureAddr,loadVar,dU hT ht,hag,h5]
theorem sO (hT:TOk P T) {st:St} {dst:Option Tmp} {t:TypeId} {x y:Operand} {ty:TypeId} {pos:String} {af:Array Edge} {g:Option (Nat × Bool)} {o i q:Nat} {ob:AO} {cs vcs:List AC} {ti:TI} {v:AV} {e':El} (hd:dst = none)
  (hx:ev st.env x = some (.c (.ptr o i q))) (hy:ev st.env y = some v) (ht:tlk t T = some ti) (hv:fN v = some vcs) (hsz:vcs.length = ti.size) (ho:st.h[o]? = some (some ob)) (hown:ob.own = true) (hi:ob.el.get i = some cs) (hq:q + ti.size ≤ cs.length)
  (he:ob.el.put i (cs.take q ++ vcs ++ cs.drop (q + vcs.length)) = some e') :
  OpS P ⟨dst,.store t x y,ty,pos,af,g⟩ st o (fun st' => st' = { st with h:=st.h.set o (some ⟨ob.own,ob.ty,ob.sz,e'⟩) }):=fun Γ ρ a w hr K' Q' hk => by
 subst hd
 obtain ⟨sl,gb,cur,k1,k2,k3,k4,k5,k6,k7,k8,k9⟩:=mq hr.holds ho hown hi
 obtain ⟨sl',ad,e1,e2,e3⟩:=kz (b7 hr.env hx)
 have:sl = sl':=by rw [k1] at e1;exact Option.some.inj e1
 subst this
 have:ad = ⟨gb,0,none⟩:=by rw [k3] at e2;exact (Option.some.inj e2).symm
 subst this
 obtain ⟨hvc,hvp⟩:=oh hv (b7 hr.env hy)
 obtain ⟨vl,hvl0⟩:∃ vl,vl = (a.eval y).cells.toList:=⟨_,rfl⟩
 rw [← hvl0] at hvc
 have hvl:=hvc.length
 have hvs:(a.eval y).cells.size = vl.length:=by rw [hvl0,Array.length_toList]
 have hbound:i * ob.sz + ob.sz ≤ sl.cap * ob.sz:=by
  have:(i + 1) * ob.sz ≤ sl.cap * ob.sz:=Nat.mul_le_mul_right _ (by omega)
  rwa [Nat.add_mul,Nat.one_mul] at this
 have hone:∀ u ∈ vl,u.oneCell' = true:=fun u hu => by
  obtain ⟨j,hj⟩:=List.getElem?_of_mem hu
  have hjl:j < vcs.length:=by rw [hvl];exact (List.getElem?_eq_some_iff.1 hj).1
  obtain ⟨u',h1,h2⟩:=hvc.get (List.getElem?_eq_getElem hjl)
  rw [hj] at h1
  cases h1
  exact AC.R_one h2
 have hst:=run_storeCells_at P gb (i * ob.sz + q) ob.ty vl 0 cur w k4 (by rw [← hvl,k5];omega) hone
 simp only [Nat.add_zero] at hst
 unfold Oper.wp
 have hrun:(execOp a.eval ⟨none,.store t x y,ty,pos,af,g⟩).run P w = .ok .skip (w.setRow gb (cur.toList.take (i * ob.sz + q) ++ vl ++ cur.toList.drop (i * ob.sz + q + vl.length)).toArray):=by
  have hne:¬ ((a.eval y).cells.size ≠ ti.size):=by
   rw [hvs,← hvl,hsz]
   simp
  unfold execOp
  simp only [Instr.storeAt,e3,Instr.sureAddr,storeVar,Sem.run_bind,Sem.run_pure,Result.andThen_ok,cf hT ht,hne,k2,dk,Sem.run_ite]
  rw [← hvl0]
  simp [hst]
 rw [hrun]
 generalize hcur:(cur.toList.take (i * ob.sz + q) ++ vl ++ cur.toList.drop (i * ob.sz + q + vl.length)) = cur'
 have hcurl:cur.toList.length = cur.size:=Array.length_toList
 have hfit:i * ob.sz + q + vl.length ≤ cur.toList.length:=by
  rw [hcurl,k5,← hvl]
  omega
 have hcl:cur'.length = cur.size:=by
  rw [← hcur]
  simp only [List.length_append,List.length_take,List.length_drop,hcurl]
  omega
 have hget:∀ j,cur'[j]? = if i * ob.sz + q ≤ j ∧ j < i * ob.sz + q + vcs.length then vl[j - (i * ob.sz + q)]? else cur[j]?:=fun j => by
  rw [← hcur,rN hfit,hvl]
  simp only [Array.getElem?_toList]
 obtain ⟨sl2,m1,m2⟩:=hr.holds.obj o ob ho
 have:sl2 = sl:=by rw [m1] at k1;exact Option.some.inj k1
 subst this
 have hheap:(w.setRow gb cur'.toArray).heap[gb]? = some (.cells cur'.toArray ob.ty (0,0)):=setRow_heap w gb cur _ ob.ty _ k4
 obtain ⟨p1,p2⟩:=El.put_get he k6
 have hcell:∀ j,(w.setRow gb cur'.toArray).cell? ((⟨gb,0,none⟩:Addr).add j) = cur'[j]?:=fun j => by
  rw [dk,cell_of_row _ _ _ _ _ _ hheap]
  simp
 have hold:∀ j,w.cell? ((⟨gb,0,none⟩:Addr).add j) = cur[j]?:=fun j => by
  rw [dk,cell_of_row _ _ _ _ _ _ k4]
 have hcsl:(cs.take q ++ vcs ++ cs.drop (q + vcs.length)).length = ob.sz:=by
  simp only [List.length_append,List.length_take,List.length_drop]
  omega
 have hobj:ObjH ρ sl2 ⟨ob.own,ob.ty,ob.sz,e'⟩ (w.setRow gb cur'.toArray):=by
  refine ⟨m2.sz,m2.pos,by show e'.len ≤ _;rw [El.put_len he];exact m2.len,m2.max,fun a' ha' => by rw [cQ];exact m2.lt a' ha',m2.nil,fun i' cs' hi' => ?_,fun _ => ⟨k9,.inr ⟨gb,cur'.toArray,k3,hheap,by simp [hcl,k5]⟩⟩⟩
  have hi':e'.get i' = some cs':=hi'
  by_cases ei:i' = i
  ·subst ei
   rw [p1] at hi'
   cases hi'
   refine ⟨hcsl,_,k3,fun j z hz => ?_⟩
   show ∃ v,(w.setRow gb cur'.toArray).cell? ((⟨gb,0,none⟩:Addr).add (i' * ob.sz + j)) = some v ∧ z.R ρ v
   have hj:j < ob.sz:=by rw [← hcsl];exact (List.getElem?_eq_some_iff.1 hz).1
   rw [hcell,hget]
   by_cases hin:q ≤ j ∧ j < q + vcs.length
   ·rw [if_pos (by omega)]
    rw [List.append_assoc,List.getElem?_append_right (by rw [List.length_take];omega),List.length_take,Nat.min_eq_left (by omega),List.getElem?_append_left (by omega)] at hz
    obtain ⟨u,h1,h2⟩:=hvc.get hz
    exact ⟨u,by rw [show i' * ob.sz + j - (i' * ob.sz + q) = j - q from by omega];exact h1,h2⟩
   ·rw [if_neg (by omega)]
    have hz':cs[j]? = some z:=by
     by_cases hjq:j < q
     ·rw [List.append_assoc,List.getElem?_append_left (by rw [List.length_take];omega),List.getElem?_take_of_lt hjq] at hz
      exact hz
     ·rw [List.getElem?_append_right (by simp only [List.length_append,List.length_take];omega),List.length_append,List.length_take,Nat.min_eq_left (by omega),List.getElem?_drop] at hz
      rwa [show q + vcs.length + (j - (q + vcs.length)) = j from by omega] at hz
    obtain ⟨_,a2,ha2,hc2⟩:=m2.cell i' cs hi
    rw [k3] at ha2
    cases ha2
    obtain ⟨u,h1,h2⟩:=hc2 j z hz'
    rw [hold] at h1
    exact ⟨u,h1,h2⟩
  ·rw [p2 i' ei] at hi'
   obtain ⟨h1,a2,ha2,hc2⟩:=m2.cell i' cs' hi'
   rw [k3] at ha2
   cases ha2
   refine ⟨h1,_,k3,fun j z hz => ?_⟩
   obtain ⟨u,h2,h3⟩:=hc2 j z hz
   rw [hold] at h2
   refine ⟨u,?_,h3⟩
   show (w.setRow gb cur'.toArray).cell? ((⟨gb,0,none⟩:Addr).add (i' * ob.sz + j)) = some u
   rw [hcell,hget,if_neg ?_]
   ·exact h2
   ·have hj:j < ob.sz:=by have:=(List.getElem?_eq_some_iff.1 hz).1;have h1:cs'.length = ob.sz:=h1;omega
    rintro ⟨q1,q2⟩
    have q1:i * ob.sz + q ≤ i' * ob.sz + j:=q1
    have q2:i' * ob.sz + j < i * ob.sz + q + vcs.length:=q2
    rcases Nat.lt_or_ge i' i with hlt | hge
    ·have:(i' + 1) * ob.sz ≤ i * ob.sz:=Nat.mul_le_mul_right _ hlt
     rw [Nat.add_mul,Nat.one_mul] at this
     omega
    ·have:(i + 1) * ob.sz ≤ i' * ob.sz:=Nat.mul_le_mul_right _ (by omega)
     rw [Nat.add_mul,Nat.one_mul] at this
     omega
 have holt:o < st.h.length:=(List.getElem?_eq_some_iff.1 ho).1
 have hblk:sl2.blk = some gb:=by simp [Slot.blk,k3]
 have hH:Holds Γ ρ (st.h.set o (some ⟨ob.own,ob.ty,ob.sz,e'⟩)) (w.setRow gb cur'.toArray):=by
  refine hr.holds.one rfl rfl rfl (by rw [cQ];exact Nat.le_refl _) (some gb) (fun k _ hne => setRow_other' _ _ _ _ (fun e => hne (by rw [e]))) (Ext.refl _) o _ sl2 m1 hobj
   (fun g' hg' => ⟨o,ob,sl2,ho,hown,m1,by rw [hblk];exact hg',fun _ _ => rfl⟩) (fun o' ob' ho' hne => by rwa [List.getElem?_set_ne (Ne.symm hne)] at ho') (List.getElem?_set_self holt) (fun g' hg' => .inl (by rw [← hblk];exact hg')) (El.put_nd he)
 exact hk _ _ _ sl2 rfl ⟨hH,by simp [hr.len],hr.klen,hr.args,hr.env,hr.defers,hr.size⟩ m1 ⟨by rw [cQ];exact Nat.le_refl _,fun k _ hne => setRow_other' _ _ _ _ (fun e => hne (by rw [hblk,e]))⟩
end
structure ZX (P:Program) (ops:Array Oper) (Q:Exit → St → Prop) (h1:AH) (ox:Nat) (ks:List Sk) (l:List Oper) (st:St):Prop where
 out:WX P ops Q h1 ox (gL ks l) st
section
variable {P:Program} {T:TB} {ops:Array Oper} {Q:Exit → St → Prop} {h1:AH} {ox:Nat} {ks ks':List Sk} {l:List Oper} {N0 k0 d0:Nat} {e0:List (Nat × AV)} {h0:AH} {op:Op} {ty:TypeId} {pos:String} {af:Array Edge} {g:Option (Nat × Bool)} {st:St}
theorem A3 {id:Nat} {l l' L:List Oper} (hl:mN l = some l') (hm:P.follows .mixedOrders = true) (s:List (Sk × Nat)) (ox:Nat) (hc:(Nat.beq s.length l'.toArray.size && qa l'.toArray s (Array.replicate l'.toArray.size false)) = true) (hL:dN l' s = some L) {obx:AO} (hox:st.h[ox]? = some (some obx))
  (h:ZX P l'.toArray Q st.h ox (s.map (·.1)) L st):WW P (Code.region id l.toArray true) Q st:=⟨by
 rw [iM hl]
 refine vy hm s ox hox hc ?_
 rw [← fj,ef hL]
 exact h.out⟩
theorem zW (h:Q .normal st):ZX P ops Q h1 ox ks [] st:=⟨by cases ks <;> exact .nil h⟩
theorem xp (hs0:stK ks = (Sk.p,ks')) (hT:TOk P T) {v v':AV} (hv:aP T e0 op = some v) (hf:fV v = some v') (hg:gd ops ⟨some d0,op,ty,pos,af,g⟩ e0 = some true) (hd:Nat.blt d0 N0 = true) (h:ZX P ops Q h1 ox ks' l ⟨N0,k0,(d0,v') :: e0,h0⟩):ZX P ops Q h1 ox ks (⟨some d0,op,ty,pos,af,g⟩ :: l) ⟨N0,k0,e0,h0⟩:=⟨by
 rw [aC hs0]
 rw [← iN hf] at h
 exact .p hd hg (iB (st:=⟨N0,k0,e0,h0⟩) hT hv) h.out⟩
theorem xix (hs0:stK ks = (Sk.p,ks')) (hT:TOk P T) {t e:TypeId} {x y:Operand} {o n:Nat} {ob:AO} {k':IntKind} {i:Int} {ti te:TI} (hx:ev e0 x = some (.c (.row o 0 n))) (hy:ev e0 y = some (.c (.sc (.int k' i)))) (ht:tlk t T = some ti) (hs:ti.d = .slice e) (hte:tlk e T = some te) (ho:h0[o]? = some (some ob)) (hsz:te.size = ob.sz) (hb:0 ≤ i ∧ i < n)
  (hg:gd ops ⟨some d0,.indexAddr t x y,ty,pos,af,g⟩ e0 = some true) (hd:Nat.blt d0 N0 = true) (h:ZX P ops Q h1 ox ks' l ⟨N0,k0,(d0,(.c (.ptr o i.toNat 0))) :: e0,h0⟩):ZX P ops Q h1 ox ks (⟨some d0,.indexAddr t x y,ty,pos,af,g⟩ :: l) ⟨N0,k0,e0,h0⟩:=⟨by
 rw [aC hs0]
 have h2:=mm (st:=⟨N0,k0,e0,h0⟩) (dst:=some d0) (ty:=ty) (pos:=pos) (af:=af) (g:=g) hT hx hy ht hs hte ho hsz hb.1 hb.2
 rw [Nat.zero_add] at h2
 exact .p hd hg h2 h.out⟩
theorem xlv (hs0:stK ks = (Sk.t,ks')) (hT:TOk P T) {t:TypeId} {x:Operand} {o q:Nat} {ob obx:AO} {cs:List AC} {ti:TI} {v v':AV} (hx:ev e0 x = some (.c (.ptr o 0 q))) (ht:tlk t T = some ti) (ho:h1[o]? = some (some ob)) (hox:h1[ox]? = some (some obx)) (hown:obx.own = true) (hne:Nat.beq o ox = false) (hi:ob.el.get 0 = some cs) (hv:ldW ti cs q = some v) (hf:fV v = some v')
  (hg:gd ops ⟨some d0,.load t x,ty,pos,af,g⟩ e0 = some true) (hd:Nat.blt d0 N0 = true) (h:ZX P ops Q h1 ox ks' l ⟨N0,k0,(d0,v') :: e0,h0⟩):ZX P ops Q h1 ox ks (⟨some d0,.load t x,ty,pos,af,g⟩ :: l) ⟨N0,k0,e0,h0⟩:=⟨by
 rw [aC hs0]
 rw [← iN hf] at h
 exact .t hd hg (p8 (st:=⟨N0,k0,e0,h0⟩) hT hx ht ho hox hown (fun e => by rw [e,Nat.beq_refl] at hne;cases hne) hi (iR hv)) h.out⟩
theorem xle (hs0:stK ks = (Sk.t,ks')) (hT:TOk P T) {α:Type} {inst:Enc α} {t:TypeId} {x:Operand} {o q:Nat} {i:Int} {own:Bool} {e sz:Nat} {xs:List α} {obx:AO} {ti:TI} {v v':AV} (hx:ev e0 x = some (.c (.ptr o i.toNat q))) (ht:tlk t T = some ti) (ho:h1[o]? = some (some ⟨own,e,sz,.fl (xs.map Enc.enc)⟩)) (hox:h1[ox]? = some (some obx)) (hown:obx.own = true) (hne:Nat.beq o ox = false)
  (hb:0 ≤ i ∧ i < xs.length) (hv:ldW ti ((Enc.enc (rd xs i)).map .sc) q = some v) (hf:fV1 v = some v') (hg:gd ops ⟨some d0,.load t x,ty,pos,af,g⟩ e0 = some true) (hd:Nat.blt d0 N0 = true) (h:ZX P ops Q h1 ox ks' l ⟨N0,k0,(d0,v') :: e0,h0⟩):ZX P ops Q h1 ox ks (⟨some d0,.load t x,ty,pos,af,g⟩ :: l) ⟨N0,k0,e0,h0⟩:=⟨by
 rw [aC hs0]
 rw [← mO hf] at h
 exact .t hd hg (p8 (st:=⟨N0,k0,e0,h0⟩) hT hx ht ho hox hown (fun e => by rw [e,Nat.beq_refl] at hne;cases hne) (show ((xs.map Enc.enc)[i.toNat]?).map _ = _ by rw [qd hb];rfl) (iR hv)) h.out⟩
theorem xst (hs0:stK ks = (Sk.l,ks')) (hT:TOk P T) {t:TypeId} {x y:Operand} {i q:Nat} {v:AV} {h' h2:AH} (hx:ev e0 x = some (.c (.ptr ox i q))) (hy:ev e0 y = some v) (hs:stv T h0 t v (.c (.ptr ox i q)) = some h') (hf:fH h' = some h2) (hg:gd ops ⟨none,.store t x y,ty,pos,af,g⟩ e0 = some true)
  (h:ZX P ops Q h1 ox ks' l ⟨N0,k0,e0,h2⟩):ZX P ops Q h1 ox ks (⟨none,.store t x y,ty,pos,af,g⟩ :: l) ⟨N0,k0,e0,h0⟩:=⟨by
 rw [aC hs0]
 rw [← eY hf] at h
 simp only [stv] at hs
 split at hs
 ·rename_i own ty' sz' el ti vcs ho ht hv
  split at hs
  ·rename_i cs hsz hi
   split at hs
   ·rename_i e' hq he
    cases hs
    have hq:=Nat.le_of_ble_eq_true hq
    have hsz:=Nat.eq_of_beq_eq_true hsz
    rw [rM (by omega)] at he
    exact .l hg (sO (st:=⟨N0,k0,e0,h0⟩) hT rfl hx hy ht hv hsz ho rfl hi hq he) (fun st' e => by cases e;exact h.out)
   ·cases hs
  ·cases hs
 ·cases hs⟩
end
end Go.Proofs.YtgehbhkfehmdkaaGreat.Sh
