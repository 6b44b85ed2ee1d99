/- A region that draws its order, in which a variable of one's own is written that nothing in the region reads: what is read is read as at its beginning, wherever the store comes up. No condition. -/
import Derived.Test.YtgehbhkfehmdkaaGreatKUShBo
import Derived.Test.YtgehbhkfehmdkaaGreatKUShPo
import Derived.Test.YtgehbhkfehmdkaaGreatKUShNl
import Derived.Test.YtgehbhkfehmdkaaGreatKUShPn
import Derived.Test.YtgehbhkfehmdkaaGreatKUShV
import Derived.Test.YtgehbhkfehmdkaaGreatKUShLo
import Derived.Test.YtgehbhkfehmdkaaGreatKUShM
import Derived.Test.YtgehbhkfehmdkaaGreatKUShSl
set_option maxRecDepth 100000
set_option maxHeartbeats 40000000
set_option linter.unusedSimpArgs false
set_option linter.unusedVariables false
namespace Go.Proofs.YtgehbhkfehmdkaaGreat.Sh
section
open Go.RowKit Go.Proofs.YtgehbhkfehmdkaaGreatW
def SameX (D:Option Nat) (w1 w:World):Prop:=w1.heap.size ≤ w.heap.size ∧ ∀ k,k < w1.heap.size → D ≠ some k → w.heap[k]? = w1.heap[k]?
theorem SameX.refl (D:Option Nat) (w:World):SameX D w w:=⟨Nat.le_refl _,fun _ _ _ => rfl⟩
theorem SameX.trans {D:Option Nat} {a b c:World} (h:SameX D a b) (k:SameX D b c):SameX D a c:=⟨Nat.le_trans h.1 k.1,fun i hi hn => (k.2 i (Nat.lt_of_lt_of_le hi h.1) hn).trans (h.2 i hi hn)⟩
def OpX (P:Program) (o:Oper) (st:St) (h:AH) (ox:Nat) (v:AV):Prop :=
 ∀ (Γ:Ctx) (ρ1 ρ:Pl) (a:Act) (w0 w1:World),Ext ρ1 ρ → Rel Γ ρ st a w0 → Holds Γ ρ1 h w1 → ∃ v',v.R ρ v' ∧ ∀ sl w,ρ1[ox]? = some sl → SameX sl.blk w1 w → (execOp a.eval o).run P w = .ok (.value v') w
def OpS (P:Program) (o:Oper) (st:St) (ox:Nat) (K:St → Prop):Prop :=
 ∀ Γ ρ a w,Rel Γ ρ st a w → ∀ (K':Act → World → Prop) Q',(∀ st' a' w' sl,K st' → Rel Γ ρ st' a' w' → ρ[ox]? = some sl → SameX sl.blk w w' → K' a' w') → o.wp P a w K' Q'
inductive WX (P:Program) (ops:Array Oper) (Q:Exit → St → Prop) (h1:AH) (ox:Nat):List (Sk × Oper) → St → Prop where
 | nil {st:St} (h:Q .normal st):WX P ops Q h1 ox [] st
 | p {o:Oper} {l:List (Sk × Oper)} {st:St} {v:AV} (hd:st.fits o.dst = true) (hg:gd ops o st.env = some true) (ho:OpP P o st v) (h:WX P ops Q h1 ox l (st.put o.dst v)):WX P ops Q h1 ox ((.p,o) :: l) st
 | t {o:Oper} {l:List (Sk × Oper)} {st:St} {v:AV} (hd:st.fits o.dst = true) (hg:gd ops o st.env = some true) (ho:OpX P o st h1 ox v) (h:WX P ops Q h1 ox l (st.put o.dst v)):WX P ops Q h1 ox ((.t,o) :: l) st
 | l {o:Oper} {l:List (Sk × Oper)} {st:St} {K:St → Prop} (hg:gd ops o st.env = some true) (ho:OpS P o st ox K) (h:∀ st',K st' → WX P ops Q h1 ox l st'):WX P ops Q h1 ox ((.l,o) :: l) st
def ui (ops:Array Oper):List (Sk × Nat) → Array Bool → Bool
 | [],l => Region.ready .any ops l == []
 | (k,i) :: r,l => (ops[i]?).isSome && (match k with
  | .p => PrintLast.anyB .any ops l (l.setIfInBounds i true) i
  | .t => PrintLast.takeB .any ops [] l (l.setIfInBounds i true) i
  | .l => PrintLast.readyB .any ops l (l.setIfInBounds i true) i
  | .o => false) && ui ops r (l.setIfInBounds i true)
theorem AF {P:Program} {ops:Array Oper} {Q:Exit → St → Prop} {h1:AH} {ox:Nat} {slx:Slot} {Γ:Ctx} {ρ1:Pl} {w1:World} (hH:Holds Γ ρ1 h1 w1) (hx:ρ1[ox]? = some slx) {ks:List (Sk × Oper)} {st:St} (h:WX P ops Q h1 ox ks st) :
  ∀ (s:List (Sk × Nat)) (l:Array Bool),ks = s.map (fun p => (p.1,opn ops p.2)) → ui ops s l = true → ∀ {ρ a w},Rel Γ ρ st a w → Ext ρ1 ρ → SameX slx.blk w1 w →
   PrintLast.wpAnyLast P .any ops (dQ Q Γ) (SameX slx.blk w1) [] s.length l a w:=by
 induction h with
 | nil h =>
   intro s l e hc ρ a w hr he hS
   cases s with
   | nil => exact PrintLast.done_ hc ⟨_,ρ,h,hr⟩
   | cons o s => cases e
 | @p o ks st v hd hg ho' _ ih =>
   intro s l e hc ρ a w hr he hS
   cases s with
   | nil => cases e
   | cons p s =>
     obtain ⟨k',i⟩:=p
     simp only [List.map_cons,List.cons.injEq,Prod.mk.injEq] at e
     obtain ⟨⟨rfl,e1⟩,e2⟩:=e
     simp only [ui,Bool.and_eq_true] at hc
     obtain ⟨⟨hi,hk⟩,hrest⟩:=hc
     have ho:ops[i]? = some o:=by
      obtain ⟨o',ho'⟩:=Option.isSome_iff_exists.1 hi
      rw [e1,opn,ho']
      rfl
     have hw:=bf hg hr.env
     obtain ⟨v',hv,hv2⟩:=ho' Γ ρ a w hr
     exact PrintLast.pure_ _ ho rfl hk (fun _ _ _ h => h) (Or.inl ⟨hw,hv2⟩) rfl (ih s _ e2 hrest (hr.put st.h o.dst hd v v' (Ext.refl _) hr.len hr.holds hv) he hS)
 | @t o ks st v hd hg ho' _ ih =>
   intro s l e hc ρ a w hr he hS
   cases s with
   | nil => cases e
   | cons p s =>
     obtain ⟨k',i⟩:=p
     simp only [List.map_cons,List.cons.injEq,Prod.mk.injEq] at e
     obtain ⟨⟨rfl,e1⟩,e2⟩:=e
     simp only [ui,Bool.and_eq_true] at hc
     obtain ⟨⟨hi,hk⟩,hrest⟩:=hc
     have ho:ops[i]? = some o:=by
      obtain ⟨o',ho'⟩:=Option.isSome_iff_exists.1 hi
      rw [e1,opn,ho']
      rfl
     have hw:=bf hg hr.env
     obtain ⟨v',hv,hv2⟩:=ho' Γ ρ1 ρ a w w1 he hr hH
     exact PrintLast.take_ _ ho rfl hk (fun _ _ _ h => h) (Or.inl ⟨hw,fun w hw => hv2 slx w hx hw⟩) hS rfl (ih s _ e2 hrest (hr.put st.h o.dst hd v v' (Ext.refl _) hr.len hr.holds hv) he hS)
 | @l o ks st Kp hg h2 _ ih =>
   intro s l e hc ρ a w hr he hS
   cases s with
   | nil => cases e
   | cons p s =>
     obtain ⟨k',i⟩:=p
     simp only [List.map_cons,List.cons.injEq,Prod.mk.injEq] at e
     obtain ⟨⟨rfl,e1⟩,e2⟩:=e
     simp only [ui,Bool.and_eq_true] at hc
     obtain ⟨⟨hi,hk⟩,hrest⟩:=hc
     have ho:ops[i]? = some o:=by
      obtain ⟨o',ho'⟩:=Option.isSome_iff_exists.1 hi
      rw [e1,opn,ho']
      rfl
     have hw:=bf hg hr.env
     refine PrintLast.one_ _ ho rfl hk (by simp) (fun K hK => ?_)
     rw [if_pos hw]
     exact h2 Γ ρ a w hr K (dQ Q Γ) (fun st' a' w' sl hk' hr' hsl hs' => by
      have:sl = slx:=by rw [he ox slx hx] at hsl;exact (Option.some.inj hsl).symm
      subst this
      exact hK.out _ _ (hS.trans hs') (fun hs'' => ih st' hk' s _ e2 hrest hr' he hs''))
theorem zt {P:Program} {id:Nat} {l:List Oper} {Q:Exit → St → Prop} {st:St} (hm:P.follows .mixedOrders = true) (s:List (Sk × Nat)) (ox:Nat) {obx:AO} (hox:st.h[ox]? = some (some obx)) (hc:(Nat.beq s.length l.toArray.size && ui l.toArray s (Array.replicate l.toArray.size false)) = true)
  (h:WX P l.toArray Q st.h ox (s.map (fun p => (p.1,opn l.toArray p.2))) st):W P (Code.region id l.toArray true) Q st:=fun Γ ρ a w hr => by
 simp only [Bool.and_eq_true] at hc
 have e:=Nat.eq_of_beq_eq_true hc.1
 obtain ⟨sl,h3,_⟩:=hr.holds.obj ox obx hox
 have h2:=AF hr.drew.holds h3 h s _ rfl hc.2 hr.drew (Ext.refl _) (SameX.refl _ _)
 exact PrintLast.start_ (ds:=[]) (S:=SameX sl.blk w.drew) _ hm e.symm rfl (SameX.refl _ _) (fun _ => by rw [e] at h2 ⊢;exact h2)
section
variable {P:Program} {T:TB}
theorem tq (hT:TOk P T) {st:St} {h1:AH} {dst:Option Tmp} {t:TypeId} {x:Operand} {ty:TypeId} {pos:String} {af:Array Edge} {g:Option (Nat × Bool)} {o i q ox:Nat} {ob obx:AO} {cs:List AC} {ti:TI} {v:AV} (hx:ev st.env x = some (.c (.ptr o i q))) (ht:tlk t T = some ti)
  (ho:h1[o]? = some (some ob)) (hox:h1[ox]? = some (some obx)) (hown:obx.own = true) (hne:o ≠ ox) (hi:ob.el.get i = some cs) (hv:ldA ti cs q = some v):OpX P ⟨dst,.load t x,ty,pos,af,g⟩ st h1 ox v:=fun Γ ρ1 ρ a w0 w1 he hr hH => by
 obtain ⟨sl,ad,vs,k1,k2,k3,k4,k5,k6,k7⟩:=sK hH ho hi
 obtain ⟨sl',ad',e1,e2,e3⟩:=oJ (bq hr.env hx)
 have:sl = sl':=by rw [he o sl k1] at e1;exact Option.some.inj e1
 subst this
 have:ad = ad':=by rw [k4] at e2;exact Option.some.inj e2
 subst this
 have hcell:∀ slx w,ρ1[ox]? = some slx → SameX slx.blk w1 w → ∀ j u,vs[j]? = some u → w.cell? (ad.add (i * ob.sz + j)) = some u:=fun slx w hsx hw j u hu => by
  rw [jl (w:=w1) (by
   rw [add_block]
   refine hw.2 _ k5 (fun hb => ?_)
   exact (hH.sep ox obx slx _ hox hown hsx hb).2 o ob sl ho hne k1 (by simp [Slot.blk,k4]))]
  exact k7 j u hu
 unfold ldA at hv
 split at hv
 ·rename_i hag
  split at hv
  ·rename_i hle
   have hle:q + ti.size ≤ cs.length:=Nat.le_of_ble_eq_true hle
   cases hv
   refine ⟨.agg ((vs.drop q).take ti.size).toArray,⟨_,rfl,All2.imp (fun _ _ => AC.R_ext he) ((k6.drop q).take _)⟩,fun slx w hsx hw => ?_⟩
   have hl:((vs.drop q).take ti.size).length = ti.size:=by
    have:=k6.length
    rw [List.length_take,List.length_drop]
    omega
   have h5:=run_loadCells_list (P:=P) w (ad.add (i * sl.sz + q)) ((vs.drop q).take ti.size) (fun j u hu => by
    have hj:j < ti.size:=by have:=(List.getElem?_eq_some_iff.1 hu).1;omega
    rw [List.getElem?_take_of_lt hj,List.getElem?_drop] at hu
    rw [iq,k2,Nat.add_assoc]
    exact hcell slx w hsx hw _ _ hu)
   rw [hl] at h5
   unfold execOp
   simp [Instr.loadAt,e3,Instr.sureAddr,loadVar,fG hT ht,hag,cN hT ht,h5]
  ·cases hv
 ·rename_i hag
  obtain ⟨c,hc,rfl⟩:=Option.map_eq_some_iff.1 hv
  obtain ⟨u,hu,hr2⟩:=k6.get hc
  refine ⟨u,AC.R_ext he hr2,fun slx w hsx hw => ?_⟩
  have h5:=hcell slx w hsx hw q u hu
  rw [← k2] at h5
  unfold execOp
  simp [Instr.loadAt,e3,Instr.sureAddr,loadVar,fG hT ht,hag,h5]
theorem wO (hT:TOk P T) {st:St} {dst:Option Tmp} {t:TypeId} {x y:Operand} {ty:TypeId} {pos:String} {af:Array Edge} {g:Option (Nat × Bool)} {o i q:Nat} {ob:AO} {cs vcs:List AC} {ti:TI} {v:AV} {e':El} (hd:dst = none)
  (hx:ev st.env x = some (.c (.ptr o i q))) (hy:ev st.env y = some v) (ht:tlk t T = some ti) (hv:jy v = some vcs) (hsz:vcs.length = ti.size) (ho:st.h[o]? = some (some ob)) (hown:ob.own = true) (hi:ob.el.get i = some cs) (hq:q + ti.size ≤ cs.length)
  (he:ob.el.put i (cs.take q ++ vcs ++ cs.drop (q + vcs.length)) = some e') :
  OpS P ⟨dst,.store t x y,ty,pos,af,g⟩ st o (fun st' => st' = { st with h:=st.h.set o (some ⟨ob.own,ob.ty,ob.sz,e'⟩) }):=fun Γ ρ a w hr K' Q' hk => by
 subst hd
 obtain ⟨sl,gb,cur,k1,k2,k3,k4,k5,k6,k7,k8,k9⟩:=qO hr.holds ho hown hi
 obtain ⟨sl',ad,e1,e2,e3⟩:=oJ (bq hr.env hx)
 have:sl = sl':=by rw [k1] at e1;exact Option.some.inj e1
 subst this
 have:ad = ⟨gb,0,none⟩:=by rw [k3] at e2;exact (Option.some.inj e2).symm
 subst this
 obtain ⟨hvc,hvp⟩:=sH hv (bq hr.env hy)
 obtain ⟨vl,hvl0⟩:∃ vl,vl = (a.eval y).cells.toList:=⟨_,rfl⟩
 rw [← hvl0] at hvc
 have hvl:=hvc.length
 have hvs:(a.eval y).cells.size = vl.length:=by rw [hvl0,Array.length_toList]
 have hbound:i * ob.sz + ob.sz ≤ sl.cap * ob.sz:=by
  have:(i + 1) * ob.sz ≤ sl.cap * ob.sz:=Nat.mul_le_mul_right _ (by omega)
  rwa [Nat.add_mul,Nat.one_mul] at this
 have hone:∀ u ∈ vl,u.oneCell' = true:=fun u hu => by
  obtain ⟨j,hj⟩:=List.getElem?_of_mem hu
  have hjl:j < vcs.length:=by rw [hvl];exact (List.getElem?_eq_some_iff.1 hj).1
  obtain ⟨u',h1,h2⟩:=hvc.get (List.getElem?_eq_getElem hjl)
  rw [hj] at h1
  cases h1
  exact AC.R_one h2
 have hst:=run_storeCells_at P gb (i * ob.sz + q) ob.ty vl 0 cur w k4 (by rw [← hvl,k5];omega) hone
 simp only [Nat.add_zero] at hst
 unfold Oper.wp
 have hrun:(execOp a.eval ⟨none,.store t x y,ty,pos,af,g⟩).run P w = .ok .skip (w.setRow gb (cur.toList.take (i * ob.sz + q) ++ vl ++ cur.toList.drop (i * ob.sz + q + vl.length)).toArray):=by
  have hne:¬ ((a.eval y).cells.size ≠ ti.size):=by
   rw [hvs,← hvl,hsz]
   simp
  unfold execOp
  simp only [Instr.storeAt,e3,Instr.sureAddr,storeVar,Sem.run_bind,Sem.run_pure,Result.andThen_ok,cN hT ht,hne,k2,fe,Sem.run_ite]
  rw [← hvl0]
  simp [hst]
 rw [hrun]
 generalize hcur:(cur.toList.take (i * ob.sz + q) ++ vl ++ cur.toList.drop (i * ob.sz + q + vl.length)) = cur'
 have hcurl:cur.toList.length = cur.size:=Array.length_toList
 have hfit:i * ob.sz + q + vl.length ≤ cur.toList.length:=by
  rw [hcurl,k5,← hvl]
  omega
 have hcl:cur'.length = cur.size:=by
  rw [← hcur]
  simp only [List.length_append,List.length_take,List.length_drop,hcurl]
  omega
 have hget:∀ j,cur'[j]? = if i * ob.sz + q ≤ j ∧ j < i * ob.sz + q + vcs.length then vl[j - (i * ob.sz + q)]? else cur[j]?:=fun j => by
  rw [← hcur,vY hfit,hvl]
  simp only [Array.getElem?_toList]
 obtain ⟨sl2,m1,m2⟩:=hr.holds.obj o ob ho
 have:sl2 = sl:=by rw [m1] at k1;exact Option.some.inj k1
 subst this
 have hheap:(w.setRow gb cur'.toArray).heap[gb]? = some (.cells cur'.toArray ob.ty (0,0)):=setRow_heap w gb cur _ ob.ty _ k4
 obtain ⟨p1,p2⟩:=El.put_get he k6
 have hcell:∀ j,(w.setRow gb cur'.toArray).cell? ((⟨gb,0,none⟩:Addr).add j) = cur'[j]?:=fun j => by
  rw [fe,cell_of_row _ _ _ _ _ _ hheap]
  simp
 have hold:∀ j,w.cell? ((⟨gb,0,none⟩:Addr).add j) = cur[j]?:=fun j => by
  rw [fe,cell_of_row _ _ _ _ _ _ k4]
 have hcsl:(cs.take q ++ vcs ++ cs.drop (q + vcs.length)).length = ob.sz:=by
  simp only [List.length_append,List.length_take,List.length_drop]
  omega
 have hobj:ObjH ρ sl2 ⟨ob.own,ob.ty,ob.sz,e'⟩ (w.setRow gb cur'.toArray):=by
  refine ⟨m2.sz,m2.pos,by show e'.len ≤ _;rw [El.put_len he];exact m2.len,m2.max,fun a' ha' => by rw [dD];exact m2.lt a' ha',m2.nil,fun i' cs' hi' => ?_,fun _ => ⟨k9,.inr ⟨gb,cur'.toArray,k3,hheap,by simp [hcl,k5]⟩⟩⟩
  have hi':e'.get i' = some cs':=hi'
  by_cases ei:i' = i
  ·subst ei
   rw [p1] at hi'
   cases hi'
   refine ⟨hcsl,_,k3,fun j z hz => ?_⟩
   show ∃ v,(w.setRow gb cur'.toArray).cell? ((⟨gb,0,none⟩:Addr).add (i' * ob.sz + j)) = some v ∧ z.R ρ v
   have hj:j < ob.sz:=by rw [← hcsl];exact (List.getElem?_eq_some_iff.1 hz).1
   rw [hcell,hget]
   by_cases hin:q ≤ j ∧ j < q + vcs.length
   ·rw [if_pos (by omega)]
    rw [List.append_assoc,List.getElem?_append_right (by rw [List.length_take];omega),List.length_take,Nat.min_eq_left (by omega),List.getElem?_append_left (by omega)] at hz
    obtain ⟨u,h1,h2⟩:=hvc.get hz
    exact ⟨u,by rw [show i' * ob.sz + j - (i' * ob.sz + q) = j - q from by omega];exact h1,h2⟩
   ·rw [if_neg (by omega)]
    have hz':cs[j]? = some z:=by
     by_cases hjq:j < q
     ·rw [List.append_assoc,List.getElem?_append_left (by rw [List.length_take];omega),List.getElem?_take_of_lt hjq] at hz
      exact hz
     ·rw [List.getElem?_append_right (by simp only [List.length_append,List.length_take];omega),List.length_append,List.length_take,Nat.min_eq_left (by omega),List.getElem?_drop] at hz
      rwa [show q + vcs.length + (j - (q + vcs.length)) = j from by omega] at hz
    obtain ⟨_,a2,ha2,hc2⟩:=m2.cell i' cs hi
    rw [k3] at ha2
    cases ha2
    obtain ⟨u,h1,h2⟩:=hc2 j z hz'
    rw [hold] at h1
    exact ⟨u,h1,h2⟩
  ·rw [p2 i' ei] at hi'
   obtain ⟨h1,a2,ha2,hc2⟩:=m2.cell i' cs' hi'
   rw [k3] at ha2
   cases ha2
   refine ⟨h1,_,k3,fun j z hz => ?_⟩
   obtain ⟨u,h2,h3⟩:=hc2 j z hz
   rw [hold] at h2
   refine ⟨u,?_,h3⟩
   show (w.setRow gb cur'.toArray).cell? ((⟨gb,0,none⟩:Addr).add (i' * ob.sz + j)) = some u
   rw [hcell,hget,if_neg ?_]
   ·exact h2
   ·have hj:j < ob.sz:=by have:=(List.getElem?_eq_some_iff.1 hz).1;have h1:cs'.length = ob.sz:=h1;omega
    rintro ⟨q1,q2⟩
    have q1:i * ob.sz + q ≤ i' * ob.sz + j:=q1
    have q2:i' * ob.sz + j < i * ob.sz + q + vcs.length:=q2
    rcases Nat.lt_or_ge i' i with hlt | hge
    ·have:(i' + 1) * ob.sz ≤ i * ob.sz:=Nat.mul_le_mul_right _ hlt
     rw [Nat.add_mul,Nat.one_mul] at this
     omega
    ·have:(i + 1) * ob.sz ≤ i' * ob.sz:=Nat.mul_le_mul_right _ (by omega)
     rw [Nat.add_mul,Nat.one_mul] at this
     omega
 have holt:o < st.h.length:=(List.getElem?_eq_some_iff.1 ho).1
 have hblk:sl2.blk = some gb:=by simp [Slot.blk,k3]
 have hH:Holds Γ ρ (st.h.set o (some ⟨ob.own,ob.ty,ob.sz,e'⟩)) (w.setRow gb cur'.toArray):=by
  refine hr.holds.one rfl rfl rfl (by rw [dD];exact Nat.le_refl _) (some gb) (fun k _ hne => setRow_other' _ _ _ _ (fun e => hne (by rw [e]))) (Ext.refl _) o _ sl2 m1 hobj
   (fun g' hg' => ⟨o,ob,sl2,ho,hown,m1,by rw [hblk];exact hg',fun _ _ => rfl⟩) (fun o' ob' ho' hne => by rwa [List.getElem?_set_ne (Ne.symm hne)] at ho') (List.getElem?_set_self holt) (fun g' hg' => .inl (by rw [← hblk];exact hg')) (El.put_nd he)
 exact hk _ _ _ sl2 rfl ⟨hH,by simp [hr.len],hr.klen,hr.args,hr.env,hr.defers,hr.size⟩ m1 ⟨by rw [dD];exact Nat.le_refl _,fun k _ hne => setRow_other' _ _ _ _ (fun e => hne (by rw [hblk,e]))⟩
end
structure ZX (P:Program) (ops:Array Oper) (Q:Exit → St → Prop) (h1:AH) (ox:Nat) (ks:List Sk) (l:List Oper) (st:St):Prop where
 out:WX P ops Q h1 ox (kN ks l) st
section
variable {P:Program} {T:TB} {ops:Array Oper} {Q:Exit → St → Prop} {h1:AH} {ox:Nat} {ks ks':List Sk} {l:List Oper} {N0 k0 d0:Nat} {e0:List (Nat × AV)} {h0:AH} {op:Op} {ty:TypeId} {pos:String} {af:Array Edge} {g:Option (Nat × Bool)} {st:St}
theorem zo {id:Nat} {l l' L:List Oper} (hl:rj l = some l') (hm:P.follows .mixedOrders = true) (s:List (Sk × Nat)) (ox:Nat) (hc:(Nat.beq s.length l'.toArray.size && ui l'.toArray s (Array.replicate l'.toArray.size false)) = true) (hL:gq l' s = some L) {obx:AO} (hox:st.h[ox]? = some (some obx))
  (h:ZX P l'.toArray Q st.h ox (s.map (·.1)) L st):WW P (Code.region id l.toArray true) Q st:=⟨by
 rw [mg hl]
 refine zt hm s ox hox hc ?_
 rw [← je,i7 hL]
 exact h.out⟩
theorem zm (h:Q .normal st):ZX P ops Q h1 ox ks [] st:=⟨by cases ks <;> exact .nil h⟩
theorem xp (hs0:stK ks = (Sk.p,ks')) (hT:TOk P T) {v v':AV} (hv:aP T e0 op = some v) (hf:fV v = some v') (hg:gd ops ⟨some d0,op,ty,pos,af,g⟩ e0 = some true) (hd:Nat.blt d0 N0 = true) (h:ZX P ops Q h1 ox ks' l ⟨N0,k0,(d0,v') :: e0,h0⟩):ZX P ops Q h1 ox ks (⟨some d0,op,ty,pos,af,g⟩ :: l) ⟨N0,k0,e0,h0⟩:=⟨by
 rw [aI hs0]
 rw [← mh hf] at h
 exact .p hd hg (m8 (st:=⟨N0,k0,e0,h0⟩) hT hv) h.out⟩
theorem xix (hs0:stK ks = (Sk.p,ks')) (hT:TOk P T) {t e:TypeId} {x y:Operand} {o n:Nat} {ob:AO} {k':IntKind} {i:Int} {ti te:TI} (hx:ev e0 x = some (.c (.row o 0 n))) (hy:ev e0 y = some (.c (.sc (.int k' i)))) (ht:tlk t T = some ti) (hs:ti.d = .slice e) (hte:tlk e T = some te) (ho:h0[o]? = some (some ob)) (hsz:te.size = ob.sz) (hb:0 ≤ i ∧ i < n)
  (hg:gd ops ⟨some d0,.indexAddr t x y,ty,pos,af,g⟩ e0 = some true) (hd:Nat.blt d0 N0 = true) (h:ZX P ops Q h1 ox ks' l ⟨N0,k0,(d0,(.c (.ptr o i.toNat 0))) :: e0,h0⟩):ZX P ops Q h1 ox ks (⟨some d0,.indexAddr t x y,ty,pos,af,g⟩ :: l) ⟨N0,k0,e0,h0⟩:=⟨by
 rw [aI hs0]
 have h2:=qM (st:=⟨N0,k0,e0,h0⟩) (dst:=some d0) (ty:=ty) (pos:=pos) (af:=af) (g:=g) hT hx hy ht hs hte ho hsz hb.1 hb.2
 rw [Nat.zero_add] at h2
 exact .p hd hg h2 h.out⟩
theorem xlv (hs0:stK ks = (Sk.t,ks')) (hT:TOk P T) {t:TypeId} {x:Operand} {o q:Nat} {ob obx:AO} {cs:List AC} {ti:TI} {v v':AV} (hx:ev e0 x = some (.c (.ptr o 0 q))) (ht:tlk t T = some ti) (ho:h1[o]? = some (some ob)) (hox:h1[ox]? = some (some obx)) (hown:obx.own = true) (hne:Nat.beq o ox = false) (hi:ob.el.get 0 = some cs) (hv:ldW ti cs q = some v) (hf:fV v = some v')
  (hg:gd ops ⟨some d0,.load t x,ty,pos,af,g⟩ e0 = some true) (hd:Nat.blt d0 N0 = true) (h:ZX P ops Q h1 ox ks' l ⟨N0,k0,(d0,v') :: e0,h0⟩):ZX P ops Q h1 ox ks (⟨some d0,.load t x,ty,pos,af,g⟩ :: l) ⟨N0,k0,e0,h0⟩:=⟨by
 rw [aI hs0]
 rw [← mh hf] at h
 exact .t hd hg (tq (st:=⟨N0,k0,e0,h0⟩) hT hx ht ho hox hown (fun e => by rw [e,Nat.beq_refl] at hne;cases hne) hi (mn hv)) h.out⟩
theorem xle (hs0:stK ks = (Sk.t,ks')) (hT:TOk P T) {α:Type} {inst:Enc α} {t:TypeId} {x:Operand} {o q:Nat} {i:Int} {own:Bool} {e sz:Nat} {xs:List α} {obx:AO} {ti:TI} {v v':AV} (hx:ev e0 x = some (.c (.ptr o i.toNat q))) (ht:tlk t T = some ti) (ho:h1[o]? = some (some ⟨own,e,sz,.fl (xs.map Enc.enc)⟩)) (hox:h1[ox]? = some (some obx)) (hown:obx.own = true) (hne:Nat.beq o ox = false)
  (hb:0 ≤ i ∧ i < xs.length) (hv:ldW ti ((Enc.enc (rd xs i)).map .sc) q = some v) (hf:fV1 v = some v') (hg:gd ops ⟨some d0,.load t x,ty,pos,af,g⟩ e0 = some true) (hd:Nat.blt d0 N0 = true) (h:ZX P ops Q h1 ox ks' l ⟨N0,k0,(d0,v') :: e0,h0⟩):ZX P ops Q h1 ox ks (⟨some d0,.load t x,ty,pos,af,g⟩ :: l) ⟨N0,k0,e0,h0⟩:=⟨by
 rw [aI hs0]
 rw [← rk hf] at h
 exact .t hd hg (tq (st:=⟨N0,k0,e0,h0⟩) hT hx ht ho hox hown (fun e => by rw [e,Nat.beq_refl] at hne;cases hne) (show ((xs.map Enc.enc)[i.toNat]?).map _ = _ by rw [uj hb];rfl) (mn hv)) h.out⟩
theorem xst (hs0:stK ks = (Sk.l,ks')) (hT:TOk P T) {t:TypeId} {x y:Operand} {i q:Nat} {v:AV} {h' h2:AH} (hx:ev e0 x = some (.c (.ptr ox i q))) (hy:ev e0 y = some v) (hs:stv T h0 t v (.c (.ptr ox i q)) = some h') (hf:fH h' = some h2) (hg:gd ops ⟨none,.store t x y,ty,pos,af,g⟩ e0 = some true)
  (h:ZX P ops Q h1 ox ks' l ⟨N0,k0,e0,h2⟩):ZX P ops Q h1 ox ks (⟨none,.store t x y,ty,pos,af,g⟩ :: l) ⟨N0,k0,e0,h0⟩:=⟨by
 rw [aI hs0]
 rw [← iU hf] at h
 simp only [stv] at hs
 split at hs
 ·rename_i own ty' sz' el ti vcs ho ht hv
  split at hs
  ·rename_i cs hsz hi
   split at hs
   ·rename_i e' hq he
    cases hs
    have hq:=Nat.le_of_ble_eq_true hq
    have hsz:=Nat.eq_of_beq_eq_true hsz
    rw [vX (by omega)] at he
    exact .l hg (wO (st:=⟨N0,k0,e0,h0⟩) hT rfl hx hy ht hv hsz ho rfl hi hq he) (fun st' e => by cases e;exact h.out)
   ·cases hs
  ·cases hs
 ·cases hs⟩
end
end
section
open Go.RowKit
theorem BalsOk_iff {l:List Bal}:BalsOk l ↔ (∀ x ∈ l,aj x.Account ∧ aj x.Instr ∧ aq x.Amount ∧ x.Amount ≠ 0) ∧ BSd l ∧ l.length ≤ 160 :=
 ⟨fun h => ⟨fun x hx => by
  obtain ⟨i,hi,rfl⟩:=bw hx
  have:=h.1 i hi.1 hi.2
  exact ⟨this.1,this.2.1,this.2.2.1,this.2.2.2.1⟩,h.sd,h.2⟩,fun ⟨h1,h2,h3⟩ => ⟨fun i h0 hi => by
  obtain ⟨a,b,c,d⟩:=h1 _ (aA ⟨h0,hi⟩)
  exact ⟨a,b,c,d,fun q => h2 i q hi⟩,h3⟩⟩
theorem yE (l:List Bal):pO l [] = l:=rfl
theorem vL (l:List Bal) (x:Leg) (g:List Leg):pO l (x :: g) = pO (lw l x) g:=rfl
def fA (g:List Leg) (a c:Int):Int:=ao (fun x => if x.Account = a ∧ x.Instr = c then x.Amount else 0) g
theorem nm (a c:Int):fA [] a c = 0:=rfl
theorem hG (x:Leg) (g:List Leg) (a c:Int):fA (x :: g) a c = (if x.Account = a ∧ x.Instr = c then x.Amount else 0) + fA g a c:=aT ..
theorem kK {l:List Bal} (h:BSd l) (x:Leg):BSd (lw l x):=ff h _ _ _
theorem vM:∀ {g:List Leg} {l:List Bal},BSd l → BSd (pO l g)
 | [],_,h => h
 | x :: g,_,h => vM (g:=g) (kK h x)
theorem yF:∀ {g:List Leg} {l:List Bal},BSd l → (∀ x ∈ l,x.Amount ≠ 0) → ∀ x ∈ pO l g,x.Amount ≠ 0
 | [],_,_,h => h
 | x :: g,_,h,h0 => yF (g:=g) (kK h x) (vQ h h0 _ _ _)
theorem si:∀ {g:List Leg} {l:List Bal},BSd l → ∀ a c,aL (pO l g) a c = aL l a c + fA g a c
 | [],_,_,a,c => by rw [yE,nm];omega
 | x :: g,l,h,a,c => by
   rw [vL,si (g:=g) (kK h x),hG,lw,kP h]
   by_cases e:a = x.Account ∧ c = x.Instr
   ·rw [if_pos e,if_pos ⟨e.1.symm,e.2.symm⟩,e.1,e.2]
    omega
   ·rw [if_neg e,if_neg (fun q => e ⟨q.1.symm,q.2.symm⟩)]
    omega
theorem tW {f:Bal → Int} {l:List Bal} (hs:BSd l) (a c:Int):ao f l = ao f (flt (neB a c) l) + ao f (flt (fun x => ¬ neB a c x) l):=by
 clear hs
 induction l with
 | nil => rfl
 | cons x l ih =>
   rw [show x :: l = [x] ++ l from rfl,aV,aV,bk,bk,bk,ih]
   by_cases hp:neB a c x
   ·rw [dN hp,dm (p:=fun x => ¬ neB a c x) (fun q => q hp),ec]
    omega
   ·rw [dm hp,dN (p:=fun x => ¬ neB a c x) hp,ec]
    omega
theorem zM {l:List Bal} (hs:BSd l) (a c:Int):ao Bal.Amount (flt (fun x => ¬ neB a c x) l) = aL l a c:=by
 by_cases hh:lB l a c
 ·obtain ⟨x,hx,h1,h2⟩:=hh
  have hp:=BSd_iff.1 hs
  clear hs
  induction l with
  | nil => simp at hx
  | cons y l ih =>
    rw [List.pairwise_cons] at hp
    rw [show y :: l = [y] ++ l from rfl,aV,bk]
    by_cases hy:y.Account = a ∧ y.Instr = c
    ·have hn:flt (fun x => ¬ neB a c x) l = []:=by
      unfold flt
      rw [List.filter_eq_nil_iff]
      intro z hz hq
      have hz2:=Classical.not_not.1 (sM hq)
      have:=hp.1 z hz
      unfold oO bef at this
      omega
     rw [hn,dN (p:=fun x => ¬ neB a c x) (fun q => q hy),cT,ec]
     unfold aL
     rw [List.find?_append,List.find?_cons_of_pos (by simpa using hy)]
     simp
    ·have hxl:x ∈ l:=by
      rcases List.mem_cons.1 hx with rfl | h
      ·exact absurd ⟨h1,h2⟩ hy
      ·exact h
     rw [dm (p:=fun x => ¬ neB a c x) (fun q => q hy),ec,ih hxl hp.2]
     unfold aL
     rw [List.find?_append,List.find?_cons_of_neg (by simpa using hy)]
     simp
 ·rw [mZ hh]
  have hn:flt (fun x => ¬ neB a c x) l = []:=by
   unfold flt
   rw [List.filter_eq_nil_iff]
   intro z hz hq
   exact hh ⟨z,hz,Classical.not_not.1 (sM hq)⟩
  rw [hn,ec]
theorem yI {l:List Bal} (hs:BSd l) (a c n:Int):flt (neB a c) (dL l a c n) = flt (neB a c) l:=by
 rw [dA hs,aV,aV]
 have h1:flt (neB a c) (if n = 0 then [] else [(⟨a,c,n⟩:Bal)]) = []:=by
  split
  ·rfl
  ·exact dm (p:=neB a c) (x:=(⟨a,c,n⟩:Bal)) (fun q => q ⟨rfl,rfl⟩)
 rw [h1,gU (p:=neB a c) (l:=flt (neB a c) _) (fun x hx => (flt_mem.1 hx).2),List.append_nil,← aV]
 congr 1
 exact List.take_append_drop _ _
theorem zw {c:Int} {x:Bal} {a:Int} (h:¬ neB a c x):nP c x = x.Amount:=oL (Classical.not_not.1 h).2
theorem sj {l:List Bal} (hs:BSd l) (a c n d:Int):bV (dL l a c n) d = bV l d + (if c = d then n - aL l a c else 0):=by
 unfold bV
 rw [tW (ff hs a c n) a c,tW hs a c,yI hs]
 have key:∀ {m:List Bal},BSd m → ao (nP d) (flt (fun x => ¬ neB a c x) m) = if c = d then aL m a c else 0:=fun {m} hm => by
  by_cases e:c = d
  ·subst e
   rw [if_pos rfl,← zM hm a c]
   unfold ao
   congr 1
   exact List.map_congr_left (fun x hx => zw (flt_mem.1 hx).2)
  ·rw [if_neg e]
   have:∀ x ∈ flt (fun x => ¬ neB a c x) m,nP d x = 0:=fun x hx => qW (fun q => e (by rw [← q];exact (Classical.not_not.1 (flt_mem.1 hx).2).2.symm))
   unfold ao
   rw [List.map_congr_left this]
   clear this hm
   induction flt (fun x => ¬ neB a c x) m with
   | nil => rfl
   | cons y l ih => simpa using ih
 rw [key (ff hs a c n),key hs,kP hs]
 rw [if_pos (⟨rfl,rfl⟩:a = a ∧ c = c)]
 split <;> omega
theorem oN:∀ {g:List Leg} {l:List Bal},BSd l → ∀ c,bV (pO l g) c = bV l c + bD g c
 | [],_,_,c => by rw [yE,show bD [] c = 0 from rfl];omega
 | x :: g,l,h,c => by
   rw [vL,oN (g:=g) (kK h x),lw,sj h,bD,bD,aT,iJ]
   split <;> omega
theorem uK:∀ {g:List Leg} {l:List Bal},BSd l → ∀ {x:Bal},x ∈ pO l g → x ∈ l ∨ ∃ y ∈ g,y.Account = x.Account ∧ y.Instr = x.Instr
 | [],_,_,_,h => .inl h
 | y :: g,l,hs,x,h => by
   rcases uK (g:=g) (kK hs y) h with h | ⟨z,hz,h2⟩
   ·rcases pz hs h with h | h
    ·exact .inl h
    ·exact .inr ⟨y,by simp,by rw [h],by rw [h]⟩
   ·exact .inr ⟨z,List.mem_cons_of_mem _ hz,h2⟩
theorem BK {l:List Bal} {g:List Leg} (hs:BSd l) (h:qU l) (hf:eh l g):qU (pO l g):=by
 have:∀ n:Nat,n ≤ g.length → qU (pO l (pf g n)):=fun n => by
  induction n with
  | zero => intro _;exact h
  | succ n ih =>
    intro hn
    have:=ih (by omega)
    rw [show ((n + 1:Nat):Int) = (n:Int) + 1 from by omega,rI (by omega)]
    exact pv (vM hs) this (hf n (by omega) (by omega))
 have:=this g.length (Nat.le_refl _)
 rwa [b6 (by omega)] at this
structure Posted (b:Books) (g:List Leg) (bals:List Bal):Prop where
 ok:BalsOk bals
 of:∀ a c,aL bals a c = aL b.Bals a c + fA g a c
 sum:∀ c,bV bals c = 0
 mem:∀ x ∈ bals,a9 b.Accounts x.Account ≠ 0 ∧ aa b.Instrs x.Instr ≠ 0 ∧ ¬ (a9 b.Accounts x.Account = 1 ∧ x.Amount < 0)
theorem wn {l:List Bal} {c:Int} (h:∀ x ∈ l,¬ x.Instr = c):bV l c = 0:=by
 unfold bV ao
 rw [List.map_congr_left (g:=fun _ => (0:Int)) (fun x hx => qW (h x hx))]
 clear h
 induction l with
 | nil => rfl
 | cons y l ih => simpa using ih
theorem BooksOk.sum {b:Books} (h:BooksOk b) (c:Int):bV b.Bals c = 0:=by
 by_cases hc:∃ x ∈ b.Bals,x.Instr = c
 ·obtain ⟨x,hx,rfl⟩:=hc
  exact (h.bR x hx).2.2.2
 ·exact wn (fun x hx e => hc ⟨x,hx,e⟩)
theorem tc {g:List Leg} (h:d4 g) (c:Int):bD g c = 0:=by
 by_cases hc:∃ x ∈ g,x.Instr = c
 ·obtain ⟨x,hx,rfl⟩:=hc
  exact h.2 x hx
 ·unfold bD ao
  rw [List.map_congr_left (f:=iJ c) (g:=fun _ => (0:Int)) (fun x hx => if_neg (fun e => hc ⟨x,hx,e⟩))]
  clear h hc
  induction g with
  | nil => rfl
  | cons y l ih => simpa using ih
theorem C2 {ba:List Account} (hA:aU ba) {no:Int} (h:no ∈ shA ba):a9 ba no ≠ 1:=by
 unfold shA at h
 obtain ⟨a,ha,rfl⟩:=List.mem_map.1 h
 obtain ⟨h1,h2⟩:=flt_mem.1 ha
 rw [ip hA h1]
 exact h2
theorem BO {l:List Bal} {g:List Leg} {sh:List Int} (h:(bg l g sh).2 = 0):BalsOk l ∧ d4 g ∧ eh l g ∧ ¬ iy (pO l g) g sh ∧ (pO l g).length ≤ 160 ∧ (bg l g sh).1 = pO l g:=by
 by_cases h1:BalsOk l ∧ cw g ∧ sh.length ≤ 20
 rotate_left
 ·rw [zy h1] at h;exact absurd (show (1:Int) = 0 from h) (by decide)
 by_cases h2:d4 g
 rotate_left
 ·rw [zz h1 h2] at h;exact absurd (show (2:Int) = 0 from h) (by decide)
 by_cases h3:eh l g
 rotate_left
 ·rw [xB h1 h2 h3] at h;exact absurd (show (4:Int) = 0 from h) (by decide)
 by_cases h4:iy (pO l g) g sh
 ·rw [xA h1 h2 h3 h4] at h;exact absurd (show (3:Int) = 0 from h) (by decide)
 by_cases h5:160 < (pO l g).length
 ·rw [xC h1 h2 h3 h4 h5] at h;exact absurd (show (5:Int) = 0 from h) (by decide)
 ·rw [xz h1 h2 h3 h4 h5];exact ⟨h1.1,h2,h3,h4,Nat.le_of_not_lt h5,rfl⟩
theorem BooksOk.post {b:Books} (hb:BooksOk b) {g:List Leg} (h:(poR b g).2 = 0) (hg:∀ x ∈ g,a9 b.Accounts x.Account ≠ 0 ∧ aa b.Instrs x.Instr ≠ 0):Posted b g (poR b g).1:=by
 obtain ⟨h1,h2,h3,h4,h5,h6⟩:=BO h
 have hs:=h1.sd
 have he:(poR b g).1 = pO b.Bals g:=h6
 rw [he]
 obtain ⟨i1,i2,i3⟩:=BalsOk_iff.1 h1
 refine ⟨BalsOk_iff.2 ⟨fun x hx => ?_,vM hs,h5⟩,si hs,fun c => ?_,fun x hx => ?_⟩
 ·have ha:=BK hs h1.amt h3 x hx
  have hz:=yF hs (fun y hy => (i1 y hy).2.2.2) x hx
  rcases uK hs hx with q | ⟨y,hy,e1,e2⟩
  ·exact ⟨(i1 x q).1,(i1 x q).2.1,ha,hz⟩
  ·have:=h2.1.2 y hy
   rw [← e1,← e2]
   exact ⟨this.1,this.2.1,ha,hz⟩
 ·rw [oN hs,hb.sum,tc h2]
  rfl
 ·by_cases ht:∃ y ∈ g,y.Account = x.Account ∧ y.Instr = x.Instr
  ·obtain ⟨y,hy,e1,e2⟩:=ht
   have:=hg y hy
   rw [e1,e2] at this
   refine ⟨this.1,this.2,fun ⟨k1,k2⟩ => h4 ⟨y,hy,fun q => ?_,?_⟩⟩
   ·rw [e1] at q
    exact C2 hb.acc q k1
   ·rw [e1,e2,(cd (vM hs) (yF hs (fun y hy => (i1 y hy).2.2.2) x hx)).2 hx]
    exact k2
  ·rcases uK hs hx with q | q
   ·have:=hb.bR x q
    exact ⟨this.1,this.2.1,this.2.2.1⟩
   ·exact absurd q ht
end
section
open Go.RowKit
theorem t6 {l:List Instr} (h:bH l) {a:Instr} (ha:a ∈ l):aa l a.No = a.Kind:=by
 obtain ⟨i,hi,rfl⟩:=bw ha
 refine jp hi (fun j h0 h1 e => ?_) rfl
 have:=List.pairwise_iff_getElem.1 (BA h) j.toNat i.toNat (by omega) (by omega) (by omega)
 have e1:l[j.toNat]'(by omega) = rd l j:=by simp [rd,List.getD_eq_getElem?_getD,show j.toNat < l.length from by omega]
 have e2:l[i.toNat]'(by omega) = rd l i:=by simp [rd,List.getD_eq_getElem?_getD,show i.toNat < l.length from by omega]
 rw [e1,e2] at this
 omega
theorem BooksOk.pair {b:Books} (h:BooksOk b) {a c:Int} (ha:a9 b.Accounts a = 1) (hc:aa b.Instrs c = 2):sQ (ae b.Lots a c) = aL b.Bals a c:=by
 obtain ⟨x,hx,rfl,h1⟩:=ly (l:=b.Accounts) (n:=a) (by rw [ha];decide)
 have hy:∃ y ∈ b.Instrs,y.No = c ∧ y.Kind = aa b.Instrs c:=by
  unfold aa at *
  cases hf:b.Instrs.find? (fun x => decide (x.No = c)) with
  | none => rw [hf] at hc;cases hc
  | some y => exact ⟨y,List.mem_of_find?_eq_some hf,by simpa using List.find?_some hf,rfl⟩
 obtain ⟨y,hy,rfl,h2⟩:=hy
 exact h.lR.2 x hx y hy (by rw [h1,ha]) (by rw [h2,hc])
theorem BooksOk.posted {b:Books} (hb:BooksOk b) {g:List Leg} {bals:List Bal} (hp:Posted b g bals) {bl:List Lot} {bt:List Trade} {bn:Int} (hl:LotsOk bl) (ht:dS bt) (hn:inP bn 0 1000000000)
  (hlr:∀ x ∈ bl,pl b.Accounts b.Instrs bn x) (hpr:∀ a c,a9 b.Accounts a = 1 → aa b.Instrs c = 2 → sQ (ae bl a c) = sQ (ae b.Lots a c) + fA g a c) (htr:ij b.Accounts b.Instrs bt) :
  BooksOk ⟨b.Accounts,b.Instrs,bals,bl,bt,bn⟩ :=
 ⟨hb.acc,hb.ins,hp.ok,hl,ht,hn,fun x hx => ⟨(hp.mem x hx).1,(hp.mem x hx).2.1,(hp.mem x hx).2.2,hp.sum _⟩,⟨hlr,fun a ha x hx h1 h2 => by
  have k1:=ip hb.acc ha
  have k2:=t6 hb.ins hx
  rw [h1] at k1
  rw [h2] at k2
  show sQ (ae bl a.No x.No) = aL bals a.No x.No
  rw [hp.of,hpr _ _ k1 k2,hb.pair k1 k2]⟩,htr⟩
theorem BooksOk.turn {b:Books} (hb:BooksOk b) {g:List Leg} {bals:List Bal} (hp:Posted b g bals) (hg:∀ x ∈ g,aa b.Instrs x.Instr ≠ 2):BooksOk ⟨b.Accounts,b.Instrs,bals,b.Lots,b.Trades,b.Lot⟩ :=
 hb.posted hp hb.lots hb.trades hb.lot hb.lR.1 (fun a c _ hc => by
  have:fA g a c = 0:=by
   unfold fA ao
   rw [List.map_congr_left (g:=fun _ => (0:Int)) (fun x hx => if_neg (fun e => hg x hx (by rw [e.2];exact hc)))]
   clear hp hg
   induction g with
   | nil => rfl
   | cons y l ih => simpa using ih
  omega) hb.tR
end
section
open Go.RowKit
theorem kB {l m:List Account}:FC Tryz.prog 104 [.c (.row 0 0 l.length),.c (.row 1 0 m.length)] ([ro 42 l,ro 42 m]) (B (dB (l = m))) ([ro 42 l,ro 42 m]):=by
 refine ax tk 26 [.tmp 4] Tryz.func104 (by kernel_rfl) rfl rfl rfl rfl rfl rfl rfl ?_
 refine bX l 0 rfl (fun hl => ?_)
 repeat' (first
| apply yds;rfl
| apply yd;rfl
| intro _
| refine nv ?_
| apply wct rfl
| apply wcf rfl
| apply yne;rfl
| fail)
 ·rename_i hne
  exact b5 [0,1] rfl rfl rfl rfl rfl rfl (fun e => hne (by rw [e]))
 ·rename_i hlen
  refine pQ (X:=Int) (fun i => 0 ≤ i ∧ i ≤ l.length ∧ ∀ j:Int,0 ≤ j → j < i → rd l j = rd m j) (fun i => ⟨26,2,[(0,.c (.row 0 0 l.length)),(1,.c (.row 1 0 m.length)),(12,I l.length),(13,I i)],[ro 42 l,ro 42 m]⟩) (fun i => (l.length - i).toNat) 0 [0,1] ⟨by omega,by omega,fun j h0 h1 => by omega⟩ ⟨rfl,rfl,rfl,rfl,rfl,rfl,rfl,rfl⟩ (fun i hi => ?_)
  obtain ⟨h0,hi,hall⟩:=hi
  repeat' (first
| apply yds;rfl
| apply yd;rfl
| apply zsn;exact sb;rfl;rfl;rfl;rfl;rfl
| intro _
| refine nv ?_
| apply wct rfl
| apply wcf rfl
| apply ah rfl
| apply ai;rfl
| apply yar;rfl;omega
| apply yix;rfl;omega
| apply yle;rfl;omega
| refine zdq (id:=6) rfl (by kernel_rfl) [(.p,0),(.p,1),(.p,2),(.p,4),(.p,5),(.p,6),(.t,3),(.t,7),(.p,8)] [] (by kernel_rfl) rfl ?_
| fail)
  all_goals first
   | exact bF [0,1] rfl rfl rfl rfl rfl rfl (lK (by omega) (fun j h1 h2 => hall j h1 (by omega)))
   | exact b5 [0,1] rfl rfl rfl rfl rfl rfl (fun e => by subst e;simp_all)
   | exact ⟨i + 1,[0,1],⟨by omega,by omega,aD hall (by assumption)⟩,by dsimp only;omega,rfl,rfl,rfl,rfl,rfl,rfl,rfl,rfl⟩
theorem lZ {l m:List Instr}:FC Tryz.prog 105 [.c (.row 0 0 l.length),.c (.row 1 0 m.length)] ([ro 74 l,ro 74 m]) (B (dB (l = m))) ([ro 74 l,ro 74 m]):=by
 refine ax tk 26 [.tmp 4] Tryz.func105 (by kernel_rfl) rfl rfl rfl rfl rfl rfl rfl ?_
 refine bX l 0 rfl (fun hl => ?_)
 repeat' (first
| apply yds;rfl
| apply yd;rfl
| intro _
| refine nv ?_
| apply wct rfl
| apply wcf rfl
| apply yne;rfl
| fail)
 ·rename_i hne
  exact b5 [0,1] rfl rfl rfl rfl rfl rfl (fun e => hne (by rw [e]))
 ·rename_i hlen
  refine pQ (X:=Int) (fun i => 0 ≤ i ∧ i ≤ l.length ∧ ∀ j:Int,0 ≤ j → j < i → rd l j = rd m j) (fun i => ⟨26,2,[(0,.c (.row 0 0 l.length)),(1,.c (.row 1 0 m.length)),(12,I l.length),(13,I i)],[ro 74 l,ro 74 m]⟩) (fun i => (l.length - i).toNat) 0 [0,1] ⟨by omega,by omega,fun j h0 h1 => by omega⟩ ⟨rfl,rfl,rfl,rfl,rfl,rfl,rfl,rfl⟩ (fun i hi => ?_)
  obtain ⟨h0,hi,hall⟩:=hi
  repeat' (first
| apply yds;rfl
| apply yd;rfl
| apply zsn;exact wk;rfl;rfl;rfl;rfl;rfl
| intro _
| refine nv ?_
| apply wct rfl
| apply wcf rfl
| apply ah rfl
| apply ai;rfl
| apply yar;rfl;omega
| apply yix;rfl;omega
| apply yle;rfl;omega
| refine zdq (id:=6) rfl (by kernel_rfl) [(.p,0),(.p,1),(.p,2),(.p,4),(.p,5),(.p,6),(.t,3),(.t,7),(.p,8)] [] (by kernel_rfl) rfl ?_
| fail)
  all_goals first
   | exact bF [0,1] rfl rfl rfl rfl rfl rfl (lK (by omega) (fun j h1 h2 => hall j h1 (by omega)))
   | exact b5 [0,1] rfl rfl rfl rfl rfl rfl (fun e => by subst e;simp_all)
   | exact ⟨i + 1,[0,1],⟨by omega,by omega,aD hall (by assumption)⟩,by dsimp only;omega,rfl,rfl,rfl,rfl,rfl,rfl,rfl,rfl⟩
theorem ny {l m:List Bal}:FC Tryz.prog 106 [.c (.row 0 0 l.length),.c (.row 1 0 m.length)] ([ro 135 l,ro 135 m]) (B (dB (l = m))) ([ro 135 l,ro 135 m]):=by
 refine ax tk 26 [.tmp 4] Tryz.func106 (by kernel_rfl) rfl rfl rfl rfl rfl rfl rfl ?_
 refine bX l 0 rfl (fun hl => ?_)
 repeat' (first
| apply yds;rfl
| apply yd;rfl
| intro _
| refine nv ?_
| apply wct rfl
| apply wcf rfl
| apply yne;rfl
| fail)
 ·rename_i hne
  exact b5 [0,1] rfl rfl rfl rfl rfl rfl (fun e => hne (by rw [e]))
 ·rename_i hlen
  refine pQ (X:=Int) (fun i => 0 ≤ i ∧ i ≤ l.length ∧ ∀ j:Int,0 ≤ j → j < i → rd l j = rd m j) (fun i => ⟨26,2,[(0,.c (.row 0 0 l.length)),(1,.c (.row 1 0 m.length)),(12,I l.length),(13,I i)],[ro 135 l,ro 135 m]⟩) (fun i => (l.length - i).toNat) 0 [0,1] ⟨by omega,by omega,fun j h0 h1 => by omega⟩ ⟨rfl,rfl,rfl,rfl,rfl,rfl,rfl,rfl⟩ (fun i hi => ?_)
  obtain ⟨h0,hi,hall⟩:=hi
  repeat' (first
| apply yds;rfl
| apply yd;rfl
| apply zsn;exact v7;rfl;rfl;rfl;rfl;rfl
| intro _
| refine nv ?_
| apply wct rfl
| apply wcf rfl
| apply ah rfl
| apply ai;rfl
| apply yar;rfl;omega
| apply yix;rfl;omega
| apply yle;rfl;omega
| refine zdq (id:=6) rfl (by kernel_rfl) [(.p,0),(.p,1),(.p,2),(.p,4),(.p,5),(.p,6),(.t,3),(.t,7),(.p,8)] [] (by kernel_rfl) rfl ?_
| fail)
  all_goals first
   | exact bF [0,1] rfl rfl rfl rfl rfl rfl (lK (by omega) (fun j h1 h2 => hall j h1 (by omega)))
   | exact b5 [0,1] rfl rfl rfl rfl rfl rfl (fun e => by subst e;simp_all)
   | exact ⟨i + 1,[0,1],⟨by omega,by omega,aD hall (by assumption)⟩,by dsimp only;omega,rfl,rfl,rfl,rfl,rfl,rfl,rfl,rfl⟩
theorem nA {l m:List Lot}:FC Tryz.prog 107 [.c (.row 0 0 l.length),.c (.row 1 0 m.length)] ([ro 137 l,ro 137 m]) (B (dB (l = m))) ([ro 137 l,ro 137 m]):=by
 refine ax tk 26 [.tmp 4] Tryz.func107 (by kernel_rfl) rfl rfl rfl rfl rfl rfl rfl ?_
 refine bX l 0 rfl (fun hl => ?_)
 repeat' (first
| apply yds;rfl
| apply yd;rfl
| intro _
| refine nv ?_
| apply wct rfl
| apply wcf rfl
| apply yne;rfl
| fail)
 ·rename_i hne
  exact b5 [0,1] rfl rfl rfl rfl rfl rfl (fun e => hne (by rw [e]))
 ·rename_i hlen
  refine pQ (X:=Int) (fun i => 0 ≤ i ∧ i ≤ l.length ∧ ∀ j:Int,0 ≤ j → j < i → rd l j = rd m j) (fun i => ⟨26,2,[(0,.c (.row 0 0 l.length)),(1,.c (.row 1 0 m.length)),(12,I l.length),(13,I i)],[ro 137 l,ro 137 m]⟩) (fun i => (l.length - i).toNat) 0 [0,1] ⟨by omega,by omega,fun j h0 h1 => by omega⟩ ⟨rfl,rfl,rfl,rfl,rfl,rfl,rfl,rfl⟩ (fun i hi => ?_)
  obtain ⟨h0,hi,hall⟩:=hi
  repeat' (first
| apply yds;rfl
| apply yd;rfl
| apply zsn;exact v8;rfl;rfl;rfl;rfl;rfl
| intro _
| refine nv ?_
| apply wct rfl
| apply wcf rfl
| apply ah rfl
| apply ai;rfl
| apply yar;rfl;omega
| apply yix;rfl;omega
| apply yle;rfl;omega
| refine zdq (id:=6) rfl (by kernel_rfl) [(.p,0),(.p,1),(.p,2),(.p,4),(.p,5),(.p,6),(.t,3),(.t,7),(.p,8)] [] (by kernel_rfl) rfl ?_
| fail)
  all_goals first
   | exact bF [0,1] rfl rfl rfl rfl rfl rfl (lK (by omega) (fun j h1 h2 => hall j h1 (by omega)))
   | exact b5 [0,1] rfl rfl rfl rfl rfl rfl (fun e => by subst e;simp_all)
   | exact ⟨i + 1,[0,1],⟨by omega,by omega,aD hall (by assumption)⟩,by dsimp only;omega,rfl,rfl,rfl,rfl,rfl,rfl,rfl,rfl⟩
theorem m0 {l m:List Trade}:FC Tryz.prog 108 [.c (.row 0 0 l.length),.c (.row 1 0 m.length)] ([ro 103 l,ro 103 m]) (B (dB (l = m))) ([ro 103 l,ro 103 m]):=by
 refine ax tk 26 [.tmp 4] Tryz.func108 (by kernel_rfl) rfl rfl rfl rfl rfl rfl rfl ?_
 refine bX l 0 rfl (fun hl => ?_)
 repeat' (first
| apply yds;rfl
| apply yd;rfl
| intro _
| refine nv ?_
| apply wct rfl
| apply wcf rfl
| apply yne;rfl
| fail)
 ·rename_i hne
  exact b5 [0,1] rfl rfl rfl rfl rfl rfl (fun e => hne (by rw [e]))
 ·rename_i hlen
  refine pQ (X:=Int) (fun i => 0 ≤ i ∧ i ≤ l.length ∧ ∀ j:Int,0 ≤ j → j < i → rd l j = rd m j) (fun i => ⟨26,2,[(0,.c (.row 0 0 l.length)),(1,.c (.row 1 0 m.length)),(12,I l.length),(13,I i)],[ro 103 l,ro 103 m]⟩) (fun i => (l.length - i).toNat) 0 [0,1] ⟨by omega,by omega,fun j h0 h1 => by omega⟩ ⟨rfl,rfl,rfl,rfl,rfl,rfl,rfl,rfl⟩ (fun i hi => ?_)
  obtain ⟨h0,hi,hall⟩:=hi
  repeat' (first
| apply yds;rfl
| apply yd;rfl
| apply zsn;exact wm;rfl;rfl;rfl;rfl;rfl
| intro _
| refine nv ?_
| apply wct rfl
| apply wcf rfl
| apply ah rfl
| apply ai;rfl
| apply yar;rfl;omega
| apply yix;rfl;omega
| apply yle;rfl;omega
| refine zdq (id:=6) rfl (by kernel_rfl) [(.p,0),(.p,1),(.p,2),(.p,4),(.p,5),(.p,6),(.t,3),(.t,7),(.p,8)] [] (by kernel_rfl) rfl ?_
| fail)
  all_goals first
   | exact bF [0,1] rfl rfl rfl rfl rfl rfl (lK (by omega) (fun j h1 h2 => hall j h1 (by omega)))
   | exact b5 [0,1] rfl rfl rfl rfl rfl rfl (fun e => by subst e;simp_all)
   | exact ⟨i + 1,[0,1],⟨by omega,by omega,aD hall (by assumption)⟩,by dsimp only;omega,rfl,rfl,rfl,rfl,rfl,rfl,rfl,rfl⟩
end
section
open Go.RowKit
theorem ku {cb:List By}:FC Tryz.prog 17 [.c (.row 0 0 cb.length)] ([ro 5 cb]) (B (dB ((cb.length:Int) > 1048576))) ([ro 5 cb]):=by
 refine ax tk 6 [.tmp 2] Tryz.func17 (by kernel_rfl) rfl rfl rfl rfl rfl rfl rfl ?_
 repeat' (first
| apply yds;rfl
| apply yd;rfl
| intro _
| refine nv ?_
| apply ai;rfl
| fail)
 all_goals first | exact bF [0] rfl rfl rfl rfl rfl rfl (by assumption) | exact b5 [0] rfl rfl rfl rfl rfl rfl (by assumption)
theorem ta {l:List Int} {x:Int}:FC Tryz.prog 61 [.c (.row 0 0 l.length),I x] ([ro 3 l]) (B (dB (x ∈ l))) ([ro 3 l]):=by
 refine ax tk 18 [.tmp 4] Tryz.func61 (by kernel_rfl) rfl rfl rfl rfl rfl rfl rfl ?_
 refine bX l 0 rfl (fun hl => ?_)
 repeat' (first
| apply yd;rfl
| refine nv ?_
| fail)
 refine wlp (X:=Int) [0,1] [0] (fun i => [(5,I i)]) (fun _ => []) (fun i => 0 ≤ i ∧ i ≤ l.length ∧ ∀ j:Int,0 ≤ j → j < i → ¬ rd l j = x) (fun i => (l.length - i).toNat) 0 ⟨by omega,by omega,fun j h0 h1 => by omega⟩ rfl rfl (fun _ => rfl) (fun _ => rfl) ⟨rfl,rfl,rfl,rfl,rfl,rfl,rfl,rfl⟩ (fun i hi => ?_)
 obtain ⟨h0,h1,hall⟩:=hi
 repeat' (first
| apply yds;rfl
| apply yd;rfl
| intro _
| refine nv ?_
| apply wct rfl
| apply wcf rfl
| apply ah rfl
| apply ai;rfl
| apply yar;rfl;omega
| apply yix;rfl;omega
| apply yle;rfl;omega
| fail)
 all_goals first
  | exact bF [0] rfl rfl rfl rfl rfl rfl (by rw [← (show rd l i = x by assumption)];exact aA ⟨h0,by assumption⟩)
  | exact aB (i + 1) [0] ⟨rfl,rfl,rfl,rfl,rfl,rfl,rfl,rfl⟩ ⟨by omega,by omega,aD hall (by assumption)⟩ (by first | omega | (dsimp only;omega))
  | exact b5 [0] rfl rfl rfl rfl rfl rfl (fun hm => by obtain ⟨j,hj,e⟩:=bw hm;exact hall j hj.1 (by omega) e)
  | trace_state
theorem ll {l m:List Lot}:FC Tryz.prog 57 [.c (.row 0 0 l.length),.c (.row 1 0 m.length)] ([ro 137 l,ro 137 m]) (B (dB (l = m))) ([ro 137 l,ro 137 m]):=by
 refine ax tk 26 [.tmp 4] Tryz.func57 (by kernel_rfl) rfl rfl rfl rfl rfl rfl rfl ?_
 refine bX l 0 rfl (fun hl => ?_)
 repeat' (first
| apply yds;rfl
| apply yd;rfl
| intro _
| refine nv ?_
| apply wct rfl
| apply wcf rfl
| apply yne;rfl
| fail)
 all_goals first | exact b5 [0,1] rfl rfl rfl rfl rfl rfl (fun e => by subst e;contradiction) | skip
 refine wlp (X:=Int) [0,1] [0,1] (fun i => [(5,I i)]) (fun _ => []) (fun i => 0 ≤ i ∧ i ≤ l.length ∧ ∀ j:Int,0 ≤ j → j < i → rd l j = rd m j) (fun i => (l.length - i).toNat) 0 ⟨by omega,by omega,fun j h0 h1 => by omega⟩ rfl rfl (fun _ => rfl) (fun _ => rfl) ⟨rfl,rfl,rfl,rfl,rfl,rfl,rfl,rfl⟩ (fun i hi => ?_)
 obtain ⟨h0,h1,hall⟩:=hi
 repeat' (first
| apply yds;rfl
| apply yd;rfl
| apply zsn;exact v8;rfl;rfl;rfl;rfl;rfl
| intro _
| refine nv ?_
| apply wct rfl
| apply wcf rfl
| apply ah rfl
| apply ai;rfl
| apply yar;rfl;omega
| apply yix;rfl;omega
| apply yle;rfl;omega
| refine zdq (id:=6) rfl (by kernel_rfl) [(.p,0),(.p,1),(.p,2),(.p,4),(.p,5),(.p,6),(.t,3),(.t,7),(.p,8)] [] (by kernel_rfl) rfl ?_
| fail)
 all_goals first
  | exact b5 [0,1] rfl rfl rfl rfl rfl rfl (fun e => by subst e;contradiction)
  | exact aB (i + 1) [0,1] ⟨rfl,rfl,rfl,rfl,rfl,rfl,rfl,rfl⟩ ⟨by omega,by omega,aD hall (by assumption)⟩ (by first | omega | (dsimp only;omega))
  | exact bF [0,1] rfl rfl rfl rfl rfl rfl (lK (by omega) (fun j h2 h3 => hall j h2 (by omega)))
  | trace_state
theorem qf {l m:List Bal}:FC Tryz.prog 27 [.c (.row 0 0 l.length),.c (.row 1 0 m.length)] ([ro 135 l,ro 135 m]) (B (dB (l = m))) ([ro 135 l,ro 135 m]):=by
 refine ax tk 26 [.tmp 4] Tryz.func27 (by kernel_rfl) rfl rfl rfl rfl rfl rfl rfl ?_
 refine bX l 0 rfl (fun hl => ?_)
 repeat' (first
| apply yds;rfl
| apply yd;rfl
| intro _
| refine nv ?_
| apply wct rfl
| apply wcf rfl
| apply yne;rfl
| fail)
 all_goals first | exact b5 [0,1] rfl rfl rfl rfl rfl rfl (fun e => by subst e;contradiction) | skip
 refine wlp (X:=Int) [0,1] [0,1] (fun i => [(5,I i)]) (fun _ => []) (fun i => 0 ≤ i ∧ i ≤ l.length ∧ ∀ j:Int,0 ≤ j → j < i → rd l j = rd m j) (fun i => (l.length - i).toNat) 0 ⟨by omega,by omega,fun j h0 h1 => by omega⟩ rfl rfl (fun _ => rfl) (fun _ => rfl) ⟨rfl,rfl,rfl,rfl,rfl,rfl,rfl,rfl⟩ (fun i hi => ?_)
 obtain ⟨h0,h1,hall⟩:=hi
 repeat' (first
| apply yds;rfl
| apply yd;rfl
| apply zsn;exact v7;rfl;rfl;rfl;rfl;rfl
| intro _
| refine nv ?_
| apply wct rfl
| apply wcf rfl
| apply ah rfl
| apply ai;rfl
| apply yar;rfl;omega
| apply yix;rfl;omega
| apply yle;rfl;omega
| refine zdq (id:=6) rfl (by kernel_rfl) [(.p,0),(.p,1),(.p,2),(.p,4),(.p,5),(.p,6),(.t,3),(.t,7),(.p,8)] [] (by kernel_rfl) rfl ?_
| fail)
 all_goals first
  | exact b5 [0,1] rfl rfl rfl rfl rfl rfl (fun e => by subst e;contradiction)
  | exact aB (i + 1) [0,1] ⟨rfl,rfl,rfl,rfl,rfl,rfl,rfl,rfl⟩ ⟨by omega,by omega,aD hall (by assumption)⟩ (by first | omega | (dsimp only;omega))
  | exact bF [0,1] rfl rfl rfl rfl rfl rfl (lK (by omega) (fun j h2 h3 => hall j h2 (by omega)))
  | trace_state
theorem dV {l:List Bal} {a c:Int} (hb:BalsOk l):FC Tryz.prog 34 [.c (.row 0 0 l.length),I a,I c] ([ro 135 l]) (I (aL l a c)) ([ro 135 l]):=by
 refine ax tk 14 [.tmp 6] Tryz.func34 (by kernel_rfl) rfl rfl rfl rfl rfl rfl rfl ?_
 have hs:=hb.sd
 repeat' (first
| intro h9;exfalso;contradiction
| apply yds;rfl
| apply yd;rfl
| intro _
| refine nv ?_
| apply wcf rfl
| apply ycp;rfl;exact fT;rfl
| apply yc;rfl;exact jm (by assumption);rfl;exact fun _ => rfl
| fail)
 all_goals exact ak [0] rfl rfl rfl rfl rfl rfl
theorem dZ {l:List Bal} {a c:Int} (hb:BalsOk l):FC Tryz.prog 53 [.c (.row 0 0 l.length),I a,I c] ([ro 135 l]) (I (aL l a c)) ([ro 135 l]):=by
 refine ax tk 14 [.tmp 6] Tryz.func53 (by kernel_rfl) rfl rfl rfl rfl rfl rfl rfl ?_
 have hs:=hb.sd
 repeat' (first
| intro h9;exfalso;contradiction
| apply yds;rfl
| apply yd;rfl
| intro _
| refine nv ?_
| apply wcf rfl
| apply ycp;rfl;exact da;rfl
| apply yc;rfl;exact fK;rfl;exact fun _ => rfl
| fail)
 all_goals exact ak [0] rfl rfl rfl rfl rfl rfl
end
section
open Go.RowKit
theorem dv {ca:List Account} {ci:List Instr} {cb:List Bal} {cl:List Lot} {ct:List Trade} {cn:Int} {ba:List Account} {bi:List Instr} {bb:List Bal} {bl:List Lot} {bt:List Trade} {bn:Int}:FC Tryz.prog 21 [bkV 0 ⟨ba,bi,bb,bl,bt,bn⟩,bkV 5 ⟨ca,ci,cb,cl,ct,cn⟩] (bkR ⟨ba,bi,bb,bl,bt,bn⟩ ++ bkR ⟨ca,ci,cb,cl,ct,cn⟩) (B (dB ((⟨ba,bi,bb,bl,bt,bn⟩:Books) = ⟨ca,ci,cb,cl,ct,cn⟩))) (bkR ⟨ba,bi,bb,bl,bt,bn⟩ ++ bkR ⟨ca,ci,cb,cl,ct,cn⟩):=by
 refine ax tk 45 [.tmp 4] Tryz.func21 (by kernel_rfl) rfl rfl rfl rfl rfl rfl rfl ?_
 repeat' (first
| apply yds;rfl
| intro _
| refine nv ?_
| apply yeq;rfl
| apply ycp;rfl;(first | exact kB | exact lZ | exact ny | exact nA | exact m0);rfl
| fail)
 all_goals first | exact bF [0,1,2,3,4,5,6,7,8,9] rfl rfl rfl rfl rfl rfl (by simp_all) | exact b5 [0,1,2,3,4,5,6,7,8,9] rfl rfl rfl rfl rfl rfl (by simp_all)
end
end Go.Proofs.YtgehbhkfehmdkaaGreat.Sh
