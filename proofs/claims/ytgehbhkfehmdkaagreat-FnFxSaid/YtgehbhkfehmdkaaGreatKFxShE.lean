/- Symbolic memory: operations on memory. No condition. -/
import Derived.Test.YtgehbhkfehmdkaaGreatKFxShD
import Derived.Laws.CopyRow
set_option linter.unusedVariables false
namespace Go.Proofs.YtgehbhkfehmdkaaGreat.Sh
section
open Go.RowKit Go.Proofs.YtgehbhkfehmdkaaGreatW
theorem Holds.one {Γ:Ctx} {ρ ρ':Pl} {h h':AH} {w w':World} (hH:Holds Γ ρ h w) (h1:w'.os = w.os) (h2:w'.tape = w.tape) (h3:w'.output = w.output) (h4:w.heap.size ≤ w'.heap.size) (D:Option Nat)
  (hblk:∀ k,k < w.heap.size → D ≠ some k → w'.heap[k]? = w.heap[k]?) (he:Ext ρ ρ') (o0:Nat) (ob0:AO) (sl0:Slot) (h0:ρ'[o0]? = some sl0) (hob0:ObjH ρ' sl0 ob0 w')
  (hD:∀ g,D = some g → ∃ (o:Nat) (ob:AO) (sl:Slot),h[o]? = some (some ob) ∧ ob.own = true ∧ ρ[o]? = some sl ∧ sl.blk = some g ∧ ∀ ob',h'[o]? = some (some ob') → o = o0)
  (hold:∀ (o:Nat) ob,h'[o]? = some (some ob) → o ≠ o0 → h[o]? = some (some ob)) (hnew:h'[o0]? = some (some ob0))
  (hg0:∀ g,sl0.blk = some g → D = some g ∨ w.heap.size ≤ g) (hnd:ob0.el.isD = false:=by rfl):Holds Γ ρ' h' w':=by
 have hsl:∀ (o:Nat) ob,h'[o]? = some (some ob) → o ≠ o0 → ∃ sl,ρ[o]? = some sl ∧ ρ'[o]? = some sl ∧ ObjH ρ sl ob w ∧ ∀ g,sl.blk = some g → g < w.heap.size ∧ D ≠ some g:=by
  intro o ob ho hne
  have ho':=hold o ob ho hne
  obtain ⟨sl,k1,k2⟩:=hH.obj o ob ho'
  refine ⟨sl,k1,he o sl k1,k2,fun g hg => ⟨k2.blk_lt hg,fun hd => ?_⟩⟩
  obtain ⟨oD,obD,slD,q1,q2,q3,q4,q5⟩:=hD g hd
  by_cases e:oD = o
  ·subst e
   exact hne (q5 ob ho)
  ·exact (hH.sep oD obD slD g q1 q2 q3 q4).2 o ob sl ho' (fun e' => e e'.symm) k1 hg
 refine ⟨⟨h1.trans hH.fr.os,h2.trans hH.fr.tape,h3.trans hH.fr.output,Nat.le_trans hH.fr.size h4,fun k hk hn => ?_⟩,fun o ob ho => ?_,fun o ob sl g ho hown hs hg => ?_,fun o ob sl g ho hs hg => ?_,?_⟩
 ·refine (hblk k (Nat.lt_of_lt_of_le hk hH.fr.size) (fun hd => ?_)).trans (hH.fr.block k hk hn)
  obtain ⟨oD,obD,slD,q1,q2,q3,q4,_⟩:=hD k hd
  rcases (hH.sep oD obD slD k q1 q2 q3 q4).1 with r | r
  ·exact hn r
  ·omega
 ·by_cases e:o = o0
  ·subst e
   rw [hnew] at ho
   have:ob0 = ob:=by simpa using ho
   subst this
   exact ⟨sl0,h0,hob0⟩
  ·obtain ⟨sl,k1,k2,k3,k4⟩:=hsl o ob ho e
   exact ⟨sl,k2,(k3.move h4 (fun k hk => hblk k (k4 k hk).1 (k4 k hk).2)).ext he⟩
 ·by_cases e:o = o0
  ·subst e
   have:sl0 = sl:=by rw [h0] at hs;exact Option.some.inj hs
   subst this
   have h5:=hg0 g hg
   refine ⟨?_,fun o' ob' sl' ho' hne hs' => ?_⟩
   ·rcases h5 with hd | hd
    ·obtain ⟨oD,obD,slD,q1,q2,q3,q4,_⟩:=hD g hd
     exact (hH.sep oD obD slD g q1 q2 q3 q4).1
    ·exact .inr (Nat.le_trans hH.fr.size hd)
   ·obtain ⟨sl2,k1,k2,k3,k4⟩:=hsl o' ob' ho' hne
    have:sl2 = sl':=by rw [k2] at hs';exact Option.some.inj hs'
    subst this
    intro hgg
    obtain ⟨k5,k6⟩:=k4 g hgg
    rcases h5 with hd | hd
    ·exact k6 hd
    ·omega
  ·obtain ⟨sl2,k1,k2,k3,k4⟩:=hsl o ob ho e
   have:sl2 = sl:=by rw [k2] at hs;exact Option.some.inj hs
   subst this
   obtain ⟨k5,k6⟩:=k4 g hg
   obtain ⟨k7,k8⟩:=hH.sep o ob sl2 g (hold o ob ho e) hown k1 hg
   refine ⟨k7,fun o' ob' sl' ho' hne hs' => ?_⟩
   by_cases e':o' = o0
   ·subst e'
    have:sl0 = sl':=by rw [h0] at hs';exact Option.some.inj hs'
    subst this
    intro hgg
    rcases hg0 g hgg with hd | hd
    ·exact k6 hd
    ·omega
   ·obtain ⟨sl3,j1,j2,j3,j4⟩:=hsl o' ob' ho' e'
    have:sl3 = sl':=by rw [j2] at hs';exact Option.some.inj hs'
    subst this
    exact k8 o' ob' sl3 (hold o' ob' ho' e') hne j1
 ·by_cases e:o = o0
  ·subst e
   have:sl0 = sl:=by rw [h0] at hs;exact Option.some.inj hs
   subst this
   rcases hg0 g hg with hd | hd
   ·obtain ⟨oD,obD,slD,q1,q2,q3,q4,_⟩:=hD g hd
    exact hH.src oD obD slD g q1 q3 q4
   ·exact .inr (.inl (Nat.le_trans hH.fr.size hd))
  ·obtain ⟨sl2,k1,k2,k3,k4⟩:=hsl o ob ho e
   have:sl2 = sl:=by rw [k2] at hs;exact Option.some.inj hs
   subst this
   exact hH.src o ob sl2 g (hold o ob ho e) k1 hg
 ·obtain ⟨fz,hF⟩:=hH.dp
  have hnD:∀ g,fz g → D ≠ some g:=fun g hg hd => by
   obtain ⟨oD,obD,slD,q1,q2,q3,q4,_⟩:=hD g hd
   exact hF.sep oD obD slD g q1 q2 q3 q4 hg
  refine ⟨fz,hF.base,fun g hg => Nat.lt_of_lt_of_le (hF.lt g hg) h4,hF.src,fun o ob sl g ho hown hs hg hfz => ?_,fun o own ty sz xs ho => ?_⟩
  ·by_cases e:o = o0
   ·subst e
    have:sl0 = sl:=by rw [h0] at hs;exact Option.some.inj hs
    subst this
    rcases hg0 g hg with hd | hd
    ·exact hnD g hfz hd
    ·have:=hF.lt g hfz
     omega
   ·obtain ⟨sl2,k1,k2,k3,k4⟩:=hsl o ob ho e
    have:sl2 = sl:=by rw [k2] at hs;exact Option.some.inj hs
    subst this
    exact hF.sep o ob sl2 g (hold o ob ho e) hown k1 hg hfz
  ·by_cases e:o = o0
   ·subst e
    rw [hnew] at ho
    have:ob0 = ⟨own,ty,sz,.dp xs⟩:=by simpa using ho
    rw [this] at hnd
    cases hnd
   ·exact (hF.deep o own ty sz xs (hold o _ ho e)).move h4 (fun _ q => q) (fun g hg => hblk g (hF.lt g hg) (hnD g hg))
theorem Holds.drew {Γ:Ctx} {ρ:Pl} {h:AH} {w:World} (hh:Holds Γ ρ h w):Holds Γ ρ h w.drew:=hh.heap rfl rfl rfl rfl
theorem bc {α:Type} (l:List α) (x:α):(l ++ [x])[l.length]? = some x:=by simp
theorem Holds.alloc {Γ:Ctx} {ρ:Pl} {h:AH} {w:World} (hH:Holds Γ ρ h w) (hl:ρ.length = h.length) (cs:Array Value) (t:TypeId) (sl:Slot) (ob:AO) (hb:sl.blk = some w.heap.size)
  (ho:ObjH (ρ ++ [sl]) sl ob (w.alloc (.cells cs t))) (hnd:ob.el.isD = false:=by rfl):Holds Γ (ρ ++ [sl]) (h ++ [some ob]) (w.alloc (.cells cs t)):=by
 refine hH.one rfl rfl rfl (by simp) none (fun k hk _ => Below.heap_alloc _ _ _ hk) (Ext.append _ _) h.length ob sl (by rw [← hl];exact bc _ _) ho (fun g hg => by cases hg) (fun o ob' ho' hne => ?_) (bc _ _) (fun g hg => .inr ?_) hnd
 ·rw [List.getElem?_append] at ho'
  split at ho'
  ·exact ho'
  ·have h1:=(List.getElem?_eq_some_iff.1 ho').1
   simp at h1
   omega
 ·rw [hb] at hg
  exact Nat.le_of_eq (Option.some.inj hg)
section
variable {P:Program} {T:TB}
theorem ou {Γ:Ctx} {ρ:Pl} {h:AH} {w:World} (hH:Holds Γ ρ h w) {o i:Nat} {ob:AO} (ho:h[o]? = some (some ob)) {cs:List AC} (hi:ob.el.get i = some cs) :
  ∃ sl a vs,ρ[o]? = some sl ∧ sl.sz = ob.sz ∧ cs.length = ob.sz ∧ sl.a = some a ∧ a.block < w.heap.size ∧ All2 (AC.R ρ) cs vs ∧ ∀ j v,vs[j]? = some v → w.cell? (a.add (i * ob.sz + j)) = some v:=by
 obtain ⟨sl,h1,h2⟩:=hH.obj o ob ho
 obtain ⟨h3,a,h4,h5⟩:=h2.cell i cs hi
 have h6:∃ vs:List Value,All2 (AC.R ρ) cs vs ∧ ∀ j v,vs[j]? = some v → w.cell? (a.add (i * ob.sz + j)) = some v:=by
  clear hi h3
  suffices hs:∀ (n:Nat) (cs:List AC),(∀ j x,cs[j]? = some x → ∃ v,w.cell? (a.add (n + j)) = some v ∧ x.R ρ v) → ∃ vs:List Value,All2 (AC.R ρ) cs vs ∧ ∀ j v,vs[j]? = some v → w.cell? (a.add (n + j)) = some v from hs _ cs h5
  intro n cs
  induction cs generalizing n with
  | nil => intro _;exact ⟨[],trivial,fun j v hv => by simp at hv⟩
  | cons x cs ih =>
    intro hx
    obtain ⟨v,k1,k2⟩:=hx 0 x rfl
    obtain ⟨vs,k3,k4⟩:=ih (n + 1) (fun j y hy => by
     have:=hx (j + 1) y (by simpa using hy)
     rwa [show n + (j + 1) = n + 1 + j from by omega] at this)
    refine ⟨v :: vs,⟨k2,k3⟩,fun j u hu => ?_⟩
    cases j with
    | zero =>
      have:v = u:=by simpa using hu
      subst this
      exact k1
    | succ j =>
      rw [show n + (j + 1) = n + 1 + j from by omega]
      exact k4 j u (by simpa using hu)
 obtain ⟨vs,k1,k2⟩:=h6
 exact ⟨sl,a,vs,h1,h2.sz,h3,h4,h2.lt a h4,k1,k2⟩
def ldA (ti:TI) (cs:List AC) (q:Nat):Option AV:=match ti.agg with
 | true => match Nat.ble (q + ti.size) cs.length with
   | true => some (.agg ((cs.drop q).take ti.size))
   | false => none
 | false => (cs[q]?).map .c
theorem la (hT:TOk P T) {st:St} {h1:AH} {dst:Option Tmp} {t:TypeId} {x:Operand} {ty:TypeId} {pos:String} {af:Array Edge} {g:Option (Nat × Bool)} {o i q:Nat} {ob:AO} {cs:List AC} {ti:TI} {v:AV} (hx:ev st.env x = some (.c (.ptr o i q))) (ht:tlk t T = some ti)
  (ho:h1[o]? = some (some ob)) (hi:ob.el.get i = some cs) (hv:ldA ti cs q = some v):OpR P ⟨dst,.load t x,ty,pos,af,g⟩ st h1 v:=fun Γ ρ1 ρ a w0 w1 he hr hH => by
 obtain ⟨sl,ad,vs,k1,k2,k3,k4,k5,k6,k7⟩:=ou hH ho hi
 obtain ⟨sl',ad',e1,e2,e3⟩:=kz (b7 hr.env hx)
 have:sl = sl':=by rw [he o sl k1] at e1;exact Option.some.inj e1
 subst this
 have:ad = ad':=by rw [k4] at e2;exact Option.some.inj e2
 subst this
 have hcell:∀ w,Same w1 w → ∀ j u,vs[j]? = some u → w.cell? (ad.add (i * ob.sz + j)) = some u:=fun w hw j u hu => by
  rw [fu (w:=w1) (by rw [add_block];exact hw.2 _ k5)]
  exact k7 j u hu
 unfold ldA at hv
 split at hv
 ·rename_i hag
  split at hv
  ·rename_i hle
   have hle:q + ti.size ≤ cs.length:=Nat.le_of_ble_eq_true hle
   cases hv
   refine ⟨.agg ((vs.drop q).take ti.size).toArray,⟨_,rfl,All2.imp (fun _ _ => AC.R_ext he) ((k6.drop q).take _)⟩,fun w hw => ?_⟩
   have hl:((vs.drop q).take ti.size).length = ti.size:=by
    have:=k6.length
    rw [List.length_take,List.length_drop]
    omega
   have h5:=run_loadCells_list (P:=P) w (ad.add (i * sl.sz + q)) ((vs.drop q).take ti.size) (fun j u hu => by
    have hj:j < ti.size:=by have:=(List.getElem?_eq_some_iff.1 hu).1;omega
    rw [List.getElem?_take_of_lt hj,List.getElem?_drop] at hu
    rw [eG,k2,Nat.add_assoc]
    exact hcell w hw _ _ hu)
   rw [hl] at h5
   unfold execOp
   simp [Instr.loadAt,e3,Instr.sureAddr,loadVar,dU hT ht,hag,cf hT ht,h5]
  ·cases hv
 ·rename_i hag
  obtain ⟨c,hc,rfl⟩:=Option.map_eq_some_iff.1 hv
  obtain ⟨u,hu,hr2⟩:=k6.get hc
  refine ⟨u,AC.R_ext he hr2,fun w hw => ?_⟩
  have h5:=hcell w hw q u hu
  rw [← k2] at h5
  unfold execOp
  simp [Instr.loadAt,e3,Instr.sureAddr,loadVar,dU hT ht,hag,h5]
def fN:AV → Option (List AC)
 | .c x => some [x]
 | .agg (c :: cs) => some (c :: cs)
 | _ => none
theorem oh {ρ:Pl} {v:AV} {v':Value} {cs:List AC} (h:fN v = some cs) (hv:v.R ρ v'):All2 (AC.R ρ) cs v'.cells.toList ∧ 0 < cs.length:=by
 unfold fN at h
 split at h
 ·rename_i x
  cases h
  have hx:AC.R ρ x v':=hv
  have:v'.cells = #[v']:=by
   have:=AC.R_one hx
   cases v' <;> first | rfl | (simp [Value.oneCell'] at this)
  rw [this]
  exact ⟨⟨hx,trivial⟩,by simp⟩
 ·cases h
  obtain ⟨a,rfl,h2⟩:=hv
  exact ⟨h2,by simp⟩
 ·cases h
theorem qR {ρ:Pl} {w:World} {cs:List AC} {vs:Array Value} (t:TypeId) (hcs:All2 (AC.R ρ) cs vs.toList) (hp:0 < cs.length) :
  ObjH (ρ ++ [⟨some ⟨w.heap.size,0,none⟩,1,cs.length,false⟩]) ⟨some ⟨w.heap.size,0,none⟩,1,cs.length,false⟩ ⟨true,t,cs.length,.mx cs⟩ (w.alloc (.cells vs t)):=by
 have hlen:cs.length = vs.size:=by rw [← Array.length_toList];exact hcs.length
 refine ⟨rfl,hp,Nat.le_refl _,by simp,fun a ha => ?_,fun h => by simp at h,fun i c hi => ?_,fun _ => ⟨rfl,.inr ⟨w.heap.size,vs,rfl,heap_alloc_new _ _,by simp;omega⟩⟩⟩
 ·cases ha
  simp
 ·cases i with
  | succ i => cases hi
  | zero =>
    cases hi
    refine ⟨rfl,_,rfl,fun j x hx => ?_⟩
    obtain ⟨v,h1,h2⟩:=hcs.get hx
    refine ⟨v,?_,AC.R_ext (Ext.append _ _) h2⟩
    rw [Nat.zero_mul,Nat.zero_add]
    have:((⟨w.heap.size,0,none⟩:Addr).add j) = ⟨w.heap.size,j,none⟩:=by
     unfold Addr.add
     split <;> simp_all
    rw [this,cell_of_row _ _ _ vs t (0,0) (heap_alloc_new _ _),← Array.getElem?_toList]
    exact h1
theorem iu (w:World) (o:Obj):Same w (w.alloc o):=⟨by simp,fun k hk => Below.heap_alloc _ _ _ hk⟩
theorem yZ (ρ:Pl) (a:Addr) (c sz:Nat) (b:Bool):AV.R (ρ ++ [⟨some a,c,sz,b⟩]) (.c (.ptr ρ.length 0 0)) (.pointer (some a)) :=
 ⟨_,a,bc _ _,rfl,by simp [Addr.add]⟩
theorem wm {st:St} {dst:Option Tmp} {t:TypeId} {x:Operand} {ty:TypeId} {pos:String} {af:Array Edge} {g:Option (Nat × Bool)} {v:AV} {cs:List AC} (hd:st.fits dst = true) (hx:ev st.env x = some v) (hv:fN v = some cs) :
  OpQ P ⟨dst,.box t x,ty,pos,af,g⟩ st (fun st' => st' = ({ st with h:=st.h ++ [some ⟨true,t,cs.length,.mx cs⟩] }:St).put dst (.c (.ptr st.h.length 0 0))):=fun Γ ρ a w hr K' Q' hk => by
 obtain ⟨h1,h2⟩:=oh hv (b7 hr.env hx)
 unfold Oper.wp
 have hrun:(execOp a.eval ⟨dst,.box t x,ty,pos,af,g⟩).run P w = .ok (.value (.pointer (some ⟨w.heap.size,0,none⟩))) (w.alloc (.cells (a.eval x).cells t)):=by
  unfold execOp
  simp [Instr.box,newVar,newRow]
 rw [hrun]
 have hH:=hr.holds.alloc hr.len (a.eval x).cells t _ _ rfl (qR (w:=w) t h1 h2)
 have hp:=yZ ρ ⟨w.heap.size,0,none⟩ 1 cs.length false
 rw [hr.len] at hp
 exact hk _ _ _ _ rfl (hr.put _ dst hd _ _ (Ext.append _ _) (by simp [hr.len]) hH hp) (Ext.append _ _) (iu w _)
theorem sM (hT:TOk P T) {st:St} {dst:Option Tmp} {t:TypeId} {ty:TypeId} {pos:String} {af:Array Edge} {g:Option (Nat × Bool)} {ti:TI} {z:Value} {zs:List Value} (hd:st.fits dst = true) (ht:tlk t T = some ti) (hz:ti.zero = z :: zs) :
  OpQ P ⟨dst,.alloc t,ty,pos,af,g⟩ st (fun st' => st' = ({ st with h:=st.h ++ [some ⟨true,t,(ti.zero.map AC.sc).length,.mx (ti.zero.map .sc)⟩] }:St).put dst (.c (.ptr st.h.length 0 0))):=fun Γ ρ a w hr K' Q' hk => by
 obtain ⟨iz,z',h1,_,_,h2,h3⟩:=(hT t ti ht).info
 unfold Oper.wp
 have hrun:(execOp a.eval ⟨dst,.alloc t,ty,pos,af,g⟩).run P w = .ok (.value (.pointer (some ⟨w.heap.size,0,none⟩))) (w.alloc (.cells z'.cells t)):=by
  unfold execOp
  simp [Instr.alloc,newVar,newRow,zeroValue,typeInfo,h1,h2]
 rw [hrun]
 have hcs:All2 (AC.R ρ) (ti.zero.map .sc) z'.cells.toList:=by
  rw [h3]
  exact kf (hT t ti ht).one
 have hH:=hr.holds.alloc hr.len z'.cells t _ _ rfl (qR (w:=w) t hcs (by simp [hz]))
 have hp:=yZ ρ ⟨w.heap.size,0,none⟩ 1 (ti.zero.map AC.sc).length false
 rw [hr.len] at hp
 exact hk _ _ _ _ rfl (hr.put _ dst hd _ _ (Ext.append _ _) (by simp [hr.len]) hH hp) (Ext.append _ _) (iu w _)
end
end
section
open Go.RowKit Go.Proofs.YtgehbhkfehmdkaaGreatW
theorem dk (g j:Nat):((⟨g,0,none⟩:Addr).add j) = ⟨g,j,none⟩:=by
 unfold Addr.add
 split <;> simp_all
theorem mq {Γ:Ctx} {ρ:Pl} {h:AH} {w:World} (hH:Holds Γ ρ h w) {o i:Nat} {ob:AO} (ho:h[o]? = some (some ob)) (hown:ob.own = true) {cs:List AC} (hi:ob.el.get i = some cs) :
  ∃ sl g cur,ρ[o]? = some sl ∧ sl.sz = ob.sz ∧ sl.a = some ⟨g,0,none⟩ ∧ w.heap[g]? = some (.cells cur ob.ty (0,0)) ∧ cur.size = sl.cap * ob.sz ∧ i < ob.el.len ∧ ob.el.len ≤ sl.cap ∧ cs.length = ob.sz ∧ sl.ro = false:=by
 obtain ⟨sl,h1,h2⟩:=hH.obj o ob ho
 obtain ⟨h3,a,h4,_⟩:=h2.cell i cs hi
 have hlen:i < ob.el.len:=by
  cases he:ob.el with
  | fl xs =>
    rw [he] at hi
    obtain ⟨c,hc,_⟩:=Option.map_eq_some_iff.1 hi
    exact (List.getElem?_eq_some_iff.1 hc).1
  | mx c =>
    rw [he] at hi
    cases i with
    | zero => exact Nat.one_pos
    | succ i => cases hi
  | dp _ =>
    rw [he] at hi
    cases hi
 obtain ⟨h5,h6⟩:=h2.own hown
 rcases h6 with ⟨h6,_⟩ | ⟨g,cur,h6,h7,h8⟩
 ·rw [h4] at h6
  cases h6
 ·exact ⟨sl,g,cur,h1,h2.sz,h6,h7,h8,hlen,h2.len,h3,h5⟩
def El.put (e:El) (i:Nat) (cs:List AC):Option El:=match e,i with
 | .mx _,0 => some (.mx cs)
 | .fl xs,i => match plain cs with
   | some vs => some (.fl (xs.set i vs))
   | none => none
 | _,_ => none
where plain:List AC → Option (List Value)
 | [] => some []
 | .sc v :: r => match plain r with
   | some vs => some (v :: vs)
   | none => none
 | _ :: _ => none
theorem gy:∀ {cs:List AC} {vs:List Value},El.put.plain cs = some vs → cs = vs.map .sc
 | [],vs,h => by
   cases h
   rfl
 | .sc v :: r,vs,h => by
   unfold El.put.plain at h
   split at h
   ·rename_i vs' h1
    cases h
    rw [gy h1]
    rfl
   ·cases h
 | .ptr _ _ _ :: _,_,h => by simp [El.put.plain] at h
 | .row _ _ _ :: _,_,h => by simp [El.put.plain] at h
 | .fn _ _ :: _,_,h => by simp [El.put.plain] at h
 | .cp _ _ :: _,_,h => by simp [El.put.plain] at h
 | .e0 :: _,_,h => by simp [El.put.plain] at h
theorem El.put_len {e e':El} {i:Nat} {cs:List AC} (h:e.put i cs = some e'):e'.len = e.len:=by
 unfold El.put at h
 split at h
 ·cases h
  rfl
 ·split at h
  ·cases h
   simp [El.len]
  ·cases h
 ·cases h
theorem El.put_nd {e e':El} {i:Nat} {cs:List AC} (h:e.put i cs = some e'):e'.isD = false:=by
 unfold El.put at h
 split at h
 ·cases h
  rfl
 ·split at h
  ·cases h
   rfl
  ·cases h
 ·cases h
theorem El.put_get {e e':El} {i:Nat} {cs:List AC} (h:e.put i cs = some e') (hi:i < e.len):e'.get i = some cs ∧ ∀ j,j ≠ i → e'.get j = e.get j:=by
 unfold El.put at h
 split at h
 ·cases h
  refine ⟨rfl,fun j hj => ?_⟩
  cases j with
  | zero => exact (hj rfl).elim
  | succ j => rfl
 ·rename_i _ xs
  split at h
  ·rename_i vs hp
   cases h
   have hi:i < xs.length:=hi
   refine ⟨?_,fun j hj => ?_⟩
   ·show ((xs.set i vs)[i]?).map _ = _
    rw [List.getElem?_set_self hi,gy hp]
    rfl
   ·show ((xs.set i vs)[j]?).map _ = (xs[j]?).map _
    rw [List.getElem?_set_ne (Ne.symm hj)]
  ·cases h
 ·cases h
theorem setRow_other' (w:World) (g:Nat) (cs:Array Value) (k:Nat) (h:k ≠ g):(w.setRow g cs).heap[k]? = w.heap[k]?:=by
 unfold World.setRow
 rw [Array.getElem?_modify]
 simp [Ne.symm h]
theorem cQ (w:World) (g:Nat) (cs:Array Value):(w.setRow g cs).heap.size = w.heap.size:=by
 unfold World.setRow
 simp
theorem rN {cur:List Value} {q:Nat} {vs:List Value} (h:q + vs.length ≤ cur.length) (j:Nat):(cur.take q ++ vs ++ cur.drop (q + vs.length))[j]? = if q ≤ j ∧ j < q + vs.length then vs[j - q]? else cur[j]?:=by
 by_cases h1:j < q
 ·rw [if_neg (by omega),List.append_assoc,List.getElem?_append_left (by rw [List.length_take];omega),List.getElem?_take_of_lt h1]
 ·by_cases h2:j < q + vs.length
  ·rw [if_pos ⟨by omega,h2⟩,List.append_assoc,List.getElem?_append_right (by rw [List.length_take];omega),List.length_take,Nat.min_eq_left (by omega),List.getElem?_append_left (by omega)]
  ·rw [if_neg (by omega),List.getElem?_append_right (by rw [List.length_append,List.length_take];omega),List.length_append,List.length_take,Nat.min_eq_left (by omega),List.getElem?_drop]
   congr 1
   omega
section
variable {P:Program} {T:TB}
theorem mn (hT:TOk P T) {st:St} {dst:Option Tmp} {t:TypeId} {x y:Operand} {ty:TypeId} {pos:String} {af:Array Edge} {g:Option (Nat × Bool)} {o i q:Nat} {ob:AO} {cs vcs:List AC} {ti:TI} {v:AV} {e':El} (hd:dst = none)
  (hx:ev st.env x = some (.c (.ptr o i q))) (hy:ev st.env y = some v) (ht:tlk t T = some ti) (hv:fN v = some vcs) (hsz:vcs.length = ti.size) (ho:st.h[o]? = some (some ob)) (hown:ob.own = true) (hi:ob.el.get i = some cs) (hq:q + ti.size ≤ cs.length)
  (he:ob.el.put i (cs.take q ++ vcs ++ cs.drop (q + vcs.length)) = some e') :
  OpW P ⟨dst,.store t x y,ty,pos,af,g⟩ st (fun st' => st' = { st with h:=st.h.set o (some ⟨ob.own,ob.ty,ob.sz,e'⟩) }):=fun Γ ρ a w hr K' Q' hk => by
 subst hd
 obtain ⟨sl,gb,cur,k1,k2,k3,k4,k5,k6,k7,k8,k9⟩:=mq hr.holds ho hown hi
 obtain ⟨sl',ad,e1,e2,e3⟩:=kz (b7 hr.env hx)
 have:sl = sl':=by rw [k1] at e1;exact Option.some.inj e1
 subst this
 have:ad = ⟨gb,0,none⟩:=by rw [k3] at e2;exact (Option.some.inj e2).symm
 subst this
 obtain ⟨hvc,hvp⟩:=oh hv (b7 hr.env hy)
 obtain ⟨vl,hvl0⟩:∃ vl,vl = (a.eval y).cells.toList:=⟨_,rfl⟩
 rw [← hvl0] at hvc
 have hvl:=hvc.length
 have hvs:(a.eval y).cells.size = vl.length:=by rw [hvl0,Array.length_toList]
 have hbound:i * ob.sz + ob.sz ≤ sl.cap * ob.sz:=by
  have:(i + 1) * ob.sz ≤ sl.cap * ob.sz:=Nat.mul_le_mul_right _ (by omega)
  rwa [Nat.add_mul,Nat.one_mul] at this
 have hone:∀ u ∈ vl,u.oneCell' = true:=fun u hu => by
  obtain ⟨j,hj⟩:=List.getElem?_of_mem hu
  have hjl:j < vcs.length:=by rw [hvl];exact (List.getElem?_eq_some_iff.1 hj).1
  obtain ⟨u',h1,h2⟩:=hvc.get (List.getElem?_eq_getElem hjl)
  rw [hj] at h1
  cases h1
  exact AC.R_one h2
 have hst:=run_storeCells_at P gb (i * ob.sz + q) ob.ty vl 0 cur w k4 (by rw [← hvl,k5];omega) hone
 simp only [Nat.add_zero] at hst
 unfold Oper.wp
 have hrun:(execOp a.eval ⟨none,.store t x y,ty,pos,af,g⟩).run P w = .ok .skip (w.setRow gb (cur.toList.take (i * ob.sz + q) ++ vl ++ cur.toList.drop (i * ob.sz + q + vl.length)).toArray):=by
  have hne:¬ ((a.eval y).cells.size ≠ ti.size):=by
   rw [hvs,← hvl,hsz]
   simp
  unfold execOp
  simp only [Instr.storeAt,e3,Instr.sureAddr,storeVar,Sem.run_bind,Sem.run_pure,Result.andThen_ok,cf hT ht,hne,k2,dk,Sem.run_ite]
  rw [← hvl0]
  simp [hst]
 rw [hrun]
 generalize hcur:(cur.toList.take (i * ob.sz + q) ++ vl ++ cur.toList.drop (i * ob.sz + q + vl.length)) = cur'
 have hcurl:cur.toList.length = cur.size:=Array.length_toList
 have hfit:i * ob.sz + q + vl.length ≤ cur.toList.length:=by
  rw [hcurl,k5,← hvl]
  omega
 have hcl:cur'.length = cur.size:=by
  rw [← hcur]
  simp only [List.length_append,List.length_take,List.length_drop,hcurl]
  omega
 have hget:∀ j,cur'[j]? = if i * ob.sz + q ≤ j ∧ j < i * ob.sz + q + vcs.length then vl[j - (i * ob.sz + q)]? else cur[j]?:=fun j => by
  rw [← hcur,rN hfit,hvl]
  simp only [Array.getElem?_toList]
 obtain ⟨sl2,m1,m2⟩:=hr.holds.obj o ob ho
 have:sl2 = sl:=by rw [m1] at k1;exact Option.some.inj k1
 subst this
 have hheap:(w.setRow gb cur'.toArray).heap[gb]? = some (.cells cur'.toArray ob.ty (0,0)):=setRow_heap w gb cur _ ob.ty _ k4
 obtain ⟨p1,p2⟩:=El.put_get he k6
 have hcell:∀ j,(w.setRow gb cur'.toArray).cell? ((⟨gb,0,none⟩:Addr).add j) = cur'[j]?:=fun j => by
  rw [dk,cell_of_row _ _ _ _ _ _ hheap]
  simp
 have hold:∀ j,w.cell? ((⟨gb,0,none⟩:Addr).add j) = cur[j]?:=fun j => by
  rw [dk,cell_of_row _ _ _ _ _ _ k4]
 have hcsl:(cs.take q ++ vcs ++ cs.drop (q + vcs.length)).length = ob.sz:=by
  simp only [List.length_append,List.length_take,List.length_drop]
  omega
 have hobj:ObjH ρ sl2 ⟨ob.own,ob.ty,ob.sz,e'⟩ (w.setRow gb cur'.toArray):=by
  refine ⟨m2.sz,m2.pos,by show e'.len ≤ _;rw [El.put_len he];exact m2.len,m2.max,fun a' ha' => by rw [cQ];exact m2.lt a' ha',m2.nil,fun i' cs' hi' => ?_,fun _ => ⟨k9,.inr ⟨gb,cur'.toArray,k3,hheap,by simp [hcl,k5]⟩⟩⟩
  have hi':e'.get i' = some cs':=hi'
  by_cases ei:i' = i
  ·subst ei
   rw [p1] at hi'
   cases hi'
   refine ⟨hcsl,_,k3,fun j z hz => ?_⟩
   show ∃ v,(w.setRow gb cur'.toArray).cell? ((⟨gb,0,none⟩:Addr).add (i' * ob.sz + j)) = some v ∧ z.R ρ v
   have hj:j < ob.sz:=by rw [← hcsl];exact (List.getElem?_eq_some_iff.1 hz).1
   rw [hcell,hget]
   by_cases hin:q ≤ j ∧ j < q + vcs.length
   ·rw [if_pos (by omega)]
    rw [List.append_assoc,List.getElem?_append_right (by rw [List.length_take];omega),List.length_take,Nat.min_eq_left (by omega),List.getElem?_append_left (by omega)] at hz
    obtain ⟨u,h1,h2⟩:=hvc.get hz
    exact ⟨u,by rw [show i' * ob.sz + j - (i' * ob.sz + q) = j - q from by omega];exact h1,h2⟩
   ·rw [if_neg (by omega)]
    have hz':cs[j]? = some z:=by
     by_cases hjq:j < q
     ·rw [List.append_assoc,List.getElem?_append_left (by rw [List.length_take];omega),List.getElem?_take_of_lt hjq] at hz
      exact hz
     ·rw [List.getElem?_append_right (by simp only [List.length_append,List.length_take];omega),List.length_append,List.length_take,Nat.min_eq_left (by omega),List.getElem?_drop] at hz
      rwa [show q + vcs.length + (j - (q + vcs.length)) = j from by omega] at hz
    obtain ⟨_,a2,ha2,hc2⟩:=m2.cell i' cs hi
    rw [k3] at ha2
    cases ha2
    obtain ⟨u,h1,h2⟩:=hc2 j z hz'
    rw [hold] at h1
    exact ⟨u,h1,h2⟩
  ·rw [p2 i' ei] at hi'
   obtain ⟨h1,a2,ha2,hc2⟩:=m2.cell i' cs' hi'
   rw [k3] at ha2
   cases ha2
   refine ⟨h1,_,k3,fun j z hz => ?_⟩
   obtain ⟨u,h2,h3⟩:=hc2 j z hz
   rw [hold] at h2
   refine ⟨u,?_,h3⟩
   show (w.setRow gb cur'.toArray).cell? ((⟨gb,0,none⟩:Addr).add (i' * ob.sz + j)) = some u
   rw [hcell,hget,if_neg ?_]
   ·exact h2
   ·have hj:j < ob.sz:=by have:=(List.getElem?_eq_some_iff.1 hz).1;have h1:cs'.length = ob.sz:=h1;omega
    rintro ⟨q1,q2⟩
    have q1:i * ob.sz + q ≤ i' * ob.sz + j:=q1
    have q2:i' * ob.sz + j < i * ob.sz + q + vcs.length:=q2
    rcases Nat.lt_or_ge i' i with hlt | hge
    ·have:(i' + 1) * ob.sz ≤ i * ob.sz:=Nat.mul_le_mul_right _ hlt
     rw [Nat.add_mul,Nat.one_mul] at this
     omega
    ·have:(i + 1) * ob.sz ≤ i' * ob.sz:=Nat.mul_le_mul_right _ (by omega)
     rw [Nat.add_mul,Nat.one_mul] at this
     omega
 have holt:o < st.h.length:=(List.getElem?_eq_some_iff.1 ho).1
 have hblk:sl2.blk = some gb:=by simp [Slot.blk,k3]
 have hH:Holds Γ ρ (st.h.set o (some ⟨ob.own,ob.ty,ob.sz,e'⟩)) (w.setRow gb cur'.toArray):=by
  refine hr.holds.one rfl rfl rfl (by rw [cQ];exact Nat.le_refl _) (some gb) (fun k _ hne => setRow_other' _ _ _ _ (fun e => hne (by rw [e]))) (Ext.refl _) o _ sl2 m1 hobj
   (fun g' hg' => ⟨o,ob,sl2,ho,hown,m1,by rw [hblk];exact hg',fun _ _ => rfl⟩) (fun o' ob' ho' hne => by rwa [List.getElem?_set_ne (Ne.symm hne)] at ho') (List.getElem?_set_self holt) (fun g' hg' => .inl (by rw [← hblk];exact hg')) (El.put_nd he)
 exact hk _ ρ _ _ rfl ⟨hH,by simp [hr.len],hr.klen,hr.args,hr.env,hr.defers,hr.size⟩
theorem mm (hT:TOk P T) {st:St} {dst:Option Tmp} {t e:TypeId} {x y:Operand} {ty:TypeId} {pos:String} {af:Array Edge} {g:Option (Nat × Bool)} {o s n:Nat} {ob:AO} {k:IntKind} {i:Int} {ti te:TI} (hx:ev st.env x = some (.c (.row o s n))) (hy:ev st.env y = some (.c (.sc (.int k i))))
  (ht:tlk t T = some ti) (hs:ti.d = .slice e) (hte:tlk e T = some te) (ho:st.h[o]? = some (some ob)) (hsz:te.size = ob.sz) (h0:0 ≤ i) (h1:i < n) :
  OpP P ⟨dst,.indexAddr t x y,ty,pos,af,g⟩ st (.c (.ptr o (s + i.toNat) 0)):=fun Γ ρ a w0 hr => by
 obtain ⟨sl,k1,k2⟩:=hr.holds.obj o ob ho
 obtain ⟨sl',e1,e2,e3⟩:RowR ρ o s n (a.eval x):=b7 hr.env hx
 have:sl = sl':=by rw [k1] at e1;exact Option.some.inj e1
 subst this
 have hi:=dr (b7 hr.env hy)
 have hu:P.underlying t = some (.slice e):=by have:=bE hT ht;rw [hs] at this;exact this
 rcases e3 with ⟨cc,e3,_⟩ | ⟨hn,_⟩
 ·have hne:∃ ad,sl.a = some ad:=by
   cases hb:ob.own with
   | true =>
     rcases (k2.own hb).2 with ⟨_,hc⟩ | ⟨gb,cur,hc,_⟩
     ·omega
     ·exact ⟨_,hc⟩
   | false =>
     cases ha:sl.a with
     | some ad => exact ⟨ad,rfl⟩
     | none =>
       have:=k2.nil ha
       omega
  obtain ⟨ad,had⟩:=hne
  refine ⟨.pointer (some ((ad.add (s * sl.sz)).add (i.toNat * te.size))),⟨sl,ad,k1,had,?_⟩,fun w => ?_⟩
  ·rw [eG,hsz,k2.sz,← Nat.add_mul,Nat.add_zero]
  ·unfold execOp
   simp [Instr.indexAt,hi,asIntOf,e3,had,cd hu,h0,h1,cf hT hte]
 ·omega
end
end
end Go.Proofs.YtgehbhkfehmdkaaGreat.Sh
