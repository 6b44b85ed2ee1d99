/- Symbolic memory: operations on memory. No condition. -/
import Derived.Test.YtgehbhkfehmdkaaGreatKUShC
import Derived.Laws.CopyRow
set_option linter.unusedVariables false
namespace Go.Proofs.YtgehbhkfehmdkaaGreat.Sh
section
open Go.RowKit Go.Proofs.YtgehbhkfehmdkaaGreatW
theorem Holds.one {Γ:Ctx} {ρ ρ':Pl} {h h':AH} {w w':World} (hH:Holds Γ ρ h w) (h1:w'.os = w.os) (h2:w'.tape = w.tape) (h3:w'.output = w.output) (h4:w.heap.size ≤ w'.heap.size) (D:Option Nat)
  (hblk:∀ k,k < w.heap.size → D ≠ some k → w'.heap[k]? = w.heap[k]?) (he:Ext ρ ρ') (o0:Nat) (ob0:AO) (sl0:Slot) (h0:ρ'[o0]? = some sl0) (hob0:ObjH ρ' sl0 ob0 w')
  (hD:∀ g,D = some g → ∃ (o:Nat) (ob:AO) (sl:Slot),h[o]? = some (some ob) ∧ ob.own = true ∧ ρ[o]? = some sl ∧ sl.blk = some g ∧ ∀ ob',h'[o]? = some (some ob') → o = o0)
  (hold:∀ (o:Nat) ob,h'[o]? = some (some ob) → o ≠ o0 → h[o]? = some (some ob)) (hnew:h'[o0]? = some (some ob0))
  (hg0:∀ g,sl0.blk = some g → D = some g ∨ w.heap.size ≤ g) (hnd:ob0.el.isD = false:=by rfl):Holds Γ ρ' h' w':=by
 have hsl:∀ (o:Nat) ob,h'[o]? = some (some ob) → o ≠ o0 → ∃ sl,ρ[o]? = some sl ∧ ρ'[o]? = some sl ∧ ObjH ρ sl ob w ∧ ∀ g,sl.blk = some g → g < w.heap.size ∧ D ≠ some g:=by
  intro o ob ho hne
  have ho':=hold o ob ho hne
  obtain ⟨sl,k1,k2⟩:=hH.obj o ob ho'
  refine ⟨sl,k1,he o sl k1,k2,fun g hg => ⟨k2.blk_lt hg,fun hd => ?_⟩⟩
  obtain ⟨oD,obD,slD,q1,q2,q3,q4,q5⟩:=hD g hd
  by_cases e:oD = o
  ·subst e
   exact hne (q5 ob ho)
  ·exact (hH.sep oD obD slD g q1 q2 q3 q4).2 o ob sl ho' (fun e' => e e'.symm) k1 hg
 refine ⟨⟨h1.trans hH.fr.os,h2.trans hH.fr.tape,h3.trans hH.fr.output,Nat.le_trans hH.fr.size h4,fun k hk hn => ?_⟩,fun o ob ho => ?_,fun o ob sl g ho hown hs hg => ?_,fun o ob sl g ho hs hg => ?_,?_⟩
 ·refine (hblk k (Nat.lt_of_lt_of_le hk hH.fr.size) (fun hd => ?_)).trans (hH.fr.block k hk hn)
  obtain ⟨oD,obD,slD,q1,q2,q3,q4,_⟩:=hD k hd
  rcases (hH.sep oD obD slD k q1 q2 q3 q4).1 with r | r
  ·exact hn r
  ·omega
 ·by_cases e:o = o0
  ·subst e
   rw [hnew] at ho
   have:ob0 = ob:=by simpa using ho
   subst this
   exact ⟨sl0,h0,hob0⟩
  ·obtain ⟨sl,k1,k2,k3,k4⟩:=hsl o ob ho e
   exact ⟨sl,k2,(k3.move h4 (fun k hk => hblk k (k4 k hk).1 (k4 k hk).2)).ext he⟩
 ·by_cases e:o = o0
  ·subst e
   have:sl0 = sl:=by rw [h0] at hs;exact Option.some.inj hs
   subst this
   have h5:=hg0 g hg
   refine ⟨?_,fun o' ob' sl' ho' hne hs' => ?_⟩
   ·rcases h5 with hd | hd
    ·obtain ⟨oD,obD,slD,q1,q2,q3,q4,_⟩:=hD g hd
     exact (hH.sep oD obD slD g q1 q2 q3 q4).1
    ·exact .inr (Nat.le_trans hH.fr.size hd)
   ·obtain ⟨sl2,k1,k2,k3,k4⟩:=hsl o' ob' ho' hne
    have:sl2 = sl':=by rw [k2] at hs';exact Option.some.inj hs'
    subst this
    intro hgg
    obtain ⟨k5,k6⟩:=k4 g hgg
    rcases h5 with hd | hd
    ·exact k6 hd
    ·omega
  ·obtain ⟨sl2,k1,k2,k3,k4⟩:=hsl o ob ho e
   have:sl2 = sl:=by rw [k2] at hs;exact Option.some.inj hs
   subst this
   obtain ⟨k5,k6⟩:=k4 g hg
   obtain ⟨k7,k8⟩:=hH.sep o ob sl2 g (hold o ob ho e) hown k1 hg
   refine ⟨k7,fun o' ob' sl' ho' hne hs' => ?_⟩
   by_cases e':o' = o0
   ·subst e'
    have:sl0 = sl':=by rw [h0] at hs';exact Option.some.inj hs'
    subst this
    intro hgg
    rcases hg0 g hgg with hd | hd
    ·exact k6 hd
    ·omega
   ·obtain ⟨sl3,j1,j2,j3,j4⟩:=hsl o' ob' ho' e'
    have:sl3 = sl':=by rw [j2] at hs';exact Option.some.inj hs'
    subst this
    exact k8 o' ob' sl3 (hold o' ob' ho' e') hne j1
 ·by_cases e:o = o0
  ·subst e
   have:sl0 = sl:=by rw [h0] at hs;exact Option.some.inj hs
   subst this
   rcases hg0 g hg with hd | hd
   ·obtain ⟨oD,obD,slD,q1,q2,q3,q4,_⟩:=hD g hd
    exact hH.src oD obD slD g q1 q3 q4
   ·exact .inr (.inl (Nat.le_trans hH.fr.size hd))
  ·obtain ⟨sl2,k1,k2,k3,k4⟩:=hsl o ob ho e
   have:sl2 = sl:=by rw [k2] at hs;exact Option.some.inj hs
   subst this
   exact hH.src o ob sl2 g (hold o ob ho e) k1 hg
 ·obtain ⟨fz,hF⟩:=hH.dp
  have hnD:∀ g,fz g → D ≠ some g:=fun g hg hd => by
   obtain ⟨oD,obD,slD,q1,q2,q3,q4,_⟩:=hD g hd
   exact hF.sep oD obD slD g q1 q2 q3 q4 hg
  refine ⟨fz,hF.base,fun g hg => Nat.lt_of_lt_of_le (hF.lt g hg) h4,hF.src,fun o ob sl g ho hown hs hg hfz => ?_,fun o own ty sz xs ho => ?_⟩
  ·by_cases e:o = o0
   ·subst e
    have:sl0 = sl:=by rw [h0] at hs;exact Option.some.inj hs
    subst this
    rcases hg0 g hg with hd | hd
    ·exact hnD g hfz hd
    ·have:=hF.lt g hfz
     omega
   ·obtain ⟨sl2,k1,k2,k3,k4⟩:=hsl o ob ho e
    have:sl2 = sl:=by rw [k2] at hs;exact Option.some.inj hs
    subst this
    exact hF.sep o ob sl2 g (hold o ob ho e) hown k1 hg hfz
  ·by_cases e:o = o0
   ·subst e
    rw [hnew] at ho
    have:ob0 = ⟨own,ty,sz,.dp xs⟩:=by simpa using ho
    rw [this] at hnd
    cases hnd
   ·exact (hF.deep o own ty sz xs (hold o _ ho e)).move h4 (fun _ q => q) (fun g hg => hblk g (hF.lt g hg) (hnD g hg))
theorem Holds.drew {Γ:Ctx} {ρ:Pl} {h:AH} {w:World} (hh:Holds Γ ρ h w):Holds Γ ρ h w.drew:=hh.heap rfl rfl rfl rfl
theorem bA {α:Type} (l:List α) (x:α):(l ++ [x])[l.length]? = some x:=by simp
theorem Holds.alloc {Γ:Ctx} {ρ:Pl} {h:AH} {w:World} (hH:Holds Γ ρ h w) (hl:ρ.length = h.length) (cs:Array Value) (t:TypeId) (sl:Slot) (ob:AO) (hb:sl.blk = some w.heap.size)
  (ho:ObjH (ρ ++ [sl]) sl ob (w.alloc (.cells cs t))) (hnd:ob.el.isD = false:=by rfl):Holds Γ (ρ ++ [sl]) (h ++ [some ob]) (w.alloc (.cells cs t)):=by
 refine hH.one rfl rfl rfl (by simp) none (fun k hk _ => Below.heap_alloc _ _ _ hk) (Ext.append _ _) h.length ob sl (by rw [← hl];exact bA _ _) ho (fun g hg => by cases hg) (fun o ob' ho' hne => ?_) (bA _ _) (fun g hg => .inr ?_) hnd
 ·rw [List.getElem?_append] at ho'
  split at ho'
  ·exact ho'
  ·have h1:=(List.getElem?_eq_some_iff.1 ho').1
   simp at h1
   omega
 ·rw [hb] at hg
  exact Nat.le_of_eq (Option.some.inj hg)
section
variable {P:Program} {T:TB}
theorem sK {Γ:Ctx} {ρ:Pl} {h:AH} {w:World} (hH:Holds Γ ρ h w) {o i:Nat} {ob:AO} (ho:h[o]? = some (some ob)) {cs:List AC} (hi:ob.el.get i = some cs) :
  ∃ sl a vs,ρ[o]? = some sl ∧ sl.sz = ob.sz ∧ cs.length = ob.sz ∧ sl.a = some a ∧ a.block < w.heap.size ∧ All2 (AC.R ρ) cs vs ∧ ∀ j v,vs[j]? = some v → w.cell? (a.add (i * ob.sz + j)) = some v:=by
 obtain ⟨sl,h1,h2⟩:=hH.obj o ob ho
 obtain ⟨h3,a,h4,h5⟩:=h2.cell i cs hi
 have h6:∃ vs:List Value,All2 (AC.R ρ) cs vs ∧ ∀ j v,vs[j]? = some v → w.cell? (a.add (i * ob.sz + j)) = some v:=by
  clear hi h3
  suffices hs:∀ (n:Nat) (cs:List AC),(∀ j x,cs[j]? = some x → ∃ v,w.cell? (a.add (n + j)) = some v ∧ x.R ρ v) → ∃ vs:List Value,All2 (AC.R ρ) cs vs ∧ ∀ j v,vs[j]? = some v → w.cell? (a.add (n + j)) = some v from hs _ cs h5
  intro n cs
  induction cs generalizing n with
  | nil => intro _;exact ⟨[],trivial,fun j v hv => by simp at hv⟩
  | cons x cs ih =>
    intro hx
    obtain ⟨v,k1,k2⟩:=hx 0 x rfl
    obtain ⟨vs,k3,k4⟩:=ih (n + 1) (fun j y hy => by
     have:=hx (j + 1) y (by simpa using hy)
     rwa [show n + (j + 1) = n + 1 + j from by omega] at this)
    refine ⟨v :: vs,⟨k2,k3⟩,fun j u hu => ?_⟩
    cases j with
    | zero =>
      have:v = u:=by simpa using hu
      subst this
      exact k1
    | succ j =>
      rw [show n + (j + 1) = n + 1 + j from by omega]
      exact k4 j u (by simpa using hu)
 obtain ⟨vs,k1,k2⟩:=h6
 exact ⟨sl,a,vs,h1,h2.sz,h3,h4,h2.lt a h4,k1,k2⟩
def ldA (ti:TI) (cs:List AC) (q:Nat):Option AV:=match ti.agg with
 | true => match Nat.ble (q + ti.size) cs.length with
   | true => some (.agg ((cs.drop q).take ti.size))
   | false => none
 | false => (cs[q]?).map .c
theorem pq (hT:TOk P T) {st:St} {h1:AH} {dst:Option Tmp} {t:TypeId} {x:Operand} {ty:TypeId} {pos:String} {af:Array Edge} {g:Option (Nat × Bool)} {o i q:Nat} {ob:AO} {cs:List AC} {ti:TI} {v:AV} (hx:ev st.env x = some (.c (.ptr o i q))) (ht:tlk t T = some ti)
  (ho:h1[o]? = some (some ob)) (hi:ob.el.get i = some cs) (hv:ldA ti cs q = some v):OpR P ⟨dst,.load t x,ty,pos,af,g⟩ st h1 v:=fun Γ ρ1 ρ a w0 w1 he hr hH => by
 obtain ⟨sl,ad,vs,k1,k2,k3,k4,k5,k6,k7⟩:=sK hH ho hi
 obtain ⟨sl',ad',e1,e2,e3⟩:=oJ (bq hr.env hx)
 have:sl = sl':=by rw [he o sl k1] at e1;exact Option.some.inj e1
 subst this
 have:ad = ad':=by rw [k4] at e2;exact Option.some.inj e2
 subst this
 have hcell:∀ w,Same w1 w → ∀ j u,vs[j]? = some u → w.cell? (ad.add (i * ob.sz + j)) = some u:=fun w hw j u hu => by
  rw [jl (w:=w1) (by rw [add_block];exact hw.2 _ k5)]
  exact k7 j u hu
 unfold ldA at hv
 split at hv
 ·rename_i hag
  split at hv
  ·rename_i hle
   have hle:q + ti.size ≤ cs.length:=Nat.le_of_ble_eq_true hle
   cases hv
   refine ⟨.agg ((vs.drop q).take ti.size).toArray,⟨_,rfl,All2.imp (fun _ _ => AC.R_ext he) ((k6.drop q).take _)⟩,fun w hw => ?_⟩
   have hl:((vs.drop q).take ti.size).length = ti.size:=by
    have:=k6.length
    rw [List.length_take,List.length_drop]
    omega
   have h5:=run_loadCells_list (P:=P) w (ad.add (i * sl.sz + q)) ((vs.drop q).take ti.size) (fun j u hu => by
    have hj:j < ti.size:=by have:=(List.getElem?_eq_some_iff.1 hu).1;omega
    rw [List.getElem?_take_of_lt hj,List.getElem?_drop] at hu
    rw [iq,k2,Nat.add_assoc]
    exact hcell w hw _ _ hu)
   rw [hl] at h5
   unfold execOp
   simp [Instr.loadAt,e3,Instr.sureAddr,loadVar,fG hT ht,hag,cN hT ht,h5]
  ·cases hv
 ·rename_i hag
  obtain ⟨c,hc,rfl⟩:=Option.map_eq_some_iff.1 hv
  obtain ⟨u,hu,hr2⟩:=k6.get hc
  refine ⟨u,AC.R_ext he hr2,fun w hw => ?_⟩
  have h5:=hcell w hw q u hu
  rw [← k2] at h5
  unfold execOp
  simp [Instr.loadAt,e3,Instr.sureAddr,loadVar,fG hT ht,hag,h5]
def jy:AV → Option (List AC)
 | .c x => some [x]
 | .agg (c :: cs) => some (c :: cs)
 | _ => none
theorem sH {ρ:Pl} {v:AV} {v':Value} {cs:List AC} (h:jy v = some cs) (hv:v.R ρ v'):All2 (AC.R ρ) cs v'.cells.toList ∧ 0 < cs.length:=by
 unfold jy at h
 split at h
 ·rename_i x
  cases h
  have hx:AC.R ρ x v':=hv
  have:v'.cells = #[v']:=by
   have:=AC.R_one hx
   cases v' <;> first | rfl | (simp [Value.oneCell'] at this)
  rw [this]
  exact ⟨⟨hx,trivial⟩,by simp⟩
 ·cases h
  obtain ⟨a,rfl,h2⟩:=hv
  exact ⟨h2,by simp⟩
 ·cases h
theorem vb {ρ:Pl} {w:World} {cs:List AC} {vs:Array Value} (t:TypeId) (hcs:All2 (AC.R ρ) cs vs.toList) (hp:0 < cs.length) :
  ObjH (ρ ++ [⟨some ⟨w.heap.size,0,none⟩,1,cs.length,false⟩]) ⟨some ⟨w.heap.size,0,none⟩,1,cs.length,false⟩ ⟨true,t,cs.length,.mx cs⟩ (w.alloc (.cells vs t)):=by
 have hlen:cs.length = vs.size:=by rw [← Array.length_toList];exact hcs.length
 refine ⟨rfl,hp,Nat.le_refl _,by simp,fun a ha => ?_,fun h => by simp at h,fun i c hi => ?_,fun _ => ⟨rfl,.inr ⟨w.heap.size,vs,rfl,heap_alloc_new _ _,by simp;omega⟩⟩⟩
 ·cases ha
  simp
 ·cases i with
  | succ i => cases hi
  | zero =>
    cases hi
    refine ⟨rfl,_,rfl,fun j x hx => ?_⟩
    obtain ⟨v,h1,h2⟩:=hcs.get hx
    refine ⟨v,?_,AC.R_ext (Ext.append _ _) h2⟩
    rw [Nat.zero_mul,Nat.zero_add]
    have:((⟨w.heap.size,0,none⟩:Addr).add j) = ⟨w.heap.size,j,none⟩:=by
     unfold Addr.add
     split <;> simp_all
    rw [this,cell_of_row _ _ _ vs t (0,0) (heap_alloc_new _ _),← Array.getElem?_toList]
    exact h1
theorem lW (w:World) (o:Obj):Same w (w.alloc o):=⟨by simp,fun k hk => Below.heap_alloc _ _ _ hk⟩
theorem CD (ρ:Pl) (a:Addr) (c sz:Nat) (b:Bool):AV.R (ρ ++ [⟨some a,c,sz,b⟩]) (.c (.ptr ρ.length 0 0)) (.pointer (some a)) :=
 ⟨_,a,bA _ _,rfl,by simp [Addr.add]⟩
theorem Ac {st:St} {dst:Option Tmp} {t:TypeId} {x:Operand} {ty:TypeId} {pos:String} {af:Array Edge} {g:Option (Nat × Bool)} {v:AV} {cs:List AC} (hd:st.fits dst = true) (hx:ev st.env x = some v) (hv:jy v = some cs) :
  OpQ P ⟨dst,.box t x,ty,pos,af,g⟩ st (fun st' => st' = ({ st with h:=st.h ++ [some ⟨true,t,cs.length,.mx cs⟩] }:St).put dst (.c (.ptr st.h.length 0 0))):=fun Γ ρ a w hr K' Q' hk => by
 obtain ⟨h1,h2⟩:=sH hv (bq hr.env hx)
 unfold Oper.wp
 have hrun:(execOp a.eval ⟨dst,.box t x,ty,pos,af,g⟩).run P w = .ok (.value (.pointer (some ⟨w.heap.size,0,none⟩))) (w.alloc (.cells (a.eval x).cells t)):=by
  unfold execOp
  simp [Instr.box,newVar,newRow]
 rw [hrun]
 have hH:=hr.holds.alloc hr.len (a.eval x).cells t _ _ rfl (vb (w:=w) t h1 h2)
 have hp:=CD ρ ⟨w.heap.size,0,none⟩ 1 cs.length false
 rw [hr.len] at hp
 exact hk _ _ _ _ rfl (hr.put _ dst hd _ _ (Ext.append _ _) (by simp [hr.len]) hH hp) (Ext.append _ _) (lW w _)
theorem wN (hT:TOk P T) {st:St} {dst:Option Tmp} {t:TypeId} {ty:TypeId} {pos:String} {af:Array Edge} {g:Option (Nat × Bool)} {ti:TI} {z:Value} {zs:List Value} (hd:st.fits dst = true) (ht:tlk t T = some ti) (hz:ti.zero = z :: zs) :
  OpQ P ⟨dst,.alloc t,ty,pos,af,g⟩ st (fun st' => st' = ({ st with h:=st.h ++ [some ⟨true,t,(ti.zero.map AC.sc).length,.mx (ti.zero.map .sc)⟩] }:St).put dst (.c (.ptr st.h.length 0 0))):=fun Γ ρ a w hr K' Q' hk => by
 obtain ⟨iz,z',h1,_,_,h2,h3⟩:=(hT t ti ht).info
 unfold Oper.wp
 have hrun:(execOp a.eval ⟨dst,.alloc t,ty,pos,af,g⟩).run P w = .ok (.value (.pointer (some ⟨w.heap.size,0,none⟩))) (w.alloc (.cells z'.cells t)):=by
  unfold execOp
  simp [Instr.alloc,newVar,newRow,zeroValue,typeInfo,h1,h2]
 rw [hrun]
 have hcs:All2 (AC.R ρ) (ti.zero.map .sc) z'.cells.toList:=by
  rw [h3]
  exact o9 (hT t ti ht).one
 have hH:=hr.holds.alloc hr.len z'.cells t _ _ rfl (vb (w:=w) t hcs (by simp [hz]))
 have hp:=CD ρ ⟨w.heap.size,0,none⟩ 1 (ti.zero.map AC.sc).length false
 rw [hr.len] at hp
 exact hk _ _ _ _ rfl (hr.put _ dst hd _ _ (Ext.append _ _) (by simp [hr.len]) hH hp) (Ext.append _ _) (lW w _)
end
end
section
open Go.RowKit Go.Proofs.YtgehbhkfehmdkaaGreatW
theorem fe (g j:Nat):((⟨g,0,none⟩:Addr).add j) = ⟨g,j,none⟩:=by
 unfold Addr.add
 split <;> simp_all
theorem qO {Γ:Ctx} {ρ:Pl} {h:AH} {w:World} (hH:Holds Γ ρ h w) {o i:Nat} {ob:AO} (ho:h[o]? = some (some ob)) (hown:ob.own = true) {cs:List AC} (hi:ob.el.get i = some cs) :
  ∃ sl g cur,ρ[o]? = some sl ∧ sl.sz = ob.sz ∧ sl.a = some ⟨g,0,none⟩ ∧ w.heap[g]? = some (.cells cur ob.ty (0,0)) ∧ cur.size = sl.cap * ob.sz ∧ i < ob.el.len ∧ ob.el.len ≤ sl.cap ∧ cs.length = ob.sz ∧ sl.ro = false:=by
 obtain ⟨sl,h1,h2⟩:=hH.obj o ob ho
 obtain ⟨h3,a,h4,_⟩:=h2.cell i cs hi
 have hlen:i < ob.el.len:=by
  cases he:ob.el with
  | fl xs =>
    rw [he] at hi
    obtain ⟨c,hc,_⟩:=Option.map_eq_some_iff.1 hi
    exact (List.getElem?_eq_some_iff.1 hc).1
  | mx c =>
    rw [he] at hi
    cases i with
    | zero => exact Nat.one_pos
    | succ i => cases hi
  | dp _ =>
    rw [he] at hi
    cases hi
 obtain ⟨h5,h6⟩:=h2.own hown
 rcases h6 with ⟨h6,_⟩ | ⟨g,cur,h6,h7,h8⟩
 ·rw [h4] at h6
  cases h6
 ·exact ⟨sl,g,cur,h1,h2.sz,h6,h7,h8,hlen,h2.len,h3,h5⟩
def El.put (e:El) (i:Nat) (cs:List AC):Option El:=match e,i with
 | .mx _,0 => some (.mx cs)
 | .fl xs,i => match plain cs with
   | some vs => some (.fl (xs.set i vs))
   | none => none
 | _,_ => none
where plain:List AC → Option (List Value)
 | [] => some []
 | .sc v :: r => match plain r with
   | some vs => some (v :: vs)
   | none => none
 | _ :: _ => none
theorem kz:∀ {cs:List AC} {vs:List Value},El.put.plain cs = some vs → cs = vs.map .sc
 | [],vs,h => by
   cases h
   rfl
 | .sc v :: r,vs,h => by
   unfold El.put.plain at h
   split at h
   ·rename_i vs' h1
    cases h
    rw [kz h1]
    rfl
   ·cases h
 | .ptr _ _ _ :: _,_,h => by simp [El.put.plain] at h
 | .row _ _ _ :: _,_,h => by simp [El.put.plain] at h
 | .fn _ _ :: _,_,h => by simp [El.put.plain] at h
 | .cp _ _ :: _,_,h => by simp [El.put.plain] at h
 | .e0 :: _,_,h => by simp [El.put.plain] at h
theorem El.put_len {e e':El} {i:Nat} {cs:List AC} (h:e.put i cs = some e'):e'.len = e.len:=by
 unfold El.put at h
 split at h
 ·cases h
  rfl
 ·split at h
  ·cases h
   simp [El.len]
  ·cases h
 ·cases h
theorem El.put_nd {e e':El} {i:Nat} {cs:List AC} (h:e.put i cs = some e'):e'.isD = false:=by
 unfold El.put at h
 split at h
 ·cases h
  rfl
 ·split at h
  ·cases h
   rfl
  ·cases h
 ·cases h
theorem El.put_get {e e':El} {i:Nat} {cs:List AC} (h:e.put i cs = some e') (hi:i < e.len):e'.get i = some cs ∧ ∀ j,j ≠ i → e'.get j = e.get j:=by
 unfold El.put at h
 split at h
 ·cases h
  refine ⟨rfl,fun j hj => ?_⟩
  cases j with
  | zero => exact (hj rfl).elim
  | succ j => rfl
 ·rename_i _ xs
  split at h
  ·rename_i vs hp
   cases h
   have hi:i < xs.length:=hi
   refine ⟨?_,fun j hj => ?_⟩
   ·show ((xs.set i vs)[i]?).map _ = _
    rw [List.getElem?_set_self hi,kz hp]
    rfl
   ·show ((xs.set i vs)[j]?).map _ = (xs[j]?).map _
    rw [List.getElem?_set_ne (Ne.symm hj)]
  ·cases h
 ·cases h
theorem setRow_other' (w:World) (g:Nat) (cs:Array Value) (k:Nat) (h:k ≠ g):(w.setRow g cs).heap[k]? = w.heap[k]?:=by
 unfold World.setRow
 rw [Array.getElem?_modify]
 simp [Ne.symm h]
theorem dD (w:World) (g:Nat) (cs:Array Value):(w.setRow g cs).heap.size = w.heap.size:=by
 unfold World.setRow
 simp
theorem vY {cur:List Value} {q:Nat} {vs:List Value} (h:q + vs.length ≤ cur.length) (j:Nat):(cur.take q ++ vs ++ cur.drop (q + vs.length))[j]? = if q ≤ j ∧ j < q + vs.length then vs[j - q]? else cur[j]?:=by
 by_cases h1:j < q
 ·rw [if_neg (by omega),List.append_assoc,List.getElem?_append_left (by rw [List.length_take];omega),List.getElem?_take_of_lt h1]
 ·by_cases h2:j < q + vs.length
  ·rw [if_pos ⟨by omega,h2⟩,List.append_assoc,List.getElem?_append_right (by rw [List.length_take];omega),List.length_take,Nat.min_eq_left (by omega),List.getElem?_append_left (by omega)]
  ·rw [if_neg (by omega),List.getElem?_append_right (by rw [List.length_append,List.length_take];omega),List.length_append,List.length_take,Nat.min_eq_left (by omega),List.getElem?_drop]
   congr 1
   omega
section
variable {P:Program} {T:TB}
theorem qN (hT:TOk P T) {st:St} {dst:Option Tmp} {t:TypeId} {x y:Operand} {ty:TypeId} {pos:String} {af:Array Edge} {g:Option (Nat × Bool)} {o i q:Nat} {ob:AO} {cs vcs:List AC} {ti:TI} {v:AV} {e':El} (hd:dst = none)
  (hx:ev st.env x = some (.c (.ptr o i q))) (hy:ev st.env y = some v) (ht:tlk t T = some ti) (hv:jy v = some vcs) (hsz:vcs.length = ti.size) (ho:st.h[o]? = some (some ob)) (hown:ob.own = true) (hi:ob.el.get i = some cs) (hq:q + ti.size ≤ cs.length)
  (he:ob.el.put i (cs.take q ++ vcs ++ cs.drop (q + vcs.length)) = some e') :
  OpW P ⟨dst,.store t x y,ty,pos,af,g⟩ st (fun st' => st' = { st with h:=st.h.set o (some ⟨ob.own,ob.ty,ob.sz,e'⟩) }):=fun Γ ρ a w hr K' Q' hk => by
 subst hd
 obtain ⟨sl,gb,cur,k1,k2,k3,k4,k5,k6,k7,k8,k9⟩:=qO hr.holds ho hown hi
 obtain ⟨sl',ad,e1,e2,e3⟩:=oJ (bq hr.env hx)
 have:sl = sl':=by rw [k1] at e1;exact Option.some.inj e1
 subst this
 have:ad = ⟨gb,0,none⟩:=by rw [k3] at e2;exact (Option.some.inj e2).symm
 subst this
 obtain ⟨hvc,hvp⟩:=sH hv (bq hr.env hy)
 obtain ⟨vl,hvl0⟩:∃ vl,vl = (a.eval y).cells.toList:=⟨_,rfl⟩
 rw [← hvl0] at hvc
 have hvl:=hvc.length
 have hvs:(a.eval y).cells.size = vl.length:=by rw [hvl0,Array.length_toList]
 have hbound:i * ob.sz + ob.sz ≤ sl.cap * ob.sz:=by
  have:(i + 1) * ob.sz ≤ sl.cap * ob.sz:=Nat.mul_le_mul_right _ (by omega)
  rwa [Nat.add_mul,Nat.one_mul] at this
 have hone:∀ u ∈ vl,u.oneCell' = true:=fun u hu => by
  obtain ⟨j,hj⟩:=List.getElem?_of_mem hu
  have hjl:j < vcs.length:=by rw [hvl];exact (List.getElem?_eq_some_iff.1 hj).1
  obtain ⟨u',h1,h2⟩:=hvc.get (List.getElem?_eq_getElem hjl)
  rw [hj] at h1
  cases h1
  exact AC.R_one h2
 have hst:=run_storeCells_at P gb (i * ob.sz + q) ob.ty vl 0 cur w k4 (by rw [← hvl,k5];omega) hone
 simp only [Nat.add_zero] at hst
 unfold Oper.wp
 have hrun:(execOp a.eval ⟨none,.store t x y,ty,pos,af,g⟩).run P w = .ok .skip (w.setRow gb (cur.toList.take (i * ob.sz + q) ++ vl ++ cur.toList.drop (i * ob.sz + q + vl.length)).toArray):=by
  have hne:¬ ((a.eval y).cells.size ≠ ti.size):=by
   rw [hvs,← hvl,hsz]
   simp
  unfold execOp
  simp only [Instr.storeAt,e3,Instr.sureAddr,storeVar,Sem.run_bind,Sem.run_pure,Result.andThen_ok,cN hT ht,hne,k2,fe,Sem.run_ite]
  rw [← hvl0]
  simp [hst]
 rw [hrun]
 generalize hcur:(cur.toList.take (i * ob.sz + q) ++ vl ++ cur.toList.drop (i * ob.sz + q + vl.length)) = cur'
 have hcurl:cur.toList.length = cur.size:=Array.length_toList
 have hfit:i * ob.sz + q + vl.length ≤ cur.toList.length:=by
  rw [hcurl,k5,← hvl]
  omega
 have hcl:cur'.length = cur.size:=by
  rw [← hcur]
  simp only [List.length_append,List.length_take,List.length_drop,hcurl]
  omega
 have hget:∀ j,cur'[j]? = if i * ob.sz + q ≤ j ∧ j < i * ob.sz + q + vcs.length then vl[j - (i * ob.sz + q)]? else cur[j]?:=fun j => by
  rw [← hcur,vY hfit,hvl]
  simp only [Array.getElem?_toList]
 obtain ⟨sl2,m1,m2⟩:=hr.holds.obj o ob ho
 have:sl2 = sl:=by rw [m1] at k1;exact Option.some.inj k1
 subst this
 have hheap:(w.setRow gb cur'.toArray).heap[gb]? = some (.cells cur'.toArray ob.ty (0,0)):=setRow_heap w gb cur _ ob.ty _ k4
 obtain ⟨p1,p2⟩:=El.put_get he k6
 have hcell:∀ j,(w.setRow gb cur'.toArray).cell? ((⟨gb,0,none⟩:Addr).add j) = cur'[j]?:=fun j => by
  rw [fe,cell_of_row _ _ _ _ _ _ hheap]
  simp
 have hold:∀ j,w.cell? ((⟨gb,0,none⟩:Addr).add j) = cur[j]?:=fun j => by
  rw [fe,cell_of_row _ _ _ _ _ _ k4]
 have hcsl:(cs.take q ++ vcs ++ cs.drop (q + vcs.length)).length = ob.sz:=by
  simp only [List.length_append,List.length_take,List.length_drop]
  omega
 have hobj:ObjH ρ sl2 ⟨ob.own,ob.ty,ob.sz,e'⟩ (w.setRow gb cur'.toArray):=by
  refine ⟨m2.sz,m2.pos,by show e'.len ≤ _;rw [El.put_len he];exact m2.len,m2.max,fun a' ha' => by rw [dD];exact m2.lt a' ha',m2.nil,fun i' cs' hi' => ?_,fun _ => ⟨k9,.inr ⟨gb,cur'.toArray,k3,hheap,by simp [hcl,k5]⟩⟩⟩
  have hi':e'.get i' = some cs':=hi'
  by_cases ei:i' = i
  ·subst ei
   rw [p1] at hi'
   cases hi'
   refine ⟨hcsl,_,k3,fun j z hz => ?_⟩
   show ∃ v,(w.setRow gb cur'.toArray).cell? ((⟨gb,0,none⟩:Addr).add (i' * ob.sz + j)) = some v ∧ z.R ρ v
   have hj:j < ob.sz:=by rw [← hcsl];exact (List.getElem?_eq_some_iff.1 hz).1
   rw [hcell,hget]
   by_cases hin:q ≤ j ∧ j < q + vcs.length
   ·rw [if_pos (by omega)]
    rw [List.append_assoc,List.getElem?_append_right (by rw [List.length_take];omega),List.length_take,Nat.min_eq_left (by omega),List.getElem?_append_left (by omega)] at hz
    obtain ⟨u,h1,h2⟩:=hvc.get hz
    exact ⟨u,by rw [show i' * ob.sz + j - (i' * ob.sz + q) = j - q from by omega];exact h1,h2⟩
   ·rw [if_neg (by omega)]
    have hz':cs[j]? = some z:=by
     by_cases hjq:j < q
     ·rw [List.append_assoc,List.getElem?_append_left (by rw [List.length_take];omega),List.getElem?_take_of_lt hjq] at hz
      exact hz
     ·rw [List.getElem?_append_right (by simp only [List.length_append,List.length_take];omega),List.length_append,List.length_take,Nat.min_eq_left (by omega),List.getElem?_drop] at hz
      rwa [show q + vcs.length + (j - (q + vcs.length)) = j from by omega] at hz
    obtain ⟨_,a2,ha2,hc2⟩:=m2.cell i' cs hi
    rw [k3] at ha2
    cases ha2
    obtain ⟨u,h1,h2⟩:=hc2 j z hz'
    rw [hold] at h1
    exact ⟨u,h1,h2⟩
  ·rw [p2 i' ei] at hi'
   obtain ⟨h1,a2,ha2,hc2⟩:=m2.cell i' cs' hi'
   rw [k3] at ha2
   cases ha2
   refine ⟨h1,_,k3,fun j z hz => ?_⟩
   obtain ⟨u,h2,h3⟩:=hc2 j z hz
   rw [hold] at h2
   refine ⟨u,?_,h3⟩
   show (w.setRow gb cur'.toArray).cell? ((⟨gb,0,none⟩:Addr).add (i' * ob.sz + j)) = some u
   rw [hcell,hget,if_neg ?_]
   ·exact h2
   ·have hj:j < ob.sz:=by have:=(List.getElem?_eq_some_iff.1 hz).1;have h1:cs'.length = ob.sz:=h1;omega
    rintro ⟨q1,q2⟩
    have q1:i * ob.sz + q ≤ i' * ob.sz + j:=q1
    have q2:i' * ob.sz + j < i * ob.sz + q + vcs.length:=q2
    rcases Nat.lt_or_ge i' i with hlt | hge
    ·have:(i' + 1) * ob.sz ≤ i * ob.sz:=Nat.mul_le_mul_right _ hlt
     rw [Nat.add_mul,Nat.one_mul] at this
     omega
    ·have:(i + 1) * ob.sz ≤ i' * ob.sz:=Nat.mul_le_mul_right _ (by omega)
     rw [Nat.add_mul,Nat.one_mul] at this
     omega
 have holt:o < st.h.length:=(List.getElem?_eq_some_iff.1 ho).1
 have hblk:sl2.blk = some gb:=by simp [Slot.blk,k3]
 have hH:Holds Γ ρ (st.h.set o (some ⟨ob.own,ob.ty,ob.sz,e'⟩)) (w.setRow gb cur'.toArray):=by
  refine hr.holds.one rfl rfl rfl (by rw [dD];exact Nat.le_refl _) (some gb) (fun k _ hne => setRow_other' _ _ _ _ (fun e => hne (by rw [e]))) (Ext.refl _) o _ sl2 m1 hobj
   (fun g' hg' => ⟨o,ob,sl2,ho,hown,m1,by rw [hblk];exact hg',fun _ _ => rfl⟩) (fun o' ob' ho' hne => by rwa [List.getElem?_set_ne (Ne.symm hne)] at ho') (List.getElem?_set_self holt) (fun g' hg' => .inl (by rw [← hblk];exact hg')) (El.put_nd he)
 exact hk _ ρ _ _ rfl ⟨hH,by simp [hr.len],hr.klen,hr.args,hr.env,hr.defers,hr.size⟩
theorem qM (hT:TOk P T) {st:St} {dst:Option Tmp} {t e:TypeId} {x y:Operand} {ty:TypeId} {pos:String} {af:Array Edge} {g:Option (Nat × Bool)} {o s n:Nat} {ob:AO} {k:IntKind} {i:Int} {ti te:TI} (hx:ev st.env x = some (.c (.row o s n))) (hy:ev st.env y = some (.c (.sc (.int k i))))
  (ht:tlk t T = some ti) (hs:ti.d = .slice e) (hte:tlk e T = some te) (ho:st.h[o]? = some (some ob)) (hsz:te.size = ob.sz) (h0:0 ≤ i) (h1:i < n) :
  OpP P ⟨dst,.indexAddr t x y,ty,pos,af,g⟩ st (.c (.ptr o (s + i.toNat) 0)):=fun Γ ρ a w0 hr => by
 obtain ⟨sl,k1,k2⟩:=hr.holds.obj o ob ho
 obtain ⟨sl',e1,e2,e3⟩:RowR ρ o s n (a.eval x):=bq hr.env hx
 have:sl = sl':=by rw [k1] at e1;exact Option.some.inj e1
 subst this
 have hi:=fy (bq hr.env hy)
 have hu:P.underlying t = some (.slice e):=by have:=bO hT ht;rw [hs] at this;exact this
 rcases e3 with ⟨cc,e3,_⟩ | ⟨hn,_⟩
 ·have hne:∃ ad,sl.a = some ad:=by
   cases hb:ob.own with
   | true =>
     rcases (k2.own hb).2 with ⟨_,hc⟩ | ⟨gb,cur,hc,_⟩
     ·omega
     ·exact ⟨_,hc⟩
   | false =>
     cases ha:sl.a with
     | some ad => exact ⟨ad,rfl⟩
     | none =>
       have:=k2.nil ha
       omega
  obtain ⟨ad,had⟩:=hne
  refine ⟨.pointer (some ((ad.add (s * sl.sz)).add (i.toNat * te.size))),⟨sl,ad,k1,had,?_⟩,fun w => ?_⟩
  ·rw [iq,hsz,k2.sz,← Nat.add_mul,Nat.add_zero]
  ·unfold execOp
   simp [Instr.indexAt,hi,asIntOf,e3,had,cO hu,h0,h1,cN hT hte]
 ·omega
end
end
section
open Go.RowKit Go.Proofs.YtgehbhkfehmdkaaGreatW
theorem iV {sz:Nat}:∀ {L:List (List Value)},(∀ c ∈ L,c.length = sz) → ∀ {j:Nat} {u:Value},L.flatten[j]? = some u → ∃ (i r:Nat) (c:List Value),j = i * sz + r ∧ L[i]? = some c ∧ c[r]? = some u
 | [],_,j,u,h => by simp at h
 | c :: L,hL,j,u,h => by
   have hc:c.length = sz:=hL c (by simp)
   rw [List.flatten_cons] at h
   by_cases hj:j < sz
   ·rw [List.getElem?_append_left (by omega)] at h
    exact ⟨0,j,c,by omega,rfl,h⟩
   ·rw [List.getElem?_append_right (by omega)] at h
    obtain ⟨i,r,c',h1,h2,h3⟩:=iV (fun d hd => hL d (by simp [hd])) h
    exact ⟨i + 1,r,c',by rw [Nat.add_mul];omega,by simpa using h2,h3⟩
theorem og {sz:Nat}:∀ {L:List (List Value)},(∀ c ∈ L,c.length = sz) → ∀ {i j:Nat} {c:List Value} {u:Value},L[i]? = some c → c[j]? = some u → L.flatten[i * sz + j]? = some u
 | [],_,i,j,c,u,h,_ => by simp at h
 | d :: L,hL,0,j,c,u,h,hu => by
   have:d = c:=by simpa using h
   subst this
   rw [List.flatten_cons,Nat.zero_mul,Nat.zero_add,List.getElem?_append_left (List.getElem?_eq_some_iff.1 hu).1]
   exact hu
 | d :: L,hL,i + 1,j,c,u,h,hu => by
   have hd:d.length = sz:=hL d (by simp)
   rw [List.flatten_cons,List.getElem?_append_right (by rw [Nat.add_mul];omega),show (i + 1) * sz + j - d.length = i * sz + j from by rw [Nat.add_mul];omega]
   exact og (fun e he => hL e (by simp [he])) (by simpa using h) hu
theorem cq {sz:Nat}:∀ {L:List (List Value)},(∀ c ∈ L,c.length = sz) → L.flatten.length = L.length * sz
 | [],_ => by simp
 | c :: L,hL => by
   rw [List.flatten_cons,List.length_append,cq (fun d hd => hL d (by simp [hd])),hL c (by simp),List.length_cons,Nat.add_mul]
   omega
def gv (sz:Nat) (L:List (List Value)):Prop:=∀ c ∈ L,c.length = sz ∧ ∀ u ∈ c,u.oneCell' = true
theorem ju {ρ:Pl} {w:World} {g cap sz:Nat} {e:TypeId} {cur:Array Value} {L:List (List Value)} (hg:w.heap[g]? = some (.cells cur e (0,0))) (hs:cur.size = cap * sz) (hF:gv sz L) (hl:L.length ≤ cap) (hm:cap ≤ 9223372036854775807) (hz:0 < sz) (ht:cur.toList.take (L.length * sz) = L.flatten) :
  ObjH ρ ⟨some ⟨g,0,none⟩,cap,sz,false⟩ ⟨true,e,sz,.fl L⟩ w:=by
 refine ⟨rfl,hz,hl,hm,fun a ha => ?_,fun h => by simp at h,fun i cs hi => ?_,fun _ => ⟨rfl,.inr ⟨g,cur,rfl,hg,hs⟩⟩⟩
 ·cases ha
  exact (Array.getElem?_eq_some_iff.1 hg).1
 ·obtain ⟨c,hc,rfl⟩:=Option.map_eq_some_iff.1 hi
  obtain ⟨h1,h2⟩:=hF c (List.mem_of_getElem? hc)
  refine ⟨by rw [List.length_map];exact h1,_,rfl,fun j x hx => ?_⟩
  rw [List.getElem?_map] at hx
  obtain ⟨u,hu,rfl⟩:=Option.map_eq_some_iff.1 hx
  refine ⟨u,?_,rfl,h2 u (List.mem_of_getElem? hu)⟩
  have h3:=og (fun d hd => (hF d hd).1) hc hu
  rw [← ht] at h3
  have h4:i * sz + j < L.length * sz:=by
   have:=(List.getElem?_eq_some_iff.1 h3).1
   rw [List.length_take] at this
   omega
  rw [List.getElem?_take_of_lt h4] at h3
  show w.cell? ((⟨g,0,none⟩:Addr).add (i * sz + j)) = some u
  rw [fe,cell_of_row _ _ _ _ _ _ hg,← Array.getElem?_toList]
  exact h3
theorem hZ {ρ:Pl} {s:Slot} {own:Bool} {e sz:Nat} {L:List (List Value)} {w:World} (h:ObjH ρ s ⟨own,e,sz,.fl L⟩ w):gv sz L:=fun c hc => by
 obtain ⟨i,hi⟩:=List.getElem?_of_mem hc
 obtain ⟨h1,a,_,h2⟩:=h.cell i (c.map .sc) (by show (L[i]?).map _ = _;rw [hi];rfl)
 refine ⟨by rw [List.length_map] at h1;exact h1,fun u hu => ?_⟩
 obtain ⟨j,hj⟩:=List.getElem?_of_mem hu
 obtain ⟨v,_,h3⟩:=h2 j (.sc u) (by rw [List.getElem?_map,hj];rfl)
 exact h3.2
theorem pn {ρ:Pl} {s:Slot} {e sz:Nat} {L:List (List Value)} {w:World} (h:ObjH ρ s ⟨true,e,sz,.fl L⟩ w) {g:Nat} {cur:Array Value} (ha:s.a = some ⟨g,0,none⟩) (hg:w.heap[g]? = some (.cells cur e (0,0))) (hs:cur.size = s.cap * sz):cur.toList.take (L.length * sz) = L.flatten:=by
 have hF:=hZ h
 have hl:L.length ≤ s.cap:=h.len
 have h1:L.length * sz ≤ cur.toList.length:=by have h0:cur.toList.length = cur.size:=Array.length_toList;rw [h0,hs];exact Nat.mul_le_mul_right _ hl
 apply List.ext_getElem?
 intro k
 by_cases hk:k < L.length * sz
 ·rw [List.getElem?_take_of_lt hk]
  have hkf:k < L.flatten.length:=by rw [cq (fun d hd => (hF d hd).1)];exact hk
  obtain ⟨i,r,c,h2,h3,h4⟩:=iV (fun d hd => (hF d hd).1) (List.getElem?_eq_getElem hkf)
  obtain ⟨_,a,ha',h5⟩:=h.cell i (c.map .sc) (by show (L[i]?).map _ = _;rw [h3];rfl)
  rw [ha] at ha'
  cases ha'
  obtain ⟨v,h6,h7⟩:=h5 r (.sc L.flatten[k]) (by rw [List.getElem?_map,h4];rfl)
  have h6:w.cell? ((⟨g,0,none⟩:Addr).add (i * sz + r)) = some v:=h6
  rw [fe,cell_of_row _ _ _ _ _ _ hg,← Array.getElem?_toList,← h2] at h6
  rw [h6,h7.1,List.getElem?_eq_getElem hkf]
 ·rw [List.getElem?_eq_none (by rw [List.length_take];omega),List.getElem?_eq_none (by rw [cq (fun d hd => (hF d hd).1)];omega)]
theorem wZ {Γ:Ctx} {ρ:Pl} {h:AH} {w:World} (hH:Holds Γ ρ h w) {o s m:Nat} {own:Bool} {e sz:Nat} {ys:List (List Value)} (ho:h[o]? = some (some ⟨own,e,sz,.fl ys⟩)) (hb:s + m ≤ ys.length) {v:Value} (hv:RowR ρ o s m v) :
  gv sz ys ∧ ((m = 0 ∧ ∃ A c,v = .slice A 0 c) ∨ ∃ a c,v = .slice (some a) m c ∧ ∀ j u,((ys.drop s).take m).flatten[j]? = some u → w.cell? (a.add j) = some u):=by
 obtain ⟨sl,k1,k2⟩:=hH.obj o _ ho
 have hF:=hZ k2
 refine ⟨hF,?_⟩
 obtain ⟨sl',e1,e2,e3⟩:=hv
 have:sl = sl':=by rw [k1] at e1;exact Option.some.inj e1
 subst this
 rcases Nat.eq_zero_or_pos m with hm | hm
 ·left
  subst hm
  refine ⟨rfl,?_⟩
  rcases e3 with ⟨cc,e3,_⟩ | ⟨_,_,A,c,e3,_⟩
  ·exact ⟨_,_,e3⟩
  ·exact ⟨A,c,e3⟩
 ·right
  rcases e3 with ⟨cc,e3,_⟩ | ⟨e0,_⟩
  ·cases ha:sl.a with
   | none => have:=k2.nil ha;omega
   | some a =>
     rw [ha] at e3
     refine ⟨_,_,e3,fun j u hu => ?_⟩
     have hsub:∀ c ∈ (ys.drop s).take m,c.length = sz:=fun c hc => (hF c (List.mem_of_mem_drop (List.mem_of_mem_take hc))).1
     obtain ⟨i,r,c,h2,h3,h4⟩:=iV hsub hu
     have hi:i < m:=by have:=(List.getElem?_eq_some_iff.1 h3).1;rw [List.length_take] at this;omega
     rw [List.getElem?_take_of_lt hi,List.getElem?_drop] at h3
     obtain ⟨_,a',ha',h5⟩:=k2.cell (s + i) (c.map .sc) (by show (ys[s + i]?).map _ = _;rw [h3];rfl)
     rw [ha] at ha'
     cases ha'
     obtain ⟨x,h6,h7⟩:=h5 r (.sc u) (by rw [List.getElem?_map,h4];rfl)
     have h6:w.cell? (a.add ((s + i) * sz + r)) = some x:=h6
     rw [iq,h2,k2.sz,show s * (⟨own,e,sz,.fl ys⟩:AO).sz + (i * sz + r) = (s + i) * sz + r from by show s * sz + _ = _;rw [Nat.add_mul];omega,h6,h7.1]
  ·omega
section
variable {P:Program} {T:TB}
theorem oK {t ty e:TypeId} {i:TypeInfo} (ht:P.underlying t = some (.slice e)) (hi:P.info? e = some i) (b:Option Addr) (n c:Nat) (hc:n ≤ c) (A:Option Addr) (c':Nat) (w:World) :
  (Builtin.append_ #[t,t] ty #[.slice b n c,.slice A 0 c']).run P w = .ok (.slice b n c) w:=by
 cases A <;> cases b <;> simp [Builtin.append_,run_underlying ht,sizeOf,typeInfo,hi,Builtin.lenOf,Builtin.firstCells,loadCells,loadCellsFrom,hc,storeCells]
theorem uI (hT:TOk P T) {st:St} {dst:Option Tmp} {t e:TypeId} {x y:Operand} {ty:TypeId} {pos:String} {af:Array Edge} {g:Option (Nat × Bool)} {o n o2 s2 m:Nat} {own2:Bool} {e2 sz:Nat} {xs ys:List (List Value)} {ti te:TI} (hd:st.fits dst = true)
  (hx:ev st.env x = some (.c (.row o 0 n))) (hy:ev st.env y = some (.c (.row o2 s2 m))) (ht:tlk t T = some ti) (hs:ti.d = .slice e) (hte:tlk e T = some te) (hsz:te.size = sz)
  (ho:st.h[o]? = some (some ⟨true,e,sz,.fl xs⟩)) (hn:n ≤ xs.length) (ho2:st.h[o2]? = some (some ⟨own2,e2,sz,.fl ys⟩)) (hm:s2 + m ≤ ys.length) (hb:(n + m) * te.bytes ≤ 140737488355328) (hb1:n + m ≤ 9223372036854775807) :
  OpW P ⟨dst,.call { callee:=.builtin .append,args:=#[x,y],argTypes:=#[t,t] },ty,pos,af,g⟩ st (fun st' => st' = ({ st with h:=st.h.set o none ++ [some ⟨true,e,sz,.fl (xs.take n ++ (ys.drop s2).take m)⟩] }:St).put dst (.c (.row st.h.length 0 (n + m)))):=fun Γ ρ a w hr K' Q' hk => by
 obtain ⟨sl,k1,k2⟩:=hr.holds.obj o _ ho
 obtain ⟨sl',r1,r2,r3⟩:RowR ρ o 0 n (a.eval x):=bq hr.env hx
 have:sl = sl':=by rw [k1] at r1;exact Option.some.inj r1
 subst this
 obtain ⟨q1,q2⟩:=k2.own rfl
 have r4':∃ b,a.eval x = .slice b n sl.cap ∧ (b = sl.a ∨ sl.cap = 0):=by
  rcases r3 with ⟨cc,r3,_,r6⟩ | ⟨r7,r5,A,c,r8,r9⟩
  ·refine ⟨sl.a,?_,.inl rfl⟩
   rw [r3,r6 q1]
   cases sl.a <;> simp [Addr.add]
  ·have hc:sl.cap = 0:=by
    rcases r5 with r5 | r5 | r5
    ·omega
    ·rw [q1] at r5;cases r5
    ·exact r5
   exact ⟨A,by rw [r8,r9 rfl q1,hc,r7],.inr hc⟩
 obtain ⟨bx,r4,r4c⟩:=r4'
 obtain ⟨hF2,hsrc⟩:=wZ hr.holds ho2 hm (bq hr.env hy)
 have hF:=hZ k2
 obtain ⟨ie,z,i1,i2,i3,i4,i5⟩:=(hT e te hte).info
 have hu:P.underlying t = some (.slice e):=by have:=bO hT ht;rw [hs] at this;exact this
 have hpos:0 < sz:=k2.pos
 have holt:o < st.h.length:=(List.getElem?_eq_some_iff.1 ho).1
 have hLl:(xs.take n ++ (ys.drop s2).take m).length = n + m:=by
  rw [List.length_append,List.length_take,List.length_take,List.length_drop]
  omega
 have hLF:gv sz (xs.take n ++ (ys.drop s2).take m):=fun c hc => by
  rcases List.mem_append.1 hc with h | h
  ·exact hF c (List.mem_of_mem_take h)
  ·exact hF2 c (List.mem_of_mem_drop (List.mem_of_mem_take h))
 have hFx:∀ c ∈ xs.take n,c.length = sz:=fun c hc => (hF c (List.mem_of_mem_take hc)).1
 have hFy:∀ c ∈ (ys.drop s2).take m,c.length = sz:=fun c hc => (hF2 c (List.mem_of_mem_drop (List.mem_of_mem_take hc))).1
 have hxl:(xs.take n).flatten.length = n * sz:=by rw [cq hFx,List.length_take,Nat.min_eq_left hn]
 have hyl:((ys.drop s2).take m).flatten.length = m * sz:=by rw [cq hFy,List.length_take,List.length_drop,Nat.min_eq_left (by omega)]
 -- what is to be shown at a world,a slot
 have fin:∀ (v:Value) (w':World) (sl1:Slot),(execOp a.eval ⟨dst,.call { callee:=.builtin .append,args:=#[x,y],argTypes:=#[t,t] },ty,pos,af,g⟩).run P w = .ok (.value v) w' →
   w'.os = w.os → w'.tape = w.tape → w'.output = w.output → w.heap.size ≤ w'.heap.size → (∀ k,k < w.heap.size → sl.blk ≠ some k → w'.heap[k]? = w.heap[k]?) → sl1.sz = sz → sl1.ro = false →
   ObjH (ρ ++ [sl1]) sl1 ⟨true,e,sz,.fl (xs.take n ++ (ys.drop s2).take m)⟩ w' → (∀ gg,sl1.blk = some gg → sl.blk = some gg ∨ w.heap.size ≤ gg) → (∃ b,v = .slice b (n + m) sl1.cap ∧ (b = sl1.a ∨ sl1.cap = 0)) →
   Oper.wp P ⟨dst,.call { callee:=.builtin .append,args:=#[x,y],argTypes:=#[t,t] },ty,pos,af,g⟩ a w K' Q':=by
  intro v w' sl1 hrun e1 e2' e3 e4 e5 e6 e7 e8 e9 e10
  unfold Oper.wp
  rw [hrun]
  have hlen:(ρ ++ [sl1]).length = (st.h.set o none ++ [some (⟨true,e,sz,.fl (xs.take n ++ (ys.drop s2).take m)⟩:AO)]).length:=by simp [hr.len]
  have hH:Holds Γ (ρ ++ [sl1]) (st.h.set o none ++ [some ⟨true,e,sz,.fl (xs.take n ++ (ys.drop s2).take m)⟩]) w':=by
   have hget:∀ (o':Nat) ob,(st.h.set o none ++ [some (⟨true,e,sz,.fl (xs.take n ++ (ys.drop s2).take m)⟩:AO)])[o']? = some (some ob) → o' ≠ st.h.length → st.h[o']? = some (some ob) ∧ o' ≠ o:=by
    intro o' ob ho' hne
    rw [List.getElem?_append] at ho'
    split at ho'
    ·by_cases e:o = o'
     ·subst e
      rw [List.getElem?_set_self holt] at ho'
      simp at ho'
     ·rw [List.getElem?_set_ne e] at ho'
      exact ⟨ho',fun h => e h.symm⟩
    ·have h1:=(List.getElem?_eq_some_iff.1 ho').1
     simp at h1
     rename_i hh
     simp at hh
     omega
   refine hr.holds.one e1 e2' e3 e4 sl.blk e5 (Ext.append _ _) st.h.length _ sl1 (by rw [← hr.len];exact bA _ _) e8 (fun gg hgg => ⟨o,_,sl,ho,rfl,k1,hgg,fun ob' hob' => ?_⟩) (fun o' ob' ho' hne => (hget o' ob' ho' hne).1) ?_ e9
   ·by_cases e:o = st.h.length
    ·exact e
    ·exact ((hget o ob' hob' e).2 rfl).elim
   ·have:(st.h.set o none).length = st.h.length:=by simp
    rw [← this]
    exact bA _ _
  refine hk _ _ _ _ rfl (hr.put _ dst hd _ v (Ext.append _ _) hlen hH ⟨sl1,by rw [← hr.len];exact bA _ _,?_,?_⟩)
  ·have:=e8.len
   rw [show (⟨true,e,sz,.fl (xs.take n ++ (ys.drop s2).take m)⟩:AO).el.len = n + m from hLl] at this
   omega
  ·have h9:=e8.len
   rw [show (⟨true,e,sz,.fl (xs.take n ++ (ys.drop s2).take m)⟩:AO).el.len = n + m from hLl] at h9
   obtain ⟨b,e10,e11⟩:=e10
   rcases e11 with e11 | e11
   ·refine .inl ⟨sl1.cap,?_,h9,fun _ => rfl⟩
    rw [e10,e11]
    cases sl1.a <;> simp [Addr.add]
   ·refine .inr ⟨by omega,.inr (.inr e11),b,sl1.cap,by rw [e10,show n + m = 0 from by omega],fun _ _ => e11⟩
 have hexec:∀ v w',(Builtin.append_ #[t,t] ty #[a.eval x,a.eval y]).run P w = .ok v w' → (execOp a.eval ⟨dst,.call { callee:=.builtin .append,args:=#[x,y],argTypes:=#[t,t] },ty,pos,af,g⟩).run P w = .ok (.value v) w':=by
  intro v w' h
  unfold execOp
  simp [resolve,invoke,builtin,h]
 have hh0:m = 0 → Oper.wp P ⟨dst,.call { callee:=.builtin .append,args:=#[x,y],argTypes:=#[t,t] },ty,pos,af,g⟩ a w K' Q':=fun hm0 => by
  subst hm0
  obtain ⟨A,c,hsv⟩:∃ A c,a.eval y = .slice A 0 c:=by
   rcases hsrc with ⟨_,A,c,h⟩ | ⟨ad,c,h,_⟩
   ·exact ⟨A,c,h⟩
   ·exact ⟨_,c,h⟩
  refine fin _ w sl (hexec _ _ (by rw [r4,hsv];exact oK hu i1 bx n sl.cap (by omega) A c w)) rfl rfl rfl (Nat.le_refl _) (fun _ _ _ => rfl) k2.sz q1 ?_ (fun gg hgg => .inl hgg) ⟨bx,rfl,r4c⟩
  have h1:ObjH ρ sl ⟨true,e,sz,.fl (xs.take n ++ (ys.drop s2).take 0)⟩ w:=by
   rw [List.take_zero,List.append_nil]
   refine ⟨k2.sz,k2.pos,by show (xs.take n).length ≤ _;rw [List.length_take];omega,k2.max,k2.lt,k2.nil,fun i cs hi => ?_,k2.own⟩
   obtain ⟨d,hd',rfl⟩:=Option.map_eq_some_iff.1 hi
   have hin:i < n:=by have:=(List.getElem?_eq_some_iff.1 hd').1;rw [List.length_take] at this;omega
   rw [List.getElem?_take_of_lt hin] at hd'
   exact k2.cell i _ (by show (xs[i]?).map _ = _;rw [hd'];rfl)
  exact h1.ext (Ext.append _ _)
 rcases Nat.eq_zero_or_pos m with hm0 | hm0
 ·exact hh0 hm0
 rcases hsrc with ⟨hm1,_⟩ | ⟨ad,c,hsv,hsc⟩
 ·omega
 ·by_cases hcap0:sl.cap = 0
  ·-- the row bears nothing
   have hn0:n = 0:=by omega
   subst hn0
   have hzs:z.cells.size = sz:=by
    have h0:z.cells.toList.length = z.cells.size:=Array.length_toList
    rw [← h0,i5,(hT e te hte).zl,hsz]
   have hge:=grownCap_ge w m 0 e
   have hle:=grownCap_le_maxLen w m 0 e (by unfold maxLen;omega)
   unfold maxLen at hle
   have hrun:(Builtin.append_ #[t,t] ty #[a.eval x,a.eval y]).run P w = .ok (.slice (some ⟨w.heap.size,0,none⟩) m (grownCap w m 0 e)) (w.drew.alloc (.cells (((ys.drop s2).take m).flatten.toArray ++ Builtin.zeroCells z.cells (grownCap w m 0 e - m)) e)):=by
    rw [r4,hsv,hcap0]
    cases bx with
    | none => exact run_append_nil (P:=P) w t ty e ie z hu i1 i4 ad m c _ (by rw [hyl,i2,hsz]) hsc hm0 (by omega) (by rw [i3];have h9:=hb;rw [Nat.zero_add] at h9;omega)
    | some bd =>
      have hg:=run_append_grow (P:=P) w t ty e ie z hu i1 i4 bd 0 0 [] (by simp) (fun j v h => by simp at h) ad m c _ (by rw [hyl,i2,hsz]) hsc (by omega) (by omega) (growslice_fits (by omega) (by rw [i3];exact hb))
      simpa using hg
   refine fin _ _ ⟨some ⟨w.heap.size,0,none⟩,grownCap w m 0 e,sz,false⟩ (hexec _ _ hrun) rfl rfl rfl (by simp) (fun k hk _ => Below.heap_alloc w.drew _ k hk) rfl rfl ?_ (fun gg hgg => .inr ?_) ⟨_,by simp,.inl rfl⟩
   ·refine ju (heap_alloc_new w.drew _) ?_ hLF (by rw [hLl];omega) hle hpos ?_
    ·simp only [Array.size_append,List.size_toArray,size_zeroCells,hzs,hyl,← Nat.add_mul]
     congr 1
     omega
    ·rw [hLl]
     simp only [List.take_zero,List.nil_append,Nat.zero_add,Array.toList_append]
     rw [← hyl]
     exact List.take_left
   ·have:w.heap.size = gg:=Option.some.inj hgg
    omega
  obtain rfl:bx = sl.a:=by
   rcases r4c with h | h
   ·exact h
   ·exact (hcap0 h).elim
  rcases q2 with ⟨_,q3⟩ | ⟨gb,cur,q2,q3,q4⟩
  ·exact (hcap0 q3).elim
  ·by_cases hroom:n + m ≤ sl.cap
   ·-- in place
    have hrun:=run_append_room (P:=P) w t ty e ie hu i1 gb n sl.cap cur q3 ad m c _ (by rw [hyl,i2,hsz]) hsc (fun u hu => by
     obtain ⟨cc,h1,h2⟩:=List.mem_flatten.1 hu
     exact (hF2 cc (List.mem_of_mem_drop (List.mem_of_mem_take h1))).2 u h2) hroom (by rw [hyl,i2,hsz,q4,← Nat.add_mul];exact Nat.mul_le_mul_right _ hroom)
    rw [← q2,← r4,← hsv] at hrun
    refine fin _ _ sl (hexec _ _ hrun) rfl rfl rfl (by rw [dD];exact Nat.le_refl _) (fun k _ hne => setRow_other' _ _ _ _ (fun e => hne (by simp [Slot.blk,q2,e]))) k2.sz q1 ?_ (fun gg hgg => .inl hgg) ⟨_,by rw [q2],.inl rfl⟩
    have h1:ObjH (ρ ++ [sl]) ⟨some ⟨gb,0,none⟩,sl.cap,sz,false⟩ ⟨true,e,sz,.fl (xs.take n ++ (ys.drop s2).take m)⟩ (w.setRow gb (cur.toList.take (n * ie.size) ++ ((ys.drop s2).take m).flatten ++ cur.toList.drop (n * ie.size + ((ys.drop s2).take m).flatten.length)).toArray):=by
     have hcl:cur.toList.length = sl.cap * sz:=by rw [Array.length_toList];exact q4
     have hbd:n * sz + m * sz ≤ sl.cap * sz:=by rw [← Nat.add_mul];exact Nat.mul_le_mul_right _ hroom
     refine ju (setRow_heap w gb cur _ e _ q3) ?_ hLF (by rw [hLl];exact hroom) k2.max hpos ?_
     ·simp only [List.size_toArray,List.length_append,List.length_take,List.length_drop,hyl,i2,hsz,hcl]
      omega
     ·rw [hLl,List.flatten_append,i2,hsz]
      have h2:=pn k2 q2 q3 q4
      have h3:cur.toList.take (n * sz) = (xs.take n).flatten:=by
       have h4:n * sz ≤ xs.length * sz:=Nat.mul_le_mul_right _ hn
       have h5:cur.toList.take (n * sz) = (cur.toList.take (xs.length * sz)).take (n * sz):=by rw [List.take_take,Nat.min_eq_left h4]
       rw [h5,h2]
       have h6:xs.flatten = (xs.take n).flatten ++ (xs.drop n).flatten:=by rw [← List.flatten_append,List.take_append_drop]
       rw [h6,← hxl]
       exact List.take_left
      rw [h3]
      have h7:((xs.take n).flatten ++ ((ys.drop s2).take m).flatten).length = (n + m) * sz:=by rw [List.length_append,hxl,hyl,Nat.add_mul]
      rw [← h7]
      exact List.take_left
    have h8:sl = ⟨some ⟨gb,0,none⟩,sl.cap,sz,false⟩:=by
     obtain ⟨sa,sc,ss,sr⟩:=sl
     have:=k2.sz
     simp_all
    rw [← h8] at h1
    exact h1
   ·have hold:∀ j u,(xs.take n).flatten[j]? = some u → w.cell? ((⟨gb,0,none⟩:Addr).add j) = some u:=by
     intro j u hu
     obtain ⟨i,r,cc,h2,h3,h4⟩:=iV hFx hu
     have hin:i < n:=by have:=(List.getElem?_eq_some_iff.1 h3).1;rw [List.length_take] at this;omega
     rw [List.getElem?_take_of_lt hin] at h3
     obtain ⟨_,a',ha',h5⟩:=k2.cell i (cc.map .sc) (by show (xs[i]?).map _ = _;rw [h3];rfl)
     rw [q2] at ha'
     cases ha'
     obtain ⟨xx,h6,h7⟩:=h5 r (.sc u) (by rw [List.getElem?_map,h4];rfl)
     have h6:w.cell? ((⟨gb,0,none⟩:Addr).add (i * sz + r)) = some xx:=h6
     rw [h2,h6,h7.1]
    have hrun:=run_append_grow (P:=P) w t ty e ie z hu i1 i4 ⟨gb,0,none⟩ n sl.cap _ (by rw [hxl,i2,hsz]) hold ad m c _ (by rw [hyl,i2,hsz]) hsc (by omega) (by omega) (growslice_fits (by omega) (by rw [i3];exact hb))
    have hge:=grownCap_ge w (n + m) sl.cap e
    have hle:=grownCap_le_maxLen w (n + m) sl.cap e (by unfold maxLen;omega)
    unfold maxLen at hle
    have hzs:z.cells.size = sz:=by
     have h0:z.cells.toList.length = z.cells.size:=Array.length_toList
     rw [← h0,i5,(hT e te hte).zl,hsz]
    rw [← q2,← r4,← hsv] at hrun
    refine fin _ _ ⟨some ⟨w.heap.size,0,none⟩,grownCap w (n + m) sl.cap e,sz,false⟩ (hexec _ _ hrun) rfl rfl rfl (by simp) (fun k hk _ => Below.heap_alloc w.drew _ k hk) rfl rfl ?_ (fun gg hgg => .inr ?_) ⟨_,rfl,.inl rfl⟩
    ·refine ju (heap_alloc_new w.drew _) ?_ hLF (by rw [hLl];exact hge) hle hpos ?_
     ·simp only [Array.size_append,List.size_toArray,size_zeroCells,hzs,hyl,hxl,← Nat.add_mul]
      congr 1
      omega
     ·rw [hLl]
      simp only [Array.toList_append,List.flatten_append]
      have h7:((xs.take n).flatten ++ ((ys.drop s2).take m).flatten).length = (n + m) * sz:=by rw [List.length_append,hxl,hyl,Nat.add_mul]
      rw [← h7]
      exact List.take_left
    ·have:w.heap.size = gg:=Option.some.inj hgg
     omega
end
end
section
open Go.RowKit Go.Proofs.YtgehbhkfehmdkaaGreatW
theorem sX (off:Nat):∀ (l:List Value) (j:Nat) (cs:Array Value),off + j + l.length ≤ cs.size → ∀ k,((l.zipIdx j).foldl (fun cs (p:Value × Nat) => cs.setIfInBounds (off + p.2) p.1) cs)[k]? = (if off + j ≤ k ∧ k < off + j + l.length then l[k - (off + j)]? else cs[k]?) ∧ ((l.zipIdx j).foldl (fun cs (p:Value × Nat) => cs.setIfInBounds (off + p.2) p.1) cs).size = cs.size
 | [],j,cs,h,k => by
   simp only [List.zipIdx_nil,List.foldl_nil,List.length_nil,Nat.add_zero,and_true]
   rw [if_neg (by omega)]
 | c :: l,j,cs,h,k => by
   simp only [List.length_cons] at h
   obtain ⟨h1,h2⟩:=sX off l (j + 1) (cs.setIfInBounds (off + j) c) (by simp;omega) k
   simp only [List.zipIdx_cons,List.foldl_cons]
   refine ⟨?_,by rw [h2];simp⟩
   rw [h1]
   by_cases hk:k = off + j
   ·subst hk
    rw [if_neg (by omega),if_pos (by simp),Nat.sub_self,Array.getElem?_setIfInBounds_self_of_lt (by omega)]
    rfl
   ·by_cases hin:off + (j + 1) ≤ k ∧ k < off + (j + 1) + l.length
    ·rw [if_pos hin,if_pos (by simp only [List.length_cons];omega),show k - (off + j) = (k - (off + (j + 1))) + 1 from by omega]
     rfl
    ·rw [if_neg hin,if_neg (by simp only [List.length_cons];omega),Array.getElem?_setIfInBounds_ne (by omega)]
theorem sS {sz:Nat} (hz:0 < sz):∀ (L:List (List Value)) (vs:List Value) (k0:Nat) (cs:Array Value),All2 (fun c (v:Value) => v.cells.toList = c ∧ c.length = sz) L vs → (k0 + L.length) * sz ≤ cs.size →
  ∃ r,Instr.fill (fun i => some (i * sz,sz)) cs (vs.mapIdx (fun i v => (k0 + i,v))) = some r ∧ r.size = cs.size ∧ ∀ k,r[k]? = if k0 * sz ≤ k ∧ k < (k0 + L.length) * sz then L.flatten[k - k0 * sz]? else cs[k]?
 | [],[],k0,cs,_,_ => ⟨cs,rfl,rfl,fun k => by rw [if_neg (by simp only [List.length_nil,Nat.add_zero];omega)]⟩
 | c :: L,v :: vs,k0,cs,h,hs => by
   obtain ⟨⟨h1,h2⟩,h3⟩:=h
   have hvs:v.cells.size = sz:=by rw [← h2,← h1,Array.length_toList]
   have hsz:k0 * sz + sz ≤ cs.size:=by
    have:(k0 + 1) * sz ≤ (k0 + (c :: L).length) * sz:=Nat.mul_le_mul_right _ (by simp)
    rw [Nat.add_mul,Nat.one_mul] at this
    omega
   have hf:=sX (k0 * sz) c 0 cs (by omega)
   obtain ⟨C,hC⟩:∃ C,C = (c.zipIdx 0).foldl (fun cs (p:Value × Nat) => cs.setIfInBounds (k0 * sz + p.2) p.1) cs:=⟨_,rfl⟩
   rw [← hC] at hf
   obtain ⟨r,h4,h5,h6⟩:=sS hz L vs (k0 + 1) C h3 (by rw [(hf 0).2];rw [List.length_cons] at hs;rwa [Nat.add_assoc,Nat.add_comm 1])
   refine ⟨r,?_,by rw [h5,(hf 0).2],fun k => ?_⟩
   ·rw [List.mapIdx_cons]
    unfold Instr.fill
    simp only [Nat.add_zero]
    rw [if_neg (by simp only [Bool.or_eq_true,decide_eq_true_eq];rintro (hc | hc) <;> omega)]
    have e1:v.cells.zipIdx.foldl (fun cs (c,j) => cs.setIfInBounds (k0 * sz + j) c) cs = C:=by
     rw [hC,← Array.foldl_toList,Array.toList_zipIdx,h1]
    rw [e1]
    have e2:(fun (i:Nat) (v:Value) => (k0 + (i + 1),v)) = (fun i v => (k0 + 1 + i,v)):=by
     funext i v
     rw [show k0 + (i + 1) = k0 + 1 + i from by omega]
    rw [e2]
    exact h4
   ·rw [h6]
    have hk1:(k0 + 1) * sz = k0 * sz + sz:=by rw [Nat.add_mul,Nat.one_mul]
    have hk2:(k0 + (c :: L).length) * sz = (k0 + 1 + L.length) * sz:=by rw [List.length_cons];congr 1;omega
    rw [hk2]
    have hle:(k0 + 1) * sz ≤ (k0 + 1 + L.length) * sz:=Nat.mul_le_mul_right _ (by omega)
    rw [List.flatten_cons]
    by_cases hin:(k0 + 1) * sz ≤ k ∧ k < (k0 + 1 + L.length) * sz
    ·rw [if_pos hin,if_pos (by omega),List.getElem?_append_right (by omega),h2]
     congr 1
     omega
    ·rw [if_neg hin,(hf k).1]
     simp only [Nat.add_zero]
     by_cases hin2:k0 * sz ≤ k ∧ k < k0 * sz + c.length
     ·rw [if_pos hin2,if_pos (by omega),List.getElem?_append_left (by omega)]
     ·rw [if_neg hin2,if_neg (by omega)]
section
variable {P:Program} {T:TB}
def loV (env:List (Nat × AV)):Option Operand → Int → Option Int
 | none,d => some d
 | some x,_ => match ev env x with
   | some (.c (.sc (.int _ i))) => some i
   | _ => none
theorem tf {ρ:Pl} {env:List (Nat × AV)} {a:Act} (he:EnvR ρ env a.tmps) {d i:Int}:∀ {x:Option Operand},loV env x d = some i → (x.map a.eval = none ∧ i = d) ∨ ∃ k,x.map a.eval = some (.int k i)
 | none,h => by
   cases h
   exact .inl ⟨rfl,rfl⟩
 | some x,h => by
   have h:(match ev env x with
    | some (.c (.sc (.int _ i))) => some i
    | _ => none) = some i:=h
   split at h
   ·rename_i k j hj
    cases h
    exact .inr ⟨k,congrArg some (fy (bq he hj))⟩
   ·cases h
theorem nx {t e:TypeId} (hu:P.underlying t = some (.slice e)) {sz:Nat} (w:World) (hsz:∀ w,(sizeOf e).run P w = .ok sz w) (A:Option Addr) (n c l h:Nat) (lo hi:Option Value) (hlo:(lo = none ∧ (l:Int) = 0) ∨ ∃ k,lo = some (.int k l)) (hhi:(hi = none ∧ (h:Int) = n) ∨ ∃ k,hi = some (.int k h)) (h1:l ≤ h) (h2:h ≤ c) (h3:n ≤ c) :
  (Instr.sliceAt t (.slice A n c) lo hi none).run P w = .ok (.slice (if c = l then A else A.map (·.add (l * sz))) (h - l) (c - l)) w:=by
 have e1:∀ (k:IntKind) (i y:Nat) code w,i ≤ y → (Instr.sliceBound (.int k i) y code).run P w = .ok i w:=fun k i y code w hi => by
  have h5:(i:Int) ≤ y:=by omega
  simp [Instr.sliceBound,asIntOf,h5]
 rcases hlo with ⟨rfl,hl⟩ | ⟨k,rfl⟩
 ·have hl:l = 0:=by omega
  subst hl
  rcases hhi with ⟨rfl,hh⟩ | ⟨k',rfl⟩
  ·have hh:h = n:=by omega
   subst hh
   simp [Instr.sliceAt,cO hu,Instr.slice,Instr.sliceBounds,hsz]
  ·simp [Instr.sliceAt,cO hu,Instr.slice,Instr.sliceBounds,hsz,e1 k' h c _ _ (by omega)]
 ·rcases hhi with ⟨rfl,hh⟩ | ⟨k',rfl⟩
  ·have hh:h = n:=by omega
   subst hh
   simp [Instr.sliceAt,cO hu,Instr.slice,Instr.sliceBounds,hsz,e1 k l h _ _ h1]
  ·simp [Instr.sliceAt,cO hu,Instr.slice,Instr.sliceBounds,hsz,e1 k' h c _ _ (by omega),e1 k l h _ _ h1]
theorem wM (hT:TOk P T) {st:St} {dst:Option Tmp} {t e:TypeId} {x:Operand} {lo hi:Option Operand} {ty:TypeId} {pos:String} {af:Array Edge} {g:Option (Nat × Bool)} {o s n:Nat} {ob:AO} {l h:Int} {ti te:TI} (hx:ev st.env x = some (.c (.row o s n)))
  (ht:tlk t T = some ti) (hs:ti.d = .slice e) (hte:tlk e T = some te) (ho:st.h[o]? = some (some ob)) (hsz:te.size = ob.sz) (hl:loV st.env lo 0 = some l) (hh:loV st.env hi n = some h) (h0:0 ≤ l) (h1:l ≤ h) (h2:h ≤ n) :
  OpP P ⟨dst,.slice t x lo hi none,ty,pos,af,g⟩ st (.c (.row o (s + l.toNat) (h.toNat - l.toNat))):=fun Γ ρ a w0 hr => by
 obtain ⟨sl,k1,k2⟩:=hr.holds.obj o ob ho
 obtain ⟨sl',e1,e2,e3⟩:RowR ρ o s n (a.eval x):=bq hr.env hx
 have:sl = sl':=by rw [k1] at e1;exact Option.some.inj e1
 subst this
 have hu:P.underlying t = some (.slice e):=by have:=bO hT ht;rw [hs] at this;exact this
 have hlo:=tf hr.env hl
 have hhi:=tf hr.env hh
 obtain ⟨ln,rfl⟩:=Int.eq_ofNat_of_zero_le h0
 obtain ⟨hn,rfl⟩:=Int.eq_ofNat_of_zero_le (Int.le_trans h0 h1)
 rw [Int.toNat_natCast,Int.toNat_natCast]
 have key:∀ (A:Option Addr) (c:Nat),n ≤ c → a.eval x = .slice A n c → ∀ w,(execOp a.eval ⟨dst,.slice t x lo hi none,ty,pos,af,g⟩).run P w = .ok (.value (.slice (if c = ln then A else A.map (·.add (ln * te.size))) (hn - ln) (c - ln))) w:=by
  intro A c hc hA w
  have:=nx (P:=P) hu w (cN hT hte) A n c ln hn (lo.map a.eval) (hi.map a.eval) hlo hhi (by omega) (by omega) hc
  unfold execOp
  simp only [Option.map_none,hA,Sem.run_bind,this,Result.andThen_ok,Sem.run_pure]
 rcases e3 with ⟨cc,e3,hcc,hro⟩ | ⟨rfl,hro,A,c,e3,hc0⟩
 ·refine ⟨_,⟨sl,k1,by omega,?_⟩,key _ _ hcc e3⟩
  by_cases hc:cc = ln
  ·rw [if_pos hc]
   have hz:hn - ln = 0:=by omega
   rw [hz]
   by_cases hp:0 < s + ln
   ·exact .inr ⟨rfl,.inl hp,_,_,rfl,fun h => by omega⟩
   ·left
    have hs0:s = 0:=by omega
    have hl0:ln = 0:=by omega
    subst hs0;subst hl0
    refine ⟨cc - 0,?_,by omega,fun h => by rw [hro h];omega⟩
    cases sl.a <;> simp [Addr.add]
  ·left
   rw [if_neg hc]
   refine ⟨cc - ln,?_,by omega,fun h => by rw [hro h];omega⟩
   rw [hsz,← k2.sz]
   cases sl.a with
   | none => rfl
   | some ad => simp only [Option.map_some,iq,← Nat.add_mul]
 ·have hl0:ln = 0:=by omega
  have hn0:hn = 0:=by omega
  subst hl0;subst hn0
  refine ⟨_,⟨sl,k1,by omega,.inr ⟨rfl,?_,_,_,rfl,fun h1 h2 => by have:=hc0 (by omega) h2;omega⟩⟩,key A c (by omega) e3⟩
  rcases hro with h | h
  ·exact .inl (by omega)
  ·exact .inr h
def bsA:Nat → List (Nat × AV) → Option (List (List Value))
 | _,[] => some []
 | k,(i,v) :: r => match Nat.beq i k,jy v with
   | true,some cs => match El.put.plain cs,bsA (k + 1) r with
     | some vs,some L => some (vs :: L)
     | _,_ => none
   | _,_ => none
theorem vP {ρ:Pl} {cs:List AC} {vs us:List Value} (h:El.put.plain cs = some vs) (hr:All2 (AC.R ρ) cs us):us = vs:=by
 have:=kz h
 subst this
 clear h
 induction vs generalizing us with
 | nil => cases us with
   | nil => rfl
   | cons => exact hr.elim
 | cons v vs ih => cases us with
   | nil => exact hr.elim
   | cons u us => rw [ih hr.2,hr.1.1]
theorem AI {ρ:Pl} {sz:Nat}:∀ {k:Nat} {ps:List (Nat × AV)} {qs:List (Nat × Value)} {L:List (List Value)},bsA k ps = some L → (∀ c ∈ L,c.length = sz) → All2 (fun p q => p.1 = q.1 ∧ p.2.R ρ q.2) ps qs → ∃ vs:List Value,qs = vs.mapIdx (fun i v => (k + i,v)) ∧ All2 (fun c (v:Value) => v.cells.toList = c ∧ c.length = sz) L vs
 | k,[],[],L,h,_,_ => by
   cases h
   exact ⟨[],rfl,trivial⟩
 | k,(i,v) :: ps,(j,u) :: qs,L,h,hL,hq => by
   unfold bsA at h
   split at h
   ·rename_i cs hb hc
    split at h
    ·rename_i vs0 L' hp hrec
     cases h
     have hik:i = k:=Nat.eq_of_beq_eq_true hb
     obtain ⟨⟨q1,q2⟩,q3⟩:=hq
     have q1:i = j:=q1
     obtain ⟨vs,h1,h2⟩:=AI hrec (fun c hc => hL c (by simp [hc])) q3
     refine ⟨u :: vs,?_,⟨?_,hL _ (by simp)⟩,h2⟩
     ·rw [List.mapIdx_cons,h1,← q1,hik]
      congr 1
      apply List.ext_getElem?
      intro x
      simp only [List.getElem?_mapIdx]
      cases vs[x]? with
      | none => rfl
      | some y => simp;omega
     ·exact vP hp (sH hc q2).1
    ·cases h
   ·cases h
theorem Ae (hT:TOk P T) {st:St} {dst:Option Tmp} {t e:TypeId} {len:Nat} {parts:Array (Nat × Operand)} {ty:TypeId} {pos:String} {af:Array Edge} {g:Option (Nat × Bool)} {ti te:TI} {ps:List (Nat × AV)} {L:List (List Value)} (hd:st.fits dst = true)
  (ht:tlk t T = some ti) (hs:ti.d = .slice e) (hte:tlk e T = some te) (hps:evp st.env parts.toList = some ps) (hL:bsA 0 ps = some L) (hll:L.length = len) (hsz:L.all (fun c => Nat.beq c.length te.size) = true) (hz:0 < te.size) (hb:len * te.size ≤ 16777216) :
  OpQ P ⟨dst,.buildSlice t len parts,ty,pos,af,g⟩ st (fun st' => st' = ({ st with h:=st.h ++ [some ⟨true,e,te.size,.fl L⟩] }:St).put dst (.c (.row st.h.length 0 len))):=fun Γ ρ a w hr K' Q' hk => by
 have hu:P.underlying t = some (.slice e):=by have:=bO hT ht;rw [hs] at this;exact this
 have hLs:∀ c ∈ L,c.length = te.size:=fun c hc => Nat.eq_of_beq_eq_true (List.all_eq_true.1 hsz c hc)
 have hq:=xK hr.env hps
 obtain ⟨vs,h1,h2⟩:=AI hL hLs hq
 have hF:gv te.size L:=fun c hc => ⟨hLs c hc,fun u hu' => by
  obtain ⟨i,hi⟩:=List.getElem?_of_mem hc
  obtain ⟨v,hv,hv2,_⟩:=h2.get hi
  have hone:∀ p ∈ ps,∀ cs,jy p.2 = some cs → ∀ vs0,El.put.plain cs = some vs0 → ∀ u ∈ vs0,u.oneCell' = true:=fun p hp cs hcs vs0 hvs0 u hu0 => by
   obtain ⟨j,hj⟩:=List.getElem?_of_mem hp
   obtain ⟨q,_,_,q2⟩:=hq.get hj
   have h3:=(sH hcs q2).1
   rw [vP hvs0 h3] at h3
   obtain ⟨jj,hjj⟩:=List.getElem?_of_mem hu0
   have:=kz hvs0
   subst this
   obtain ⟨y,hy1,hy2⟩:=h3.get (i:=jj) (x:=.sc u) (by rw [List.getElem?_map,hjj];rfl)
   exact hy2.2
  have hmem:∀ (k:Nat) (ps':List (Nat × AV)) (L':List (List Value)),(∀ p ∈ ps',p ∈ ps) → bsA k ps' = some L' → ∀ c ∈ L',∀ u ∈ c,u.oneCell' = true:=by
   intro k ps'
   induction ps' generalizing k with
   | nil => intro L' _ h;cases h;intro c hc;simp at hc
   | cons p ps' ih =>
     intro L' hsub h
     obtain ⟨i,v⟩:=p
     unfold bsA at h
     split at h
     ·rename_i cs hb hc
      split at h
      ·rename_i vs0 L2 hp hrec
       cases h
       intro c hc2
       rcases List.mem_cons.1 hc2 with rfl | hc2
       ·exact hone (i,v) (hsub _ (by simp)) cs hc _ hp
       ·exact ih (k + 1) L2 (fun p hp => hsub p (by simp [hp])) hrec c hc2
      ·cases h
     ·cases h
  exact hmem 0 ps L (fun _ h => h) hL c hc u hu'⟩
 obtain ⟨iz,z,i1,i2,i3,i4,i5⟩:=(hT e te hte).info
 obtain ⟨C,hC⟩:∃ C:Array Value,C = (Array.range (len * te.size)).map (fun i => z.cells[i % z.cells.size]!):=⟨_,rfl⟩
 have hCs:C.size = len * te.size:=by rw [hC];simp
 obtain ⟨r,f1,f2,f3⟩:=sS hz L vs 0 C h2 (by rw [hCs,hll,Nat.zero_add];exact Nat.le_refl _)
 have hrl:r.toList = L.flatten:=by
  apply List.ext_getElem?
  intro k
  rw [Array.getElem?_toList,f3]
  simp only [Nat.zero_mul,Nat.zero_le,true_and,Nat.zero_add,Nat.sub_zero]
  by_cases hk':k < L.length * te.size
  ·rw [if_pos hk']
  ·rw [if_neg hk',List.getElem?_eq_none (by rw [cq hLs];omega),Array.getElem?_eq_none (by rw [hCs,← hll];omega)]
 have hrun:(execOp a.eval ⟨dst,.buildSlice t len parts,ty,pos,af,g⟩).run P w = .ok (.value (.slice (some ⟨w.heap.size,0,none⟩) len len)) (w.alloc (.cells r e)):=by
  have h7:(parts.map (fun (i,x) => (i,a.eval x))).toList = parts.toList.map (fun p => (p.1,a.eval p.2)):=by simp
  have hnb:¬ (len * te.size > 2 ^ 24):=by omega
  have hfill:Instr.fill (fun i => some (i * te.size,te.size)) C (parts.toList.map (fun p => (p.1,a.eval p.2))) = some r:=by
   rw [h1]
   exact f1
  unfold execOp
  by_cases hl0:len * te.size = 0
  ·have hC0:C = #[]:=Array.eq_empty_of_size_eq_zero (by rw [hCs,hl0])
   rw [hC0] at hfill
   simp only [Instr.buildSlice,Sem.run_bind,cO hu,Result.andThen_ok,cN hT hte,Sem.run_ite,hl0,if_true,Sem.run_pure]
   simp [hfill,newRow,Array.range_zero']
  ·simp only [Instr.buildSlice,Sem.run_bind,cO hu,Result.andThen_ok,cN hT hte,Sem.run_ite,hnb,if_false,hl0,Sem.run_pure,zeroValue,typeInfo,run_program,i1,i4]
   rw [hC] at hfill
   simp [hfill,newRow]
 unfold Oper.wp
 rw [hrun]
 have hob:ObjH (ρ ++ [⟨some ⟨w.heap.size,0,none⟩,len,te.size,false⟩]) ⟨some ⟨w.heap.size,0,none⟩,len,te.size,false⟩ ⟨true,e,te.size,.fl L⟩ (w.alloc (.cells r e)):=by
  refine ju (heap_alloc_new w _) (by rw [f2,hCs]) hF (by omega) ?_ hz ?_
  ·have:len * 1 ≤ len * te.size:=Nat.mul_le_mul_left _ hz
   omega
  ·rw [hrl,← cq hLs,List.take_length]
 have hH:=hr.holds.alloc hr.len r e _ _ rfl hob
 refine hk _ _ _ _ rfl (hr.put _ dst hd _ _ (Ext.append _ _) (by simp [hr.len]) hH ⟨_,by rw [← hr.len];exact bA _ _,by simp,.inl ⟨len,by simp [Addr.add],Nat.le_refl _,fun _ => by simp⟩⟩) (Ext.append _ _) (lW w _)
end
end
end Go.Proofs.YtgehbhkfehmdkaaGreat.Sh
