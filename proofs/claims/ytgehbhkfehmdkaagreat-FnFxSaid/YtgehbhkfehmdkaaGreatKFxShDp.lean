/- Rows whose elements bear rows: what stands at rows that nobody writes. No condition. -/
import Derived.Test.YtgehbhkfehmdkaaGreatKFxShBo
set_option linter.unusedSimpArgs false
set_option linter.unusedVariables false
namespace Go.Proofs.YtgehbhkfehmdkaaGreat.Sh
section
open Go.RowKit Go.Proofs.YtgehbhkfehmdkaaGreatW
theorem Holds.moreF {Γ:Ctx} {ρ:Pl} {h:AH} {w:World} (hH:Holds Γ ρ h w) (hl:ρ.length = h.length) {sl:Slot} {ob:AO} (hob:ObjH (ρ ++ [sl]) sl ob w)
  {fz:Nat → Prop} (hF:Frz Γ ρ h w fz) (hw:ob.own = false) (hb:sl.blk = none ∨ ∃ g,sl.blk = some g ∧ fz g) (hnd:ob.el.isD = false:=by rfl):Holds Γ (ρ ++ [sl]) (h ++ [some ob]) w:=by
 have hsl:∀ (o:Nat) ob',(h ++ [some ob])[o]? = some (some ob') → (h[o]? = some (some ob') ∧ o < h.length) ∨ (o = h.length ∧ ob' = ob):=by
  intro o ob' ho
  rw [List.getElem?_append] at ho
  split at ho
  ·rename_i hlt
   exact .inl ⟨ho,hlt⟩
  ·rename_i hge
   have h1:=(List.getElem?_eq_some_iff.1 ho).1
   simp at h1
   have:o - h.length = 0:=by omega
   rw [this] at ho
   exact .inr ⟨by omega,by simpa using ho.symm⟩
 have hpl:∀ (o:Nat) sl',o < h.length → (ρ ++ [sl])[o]? = some sl' → ρ[o]? = some sl':=fun o sl' ho hs => by
  rwa [List.getElem?_append_left (by omega)] at hs
 have hpe:∀ sl',(ρ ++ [sl])[h.length]? = some sl' → sl' = sl:=fun sl' hs => by
  rw [← hl] at hs
  simpa using hs.symm
 refine ⟨hH.fr,fun o ob' ho => ?_,fun o ob' sl' g ho hown hs hg => ?_,fun o ob' sl' g ho hs hg => ?_,?_⟩
 ·rcases hsl o ob' ho with ⟨h1,h2⟩ | ⟨rfl,rfl⟩
  ·obtain ⟨s1,h3,h4⟩:=hH.obj o ob' h1
   exact ⟨s1,Ext.append _ _ _ _ h3,h4.ext (Ext.append _ _)⟩
  ·exact ⟨sl,by rw [← hl];simp,hob⟩
 ·rcases hsl o ob' ho with ⟨h1,h2⟩ | ⟨rfl,rfl⟩
  ·have hs:=hpl o sl' h2 hs
   obtain ⟨h3,h4⟩:=hH.sep o ob' sl' g h1 hown hs hg
   refine ⟨h3,fun o2 ob2 sl2 ho2 hne hs2 => ?_⟩
   rcases hsl o2 ob2 ho2 with ⟨k1,k2⟩ | ⟨rfl,rfl⟩
   ·exact h4 o2 ob2 sl2 k1 hne (hpl o2 sl2 k2 hs2)
   ·have:=hpe sl2 hs2
    subst this
    rcases hb with hb | ⟨g2,k1,k2⟩
    ·rw [hb]
     simp
    ·rw [k1]
     intro e
     have e:=Option.some.inj e
     subst e
     exact hF.sep o ob' sl' g2 h1 hown (hpl o sl' h2 hs) hg k2
  ·have:=hpe sl' hs
   rw [hown] at hw
   cases hw
 ·rcases hsl o ob' ho with ⟨h1,h2⟩ | ⟨rfl,rfl⟩
  ·exact hH.src o ob' sl' g h1 (hpl o sl' h2 hs) hg
  ·have:=hpe sl' hs
   subst this
   rcases hb with hb | ⟨g2,k1,k2⟩
   ·rw [hb] at hg
    cases hg
   ·rw [k1] at hg
    have e:=Option.some.inj hg
    subst e
    exact hF.src g2 k2
 ·refine ⟨fz,hF.base,hF.lt,hF.src,fun o ob' sl' g ho hown hs hg => ?_,fun o own ty sz xs ho => ?_⟩
  ·rcases hsl o ob' ho with ⟨h1,h2⟩ | ⟨rfl,rfl⟩
   ·exact hF.sep o ob' sl' g h1 hown (hpl o sl' h2 hs) hg
   ·have:=hpe sl' hs
    rw [hown] at hw
    cases hw
  ·rcases hsl o _ ho with ⟨h1,h2⟩ | ⟨h1,h2⟩
   ·exact hF.deep o own ty sz xs h1
   ·rw [← h2] at hnd
    cases hnd
def dpO (ds:List DF):Option AO:=some ⟨false,0,1,.dp ds⟩
theorem Holds.setD {Γ:Ctx} {ρ:Pl} {h:AH} {w:World} (hH:Holds Γ ρ h w) {o:Nat} {el:El} (ho:h[o]? = some (some ⟨false,0,1,el⟩)) {fz:Nat → Prop} (hF:Frz Γ ρ h w fz) {ds:List DF} (hD:DeepH fz ds w):Holds Γ ρ (h.set o (dpO ds)) w:=by
 have hlt:o < h.length:=(List.getElem?_eq_some_iff.1 ho).1
 have hget:∀ (i:Nat) ob,(h.set o (dpO ds))[i]? = some (some ob) → (i = o ∧ ob = ⟨false,0,1,.dp ds⟩) ∨ (i ≠ o ∧ h[i]? = some (some ob)):=fun i ob hi => by
  by_cases e:o = i
  ·subst e
   rw [List.getElem?_set_self hlt] at hi
   exact .inl ⟨rfl,by simpa [dpO] using hi.symm⟩
  ·rw [List.getElem?_set_ne e] at hi
   exact .inr ⟨fun h => e h.symm,hi⟩
 refine ⟨hH.fr,fun i ob hi => ?_,fun i ob sl g hi hown hs hg => ?_,fun i ob sl g hi hs hg => ?_,fz,hF.base,hF.lt,hF.src,fun i ob sl g hi hown hs hg => ?_,fun i own ty sz xs hi => ?_⟩
 ·rcases hget i ob hi with ⟨rfl,rfl⟩ | ⟨h1,h2⟩
  ·obtain ⟨sl,k1,k2⟩:=hH.obj i _ ho
   exact ⟨sl,k1,k2.sz,k2.pos,Nat.zero_le _,k2.max,k2.lt,k2.nil,fun j cs hj => (by cases hj),fun h => (by cases h)⟩
  ·exact hH.obj i ob h2
 ·rcases hget i ob hi with ⟨rfl,rfl⟩ | ⟨h1,h2⟩
  ·cases hown
  ·obtain ⟨k1,k2⟩:=hH.sep i ob sl g h2 hown hs hg
   refine ⟨k1,fun j ob' sl' hj hne hs' => ?_⟩
   rcases hget j ob' hj with ⟨rfl,rfl⟩ | ⟨h3,h4⟩
   ·exact k2 j _ sl' ho hne hs'
   ·exact k2 j ob' sl' h4 hne hs'
 ·rcases hget i ob hi with ⟨rfl,rfl⟩ | ⟨h1,h2⟩
  ·exact hH.src i _ sl g ho hs hg
  ·exact hH.src i ob sl g h2 hs hg
 ·rcases hget i ob hi with ⟨rfl,rfl⟩ | ⟨h1,h2⟩
  ·cases hown
  ·exact hF.sep i ob sl g h2 hown hs hg
 ·rcases hget i _ hi with ⟨rfl,e⟩ | ⟨h1,h2⟩
  ·cases e
   exact hD
  ·exact hF.deep i own ty sz xs h2
theorem Holds.frz {Γ:Ctx} {ρ:Pl} {h:AH} {w:World} (hH:Holds Γ ρ h w) {o:Nat} {own:Bool} {ty k:Nat} {xs:List (List Value)} {v:Value} (ho:h[o]? = some (some ⟨own,ty,k,.fl xs⟩)) (hv:RowR ρ o 0 xs.length v) {fz:Nat → Prop} (hF:Frz Γ ρ h w fz) :
  ∃ fz':Nat → Prop,(∀ g,fz g → fz' g) ∧ Holds Γ ρ (h.set o (some ⟨false,ty,k,.fl xs⟩)) w ∧ Frz Γ ρ (h.set o (some ⟨false,ty,k,.fl xs⟩)) w fz' ∧ rwR fz' w (v,k,xs):=by
 obtain ⟨sl,k1,k2⟩:=hH.obj o _ ho
 have hlt:o < h.length:=(List.getElem?_eq_some_iff.1 ho).1
 have hget:∀ (i:Nat) ob,(h.set o (some ⟨false,ty,k,.fl xs⟩))[i]? = some (some ob) → ∃ oo b,h[i]? = some (some oo) ∧ ob = oo.view b ∧ (i = o → b = false):=fun i ob hi => by
  by_cases e:o = i
  ·subst e
   rw [List.getElem?_set_self hlt] at hi
   cases hi
   exact ⟨_,false,ho,by simp [AO.view],fun _ => rfl⟩
  ·rw [List.getElem?_set_ne e] at hi
   exact ⟨ob,true,hi,by simp [AO.view],fun h => (e h.symm).elim⟩
 have hH':Holds Γ ρ (h.set o (some ⟨false,ty,k,.fl xs⟩)) w:=hH.view fun i ob hi => by
  obtain ⟨oo,b,h1,h2,_⟩:=hget i ob hi
  exact ⟨oo,b,h1,h2⟩
 have hown:∀ {i:Nat} {ob:AO},(h.set o (some ⟨false,ty,k,.fl xs⟩))[i]? = some (some ob) → ob.own = true → i ≠ o ∧ h[i]? = some (some ob):=fun {i ob} hi hw => by
  by_cases e:o = i
  ·subst e
   rw [List.getElem?_set_self hlt] at hi
   cases hi
   cases hw
  ·rw [List.getElem?_set_ne e] at hi
   exact ⟨fun h => e h.symm,hi⟩
 refine ⟨fun g => fz g ∨ sl.blk = some g,fun g hg => .inl hg,hH',⟨fun g hg => .inl (hF.base g hg),fun g hg => ?_,fun g hg => ?_,fun i ob s1 g hi hw hs hg hf => ?_,fun i own2 ty2 sz2 ds hi => ?_⟩,?_⟩
 ·rcases hg with hg | hg
  ·exact hF.lt g hg
  ·exact k2.blk_lt hg
 ·rcases hg with hg | hg
  ·exact hF.src g hg
  ·exact hH.src o _ sl g ho k1 hg
 ·obtain ⟨h1,h2⟩:=hown hi hw
  rcases hf with hf | hf
  ·exact hF.sep i ob s1 g h2 hw hs hg hf
  ·exact (hH.sep i ob s1 g h2 hw hs hg).2 o _ sl ho (fun e => h1 e.symm) k1 hf
 ·obtain ⟨oo,b,h1,h2,_⟩:=hget i _ hi
  obtain ⟨own3,ty3,sz3,el3⟩:=oo
  have e1:El.dp ds = el3:=congrArg AO.el h2
  subst e1
  exact (hF.deep i _ _ _ _ h1).move (Nat.le_refl _) (fun _ q => .inl q) (fun _ _ => rfl)
 ·have hmx:xs.length ≤ 9223372036854775807:=Nat.le_trans (show xs.length ≤ sl.cap from k2.len) k2.max
  obtain ⟨sl',e1,e2,e3⟩:=hv
  have:sl = sl':=by rw [k1] at e1;exact Option.some.inj e1
  subst this
  rcases e3 with ⟨c,e3,e4,_⟩ | ⟨e3,_,A,c,e4,_⟩
  ·refine ⟨k2.pos,hmx,_,c,e3,e4,fun i cs hi => ?_⟩
   obtain ⟨q1,a,q2,q3⟩:=k2.cell i (cs.map .sc) (by show (xs[i]?).map _ = _;rw [hi];rfl)
   refine ⟨by rw [List.length_map] at q1;exact q1,a.add 0,by rw [q2,Nat.zero_mul];rfl,.inr (by rw [add_block];simp [Slot.blk,q2]),by rw [add_block];exact k2.lt a q2,fun j x hx => ?_⟩
   obtain ⟨u,q4,q5⟩:=q3 j (.sc x) (by rw [List.getElem?_map,hx];rfl)
   obtain ⟨q5,q6⟩:=q5
   subst q5
   refine ⟨?_,q6⟩
   rw [add_zero']
   exact q4
  ·have hx:xs = []:=List.length_eq_zero_iff.1 e3
   subst hx
   exact ⟨k2.pos,hmx,A,c,e4,Nat.zero_le _,fun i cs hi => by cases hi⟩
structure CmdV where
 k:Int
 A:Option Addr
 n:Nat
 c:Nat
instance:Enc CmdV where
 sz:=2
 enc x:=[.int .i64 x.k,.slice x.A x.n x.c]
 dec:=fun vs => match vs with
  | [.int .i64 k,.slice A n c] => some ⟨k,A,n,c⟩
  | _ => none
 z:=⟨0,none,0,0⟩
 len _:=rfl
 pos:=by decide
 one _:=rfl
 decE {vs x} h:=by
  split at h
  ·cases h;rfl
  ·cases h
def dfI (v:Value) (a:List Int):DF:=(v,1,a.map Enc.enc)
def CmdV.val (x:CmdV):Value:=.slice x.A x.n x.c
def Bears (xs:List CmdV) (D:List DF):Prop:=∀ x ∈ xs,∃ a:List Int,dfI x.val a ∈ D
noncomputable def gf (D:List DF) (x:CmdV):List Int:=@dite _ (∃ a:List Int,dfI x.val a ∈ D) (Classical.propDecidable _) (fun h => Classical.choose h) (fun _ => [])
theorem vF {D:List DF} {x:CmdV} (h:∃ a:List Int,dfI x.val a ∈ D):dfI x.val (gf D x) ∈ D:=by
 unfold gf
 rw [dif_pos h]
 exact Classical.choose_spec h
theorem Bears.nil {D:List DF}:Bears [] D:=fun x hx => by simp at hx
theorem Bears.more {xs:List CmdV} {D D':List DF} (h:Bears xs D) (hs:∀ d ∈ D,d ∈ D'):Bears xs D':=fun x hx => by
 obtain ⟨a,ha⟩:=h x hx
 exact ⟨a,hs _ ha⟩
theorem Bears.cons {xs:List CmdV} {D:List DF} {d:DF} (h:Bears xs D):Bears xs (d :: D):=h.more fun _ hd => List.mem_cons_of_mem _ hd
theorem Bears.append {xs ys:List CmdV} {D:List DF} (h:Bears xs D) (h':Bears ys D):Bears (xs ++ ys) D:=fun x hx => by
 rcases List.mem_append.1 hx with hx | hx
 ·exact h x hx
 ·exact h' x hx
theorem Bears.one {D:List DF} {k:Int} {A:Option Addr} {n c:Nat} {a:List Int} (h:dfI (.slice A n c) a ∈ D) {ys:List CmdV} (hy:Bears ys D):Bears (⟨k,A,n,c⟩ :: ys) D:=fun x hx => by
 rcases List.mem_cons.1 hx with rfl | hx
 ·exact ⟨a,h⟩
 ·exact hy x hx
theorem Bears.rd {xs:List CmdV} {D:List DF} (h:Bears xs D) {i:Int} (hi:0 ≤ i ∧ i < xs.length):∃ a:List Int,dfI (rd xs i).val a ∈ D:=h _ (by
 unfold Sh.rd
 rw [List.getD_eq_getElem?_getD,List.getElem?_eq_getElem (by omega)]
 exact List.getElem_mem _)
theorem Bears.part {xs ys:List CmdV} {D:List DF} (h:Bears xs D) (hs:∀ x ∈ ys,x ∈ xs):Bears ys D:=fun x hx => h x (hs x hx)
section
variable {P:Program} {T:TB} {ops:Array Oper} {Q:Exit → St → Prop} {h1:AH} {k:Sk} {ks ks':List Sk} {l:List Oper} {N0 k0 d0:Nat} {e0:List (Nat × AV)} {h0:AH} {op:Op} {ty:TypeId} {pos:String} {af:Array Edge} {g:Option (Nat × Bool)} {st:St}
theorem qY {ρ:Pl} {tmps:Array Value} (he:EnvR ρ e0 tmps) {t q:Nat} {cs:List AC} {y:AC} {arr:Array Value} {v:Value} (h1:tmps[t]? = some (.agg arr)) (h3:All2 (AC.R ρ) cs arr.toList) (hq:arr[q]? = some v) (hy:y.R ρ v):EnvR ρ ((t,.agg (cs.set q y)) :: e0) tmps:=fun u x hu => by
 by_cases e:t = u
 ·subst e
  rw [d9] at hu
  cases hu
  refine ⟨_,h1,arr,rfl,All2.of_get (by rw [List.length_set];exact h3.length) (fun i x z hi hz => ?_)⟩
  by_cases e:q = i
  ·subst e
   have hq':q < cs.length:=by have:=(List.getElem?_eq_some_iff.1 hi).1;simpa using this
   rw [List.getElem?_set_self hq'] at hi
   cases hi
   rw [Array.getElem?_toList,hq] at hz
   cases hz
   exact hy
  ·rw [List.getElem?_set_ne e] at hi
   obtain ⟨z',k1,k2⟩:=h3.get hi
   rw [hz] at k1
   cases k1
   exact k2
 ·rw [cN e] at hu
  exact he u x hu
theorem tV {st:St}:Ghost st ⟨st.n,st.k,st.env,st.h ++ [dpO []]⟩:=fun Γ ρ a w hr => by
 have h1:Holds Γ (ρ ++ [⟨none,0,1,true⟩]) (st.h ++ [some ⟨false,0,1,.fl []⟩]) w:=hr.holds.more hr.len ⟨rfl,by decide,Nat.le_refl _,by decide,fun a h => (by cases h),fun _ => rfl,fun i cs hi => (by cases hi),fun h => (by cases h)⟩ (.inl rfl)
 obtain ⟨fz,hF⟩:=h1.dp
 have h2:=h1.setD (o:=st.h.length) (el:=.fl []) (bc _ _) hF (ds:=[]) (fun d hd => by simp at hd)
 refine ⟨ρ ++ [⟨none,0,1,true⟩],Ext.append _ _,⟨?_,by simp [hr.len],hr.klen,hr.args.trans (Ext.append _ _),hr.env.ext (Ext.append _ _),hr.defers,hr.size⟩⟩
 rwa [show (st.h ++ [some (⟨false,0,1,.fl []⟩:AO)]).set st.h.length (dpO []) = st.h ++ [dpO []] from by rw [List.set_append_right _ _ (Nat.le_refl _),Nat.sub_self];rfl] at h2
theorem wdp {c:Code} {N k n:Nat} {e:List (Nat × AV)} {h h':AH} (hh:iC h (dpO []) = some (n,h')) (hn:WW P c Q ⟨N,k,e,h'⟩):WW P c Q ⟨N,k,e,h⟩:=by
 obtain ⟨h2,h3⟩:=dA hh
 subst h2
 exact zQ (tV (st:=⟨N,k,e,h⟩)) hn
theorem gfz {st:St} {t q od o ty':Nat} {own:Bool} {cs:List AC} {xs:List (List Value)} {kk:Nat} {D:List DF} (hx:lk t st.env = some (.agg cs)) (hq:cs[q]? = some (.row o 0 xs.length)) (ho:st.h[o]? = some (some ⟨own,ty',kk,.fl xs⟩)) (hod:st.h[od]? = some (dpO D))
  {Γ:Ctx} {ρ:Pl} {a:Act} {w:World} (hr:Rel Γ ρ st a w):∃ A c,Rel Γ ρ ⟨st.n,st.k,(t,.agg (cs.set q (.sc (.slice A xs.length c)))) :: st.env,(st.h.set o (some ⟨false,ty',kk,.fl xs⟩)).set od (dpO ((.slice A xs.length c,kk,xs) :: D))⟩ a w:=by
 obtain ⟨v',e1,arr,e2,e3⟩:=hr.env t _ hx
 obtain ⟨v,e4,e5⟩:=mz e3 hq
 have e5:RowR ρ o 0 xs.length v:=e5
 obtain ⟨fz,hF⟩:=hr.holds.dp
 obtain ⟨fz',f1,f2,f3,f4⟩:=hr.holds.frz ho e5 hF
 obtain ⟨_,_,A,c,f5,_⟩:=id f4
 have f5:v = .slice A xs.length c:=f5
 have hne:o ≠ od:=fun e => by subst e;rw [ho] at hod;cases hod
 have hod':(st.h.set o (some (⟨false,ty',kk,.fl xs⟩:AO)))[od]? = some (some ⟨false,0,1,.dp D⟩):=by rw [List.getElem?_set_ne hne];exact hod
 have f6:=f2.setD hod' f3 (ds:=(v,kk,xs) :: D) (fun d hd => by
  rcases List.mem_cons.1 hd with rfl | hd
  ·exact f4
  ·exact f3.deep od _ _ _ _ hod' d hd)
 subst f5
 subst e2
 exact ⟨A,c,⟨f6,by simp [hr.len],hr.klen,hr.args,qY hr.env e1 e3 e4 ⟨rfl,rfl⟩,hr.defers,hr.size⟩⟩
theorem A4 {K:St → Prop} (hg:∀ Γ ρ a w,Rel Γ ρ st a w → ∃ st' ρ',K st' ∧ Ext ρ ρ' ∧ Rel Γ ρ' st' a w) (h:∀ st',K st' → ZZ P ops Q h1 ks l st'):ZZ P ops Q h1 ks l st:=⟨⟨.ghost hg fun st' hk => (h st' hk).out.out⟩⟩
def fzP (env:List (Nat × AV)):List (Nat × Operand) → Option (Nat × Nat × Nat × List AC)
 | [] => none
 | (_,.tmp t) :: r => match lk t env with
  | some (.agg [a,.row o 0 n]) => some (t,1,o,[a,.row o 0 n])
  | _ => fzP env r
 | _ :: r => fzP env r
def fdp:Nat → AH → Option Nat
 | _,[] => none
 | i,x :: r => match fdp (i + 1) r with
   | some j => some j
   | none => match x with
     | some ⟨_,_,_,.dp _⟩ => lit i
     | _ => none
theorem zfz {t od o q ty':Nat} {own:Bool} {cs:List AC} {xs:List Int} {D:List DF} {d:Option Nat} {len:Nat} {parts:Array (Nat × Operand)} (hp:fzP e0 parts.toList = some (t,q,o,cs)) (hod:fdp 0 h0 = some od) (hx:lk t e0 = some (.agg cs)) (hq:cs[q]? = some (.row o 0 xs.length)) (ho:h0[o]? = some (some ⟨own,ty',1,.fl (xs.map Enc.enc)⟩)) (hd:h0[od]? = some (dpO D))
  (h:∀ A c,∃ cs' h',qe (cs.set q (.sc (.slice A xs.length c))) = some cs' ∧ fH ((h0.set o (some ⟨false,ty',1,.fl (xs.map Enc.enc)⟩)).set od (dpO (dfI (.slice A xs.length c) xs :: D))) = some h' ∧ ZZ P ops Q h1 ks (⟨d,.buildSlice ty len parts,ty,pos,af,g⟩ :: l) ⟨N0,k0,(t,.agg cs') :: e0,h'⟩):ZZ P ops Q h1 ks (⟨d,.buildSlice ty len parts,ty,pos,af,g⟩ :: l) ⟨N0,k0,e0,h0⟩:=by
 refine A4 (K:=fun st' => ∃ A c,st' = ⟨N0,k0,(t,.agg (cs.set q (.sc (.slice A xs.length c)))) :: e0,(h0.set o (some ⟨false,ty',1,.fl (xs.map Enc.enc)⟩)).set od (dpO (dfI (.slice A xs.length c) xs :: D))⟩) (fun Γ ρ a w hr => ?_) (fun st' hk => ?_)
 ·have hl:(xs.map Enc.enc).length = xs.length:=List.length_map ..
  obtain ⟨A,c,h2⟩:=gfz (st:=⟨N0,k0,e0,h0⟩) hx (by rw [hl];exact hq) ho hd hr
  rw [hl] at h2
  exact ⟨_,ρ,⟨A,c,rfl⟩,Ext.refl _,h2⟩
 ·obtain ⟨A,c,rfl⟩:=hk
  obtain ⟨cs',h',e1,e2,h3⟩:=h A c
  rw [iL e1,eY e2]
  exact h3
theorem zD {st:St} {t q od ty':Nat} {cs:List AC} {v:Value} {kk:Nat} {xs:List (List Value)} {D:List DF} (hx:lk t st.env = some (.agg cs)) (hq:cs[q]? = some (.sc v)) (hod:st.h[od]? = some (dpO D)) (hD:(v,kk,xs) ∈ D) :
  Ghost st ⟨st.n,st.k,(t,.agg (cs.set q (.row st.h.length 0 xs.length))) :: st.env,st.h ++ [some ⟨false,ty',kk,.fl xs⟩]⟩:=fun Γ ρ a w hr => by
 obtain ⟨v',e1,arr,e2,e3⟩:=hr.env t _ hx
 obtain ⟨u,e4,e5,_⟩:=mz e3 hq
 subst e5
 subst e2
 obtain ⟨fz,hF⟩:=hr.holds.dp
 obtain ⟨hk0,hmx,A,cc,hv,hcc,h4⟩:=hF.deep od _ _ _ _ hod _ hD
 have hv:u = .slice A xs.length cc:=hv
 subst hv
 have hlast:∀ sN:Slot,(ρ ++ [sN])[st.h.length]? = some sN:=fun sN => by rw [← hr.len];simp
 obtain ⟨sN,hob,hb,hrow⟩:∃ sN:Slot,ObjH (ρ ++ [sN]) sN ⟨false,ty',kk,.fl xs⟩ w ∧ (sN.blk = none ∨ ∃ g,sN.blk = some g ∧ fz g) ∧ RowR (ρ ++ [sN]) st.h.length 0 xs.length (.slice A xs.length cc):=by
  cases xs with
  | nil => exact ⟨⟨none,0,kk,true⟩,⟨rfl,hk0,Nat.le_refl _,hmx,fun a0 ha => (by cases ha),fun _ => rfl,fun j cs hj => (by cases hj),fun h => (by cases h)⟩,.inl rfl,⟨_,hlast _,Nat.le_refl _,.inr ⟨rfl,.inr (.inl rfl),A,cc,rfl,fun _ h => (by cases h)⟩⟩⟩
  | cons y ys =>
    obtain ⟨_,a0,hA,hf0,hlt0,_⟩:=h4 0 y rfl
    subst hA
    refine ⟨⟨some a0,(y :: ys).length,kk,true⟩,⟨rfl,hk0,Nat.le_refl _,hmx,fun a1 ha => (by cases ha;exact hlt0),fun h => (by cases h),fun j cs hj => ?_,fun h => (by cases h)⟩,.inr ⟨a0.block,rfl,hf0⟩,⟨_,hlast _,by rw [Nat.zero_add];exact Nat.le_refl _,.inl ⟨cc,?_,hcc,fun h => (by cases h)⟩⟩⟩
    ·obtain ⟨c,hc1,rfl⟩:=Option.map_eq_some_iff.1 (show ((y :: ys)[j]?).map (·.map AC.sc) = some cs from hj)
     obtain ⟨h5,a1,h6,_,_,h7⟩:=h4 j c hc1
     cases h6
     refine ⟨by rw [List.length_map];exact h5,a0,rfl,fun m z hz => ?_⟩
     rw [List.getElem?_map] at hz
     obtain ⟨z0,hz0,rfl⟩:=Option.map_eq_some_iff.1 hz
     obtain ⟨h8,h9⟩:=h7 m z0 hz0
     exact ⟨z0,h8,rfl,h9⟩
    ·show Go.Value.slice (some a0) _ cc = .slice (some (a0.add (0 * kk))) _ cc
     rw [Nat.zero_mul]
     rfl
 refine ⟨ρ ++ [sN],Ext.append _ _,hr.holds.moreF hr.len hob hF rfl hb,by simp [hr.len],hr.klen,hr.args.trans (Ext.append _ _),?_,hr.defers,hr.size⟩
 exact qY (hr.env.ext (Ext.append _ _)) e1 (All2.imp (fun _ _ => AC.R_ext (Ext.append _ _)) e3) e4 hrow
theorem yO {N k d:Nat} {v u:AV} {e:List (Nat × AV)} {h:AH}:Ghost ⟨N,k,(d,v) :: (d,u) :: e,h⟩ ⟨N,k,(d,v) :: e,h⟩:=fun Γ ρ a w hr => ⟨ρ,Ext.refl _,hr.holds,hr.len,hr.klen,hr.args,fun t x ht => hr.env t x (by
 by_cases q:d = t
 ·subst q
  rw [d9] at ht ⊢
  exact ht
 ·rw [cN q] at ht
  rw [cN q,cN q]
  exact ht),hr.defers,hr.size⟩
theorem A5 (od:Nat) (ty':Nat) (hs0:stK ks = (k,ks')) (hT:TOk P T) {t:TypeId} {x:Operand} {o e nn:Nat} {i:Int} {own:Bool} {xs:List CmdV} {D:List DF} {ti:TI} {h':AH} (hk':qk k = true) (hx:ev e0 x = some (.c (.ptr o i.toNat 0))) (ho:h0[o]? = some (some ⟨own,e,2,.fl (xs.map Enc.enc)⟩)) (hod:h0[od]? = some (dpO D)) (ht:tlk t T = some ti) (hag:ti.agg = true) (hsz:Nat.beq ti.size 2 = true)
  (hb:0 ≤ i ∧ i < xs.length) (hB:Bears xs D) (hh:iC h0 (ro ty' (gf D (rd xs i))) = some (nn,h')) (hg:gd ops ⟨some d0,.load t x,ty,pos,af,g⟩ e0 = some true) (hd:Nat.blt d0 N0 = true)
  (h:ZZ P ops Q h1 ks' l ⟨N0,k0,(d0,.agg [.sc (.int .i64 (rd xs i).k),.row nn 0 (gf D (rd xs i)).length]) :: e0,h'⟩):ZZ P ops Q h1 ks (⟨some d0,.load t x,ty,pos,af,g⟩ :: l) ⟨N0,k0,e0,h0⟩:=⟨by
 rw [aC hs0]
 obtain ⟨h5,h6⟩:=dA hh
 have hi:i.toNat < xs.length:=by omega
 have hrd:xs[i.toNat]? = some (rd xs i):=by
  unfold rd
  rw [List.getD_eq_getElem?_getD,List.getElem?_eq_getElem hi]
  rfl
 refine wle (st:=⟨N0,k0,e0,h0⟩) (dst:=some d0) (own:=own) (e:=e) (sz:=2) (c:=Enc.enc (rd xs i)) (v:=.agg [.sc (.int .i64 (rd xs i).k),.sc (rd xs i).val]) hT (by cases k <;> first | rfl | cases hk') hx ?_ ht (by rw [List.getElem?_map,hrd];rfl) ?_ hg hd ?_
 ·cases k <;> first | exact ho | cases hk'
 ·show ldW ti [.sc (.int .i64 (rd xs i).k),.sc (rd xs i).val] 0 = _
  unfold ldW
  rw [hag,show Nat.beq ti.size [AC.sc (.int .i64 (rd xs i).k),AC.sc (rd xs i).val].length = true from hsz]
  rfl
 ·refine zgh (st:=⟨N0,k0,(d0,.agg [.sc (.int .i64 (rd xs i).k),.sc (rd xs i).val]) :: e0,h0⟩) (zD (t:=d0) (q:=1) (od:=od) (ty':=ty') (d9 ..) rfl hod (vF (hB.rd hb))) ?_
  refine zgh yO ?_
  show WZ P ops Q h1 (gL ks' l) ⟨N0,k0,(d0,.agg [.sc (.int .i64 (rd xs i).k),.row h0.length 0 ((gf D (rd xs i)).map Enc.enc).length]) :: e0,h0 ++ [ro ty' (gf D (rd xs i))]⟩
  rw [h5,List.length_map,h6]
  exact h.out⟩
end
end
section
open Go.RowKit Go.Proofs.YtgehbhkfehmdkaaGreatW
structure FE (P:Program) (f:FuncId) (args:List AV) (hs:AH) (R:AV → AH → Prop):Prop where
 ent:dV P f
 call:ACall P f args hs R
def dps:Bool → AH → List Nat
 | true,h => match fdp 0 h with
   | some i => [i]
   | none => []
 | false,_ => []
section
variable {P:Program} {T:TB} {ops:Array Oper} {Q:Exit → St → Prop} {h1:AH} {k:Sk} {ks ks':List Sk} {l:List Oper} {N0 k0 d0:Nat} {e0:List (Nat × AV)} {h0:AH} {op:Op} {ty:TypeId} {pos:String} {af:Array Edge} {g:Option (Nat × Bool)} {st:St}
theorem df {f:FuncId} {fn:Func} {c:Code} {args:List AV} {hs hs':AH} {R:AV → AH → Prop} {e:List (Nat × AV)} {kk:Nat} (hT:TOk P T) (n:Nat) (rs:List ResultVar) (hf:P.funcs[f]? = some fn) (hname:(fn.name == "runtime.NumGoroutine") = false) (hb:fn.body = some c) (hres:fn.results = rs.toArray) (hn:fn.ntmps = n) (hle:Nat.ble args.length n = true)
  (he:tG uJ args = some e) (hh:fH hs = some hs') (hk:lit hs.length = some kk) (h:WW P c (nS (rsS T rs) R) ⟨n,kk,e,hs'⟩):FE P f args hs R :=
 ⟨mK hf hname (by rw [hb];rfl),ACall.enter n hf hb (pl hT hres) hn (Nat.le_of_ble_eq_true hle) (by
  rw [mL (i:=0) (fun j x hj => by rw [km] at hj;rw [← gQ hj,Nat.zero_add]) he,eS hk]
  rw [← eY hh] at h
  exact h.out)⟩
theorem zce {fo:Operand} {«as»:Array Operand} {ts:Array TypeId} {f:FuncId} {caps:List (Nat × Nat × Nat)} {vals args:List AV} {hs hv:AH} {R:AV → AH → Prop} {m:List Nat} (dd:Bool) (fl:List Bool) (hs0:stK ks = (Sk.l,ks')) (hf:ev e0 fo = some (.c (.fn f caps))) (hev:evs e0 «as».toList = some vals) (hm:fL (fU h0 (vals ++ caps.map bw) ++ dps dd h0) = some m) (hca:gh m (vals ++ caps.map bw) = some args) (hch:gi fl m h0 = some hs) (hvw:fH (vwH m hs h0) = some hv)
  (hargs:args.map (AV.ren (mf m h0.length)) = vals ++ caps.map bw) (hp:bS (mf m h0.length) hs = bN hs (bF m hv)) (hb:cI hs m h0.length = true) (hc:FE P f args hs R)
  (hg:gd ops ⟨some d0,.call { callee:=.value fo,args:=«as»,argTypes:=ts },ty,pos,af,g⟩ e0 = some true) (hd:Nat.blt d0 N0 = true)
  (h:∀ v hs2,R v hs2 → ∃ X' h',fV (v.ren (mf m h0.length)) = some X' ∧ fH (cG (mf m h0.length) m hs hs2 hv) = some h' ∧ ZZ P ops Q h1 ks' l ⟨N0,k0,(d0,X') :: e0,h'⟩):ZZ P ops Q h1 ks (⟨some d0,.call { callee:=.value fo,args:=«as»,argTypes:=ts },ty,pos,af,g⟩ :: l) ⟨N0,k0,e0,h0⟩ :=
 ⟨by
  rw [aC hs0]
  unfold cI at hb
  simp only [Bool.and_eq_true] at hb
  have e1:=eY hvw
  have hlen:hv.length = h0.length:=by rw [← e1,vwH,jA]
  refine zgh (st:=⟨N0,k0,e0,h0⟩) (ik (h':=hv) hlen (fun i ob hi => vm (by rw [e1];exact hi))) ?_
  show WZ P ops Q h1 _ ⟨N0,k0,e0,hv⟩
  rw [← hlen] at hargs hp h hb
  refine vq (st:=⟨N0,k0,e0,hv⟩) (dst:=some d0) (m:=m) hc.call hc.ent hf hev hargs hp (by simp only [Bool.and_eq_true];exact hb.1) hb.2 (fun j i b oo h1 h2 h3 h4 => xe (h:=h0) h1 h2 h3 (by rw [e1];exact h4)) hg hd ?_
  intro v hs2 hR
  obtain ⟨X',h',hX',hh,h⟩:=h v hs2 hR
  have:=h.out
  rw [← iN hX',← eY hh] at this
  exact this⟩
theorem zcg {fo:Operand} {«as»:Array Operand} {ts:Array TypeId} {f:FuncId} {caps:List (Nat × Nat × Nat)} {vals args:List AV} {hs:AH} {R:AV → AH → Prop} {m:List Nat} (fl:List Bool) (hs0:stK ks = (Sk.l,ks')) (hf:ev e0 fo = some (.c (.fn f caps))) (hev:evs e0 «as».toList = some vals) (hm:fL (fU h0 (vals ++ caps.map bw)) = some m) (hca:gh m (vals ++ caps.map bw) = some args) (hch:gi fl m h0 = some hs) 
  (hargs:args.map (AV.ren (mf m h0.length)) = vals ++ caps.map bw) (hp:bS (mf m h0.length) hs = bN hs (bF m h0)) (hb:cI hs m h0.length = true) (hc:FE P f args hs R) (hno:∀ v hs2,R v hs2 → (hs2.drop m.length).all owN = true ∧ hs2.all noD = true)
  (hg:gd ops ⟨some d0,.call { callee:=.value fo,args:=«as»,argTypes:=ts },ty,pos,af,g⟩ e0 = some true) (hd:Nat.blt d0 N0 = true)
  (h:∀ v hs2,R v hs2 → ∃ X' h',fV (v.ren (mf m h0.length)) = some X' ∧ fH (cG (mf m h0.length) m hs hs2 h0) = some h' ∧ ZZ P ops Q h1 ks' l ⟨N0,k0,(d0,X') :: e0,h'⟩):ZZ P ops Q h1 ks (⟨some d0,.call { callee:=.value fo,args:=«as»,argTypes:=ts },ty,pos,af,g⟩ :: l) ⟨N0,k0,e0,h0⟩ :=
 ⟨by
  rw [aC hs0]
  unfold cI at hb
  simp only [Bool.and_eq_true] at hb
  refine yz (st:=⟨N0,k0,e0,h0⟩) (dst:=some d0) (m:=m) hc.call hc.ent hf hev hargs hp (by simp only [Bool.and_eq_true];exact hb.1) hb.2 hno hg hd ?_
  intro v hs2 hR
  obtain ⟨X',h',hX',hh,h⟩:=h v hs2 hR
  have:=h.out
  rw [← iN hX',← eY hh] at this
  exact this⟩
theorem zZ {fo:Operand} {«as»:Array Operand} {ts:Array TypeId} {f:FuncId} {caps:List (Nat × Nat × Nat)} {vals args:List AV} {hs hs2 h':AH} {X X':AV} {m:List Nat} (hs0:stK ks = (k,ks')) (hk':qk k = true) (hf:ev e0 fo = some (.c (.fn f caps))) (hev:evs e0 «as».toList = some vals) (hm:fL (fU h0 (vals ++ caps.map bw) ++ dps true h0) = some m) (hca:gh m (vals ++ caps.map bw) = some args) (hch:gi [] m h0 = some hs)
  (hargs:args.map (AV.ren (mf m h0.length)) = vals ++ caps.map bw) (hp:bS (mf m h0.length) hs = bN hs (bF m h0)) (hb:(cI hs m h0.length && roA hs) = true) (hc:FC P f args hs X hs2)
  (hno:(hs2.drop m.length).all owN = true) (hX':fV (X.ren (mf m h0.length)) = some X') (hh:fH (h0 ++ bS (mf m h0.length) (hs2.drop m.length)) = some h') (hg:gd ops ⟨some d0,.call { callee:=.value fo,args:=«as»,argTypes:=ts },ty,pos,af,g⟩ e0 = some true) (hd:Nat.blt d0 N0 = true)
  (h:ZZ P ops Q h1 ks' l ⟨N0,k0,(d0,X') :: e0,h'⟩):ZZ P ops Q h1 ks (⟨some d0,.call { callee:=.value fo,args:=«as»,argTypes:=ts },ty,pos,af,g⟩ :: l) ⟨N0,k0,e0,h0⟩ :=
 ⟨by
  rw [aC hs0]
  unfold cI roA at hb
  simp only [Bool.and_eq_true] at hb
  refine vp (st:=⟨N0,k0,e0,h0⟩) (dst:=some d0) m hk' hc.call hc.ent hf hev hargs hp (by simp only [Bool.and_eq_true];exact ⟨hb.1.1,hb.2⟩) hb.1.2 (.inl fun v hs' e => by rw [e.2];exact hno) hg hd ?_
  rintro _ _ ⟨rfl,rfl⟩
  have:=h.out
  rw [← iN hX',← eY hh] at this
  exact this⟩
section
variable {rs:List ResultVar} {hs:AH}
theorem cJ {X:AV} {R:AV → AH → Prop} (m:List Nat) (hR:R X hs) (hr:lQ T rs st.env st.h = some (X.ren (mf m st.h.length))) (hl:hs.length = m.length) (ha:m.take st.k = List.range st.k) (hlt:m.all (fun i => Nat.blt i st.h.length) = true) (hn:ndO m hs = true) (hh:bS (mf m st.h.length) hs = bN hs (bF m st.h)):ky (rsS T rs) R st :=
 pK m hR ⟨hr,hl,ha,hlt,hn,hh⟩
end
end
def cu (t o n:Nat) (i h:Int):Option AO:=some ⟨true,t,3,.mx [.row o 0 n,.sc (.int .i64 i),.sc (.int .i64 h)]⟩
theorem xn (x:Int):0 ≤ IntKind.i64.wrap ((BitVec.ofInt IntKind.i64.bits x &&& BitVec.ofInt IntKind.i64.bits 255).toNat:Int) ∧ IntKind.i64.wrap ((BitVec.ofInt IntKind.i64.bits x &&& BitVec.ofInt IntKind.i64.bits 255).toNat:Int) ≤ 255:=by
 have h2:(BitVec.ofInt IntKind.i64.bits 255).toNat = 255:=by decide
 have h3:=@Nat.and_le_right (BitVec.ofInt IntKind.i64.bits x).toNat 255
 rw [BitVec.toNat_and,h2,IntKind.wrap_i64]
 omega
end
end Go.Proofs.YtgehbhkfehmdkaaGreat.Sh
