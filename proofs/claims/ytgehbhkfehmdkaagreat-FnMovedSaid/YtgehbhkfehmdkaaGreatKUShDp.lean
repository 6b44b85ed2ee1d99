/- Rows whose elements bear rows: what stands at rows that nobody writes. No condition. -/
import Derived.Test.YtgehbhkfehmdkaaGreatKUShBo
import Derived.Test.YtgehbhkfehmdkaaGreatKUShV
set_option maxRecDepth 100000
set_option maxHeartbeats 40000000
set_option linter.unusedSimpArgs false
set_option linter.unusedVariables false
namespace Go.Proofs.YtgehbhkfehmdkaaGreat.Sh
section
open Go.RowKit Go.Proofs.YtgehbhkfehmdkaaGreatW
theorem Holds.moreF {Γ:Ctx} {ρ:Pl} {h:AH} {w:World} (hH:Holds Γ ρ h w) (hl:ρ.length = h.length) {sl:Slot} {ob:AO} (hob:ObjH (ρ ++ [sl]) sl ob w)
  {fz:Nat → Prop} (hF:Frz Γ ρ h w fz) (hw:ob.own = false) (hb:sl.blk = none ∨ ∃ g,sl.blk = some g ∧ fz g) (hnd:ob.el.isD = false:=by rfl):Holds Γ (ρ ++ [sl]) (h ++ [some ob]) w:=by
 have hsl:∀ (o:Nat) ob',(h ++ [some ob])[o]? = some (some ob') → (h[o]? = some (some ob') ∧ o < h.length) ∨ (o = h.length ∧ ob' = ob):=by
  intro o ob' ho
  rw [List.getElem?_append] at ho
  split at ho
  ·rename_i hlt
   exact .inl ⟨ho,hlt⟩
  ·rename_i hge
   have h1:=(List.getElem?_eq_some_iff.1 ho).1
   simp at h1
   have:o - h.length = 0:=by omega
   rw [this] at ho
   exact .inr ⟨by omega,by simpa using ho.symm⟩
 have hpl:∀ (o:Nat) sl',o < h.length → (ρ ++ [sl])[o]? = some sl' → ρ[o]? = some sl':=fun o sl' ho hs => by
  rwa [List.getElem?_append_left (by omega)] at hs
 have hpe:∀ sl',(ρ ++ [sl])[h.length]? = some sl' → sl' = sl:=fun sl' hs => by
  rw [← hl] at hs
  simpa using hs.symm
 refine ⟨hH.fr,fun o ob' ho => ?_,fun o ob' sl' g ho hown hs hg => ?_,fun o ob' sl' g ho hs hg => ?_,?_⟩
 ·rcases hsl o ob' ho with ⟨h1,h2⟩ | ⟨rfl,rfl⟩
  ·obtain ⟨s1,h3,h4⟩:=hH.obj o ob' h1
   exact ⟨s1,Ext.append _ _ _ _ h3,h4.ext (Ext.append _ _)⟩
  ·exact ⟨sl,by rw [← hl];simp,hob⟩
 ·rcases hsl o ob' ho with ⟨h1,h2⟩ | ⟨rfl,rfl⟩
  ·have hs:=hpl o sl' h2 hs
   obtain ⟨h3,h4⟩:=hH.sep o ob' sl' g h1 hown hs hg
   refine ⟨h3,fun o2 ob2 sl2 ho2 hne hs2 => ?_⟩
   rcases hsl o2 ob2 ho2 with ⟨k1,k2⟩ | ⟨rfl,rfl⟩
   ·exact h4 o2 ob2 sl2 k1 hne (hpl o2 sl2 k2 hs2)
   ·have:=hpe sl2 hs2
    subst this
    rcases hb with hb | ⟨g2,k1,k2⟩
    ·rw [hb]
     simp
    ·rw [k1]
     intro e
     have e:=Option.some.inj e
     subst e
     exact hF.sep o ob' sl' g2 h1 hown (hpl o sl' h2 hs) hg k2
  ·have:=hpe sl' hs
   rw [hown] at hw
   cases hw
 ·rcases hsl o ob' ho with ⟨h1,h2⟩ | ⟨rfl,rfl⟩
  ·exact hH.src o ob' sl' g h1 (hpl o sl' h2 hs) hg
  ·have:=hpe sl' hs
   subst this
   rcases hb with hb | ⟨g2,k1,k2⟩
   ·rw [hb] at hg
    cases hg
   ·rw [k1] at hg
    have e:=Option.some.inj hg
    subst e
    exact hF.src g2 k2
 ·refine ⟨fz,hF.base,hF.lt,hF.src,fun o ob' sl' g ho hown hs hg => ?_,fun o own ty sz xs ho => ?_⟩
  ·rcases hsl o ob' ho with ⟨h1,h2⟩ | ⟨rfl,rfl⟩
   ·exact hF.sep o ob' sl' g h1 hown (hpl o sl' h2 hs) hg
   ·have:=hpe sl' hs
    rw [hown] at hw
    cases hw
  ·rcases hsl o _ ho with ⟨h1,h2⟩ | ⟨h1,h2⟩
   ·exact hF.deep o own ty sz xs h1
   ·rw [← h2] at hnd
    cases hnd
def dpO (ds:List DF):Option AO:=some ⟨false,0,1,.dp ds⟩
theorem Holds.setD {Γ:Ctx} {ρ:Pl} {h:AH} {w:World} (hH:Holds Γ ρ h w) {o:Nat} {el:El} (ho:h[o]? = some (some ⟨false,0,1,el⟩)) {fz:Nat → Prop} (hF:Frz Γ ρ h w fz) {ds:List DF} (hD:DeepH fz ds w):Holds Γ ρ (h.set o (dpO ds)) w:=by
 have hlt:o < h.length:=(List.getElem?_eq_some_iff.1 ho).1
 have hget:∀ (i:Nat) ob,(h.set o (dpO ds))[i]? = some (some ob) → (i = o ∧ ob = ⟨false,0,1,.dp ds⟩) ∨ (i ≠ o ∧ h[i]? = some (some ob)):=fun i ob hi => by
  by_cases e:o = i
  ·subst e
   rw [List.getElem?_set_self hlt] at hi
   exact .inl ⟨rfl,by simpa [dpO] using hi.symm⟩
  ·rw [List.getElem?_set_ne e] at hi
   exact .inr ⟨fun h => e h.symm,hi⟩
 refine ⟨hH.fr,fun i ob hi => ?_,fun i ob sl g hi hown hs hg => ?_,fun i ob sl g hi hs hg => ?_,fz,hF.base,hF.lt,hF.src,fun i ob sl g hi hown hs hg => ?_,fun i own ty sz xs hi => ?_⟩
 ·rcases hget i ob hi with ⟨rfl,rfl⟩ | ⟨h1,h2⟩
  ·obtain ⟨sl,k1,k2⟩:=hH.obj i _ ho
   exact ⟨sl,k1,k2.sz,k2.pos,Nat.zero_le _,k2.max,k2.lt,k2.nil,fun j cs hj => (by cases hj),fun h => (by cases h)⟩
  ·exact hH.obj i ob h2
 ·rcases hget i ob hi with ⟨rfl,rfl⟩ | ⟨h1,h2⟩
  ·cases hown
  ·obtain ⟨k1,k2⟩:=hH.sep i ob sl g h2 hown hs hg
   refine ⟨k1,fun j ob' sl' hj hne hs' => ?_⟩
   rcases hget j ob' hj with ⟨rfl,rfl⟩ | ⟨h3,h4⟩
   ·exact k2 j _ sl' ho hne hs'
   ·exact k2 j ob' sl' h4 hne hs'
 ·rcases hget i ob hi with ⟨rfl,rfl⟩ | ⟨h1,h2⟩
  ·exact hH.src i _ sl g ho hs hg
  ·exact hH.src i ob sl g h2 hs hg
 ·rcases hget i ob hi with ⟨rfl,rfl⟩ | ⟨h1,h2⟩
  ·cases hown
  ·exact hF.sep i ob sl g h2 hown hs hg
 ·rcases hget i _ hi with ⟨rfl,e⟩ | ⟨h1,h2⟩
  ·cases e
   exact hD
  ·exact hF.deep i own ty sz xs h2
theorem Holds.frz {Γ:Ctx} {ρ:Pl} {h:AH} {w:World} (hH:Holds Γ ρ h w) {o:Nat} {own:Bool} {ty k:Nat} {xs:List (List Value)} {v:Value} (ho:h[o]? = some (some ⟨own,ty,k,.fl xs⟩)) (hv:RowR ρ o 0 xs.length v) {fz:Nat → Prop} (hF:Frz Γ ρ h w fz) :
  ∃ fz':Nat → Prop,(∀ g,fz g → fz' g) ∧ Holds Γ ρ (h.set o (some ⟨false,ty,k,.fl xs⟩)) w ∧ Frz Γ ρ (h.set o (some ⟨false,ty,k,.fl xs⟩)) w fz' ∧ rwR fz' w (v,k,xs):=by
 obtain ⟨sl,k1,k2⟩:=hH.obj o _ ho
 have hlt:o < h.length:=(List.getElem?_eq_some_iff.1 ho).1
 have hget:∀ (i:Nat) ob,(h.set o (some ⟨false,ty,k,.fl xs⟩))[i]? = some (some ob) → ∃ oo b,h[i]? = some (some oo) ∧ ob = oo.view b ∧ (i = o → b = false):=fun i ob hi => by
  by_cases e:o = i
  ·subst e
   rw [List.getElem?_set_self hlt] at hi
   cases hi
   exact ⟨_,false,ho,by simp [AO.view],fun _ => rfl⟩
  ·rw [List.getElem?_set_ne e] at hi
   exact ⟨ob,true,hi,by simp [AO.view],fun h => (e h.symm).elim⟩
 have hH':Holds Γ ρ (h.set o (some ⟨false,ty,k,.fl xs⟩)) w:=hH.view fun i ob hi => by
  obtain ⟨oo,b,h1,h2,_⟩:=hget i ob hi
  exact ⟨oo,b,h1,h2⟩
 have hown:∀ {i:Nat} {ob:AO},(h.set o (some ⟨false,ty,k,.fl xs⟩))[i]? = some (some ob) → ob.own = true → i ≠ o ∧ h[i]? = some (some ob):=fun {i ob} hi hw => by
  by_cases e:o = i
  ·subst e
   rw [List.getElem?_set_self hlt] at hi
   cases hi
   cases hw
  ·rw [List.getElem?_set_ne e] at hi
   exact ⟨fun h => e h.symm,hi⟩
 refine ⟨fun g => fz g ∨ sl.blk = some g,fun g hg => .inl hg,hH',⟨fun g hg => .inl (hF.base g hg),fun g hg => ?_,fun g hg => ?_,fun i ob s1 g hi hw hs hg hf => ?_,fun i own2 ty2 sz2 ds hi => ?_⟩,?_⟩
 ·rcases hg with hg | hg
  ·exact hF.lt g hg
  ·exact k2.blk_lt hg
 ·rcases hg with hg | hg
  ·exact hF.src g hg
  ·exact hH.src o _ sl g ho k1 hg
 ·obtain ⟨h1,h2⟩:=hown hi hw
  rcases hf with hf | hf
  ·exact hF.sep i ob s1 g h2 hw hs hg hf
  ·exact (hH.sep i ob s1 g h2 hw hs hg).2 o _ sl ho (fun e => h1 e.symm) k1 hf
 ·obtain ⟨oo,b,h1,h2,_⟩:=hget i _ hi
  obtain ⟨own3,ty3,sz3,el3⟩:=oo
  have e1:El.dp ds = el3:=congrArg AO.el h2
  subst e1
  exact (hF.deep i _ _ _ _ h1).move (Nat.le_refl _) (fun _ q => .inl q) (fun _ _ => rfl)
 ·have hmx:xs.length ≤ 9223372036854775807:=Nat.le_trans (show xs.length ≤ sl.cap from k2.len) k2.max
  obtain ⟨sl',e1,e2,e3⟩:=hv
  have:sl = sl':=by rw [k1] at e1;exact Option.some.inj e1
  subst this
  rcases e3 with ⟨c,e3,e4,_⟩ | ⟨e3,_,A,c,e4,_⟩
  ·refine ⟨k2.pos,hmx,_,c,e3,e4,fun i cs hi => ?_⟩
   obtain ⟨q1,a,q2,q3⟩:=k2.cell i (cs.map .sc) (by show (xs[i]?).map _ = _;rw [hi];rfl)
   refine ⟨by rw [List.length_map] at q1;exact q1,a.add 0,by rw [q2,Nat.zero_mul];rfl,.inr (by rw [add_block];simp [Slot.blk,q2]),by rw [add_block];exact k2.lt a q2,fun j x hx => ?_⟩
   obtain ⟨u,q4,q5⟩:=q3 j (.sc x) (by rw [List.getElem?_map,hx];rfl)
   obtain ⟨q5,q6⟩:=q5
   subst q5
   refine ⟨?_,q6⟩
   rw [add_zero']
   exact q4
  ·have hx:xs = []:=List.length_eq_zero_iff.1 e3
   subst hx
   exact ⟨k2.pos,hmx,A,c,e4,Nat.zero_le _,fun i cs hi => by cases hi⟩
structure CmdV where
 k:Int
 A:Option Addr
 n:Nat
 c:Nat
instance:Enc CmdV where
 sz:=2
 enc x:=[.int .i64 x.k,.slice x.A x.n x.c]
 dec:=fun vs => match vs with
  | [.int .i64 k,.slice A n c] => some ⟨k,A,n,c⟩
  | _ => none
 z:=⟨0,none,0,0⟩
 len _:=rfl
 pos:=by decide
 one _:=rfl
 decE {vs x} h:=by
  split at h
  ·cases h;rfl
  ·cases h
def dfI (v:Value) (a:List Int):DF:=(v,1,a.map Enc.enc)
def CmdV.val (x:CmdV):Value:=.slice x.A x.n x.c
def Bears (xs:List CmdV) (D:List DF):Prop:=∀ x ∈ xs,∃ a:List Int,dfI x.val a ∈ D
noncomputable def jW (D:List DF) (x:CmdV):List Int:=@dite _ (∃ a:List Int,dfI x.val a ∈ D) (Classical.propDecidable _) (fun h => Classical.choose h) (fun _ => [])
theorem zD {D:List DF} {x:CmdV} (h:∃ a:List Int,dfI x.val a ∈ D):dfI x.val (jW D x) ∈ D:=by
 unfold jW
 rw [dif_pos h]
 exact Classical.choose_spec h
theorem Bears.nil {D:List DF}:Bears [] D:=fun x hx => by simp at hx
theorem Bears.more {xs:List CmdV} {D D':List DF} (h:Bears xs D) (hs:∀ d ∈ D,d ∈ D'):Bears xs D':=fun x hx => by
 obtain ⟨a,ha⟩:=h x hx
 exact ⟨a,hs _ ha⟩
theorem Bears.cons {xs:List CmdV} {D:List DF} {d:DF} (h:Bears xs D):Bears xs (d :: D):=h.more fun _ hd => List.mem_cons_of_mem _ hd
theorem Bears.append {xs ys:List CmdV} {D:List DF} (h:Bears xs D) (h':Bears ys D):Bears (xs ++ ys) D:=fun x hx => by
 rcases List.mem_append.1 hx with hx | hx
 ·exact h x hx
 ·exact h' x hx
theorem Bears.one {D:List DF} {k:Int} {A:Option Addr} {n c:Nat} {a:List Int} (h:dfI (.slice A n c) a ∈ D) {ys:List CmdV} (hy:Bears ys D):Bears (⟨k,A,n,c⟩ :: ys) D:=fun x hx => by
 rcases List.mem_cons.1 hx with rfl | hx
 ·exact ⟨a,h⟩
 ·exact hy x hx
theorem Bears.rd {xs:List CmdV} {D:List DF} (h:Bears xs D) {i:Int} (hi:0 ≤ i ∧ i < xs.length):∃ a:List Int,dfI (rd xs i).val a ∈ D:=h _ (by
 unfold Sh.rd
 rw [List.getD_eq_getElem?_getD,List.getElem?_eq_getElem (by omega)]
 exact List.getElem_mem _)
theorem Bears.part {xs ys:List CmdV} {D:List DF} (h:Bears xs D) (hs:∀ x ∈ ys,x ∈ xs):Bears ys D:=fun x hx => h x (hs x hx)
section
variable {P:Program} {T:TB} {ops:Array Oper} {Q:Exit → St → Prop} {h1:AH} {k:Sk} {ks ks':List Sk} {l:List Oper} {N0 k0 d0:Nat} {e0:List (Nat × AV)} {h0:AH} {op:Op} {ty:TypeId} {pos:String} {af:Array Edge} {g:Option (Nat × Bool)} {st:St}
theorem vk {ρ:Pl} {tmps:Array Value} (he:EnvR ρ e0 tmps) {t q:Nat} {cs:List AC} {y:AC} {arr:Array Value} {v:Value} (h1:tmps[t]? = some (.agg arr)) (h3:All2 (AC.R ρ) cs arr.toList) (hq:arr[q]? = some v) (hy:y.R ρ v):EnvR ρ ((t,.agg (cs.set q y)) :: e0) tmps:=fun u x hu => by
 by_cases e:t = u
 ·subst e
  rw [er] at hu
  cases hu
  refine ⟨_,h1,arr,rfl,All2.of_get (by rw [List.length_set];exact h3.length) (fun i x z hi hz => ?_)⟩
  by_cases e:q = i
  ·subst e
   have hq':q < cs.length:=by have:=(List.getElem?_eq_some_iff.1 hi).1;simpa using this
   rw [List.getElem?_set_self hq'] at hi
   cases hi
   rw [Array.getElem?_toList,hq] at hz
   cases hz
   exact hy
  ·rw [List.getElem?_set_ne e] at hi
   obtain ⟨z',k1,k2⟩:=h3.get hi
   rw [hz] at k1
   cases k1
   exact k2
 ·rw [dz e] at hu
  exact he u x hu
theorem xY {st:St}:Ghost st ⟨st.n,st.k,st.env,st.h ++ [dpO []]⟩:=fun Γ ρ a w hr => by
 have h1:Holds Γ (ρ ++ [⟨none,0,1,true⟩]) (st.h ++ [some ⟨false,0,1,.fl []⟩]) w:=hr.holds.more hr.len ⟨rfl,by decide,Nat.le_refl _,by decide,fun a h => (by cases h),fun _ => rfl,fun i cs hi => (by cases hi),fun h => (by cases h)⟩ (.inl rfl)
 obtain ⟨fz,hF⟩:=h1.dp
 have h2:=h1.setD (o:=st.h.length) (el:=.fl []) (bA _ _) hF (ds:=[]) (fun d hd => by simp at hd)
 refine ⟨ρ ++ [⟨none,0,1,true⟩],Ext.append _ _,⟨?_,by simp [hr.len],hr.klen,hr.args.trans (Ext.append _ _),hr.env.ext (Ext.append _ _),hr.defers,hr.size⟩⟩
 rwa [show (st.h ++ [some (⟨false,0,1,.fl []⟩:AO)]).set st.h.length (dpO []) = st.h ++ [dpO []] from by rw [List.set_append_right _ _ (Nat.le_refl _),Nat.sub_self];rfl] at h2
theorem wdp {c:Code} {N k n:Nat} {e:List (Nat × AV)} {h h':AH} (hh:m9 h (dpO []) = some (n,h')) (hn:WW P c Q ⟨N,k,e,h'⟩):WW P c Q ⟨N,k,e,h⟩:=by
 obtain ⟨h2,h3⟩:=fO hh
 subst h2
 exact De (xY (st:=⟨N,k,e,h⟩)) hn
theorem gfz {st:St} {t q od o ty':Nat} {own:Bool} {cs:List AC} {xs:List (List Value)} {kk:Nat} {D:List DF} (hx:lk t st.env = some (.agg cs)) (hq:cs[q]? = some (.row o 0 xs.length)) (ho:st.h[o]? = some (some ⟨own,ty',kk,.fl xs⟩)) (hod:st.h[od]? = some (dpO D))
  {Γ:Ctx} {ρ:Pl} {a:Act} {w:World} (hr:Rel Γ ρ st a w):∃ A c,Rel Γ ρ ⟨st.n,st.k,(t,.agg (cs.set q (.sc (.slice A xs.length c)))) :: st.env,(st.h.set o (some ⟨false,ty',kk,.fl xs⟩)).set od (dpO ((.slice A xs.length c,kk,xs) :: D))⟩ a w:=by
 obtain ⟨v',e1,arr,e2,e3⟩:=hr.env t _ hx
 obtain ⟨v,e4,e5⟩:=qT e3 hq
 have e5:RowR ρ o 0 xs.length v:=e5
 obtain ⟨fz,hF⟩:=hr.holds.dp
 obtain ⟨fz',f1,f2,f3,f4⟩:=hr.holds.frz ho e5 hF
 obtain ⟨_,_,A,c,f5,_⟩:=id f4
 have f5:v = .slice A xs.length c:=f5
 have hne:o ≠ od:=fun e => by subst e;rw [ho] at hod;cases hod
 have hod':(st.h.set o (some (⟨false,ty',kk,.fl xs⟩:AO)))[od]? = some (some ⟨false,0,1,.dp D⟩):=by rw [List.getElem?_set_ne hne];exact hod
 have f6:=f2.setD hod' f3 (ds:=(v,kk,xs) :: D) (fun d hd => by
  rcases List.mem_cons.1 hd with rfl | hd
  ·exact f4
  ·exact f3.deep od _ _ _ _ hod' d hd)
 subst f5
 subst e2
 exact ⟨A,c,⟨f6,by simp [hr.len],hr.klen,hr.args,vk hr.env e1 e3 e4 ⟨rfl,rfl⟩,hr.defers,hr.size⟩⟩
theorem Dn {K:St → Prop} (hg:∀ Γ ρ a w,Rel Γ ρ st a w → ∃ st' ρ',K st' ∧ Ext ρ ρ' ∧ Rel Γ ρ' st' a w) (h:∀ st',K st' → ZZ P ops Q h1 ks l st'):ZZ P ops Q h1 ks l st:=⟨⟨.ghost hg fun st' hk => (h st' hk).out.out⟩⟩
def fzP (env:List (Nat × AV)):List (Nat × Operand) → Option (Nat × Nat × Nat × List AC)
 | [] => none
 | (_,.tmp t) :: r => match lk t env with
  | some (.agg [a,.row o 0 n]) => some (t,1,o,[a,.row o 0 n])
  | _ => fzP env r
 | _ :: r => fzP env r
def fdp:Nat → AH → Option Nat
 | _,[] => none
 | i,x :: r => match fdp (i + 1) r with
   | some j => some j
   | none => match x with
     | some ⟨_,_,_,.dp _⟩ => lit i
     | _ => none
theorem zfz {t od o q ty':Nat} {own:Bool} {cs:List AC} {xs:List Int} {D:List DF} {d:Option Nat} {len:Nat} {parts:Array (Nat × Operand)} (hp:fzP e0 parts.toList = some (t,q,o,cs)) (hod:fdp 0 h0 = some od) (hx:lk t e0 = some (.agg cs)) (hq:cs[q]? = some (.row o 0 xs.length)) (ho:h0[o]? = some (some ⟨own,ty',1,.fl (xs.map Enc.enc)⟩)) (hd:h0[od]? = some (dpO D))
  (h:∀ A c,∃ cs' h',uk (cs.set q (.sc (.slice A xs.length c))) = some cs' ∧ fH ((h0.set o (some ⟨false,ty',1,.fl (xs.map Enc.enc)⟩)).set od (dpO (dfI (.slice A xs.length c) xs :: D))) = some h' ∧ ZZ P ops Q h1 ks (⟨d,.buildSlice ty len parts,ty,pos,af,g⟩ :: l) ⟨N0,k0,(t,.agg cs') :: e0,h'⟩):ZZ P ops Q h1 ks (⟨d,.buildSlice ty len parts,ty,pos,af,g⟩ :: l) ⟨N0,k0,e0,h0⟩:=by
 refine Dn (K:=fun st' => ∃ A c,st' = ⟨N0,k0,(t,.agg (cs.set q (.sc (.slice A xs.length c)))) :: e0,(h0.set o (some ⟨false,ty',1,.fl (xs.map Enc.enc)⟩)).set od (dpO (dfI (.slice A xs.length c) xs :: D))⟩) (fun Γ ρ a w hr => ?_) (fun st' hk => ?_)
 ·have hl:(xs.map Enc.enc).length = xs.length:=List.length_map ..
  obtain ⟨A,c,h2⟩:=gfz (st:=⟨N0,k0,e0,h0⟩) hx (by rw [hl];exact hq) ho hd hr
  rw [hl] at h2
  exact ⟨_,ρ,⟨A,c,rfl⟩,Ext.refl _,h2⟩
 ·obtain ⟨A,c,rfl⟩:=hk
  obtain ⟨cs',h',e1,e2,h3⟩:=h A c
  rw [me e1,iU e2]
  exact h3
theorem D1 {st:St} {t q od ty':Nat} {cs:List AC} {v:Value} {kk:Nat} {xs:List (List Value)} {D:List DF} (hx:lk t st.env = some (.agg cs)) (hq:cs[q]? = some (.sc v)) (hod:st.h[od]? = some (dpO D)) (hD:(v,kk,xs) ∈ D) :
  Ghost st ⟨st.n,st.k,(t,.agg (cs.set q (.row st.h.length 0 xs.length))) :: st.env,st.h ++ [some ⟨false,ty',kk,.fl xs⟩]⟩:=fun Γ ρ a w hr => by
 obtain ⟨v',e1,arr,e2,e3⟩:=hr.env t _ hx
 obtain ⟨u,e4,e5,_⟩:=qT e3 hq
 subst e5
 subst e2
 obtain ⟨fz,hF⟩:=hr.holds.dp
 obtain ⟨hk0,hmx,A,cc,hv,hcc,h4⟩:=hF.deep od _ _ _ _ hod _ hD
 have hv:u = .slice A xs.length cc:=hv
 subst hv
 have hlast:∀ sN:Slot,(ρ ++ [sN])[st.h.length]? = some sN:=fun sN => by rw [← hr.len];simp
 obtain ⟨sN,hob,hb,hrow⟩:∃ sN:Slot,ObjH (ρ ++ [sN]) sN ⟨false,ty',kk,.fl xs⟩ w ∧ (sN.blk = none ∨ ∃ g,sN.blk = some g ∧ fz g) ∧ RowR (ρ ++ [sN]) st.h.length 0 xs.length (.slice A xs.length cc):=by
  cases xs with
  | nil => exact ⟨⟨none,0,kk,true⟩,⟨rfl,hk0,Nat.le_refl _,hmx,fun a0 ha => (by cases ha),fun _ => rfl,fun j cs hj => (by cases hj),fun h => (by cases h)⟩,.inl rfl,⟨_,hlast _,Nat.le_refl _,.inr ⟨rfl,.inr (.inl rfl),A,cc,rfl,fun _ h => (by cases h)⟩⟩⟩
  | cons y ys =>
    obtain ⟨_,a0,hA,hf0,hlt0,_⟩:=h4 0 y rfl
    subst hA
    refine ⟨⟨some a0,(y :: ys).length,kk,true⟩,⟨rfl,hk0,Nat.le_refl _,hmx,fun a1 ha => (by cases ha;exact hlt0),fun h => (by cases h),fun j cs hj => ?_,fun h => (by cases h)⟩,.inr ⟨a0.block,rfl,hf0⟩,⟨_,hlast _,by rw [Nat.zero_add];exact Nat.le_refl _,.inl ⟨cc,?_,hcc,fun h => (by cases h)⟩⟩⟩
    ·obtain ⟨c,hc1,rfl⟩:=Option.map_eq_some_iff.1 (show ((y :: ys)[j]?).map (·.map AC.sc) = some cs from hj)
     obtain ⟨h5,a1,h6,_,_,h7⟩:=h4 j c hc1
     cases h6
     refine ⟨by rw [List.length_map];exact h5,a0,rfl,fun m z hz => ?_⟩
     rw [List.getElem?_map] at hz
     obtain ⟨z0,hz0,rfl⟩:=Option.map_eq_some_iff.1 hz
     obtain ⟨h8,h9⟩:=h7 m z0 hz0
     exact ⟨z0,h8,rfl,h9⟩
    ·show Go.Value.slice (some a0) _ cc = .slice (some (a0.add (0 * kk))) _ cc
     rw [Nat.zero_mul]
     rfl
 refine ⟨ρ ++ [sN],Ext.append _ _,hr.holds.moreF hr.len hob hF rfl hb,by simp [hr.len],hr.klen,hr.args.trans (Ext.append _ _),?_,hr.defers,hr.size⟩
 exact vk (hr.env.ext (Ext.append _ _)) e1 (All2.imp (fun _ _ => AC.R_ext (Ext.append _ _)) e3) e4 hrow
theorem Cw {N k d:Nat} {v u:AV} {e:List (Nat × AV)} {h:AH}:Ghost ⟨N,k,(d,v) :: (d,u) :: e,h⟩ ⟨N,k,(d,v) :: e,h⟩:=fun Γ ρ a w hr => ⟨ρ,Ext.refl _,hr.holds,hr.len,hr.klen,hr.args,fun t x ht => hr.env t x (by
 by_cases q:d = t
 ·subst q
  rw [er] at ht ⊢
  exact ht
 ·rw [dz q] at ht
  rw [dz q,dz q]
  exact ht),hr.defers,hr.size⟩
theorem Do (od:Nat) (ty':Nat) (hs0:stK ks = (k,ks')) (hT:TOk P T) {t:TypeId} {x:Operand} {o e nn:Nat} {i:Int} {own:Bool} {xs:List CmdV} {D:List DF} {ti:TI} {h':AH} (hk':qk k = true) (hx:ev e0 x = some (.c (.ptr o i.toNat 0))) (ho:h0[o]? = some (some ⟨own,e,2,.fl (xs.map Enc.enc)⟩)) (hod:h0[od]? = some (dpO D)) (ht:tlk t T = some ti) (hag:ti.agg = true) (hsz:Nat.beq ti.size 2 = true)
  (hb:0 ≤ i ∧ i < xs.length) (hB:Bears xs D) (hh:m9 h0 (ro ty' (jW D (rd xs i))) = some (nn,h')) (hg:gd ops ⟨some d0,.load t x,ty,pos,af,g⟩ e0 = some true) (hd:Nat.blt d0 N0 = true)
  (h:ZZ P ops Q h1 ks' l ⟨N0,k0,(d0,.agg [.sc (.int .i64 (rd xs i).k),.row nn 0 (jW D (rd xs i)).length]) :: e0,h'⟩):ZZ P ops Q h1 ks (⟨some d0,.load t x,ty,pos,af,g⟩ :: l) ⟨N0,k0,e0,h0⟩:=⟨by
 rw [aI hs0]
 obtain ⟨h5,h6⟩:=fO hh
 have hi:i.toNat < xs.length:=by omega
 have hrd:xs[i.toNat]? = some (rd xs i):=by
  unfold rd
  rw [List.getD_eq_getElem?_getD,List.getElem?_eq_getElem hi]
  rfl
 refine wle (st:=⟨N0,k0,e0,h0⟩) (dst:=some d0) (own:=own) (e:=e) (sz:=2) (c:=Enc.enc (rd xs i)) (v:=.agg [.sc (.int .i64 (rd xs i).k),.sc (rd xs i).val]) hT (by cases k <;> first | rfl | cases hk') hx ?_ ht (by rw [List.getElem?_map,hrd];rfl) ?_ hg hd ?_
 ·cases k <;> first | exact ho | cases hk'
 ·show ldW ti [.sc (.int .i64 (rd xs i).k),.sc (rd xs i).val] 0 = _
  unfold ldW
  rw [hag,show Nat.beq ti.size [AC.sc (.int .i64 (rd xs i).k),AC.sc (rd xs i).val].length = true from hsz]
  rfl
 ·refine zgh (st:=⟨N0,k0,(d0,.agg [.sc (.int .i64 (rd xs i).k),.sc (rd xs i).val]) :: e0,h0⟩) (D1 (t:=d0) (q:=1) (od:=od) (ty':=ty') (er ..) rfl hod (zD (hB.rd hb))) ?_
  refine zgh Cw ?_
  show WZ P ops Q h1 (kN ks' l) ⟨N0,k0,(d0,.agg [.sc (.int .i64 (rd xs i).k),.row h0.length 0 ((jW D (rd xs i)).map Enc.enc).length]) :: e0,h0 ++ [ro ty' (jW D (rd xs i))]⟩
  rw [h5,List.length_map,h6]
  exact h.out⟩
end
end
section
open Go.RowKit Go.Proofs.YtgehbhkfehmdkaaGreatW
structure FE (P:Program) (f:FuncId) (args:List AV) (hs:AH) (R:AV → AH → Prop):Prop where
 ent:ga P f
 call:ACall P f args hs R
def dps:Bool → AH → List Nat
 | true,h => match fdp 0 h with
   | some i => [i]
   | none => []
 | false,_ => []
section
variable {P:Program} {T:TB} {ops:Array Oper} {Q:Exit → St → Prop} {h1:AH} {k:Sk} {ks ks':List Sk} {l:List Oper} {N0 k0 d0:Nat} {e0:List (Nat × AV)} {h0:AH} {op:Op} {ty:TypeId} {pos:String} {af:Array Edge} {g:Option (Nat × Bool)} {st:St}
theorem dl {f:FuncId} {fn:Func} {c:Code} {args:List AV} {hs hs':AH} {R:AV → AH → Prop} {e:List (Nat × AV)} {kk:Nat} (hT:TOk P T) (n:Nat) (rs:List ResultVar) (hf:P.funcs[f]? = some fn) (hname:(fn.name == "runtime.NumGoroutine") = false) (hb:fn.body = some c) (hres:fn.results = rs.toArray) (hn:fn.ntmps = n) (hle:Nat.ble args.length n = true)
  (he:xJ yt args = some e) (hh:fH hs = some hs') (hk:lit hs.length = some kk) (h:WW P c (sn (rsS T rs) R) ⟨n,kk,e,hs'⟩):FE P f args hs R :=
 ⟨oR hf hname (by rw [hb];rfl),ACall.enter n hf hb (tA hT hres) hn (Nat.le_of_ble_eq_true hle) (by
  rw [rh (i:=0) (fun j x hj => by rw [oz] at hj;rw [← kV hj,Nat.zero_add]) he,iK hk]
  rw [← iU hh] at h
  exact h.out)⟩
theorem zce {fo:Operand} {«as»:Array Operand} {ts:Array TypeId} {f:FuncId} {caps:List (Nat × Nat × Nat)} {vals args:List AV} {hs hv:AH} {R:AV → AH → Prop} {m:List Nat} (dd:Bool) (fl:List Bool) (hs0:stK ks = (Sk.l,ks')) (hf:ev e0 fo = some (.c (.fn f caps))) (hev:evs e0 «as».toList = some vals) (hm:fL (jK h0 (vals ++ caps.map bK) ++ dps dd h0) = some m) (hca:jX m (vals ++ caps.map bK) = some args) (hch:jY fl m h0 = some hs) (hvw:fH (vwH m hs h0) = some hv)
  (hargs:args.map (AV.ren (mf m h0.length)) = vals ++ caps.map bK) (hp:cx (mf m h0.length) hs = cm hs (bP m hv)) (hb:dr hs m h0.length = true) (hc:FE P f args hs R)
  (hg:gd ops ⟨some d0,.call { callee:=.value fo,args:=«as»,argTypes:=ts },ty,pos,af,g⟩ e0 = some true) (hd:Nat.blt d0 N0 = true)
  (h:∀ v hs2,R v hs2 → ∃ X' h',fV (v.ren (mf m h0.length)) = some X' ∧ fH (dj (mf m h0.length) m hs hs2 hv) = some h' ∧ ZZ P ops Q h1 ks' l ⟨N0,k0,(d0,X') :: e0,h'⟩):ZZ P ops Q h1 ks (⟨some d0,.call { callee:=.value fo,args:=«as»,argTypes:=ts },ty,pos,af,g⟩ :: l) ⟨N0,k0,e0,h0⟩ :=
 ⟨by
  rw [aI hs0]
  unfold dr at hb
  simp only [Bool.and_eq_true] at hb
  have e1:=iU hvw
  have hlen:hv.length = h0.length:=by rw [← e1,vwH,nG]
  refine zgh (st:=⟨N0,k0,e0,h0⟩) (lL (h':=hv) hlen (fun i ob hi => zf (by rw [e1];exact hi))) ?_
  show WZ P ops Q h1 _ ⟨N0,k0,e0,hv⟩
  rw [← hlen] at hargs hp h hb
  refine zi (st:=⟨N0,k0,e0,hv⟩) (dst:=some d0) (m:=m) hc.call hc.ent hf hev hargs hp (by simp only [Bool.and_eq_true];exact hb.1) hb.2 (fun j i b oo h1 h2 h3 h4 => B5 (h:=h0) h1 h2 h3 (by rw [e1];exact h4)) hg hd ?_
  intro v hs2 hR
  obtain ⟨X',h',hX',hh,h⟩:=h v hs2 hR
  have:=h.out
  rw [← mh hX',← iU hh] at this
  exact this⟩
theorem zcg {fo:Operand} {«as»:Array Operand} {ts:Array TypeId} {f:FuncId} {caps:List (Nat × Nat × Nat)} {vals args:List AV} {hs:AH} {R:AV → AH → Prop} {m:List Nat} (fl:List Bool) (hs0:stK ks = (Sk.l,ks')) (hf:ev e0 fo = some (.c (.fn f caps))) (hev:evs e0 «as».toList = some vals) (hm:fL (jK h0 (vals ++ caps.map bK)) = some m) (hca:jX m (vals ++ caps.map bK) = some args) (hch:jY fl m h0 = some hs) 
  (hargs:args.map (AV.ren (mf m h0.length)) = vals ++ caps.map bK) (hp:cx (mf m h0.length) hs = cm hs (bP m h0)) (hb:dr hs m h0.length = true) (hc:FE P f args hs R) (hno:∀ v hs2,R v hs2 → (hs2.drop m.length).all owN = true ∧ hs2.all noD = true)
  (hg:gd ops ⟨some d0,.call { callee:=.value fo,args:=«as»,argTypes:=ts },ty,pos,af,g⟩ e0 = some true) (hd:Nat.blt d0 N0 = true)
  (h:∀ v hs2,R v hs2 → ∃ X' h',fV (v.ren (mf m h0.length)) = some X' ∧ fH (dj (mf m h0.length) m hs hs2 h0) = some h' ∧ ZZ P ops Q h1 ks' l ⟨N0,k0,(d0,X') :: e0,h'⟩):ZZ P ops Q h1 ks (⟨some d0,.call { callee:=.value fo,args:=«as»,argTypes:=ts },ty,pos,af,g⟩ :: l) ⟨N0,k0,e0,h0⟩ :=
 ⟨by
  rw [aI hs0]
  unfold dr at hb
  simp only [Bool.and_eq_true] at hb
  refine Cd (st:=⟨N0,k0,e0,h0⟩) (dst:=some d0) (m:=m) hc.call hc.ent hf hev hargs hp (by simp only [Bool.and_eq_true];exact hb.1) hb.2 hno hg hd ?_
  intro v hs2 hR
  obtain ⟨X',h',hX',hh,h⟩:=h v hs2 hR
  have:=h.out
  rw [← mh hX',← iU hh] at this
  exact this⟩
theorem Dl {fo:Operand} {«as»:Array Operand} {ts:Array TypeId} {f:FuncId} {caps:List (Nat × Nat × Nat)} {vals args:List AV} {hs hs2 h':AH} {X X':AV} {m:List Nat} (hs0:stK ks = (k,ks')) (hk':qk k = true) (hf:ev e0 fo = some (.c (.fn f caps))) (hev:evs e0 «as».toList = some vals) (hm:fL (jK h0 (vals ++ caps.map bK) ++ dps true h0) = some m) (hca:jX m (vals ++ caps.map bK) = some args) (hch:jY [] m h0 = some hs)
  (hargs:args.map (AV.ren (mf m h0.length)) = vals ++ caps.map bK) (hp:cx (mf m h0.length) hs = cm hs (bP m h0)) (hb:(dr hs m h0.length && roA hs) = true) (hc:FC P f args hs X hs2)
  (hno:(hs2.drop m.length).all owN = true) (hX':fV (X.ren (mf m h0.length)) = some X') (hh:fH (h0 ++ cx (mf m h0.length) (hs2.drop m.length)) = some h') (hg:gd ops ⟨some d0,.call { callee:=.value fo,args:=«as»,argTypes:=ts },ty,pos,af,g⟩ e0 = some true) (hd:Nat.blt d0 N0 = true)
  (h:ZZ P ops Q h1 ks' l ⟨N0,k0,(d0,X') :: e0,h'⟩):ZZ P ops Q h1 ks (⟨some d0,.call { callee:=.value fo,args:=«as»,argTypes:=ts },ty,pos,af,g⟩ :: l) ⟨N0,k0,e0,h0⟩ :=
 ⟨by
  rw [aI hs0]
  unfold dr roA at hb
  simp only [Bool.and_eq_true] at hb
  refine zh (st:=⟨N0,k0,e0,h0⟩) (dst:=some d0) m hk' hc.call hc.ent hf hev hargs hp (by simp only [Bool.and_eq_true];exact ⟨hb.1.1,hb.2⟩) hb.1.2 (.inl fun v hs' e => by rw [e.2];exact hno) hg hd ?_
  rintro _ _ ⟨rfl,rfl⟩
  have:=h.out
  rw [← mh hX',← iU hh] at this
  exact this⟩
section
variable {rs:List ResultVar} {hs:AH}
theorem df {X:AV} {R:AV → AH → Prop} (m:List Nat) (hR:R X hs) (hr:qi T rs st.env st.h = some (X.ren (mf m st.h.length))) (hl:hs.length = m.length) (ha:m.take st.k = List.range st.k) (hlt:m.all (fun i => Nat.blt i st.h.length) = true) (hn:ndO m hs = true) (hh:cx (mf m st.h.length) hs = cm hs (bP m st.h)):oI (rsS T rs) R st :=
 u9 m hR ⟨hr,hl,ha,hlt,hn,hh⟩
end
end
def cu (t o n:Nat) (i h:Int):Option AO:=some ⟨true,t,3,.mx [.row o 0 n,.sc (.int .i64 i),.sc (.int .i64 h)]⟩
theorem Bc (x:Int):0 ≤ IntKind.i64.wrap ((BitVec.ofInt IntKind.i64.bits x &&& BitVec.ofInt IntKind.i64.bits 255).toNat:Int) ∧ IntKind.i64.wrap ((BitVec.ofInt IntKind.i64.bits x &&& BitVec.ofInt IntKind.i64.bits 255).toNat:Int) ≤ 255:=by
 have h2:(BitVec.ofInt IntKind.i64.bits 255).toNat = 255:=by decide
 have h3:=@Nat.and_le_right (BitVec.ofInt IntKind.i64.bits x).toNat 255
 rw [BitVec.toNat_and,h2,IntKind.wrap_i64]
 omega
end
section
open Go.RowKit
noncomputable def woB (l:List Bal) (a c:Int):List Bal:=sel (lB l a c) (del l (bIx l a c)) l
noncomputable def dL (l:List Bal) (a c n:Int):List Bal:=sel (n = 0) (woB l a c) (ins (woB l a c) (bIx l a c) ⟨a,c,n⟩)
theorem ry {l:List Bal} {a c n:Int} (hs:BSd l) (hl:l.length ≤ 4000000):FC Tryz.prog 119 [.c (.row 0 0 l.length),I a,I c,I n] ([ro 135 l]) (.c (.row 1 0 (dL l a c n).length)) ([ro 135 l,ow 135 (dL l a c n)]):=by
 refine ax tk 38 [.tmp 8] Tryz.func119 (by kernel_rfl) rfl rfl rfl rfl rfl rfl rfl ?_
 have hn:=gc l a c
 have hlt:=fun h:lB l a c => (kO hs h).1
 by_cases hh:lB l a c
 ·have h1:=hlt hh
  have h2:=vh (l:=l) (i:=bIx l a c) ⟨hn.1,h1⟩
  have hw:woB l a c = del l (bIx l a c):=au hh
  by_cases hz:n = 0
  ·rw [show dL l a c n = del l (bIx l a c) from (au hz).trans hw]
   repeat' (first
| intro h9;exfalso;contradiction
| apply yds;rfl
| apply yd;rfl
| intro _
| refine nv ?_
| apply wct rfl
| apply wcf rfl
| apply yne;rfl
| apply yar;rfl;omega
| apply ycf;rfl;exact bT (by omega);rfl
| apply zcs;(iterate 10 rfl);exact gW (by assumption);exact fun _ => rfl;exact fun _ => rfl;rfl;rfl;rfl;rfl
| apply ycw  [true];rfl;exact iC (by omega) (by omega);rfl
| fail)
   all_goals exact ak [0,1] rfl rfl rfl rfl rfl rfl
  ·rw [show dL l a c n = ins (del l (bIx l a c)) (bIx l a c) ⟨a,c,n⟩ from (ab hz).trans (by rw [hw])]
   repeat' (first
| intro h9;exfalso;contradiction
| apply yds;rfl
| apply yd;rfl
| intro _
| refine nv ?_
| apply wct rfl
| apply yne;rfl
| apply yar;rfl;omega
| apply aH (α:=Bal) (e:=135);rfl
| apply ycf;rfl;exact bT (by omega);rfl
| apply zcs;(iterate 10 rfl);exact gW (by assumption);exact fun _ => rfl;exact fun _ => rfl;rfl;rfl;rfl;rfl
| apply ycw  [true];rfl;exact iC (by omega) (by omega);rfl
| apply ycw  [true,true];rfl;exact iD (by omega) (by omega);rfl
| fail)
   all_goals exact ak [0,3] rfl rfl rfl rfl rfl rfl
 ·have hw:woB l a c = l:=ab hh
  by_cases hz:n = 0
  ·rw [show dL l a c n = l from (au hz).trans hw]
   repeat' (first
| intro h9;exfalso;contradiction
| apply yds;rfl
| apply yd;rfl
| intro _
| refine nv ?_
| apply wcf rfl
| apply yne;rfl
| apply ycf;rfl;exact bT (by omega);rfl
| apply zcs;(iterate 10 rfl);exact gW (by assumption);exact fun _ => rfl;exact fun _ => rfl;rfl;rfl;rfl;rfl
| fail)
   all_goals exact ak [0,1] rfl rfl rfl rfl rfl rfl
  ·rw [show dL l a c n = ins l (bIx l a c) ⟨a,c,n⟩ from (ab hz).trans (by rw [hw])]
   repeat' (first
| intro h9;exfalso;contradiction
| apply yds;rfl
| apply yd;rfl
| intro _
| refine nv ?_
| apply wct rfl
| apply wcf rfl
| apply yne;rfl
| apply aH (α:=Bal) (e:=135);rfl
| apply ycf;rfl;exact bT (by omega);rfl
| apply zcs;(iterate 10 rfl);exact gW (by assumption);exact fun _ => rfl;exact fun _ => rfl;rfl;rfl;rfl;rfl
| apply ycw  [true,true];rfl;exact iD (by omega) (by omega);rfl
| fail)
   all_goals exact ak [0,3] rfl rfl rfl rfl rfl rfl
theorem gU {α:Type} {p:α → Prop} {l:List α} (h:∀ x ∈ l,p x):flt p l = l:=List.filter_eq_self.2 fun x hx => nR (h x hx)
def neB (a c:Int) (y:Bal):Prop:=¬ (y.Account = a ∧ y.Instr = c)
theorem vF {a c:Int} {y:Bal} (h:bef y.Account y.Instr a c):neB a c y:=fun e => by unfold bef at h;omega
theorem ky {l:List Bal} {a c:Int}:∀ y ∈ pf l (bIx l a c),neB a c y:=fun y hy => by
 obtain ⟨j,hj,rfl⟩:=bw hy
 have hn:=gc l a c
 rw [bS hn] at hj
 rw [vT ⟨hj.1,hj.2⟩]
 exact vF (qV hj.1 hj.2)
theorem BM {l:List Bal} {k i:Int} (h:0 ≤ k ∧ k ≤ i):pf l i = pf l k ++ (l.drop k.toNat).take (i - k).toNat:=by
 unfold pf
 rw [show i.toNat = k.toNat + (i - k).toNat from by omega,List.take_add]
theorem Cf {l:List Bal} {a c i:Int} (h:bIx l a c ≤ i):bIx l a c ≤ ((flt (neB a c) (pf l i)).length:Int):=by
 have hn:=gc l a c
 rw [BM ⟨hn.1,h⟩,aV,gU ky,List.length_append]
 have:=bS hn
 omega
theorem zQ {α:Type} {l m:List α} {k:Int} {x:α} (h:k ≤ l.length):ins (l ++ m) k x = ins l k x ++ m:=by
 have h1:k.toNat ≤ l.length:=by omega
 unfold ins
 rw [List.take_append_of_le_length h1,List.drop_append_of_le_length h1]
 simp
theorem uw {l m:List Bal} {k:Int} {x:Bal} (h:0 ≤ k ∧ k ≤ l.length):ins (pf l k ++ m) k x = pf l k ++ x :: m:=by
 have h1:(pf l k).length = k.toNat:=by have:=bS h;omega
 unfold ins
 rw [← h1,List.take_left,List.drop_left]
theorem oh {l:List Bal} (hs:BSd l) (a c:Int):flt (neB a c) l = woB l a c:=by
 have hn:=gc l a c
 by_cases hh:lB l a c
 ·rw [woB,au hh]
  obtain ⟨h1,h2⟩:=kO hs hh
  have e:l = pf l (bIx l a c) ++ rd l (bIx l a c) :: l.drop ((bIx l a c).toNat + 1):=by
   have h3:(bIx l a c).toNat < l.length:=by omega
   have e2:rd l (bIx l a c) = l[(bIx l a c).toNat]:=by simp [rd,List.getD_eq_getElem?_getD,h3]
   unfold pf
   rw [e2,← List.drop_eq_getElem_cons h3,List.take_append_drop]
  have hd:∀ y ∈ l.drop ((bIx l a c).toNat + 1),neB a c y:=fun y hy k => by
   obtain ⟨n,hm,rfl⟩:=List.getElem_of_mem hy
   rw [List.length_drop] at hm
   have hl:=hs.lt (i:=bIx l a c) (j:=bIx l a c + 1 + n) hn.1 (by omega) (by omega)
   have e3:rd l (bIx l a c + 1 + n) = (l.drop ((bIx l a c).toNat + 1))[n]:=by
    rw [List.getElem_drop]
    have:(bIx l a c + 1 + (n:Int)).toNat = (bIx l a c).toNat + 1 + n:=by omega
    simp [rd,this,List.getD_eq_getElem?_getD,show (bIx l a c).toNat + 1 + n < l.length from by omega]
   rw [e3,h2.1,h2.2,k.1,k.2] at hl
   unfold bef at hl
   omega
  have e4:flt (neB a c) (rd l (bIx l a c) :: l.drop ((bIx l a c).toNat + 1)) = l.drop ((bIx l a c).toNat + 1):=by
   rw [show rd l (bIx l a c) :: l.drop ((bIx l a c).toNat + 1) = [rd l (bIx l a c)] ++ l.drop ((bIx l a c).toNat + 1) from rfl,aV,dm (fun k => k h2),gU hd]
   rfl
  conv => lhs;rw [e]
  rw [aV,gU ky,e4]
  rfl
 ·rw [woB,ab hh]
  exact gU (fun y hy k => hh ⟨y,hy,k⟩)
theorem m7 {l:List Bal} {a c n:Int} (hs:BSd l) (hl:l.length ≤ 4000000):FC Tryz.prog 169 [.c (.row 0 0 l.length),I a,I c,I n] ([ro 135 l]) (.c (.row 1 0 (dL l a c n).length)) ([ro 135 l,ow 135 (dL l a c n)]):=by
 refine ax tk 68 [.tmp 8] Tryz.func169 (by kernel_rfl) rfl rfl rfl rfl rfl rfl rfl ?_
 have hK:=gc l a c
 have hKa:=xi (l:=l) (a:=a) (c:=c)
 by_cases hz:n = 0
 ·rw [show dL l a c n = flt (neB a c) l from (au hz).trans (oh hs a c).symm]
  repeat' (first
| intro h9;exfalso;contradiction
| apply yds;rfl
| apply yd;rfl
| intro _
| refine nv ?_
| apply ai;rfl
| apply aH (α:=Bal) (e:=135);rfl
| fail)
  refine wlp (X:=Int × List Bal) [0,1,2,10,11] [0,1,2] (fun x => [(12,I x.1),(9,.c (.row 1 0 x.2.length))]) (fun x => [(1,ow 135 x.2)]) (fun x => (0 ≤ x.1 ∧ x.1 ≤ l.length) ∧ x.2 = flt (neB a c) (pf l x.1)) (fun x => (l.length - x.1).toNat) (0,[]) ⟨⟨by dsimp only;omega,by dsimp only;omega⟩,rfl⟩ rfl rfl (fun _ => rfl) (fun _ => rfl) ⟨rfl,rfl,rfl,rfl,rfl,rfl,rfl,rfl⟩ (fun x hx => ?_)
  obtain ⟨i,xs⟩:=x
  obtain ⟨h0,h2⟩:=hx
  dsimp only at h0 h2 ⊢
  have hxl:xs.length ≤ 4000000:=by rw [h2];have:=cV (neB a c) (pf l i);have:=bS h0;omega
  repeat' (first
| apply yds;rfl
| apply yd;rfl
| intro _
| refine nv ?_
| apply wct rfl
| apply wcf rfl
| apply ah rfl
| apply ai;rfl
| apply yne;rfl
| apply yar;rfl;omega
| apply yix;rfl;omega
| apply yle;rfl;omega
| apply aH (α:=Bal) (e:=135);rfl
| apply yap;rfl;(((try simp only [lE,lM]);(try dsimp only);omega))
| fail)
  all_goals first
   | exact aB (i + 1,xs ++ [rd l i]) [0,5,2] ⟨rfl,rfl,rfl,rfl,rfl,rfl,rfl,rfl⟩ ⟨⟨by dsimp only;omega,by dsimp only;omega⟩,by dsimp only;rw [bz ⟨h0.1,by assumption⟩,dN (p:=neB a c) (fun k => by first | exact absurd k.1 (by assumption) | exact absurd k.2 (by assumption)),h2]⟩ (by first | omega | (dsimp only;omega))
   | exact aB (i + 1,xs) [0,1,2] ⟨rfl,rfl,rfl,rfl,rfl,rfl,rfl,rfl⟩ ⟨⟨by dsimp only;omega,by dsimp only;omega⟩,by dsimp only;rw [bz ⟨h0.1,by assumption⟩,dm (p:=neB a c) (fun k => k ⟨by assumption,by assumption⟩),List.append_nil,h2]⟩ (by first | omega | (dsimp only;omega))
   | (rw [show flt (neB a c) l = xs from by rw [h2,b6 (by assumption)]]
      exact ak [0,1] rfl rfl rfl rfl rfl rfl)
 ·rw [show dL l a c n = ins (flt (neB a c) l) (bIx l a c) ⟨a,c,n⟩ from (ab hz).trans (by rw [oh hs a c])]
  repeat' (first
| intro h9;exfalso;contradiction
| apply yds;rfl
| apply yd;rfl
| intro _
| refine nv ?_
| apply ai;rfl
| apply aH (α:=Bal) (e:=135);rfl
| fail)
  refine wlp (X:=Int × Bool × List Bal) [0,1,2,11] [0,1,2] (fun x => [(12,I x.1),(10,B x.2.1),(9,.c (.row 1 0 x.2.2.length))]) (fun x => [(1,ow 135 x.2.2)]) (fun x => (0 ≤ x.1 ∧ x.1 ≤ l.length) ∧ (x.2.1 = false → x.1 ≤ bIx l a c ∧ x.2.2 = pf l x.1) ∧ (x.2.1 = true → bIx l a c < x.1 ∧ x.2.2 = ins (flt (neB a c) (pf l x.1)) (bIx l a c) ⟨a,c,n⟩)) (fun x => (l.length - x.1).toNat) (0,false,[]) ⟨⟨by dsimp only;omega,by dsimp only;omega⟩,fun _ => ⟨hK.1,rfl⟩,fun h => by cases h⟩ rfl rfl (fun _ => rfl) (fun _ => rfl) ⟨rfl,rfl,rfl,rfl,rfl,rfl,rfl,rfl⟩ (fun x hx => ?_)
  obtain ⟨i,put,xs⟩:=x
  obtain ⟨h0,hf,ht⟩:=hx
  dsimp only at h0 hf ht ⊢
  have hpl:=bS h0
  cases put
  ·obtain ⟨h1,h2⟩:=hf rfl
   have hxl:xs.length ≤ 4000000:=by rw [h2];omega
   clear hf ht
   have hlt:¬ bef (rd l i).Account (rd l i).Instr a c → bIx l a c = i:=fun hb => by
    by_cases hq:i < bIx l a c
    ·exact absurd (qV h0.1 hq) hb
    ·omega
   have hge:i < l.length → bef (rd l i).Account (rd l i).Instr a c → i ≠ bIx l a c:=fun h hb e => by
    have:=hKa (by omega)
    rw [← e] at this
    exact this hb
   repeat' (first
| apply yds;rfl
| apply yd;rfl
| intro _
| refine nv ?_
| apply wct rfl
| apply wcf rfl
| apply ah rfl
| apply ai;rfl
| apply yne;rfl
| apply yar;rfl;omega
| apply yix;rfl;omega
| apply yle;rfl;omega
| apply aH (α:=Bal) (e:=135);rfl
| apply yap;rfl;(((try simp only [lE,lM]);(try dsimp only);omega))
| apply ycp;rfl;exact iP;rfl
| fail)
   all_goals first
    | (have e:=hlt (by assumption)
       exact aB (i + 1,true,xs ++ [⟨a,c,n⟩] ++ [rd l i]) [0,7,2] ⟨rfl,rfl,rfl,rfl,rfl,rfl,rfl,rfl⟩ ⟨⟨by dsimp only;omega,by dsimp only;omega⟩,fun h => (by cases h),fun _ => ⟨by dsimp only;omega,by dsimp only;rw [bz ⟨h0.1,by assumption⟩,dN (p:=neB a c) (fun k => by first | exact absurd k.1 (by assumption) | exact absurd k.2 (by assumption)),h2,← e,gU ky,uw hK,List.append_assoc];rfl⟩⟩ (by first | omega | (dsimp only;omega)))
    | (have e:=hlt (by assumption)
       exact aB (i + 1,true,xs ++ [⟨a,c,n⟩]) [0,5,2] ⟨rfl,rfl,rfl,rfl,rfl,rfl,rfl,rfl⟩ ⟨⟨by dsimp only;omega,by dsimp only;omega⟩,fun h => (by cases h),fun _ => ⟨by dsimp only;omega,by dsimp only;rw [bz ⟨h0.1,by assumption⟩,dm (p:=neB a c) (fun k => k ⟨by assumption,by assumption⟩),h2,← e,gU ky,uw hK]⟩⟩ (by first | omega | (dsimp only;omega)))
    | (have e:=hge (by assumption) (by assumption)
       exact aB (i + 1,false,xs ++ [rd l i]) [0,5,2] ⟨rfl,rfl,rfl,rfl,rfl,rfl,rfl,rfl⟩ ⟨⟨by dsimp only;omega,by dsimp only;omega⟩,fun _ => ⟨by dsimp only;omega,by dsimp only;rw [h2,cg ⟨h0.1,by assumption⟩]⟩,fun h => (by cases h)⟩ (by first | omega | (dsimp only;omega)))
    | (exfalso
       have q:=vF (by assumption:bef (rd l i).Account (rd l i).Instr a c)
       exact q ⟨by assumption,by assumption⟩)
    | (rw [show ins (flt (neB a c) l) (bIx l a c) ⟨a,c,n⟩ = xs ++ [⟨a,c,n⟩] from by
        have e:bIx l a c = l.length:=by omega
        have e2:pf l (bIx l a c) = l:=b6 (by omega)
        have e3:=ky (l:=l) (a:=a) (c:=c)
        rw [e2] at e3
        rw [gU e3,gA e,h2,b6 (by assumption)]]
       exact ak [0,4] rfl rfl rfl rfl rfl rfl)
  ·obtain ⟨h1,h2⟩:=ht rfl
   have hfl:=Cf (l:=l) (a:=a) (c:=c) (i:=i) (by omega)
   have hxl:xs.length ≤ 4000001:=by rw [h2,cZ ⟨hK.1,hfl⟩];have:=cV (neB a c) (pf l i);omega
   clear hf ht
   repeat' (first
| apply yds;rfl
| apply yd;rfl
| intro _
| refine nv ?_
| apply wct rfl
| apply wcf rfl
| apply ah rfl
| apply ai;rfl
| apply yne;rfl
| apply yar;rfl;omega
| apply yix;rfl;omega
| apply yle;rfl;omega
| apply aH (α:=Bal) (e:=135);rfl
| apply yap;rfl;(((try simp only [lE,lM]);(try dsimp only);omega))
| fail)
   all_goals first
    | exact aB (i + 1,true,xs ++ [rd l i]) [0,5,2] ⟨rfl,rfl,rfl,rfl,rfl,rfl,rfl,rfl⟩ ⟨⟨by dsimp only;omega,by dsimp only;omega⟩,fun h => (by cases h),fun _ => ⟨by dsimp only;omega,by dsimp only;rw [bz ⟨h0.1,by assumption⟩,dN (p:=neB a c) (fun k => by first | exact absurd k.1 (by assumption) | exact absurd k.2 (by assumption)),zQ hfl,h2]⟩⟩ (by first | omega | (dsimp only;omega))
    | exact aB (i + 1,true,xs) [0,1,2] ⟨rfl,rfl,rfl,rfl,rfl,rfl,rfl,rfl⟩ ⟨⟨by dsimp only;omega,by dsimp only;omega⟩,fun h => (by cases h),fun _ => ⟨by dsimp only;omega,by dsimp only;rw [bz ⟨h0.1,by assumption⟩,dm (p:=neB a c) (fun k => k ⟨by assumption,by assumption⟩),List.append_nil,h2]⟩⟩ (by first | omega | (dsimp only;omega))
    | (rw [show ins (flt (neB a c) l) (bIx l a c) ⟨a,c,n⟩ = xs from by rw [h2,b6 (by assumption)]]
       exact ak [0,1] rfl rfl rfl rfl rfl rfl)
end
section
open Go.RowKit
def pk (a c n:Int):Prop:=aj a ∧ aj c ∧ aq n
def cw (g:List Leg):Prop:=g.length ≤ 160 ∧ ∀ x ∈ g,pk x.Account x.Instr x.Amount
def iJ (c:Int) (x:Leg):Int:=if x.Instr = c then x.Amount else 0
def bD (g:List Leg) (c:Int):Int:=ao (iJ c) g
def d4 (g:List Leg):Prop:=cw g ∧ ∀ x ∈ g,bD g x.Instr = 0
theorem y7 {c:Int} {x:Leg} (h:x.Instr = c):iJ c x = x.Amount:=if_pos h
theorem y6 {c:Int} {x:Leg} (h:¬ x.Instr = c):iJ c x = 0:=if_neg h
theorem tb {g:List Leg} (h:cw g) (c:Int):∀ x ∈ g,-1000000000000000 ≤ iJ c x ∧ iJ c x ≤ 1000000000000000:=fun x hx => by
 have:=(h.2 x hx).2.2
 unfold aq inP at this
 unfold iJ
 split <;> omega
theorem nW {a c n:Int}:FC Tryz.prog 228 [.agg [.sc (.int .i64 a),.sc (.int .i64 c),.sc (.int .i64 n)]] ([]) (B (dB (¬ pk a c n))) ([]):=by
 refine ax tk 19 [.tmp 2] Tryz.func228 (by kernel_rfl) rfl rfl rfl rfl rfl rfl rfl ?_
 repeat' (first
| apply yds;rfl
| intro _
| refine nv ?_
| apply ycp;rfl;(first | exact cQ | exact dU);rfl
| fail)
 all_goals first
  | exact b5 [] rfl rfl rfl rfl rfl rfl (fun k => k ⟨by assumption,by assumption,by assumption⟩)
  | exact bF [] rfl rfl rfl rfl rfl rfl (fun k => by obtain ⟨k1,k2,k3⟩:=k;contradiction)
theorem j6 {l:List Leg}:FC Tryz.prog 234 [.c (.row 0 0 l.length),.c (.fn 228 [])] ([ro 46 l]) (sel (∃ x ∈ l,¬ pk x.Account x.Instr x.Amount) (I (fIx l (fun x => ¬ pk x.Account x.Instr x.Amount))) (I (-1))) (sel (∃ x ∈ l,¬ pk x.Account x.Instr x.Amount) [ro 46 l] [ro 46 l]):=by
 refine ax tk 19 [.tmp 4] Tryz.func234 (by kernel_rfl) rfl rfl rfl rfl rfl rfl rfl ?_
 refine bX l 0 rfl (fun hl => ?_)
 repeat' (first
| apply yds;rfl
| apply yd;rfl
| refine nv ?_
| fail)
 refine wlp (X:=Int) [0,1,7] [0] (fun i => [(8,I i)]) (fun _ => []) (fun i => 0 ≤ i ∧ i ≤ l.length ∧ ∀ j:Int,0 ≤ j → j < i → ¬ (fun x => ¬ pk x.Account x.Instr x.Amount) (rd l j)) (fun i => (l.length - i).toNat) 0 ⟨by omega,by omega,fun j h0 h1 => by omega⟩ rfl rfl (fun _ => rfl) (fun _ => rfl) ⟨rfl,rfl,rfl,rfl,rfl,rfl,rfl,rfl⟩ (fun i hi => ?_)
 obtain ⟨h0,hi,hall⟩:=hi
 skip
 repeat' (first
| apply yds;rfl
| apply yd;rfl
| apply ycp;rfl;exact nW;rfl
| intro _
| refine nv ?_
| apply wct rfl
| apply wcf rfl
| apply ah rfl
| apply ai;rfl
| apply yar;rfl;omega
| apply yix;rfl;omega
| apply yle;rfl;omega
| fail)
 all_goals first
  | (refine dP (X':=I i) (hs':=[ro 46 l]) [0] rfl rfl rfl rfl rfl rfl ?_ ?_
     ·rw [au ⟨rd l i,aA ⟨by omega,by omega⟩,by assumption⟩,fD ⟨by omega,by omega⟩ hall (by assumption)]
     ·rw [au ⟨rd l i,aA ⟨by omega,by omega⟩,by assumption⟩])
  | exact bQ (iw (by assumption) hall) [0] rfl rfl rfl rfl rfl rfl
  | exact aB (i + 1) [0] ⟨rfl,rfl,rfl,rfl,rfl,rfl,rfl,rfl⟩ ⟨by omega,by omega,aD hall (by assumption)⟩ (by first | omega | (dsimp only;omega))
theorem ia {l:List Leg}:FC Tryz.prog 122 [.c (.row 0 0 l.length),.c (.fn 228 [])] ([ro 46 l]) (B (dB (∃ x ∈ l,¬ pk x.Account x.Instr x.Amount))) ([ro 46 l]):=by
 refine ax tk 9 [.tmp 4] Tryz.func122 (by kernel_rfl) rfl rfl rfl rfl rfl rfl rfl ?_
 have hn:=bY l (fun x => ¬ pk x.Account x.Instr x.Amount)
 repeat' (first
| apply yds;rfl
| apply yd;rfl
| intro _
| refine nv ?_
| apply ai;rfl
| apply zcs;(iterate 10 rfl);exact j6;exact fun _ => rfl;exact fun _ => rfl;rfl;rfl;rfl;rfl
| fail)
 all_goals first
  | exact bF [0] rfl rfl rfl rfl rfl rfl (by assumption)
  | exact b5 [0] rfl rfl rfl rfl rfl rfl (by assumption)
  | (exfalso;omega)
theorem fP {g:List Leg}:FC Tryz.prog 116 [.c (.row 0 0 g.length)] ([ro 46 g]) (B (dB (cw g))) ([ro 46 g]):=by
 refine ax tk 11 [.tmp 2] Tryz.func116 (by kernel_rfl) rfl rfl rfl rfl rfl rfl rfl ?_
 repeat' (first
| apply yds;rfl
| apply yd;rfl
| intro _
| refine nv ?_
| apply ai;rfl
| apply ycp;rfl;exact ia;rfl
| fail)
 all_goals first
  | exact bF [0] rfl rfl rfl rfl rfl rfl ⟨by omega,fun x hx => Classical.byContradiction fun k => absurd (⟨x,hx,k⟩:∃ x ∈ g,¬ pk x.Account x.Instr x.Amount) (by assumption)⟩
  | exact b5 [0] rfl rfl rfl rfl rfl rfl (fun h => by have:=h.1;omega)
  | exact b5 [0] rfl rfl rfl rfl rfl rfl (fun h => by obtain ⟨x,hx,k⟩:∃ x ∈ g,¬ pk x.Account x.Instr x.Amount:=(by assumption);exact k (h.2 x hx))
theorem dM {g:List Leg}:FC Tryz.prog 304 [.c (.row 0 0 g.length)] ([ro 46 g]) (B (dB (cw g))) ([ro 46 g]):=by
 refine ax tk 38 [.tmp 2] Tryz.func304 (by kernel_rfl) rfl rfl rfl rfl rfl rfl rfl ?_
 repeat' (first
| apply yds;rfl
| apply yd;rfl
| intro _
| refine nv ?_
| apply wct rfl
| apply wcf rfl
| apply ai;rfl
| fail)
 rotate_left
 ·refine wlp (X:=Int) [0] [0] (fun i => [(3,I i)]) (fun _ => []) (fun i => 0 ≤ i ∧ i ≤ g.length ∧ ∀ j:Int,0 ≤ j → j < i → pk (rd g j).Account (rd g j).Instr (rd g j).Amount) (fun i => (g.length - i).toNat) 0 ⟨by omega,by omega,fun j h0 h1 => by omega⟩ rfl rfl (fun _ => rfl) (fun _ => rfl) ⟨rfl,rfl,rfl,rfl,rfl,rfl,rfl,rfl⟩ (fun i hi => ?_)
  obtain ⟨h0,hi,hall⟩:=hi
  repeat' (first
| apply yds;rfl
| apply yd;rfl
| intro _
| refine nv ?_
| apply wct rfl
| apply wcf rfl
| apply ah rfl
| apply ai;rfl
| apply yar;rfl;omega
| apply yix;rfl;omega
| apply yle;rfl;omega
| apply ycp;rfl;(first | exact aQ | exact bL);rfl
| fail)
  all_goals first
   | exact aB (i + 1) [0] ⟨rfl,rfl,rfl,rfl,rfl,rfl,rfl,rfl⟩ ⟨by omega,by omega,aD hall ⟨by assumption,by assumption,by assumption⟩⟩ (by first | omega | (dsimp only;omega))
   | exact bF [0] rfl rfl rfl rfl rfl rfl ⟨by omega,all_rd.1 fun j h1 h2 => hall j h1 (by omega)⟩
   | exact b5 [0] rfl rfl rfl rfl rfl rfl (fun h => by obtain ⟨e1,e2,e3⟩:=h.2 _ (aA (l:=g) (i:=i) ⟨h0,by assumption⟩);contradiction)
 all_goals exact b5 [0] rfl rfl rfl rfl rfl rfl (fun h => by have:=h.1;omega)
theorem nK {g:List Leg}:FC Tryz.prog 26 [.c (.row 0 0 g.length)] ([ro 46 g]) (B (dB (d4 g))) ([ro 46 g]):=by
 refine ax tk 36 [.tmp 2] Tryz.func26 (by kernel_rfl) rfl rfl rfl rfl rfl rfl rfl ?_
 repeat' (first
| apply yds;rfl
| apply yd;rfl
| intro _
| refine nv ?_
| apply wct rfl
| apply wcf rfl
| apply ycp;rfl;exact fP;rfl
| fail)
 rotate_left
 ·exact b5 [0] rfl rfl rfl rfl rfl rfl (fun h => absurd h.1 (by assumption))
 rename_i hf
 have hl:=hf.1
 refine wlp (X:=Int) [0,11,12] [0] (fun i => [(13,I i)]) (fun _ => []) (fun i => 0 ≤ i ∧ i ≤ g.length ∧ ∀ j:Int,0 ≤ j → j < i → bD g (rd g j).Instr = 0) (fun i => (g.length - i).toNat) 0 ⟨by omega,by omega,fun j h0 h1 => by omega⟩ rfl rfl (fun _ => rfl) (fun _ => rfl) ⟨rfl,rfl,rfl,rfl,rfl,rfl,rfl,rfl⟩ (fun i hi => ?_)
 obtain ⟨h0,hi,hall⟩:=hi
 repeat' (first
| apply yds;rfl
| apply yd;rfl
| intro _
| refine nv ?_
| apply wct rfl
| apply wcf rfl
| apply ah rfl
| apply ai;rfl
| apply yix;rfl;omega
| apply yle;rfl;omega
| fail)
 rotate_left
 ·exact bF [0] rfl rfl rfl rfl rfl rfl ⟨hf,all_rd.1 fun j h1 h2 => hall j h1 (by omega)⟩
 rename_i hil
 refine wlp (X:=Int × Int) [0,4,11,12,13,17,18] [0,1] (fun x => [(19,I x.1),(5,I x.2)]) (fun _ => []) (fun x => (0 ≤ x.1 ∧ x.1 ≤ g.length) ∧ x.2 = bD (pf g x.1) (rd g i).Instr) (fun x => (g.length - x.1).toNat) (0,0) ⟨⟨by dsimp only;omega,by dsimp only;omega⟩,rfl⟩ rfl rfl (fun _ => rfl) (fun _ => rfl) ⟨rfl,rfl,rfl,rfl,rfl,rfl,rfl,rfl⟩ (fun x hx => ?_)
 obtain ⟨k,n⟩:=x
 obtain ⟨k0,hn⟩:=hx
 dsimp only at k0 hn ⊢
 have hb:=fY (tb hf (rd g i).Instr) k0
 rw [show ao (iJ (rd g i).Instr) (pf g k) = n from hn.symm] at hb
 have hs:=fun h:k < g.length => bU (f:=iJ (rd g i).Instr) (l:=g) (i:=k) ⟨k0.1,h⟩
 have hb2:=fun h:k < g.length => (hf.2 _ (aA (l:=g) (i:=k) ⟨k0.1,h⟩)).2.2
 unfold aq inP at hb2
 repeat' (first
| apply yds;rfl
| apply yd;rfl
| apply yar;rfl;(have h1:=hb2 (by assumption);omega)
| intro _
| refine nv ?_
| apply wct rfl
| apply wcf rfl
| apply ah rfl
| apply ai;rfl
| apply yne;rfl
| apply yar;rfl;omega
| apply yix;rfl;omega
| apply yle;rfl;omega
| fail)
 all_goals first
  | (rename_i h e
     exact aB (k + 1,_) [0,1] ⟨rfl,rfl,rfl,rfl,rfl,rfl,rfl,rfl⟩ ⟨⟨by dsimp only;omega,by dsimp only;omega⟩,by dsimp only;rw [bD,hs h,y7 e,hn];rfl⟩ (by first | omega | (dsimp only;omega)))
  | (rename_i h e
     exact aB (k + 1,_) [0,1] ⟨rfl,rfl,rfl,rfl,rfl,rfl,rfl,rfl⟩ ⟨⟨by dsimp only;omega,by dsimp only;omega⟩,by dsimp only;rw [bD,hs h,y6 e,hn,Int.add_zero];rfl⟩ (by first | omega | (dsimp only;omega)))
  | (have e:n = bD g (rd g i).Instr:=hn.trans (congrArg (fun x => bD x (rd g i).Instr) (b6 (i:=k) (by assumption)))
     first
     | exact b5 [0] rfl rfl rfl rfl rfl rfl (fun h => absurd (e.trans (h.2 _ (aA (l:=g) (i:=i) ⟨h0,hil⟩))) (by assumption))
     | exact aB (i + 1) [0] ⟨rfl,rfl,rfl,rfl,rfl,rfl,rfl,rfl⟩ ⟨by omega,by omega,aD hall (e.symm.trans (by first | assumption | omega))⟩ (by first | omega | (dsimp only;omega)))
theorem nN {g:List Leg}:FC Tryz.prog 305 [.c (.row 0 0 g.length)] ([ro 46 g]) (B (dB (d4 g))) ([ro 46 g]):=by
 refine ax tk 41 [.tmp 2] Tryz.func305 (by kernel_rfl) rfl rfl rfl rfl rfl rfl rfl ?_
 repeat' (first
| apply yd;rfl
| intro _
| refine nv ?_
| apply wct rfl
| apply wcf rfl
| apply ycp;rfl;exact dM;rfl
| fail)
 rotate_left
 ·exact b5 [0] rfl rfl rfl rfl rfl rfl (fun h => absurd h.1 (by assumption))
 rename_i hf
 have hl:=hf.1
 refine wlp (X:=Int) [0] [0] (fun i => [(3,I i)]) (fun _ => []) (fun i => 0 ≤ i ∧ i ≤ g.length ∧ ∀ j:Int,0 ≤ j → j < i → bD g (rd g j).Instr = 0) (fun i => (g.length - i).toNat) 0 ⟨by omega,by omega,fun j h0 h1 => by omega⟩ rfl rfl (fun _ => rfl) (fun _ => rfl) ⟨rfl,rfl,rfl,rfl,rfl,rfl,rfl,rfl⟩ (fun i hi => ?_)
 obtain ⟨h0,hi,hall⟩:=hi
 repeat' (first
| apply yds;rfl
| apply yd;rfl
| intro _
| refine nv ?_
| apply wct rfl
| apply wcf rfl
| apply ah rfl
| apply ai;rfl
| fail)
 rotate_left
 ·exact bF [0] rfl rfl rfl rfl rfl rfl ⟨hf,all_rd.1 fun j h1 h2 => hall j h1 (by omega)⟩
 rename_i hil
 refine wlp (X:=Int × Int) [0,3] [0] (fun x => [(5,I x.1),(4,I x.2)]) (fun _ => []) (fun x => (0 ≤ x.1 ∧ x.1 ≤ g.length) ∧ x.2 = bD (pf g x.1) (rd g i).Instr) (fun x => (g.length - x.1).toNat) (0,0) ⟨⟨by dsimp only;omega,by dsimp only;omega⟩,rfl⟩ rfl rfl (fun _ => rfl) (fun _ => rfl) ⟨rfl,rfl,rfl,rfl,rfl,rfl,rfl,rfl⟩ (fun x hx => ?_)
 obtain ⟨k,n⟩:=x
 obtain ⟨k0,hn⟩:=hx
 dsimp only at k0 hn ⊢
 have hb:=fY (tb hf (rd g i).Instr) k0
 rw [show ao (iJ (rd g i).Instr) (pf g k) = n from hn.symm] at hb
 have hs:=fun h:k < g.length => bU (f:=iJ (rd g i).Instr) (l:=g) (i:=k) ⟨k0.1,h⟩
 have hb2:=fun h:k < g.length => (hf.2 _ (aA (l:=g) (i:=k) ⟨k0.1,h⟩)).2.2
 unfold aq inP at hb2
 repeat' (first
| apply yds;rfl
| apply yd;rfl
| apply yar;rfl;(have h1:=hb2 (by assumption);omega)
| intro _
| refine nv ?_
| apply wct rfl
| apply wcf rfl
| apply ah rfl
| apply ai;rfl
| apply yne;rfl
| apply yar;rfl;omega
| apply yix;rfl;omega
| apply yle;rfl;omega
| refine zdq (id:=10) rfl (by kernel_rfl) [(.p,0),(.p,1),(.p,2),(.p,3),(.p,5),(.p,6),(.p,7),(.p,8),(.t,4),(.t,9),(.p,10)] [] (by kernel_rfl) rfl ?_
| fail)
 all_goals first
  | (rename_i h e
     exact aB (k + 1,_) [0] ⟨rfl,rfl,rfl,rfl,rfl,rfl,rfl,rfl⟩ ⟨⟨by dsimp only;omega,by dsimp only;omega⟩,by dsimp only;rw [bD,hs h,y7 e,hn];rfl⟩ (by first | omega | (dsimp only;omega)))
  | (rename_i h e
     exact aB (k + 1,_) [0] ⟨rfl,rfl,rfl,rfl,rfl,rfl,rfl,rfl⟩ ⟨⟨by dsimp only;omega,by dsimp only;omega⟩,by dsimp only;rw [bD,hs h,y6 e,hn,Int.add_zero];rfl⟩ (by first | omega | (dsimp only;omega)))
  | (have e:n = bD g (rd g i).Instr:=hn.trans (congrArg (fun x => bD x (rd g i).Instr) (b6 (i:=k) (by assumption)))
     first
     | exact b5 [0] rfl rfl rfl rfl rfl rfl (fun h => absurd (e.trans (h.2 _ (aA (l:=g) (i:=i) ⟨h0,hil⟩))) (by assumption))
     | exact aB (i + 1) [0] ⟨rfl,rfl,rfl,rfl,rfl,rfl,rfl,rfl⟩ ⟨by omega,by omega,aD hall (e.symm.trans (by first | assumption | omega))⟩ (by first | omega | (dsimp only;omega)))
theorem uQ {a b:Int} (ha:aq a) (hb:aq b):FC Tryz.prog 306 [I a,I b] ([]) (sel (aq (a + b)) (.tup [I (a + b),B true]) (.tup [I 0,B false])) (sel (aq (a + b)) [] []):=by
 refine ax tk 18 [.tmp 4,.tmp 5] Tryz.func306 (by kernel_rfl) rfl rfl rfl rfl rfl rfl rfl ?_
 have ha2:=ha
 have hb2:=hb
 unfold aq inP at ha2 hb2
 repeat' (first
| apply yds;rfl
| apply yd;rfl
| intro _
| refine nv ?_
| apply yar;rfl;omega
| apply ycp;rfl;exact bL;rfl
| apply yc;rfl;exact ls;rfl;exact fun _ => rfl
| apply zcs;(iterate 10 rfl);exact lu;exact fun _ => rfl;exact fun _ => rfl;rfl;rfl;rfl;rfl
| fail)
 all_goals first
  | (exfalso;contradiction)
  | exact iH (by assumption) [] rfl rfl rfl rfl rfl rfl
  | exact bQ (by assumption) [] rfl rfl rfl rfl rfl rfl
end
section
open Go.RowKit
def oO (x y:Bal):Prop:=bef x.Account x.Instr y.Account y.Instr
theorem lU {α:Type} [Enc α] {l:List α} {i:Int} (h:i.toNat < l.length):rd l i = l[i.toNat]:=by simp [rd,List.getD_eq_getElem?_getD,h]
theorem BSd_iff {l:List Bal}:BSd l ↔ l.Pairwise oO:=by
 constructor
 ·intro h
  rw [List.pairwise_iff_getElem]
  intro i j hi hj hij
  have:=h.lt (i:=i) (j:=j) (by omega) (by omega) (by omega)
  rw [lU (l:=l) (i:=i) (by omega),lU (l:=l) (i:=j) (by omega)] at this
  exact this
 ·intro h i h0 h1
  rw [List.pairwise_iff_getElem] at h
  have:=h (i - 1).toNat i.toNat (by omega) (by omega) (by omega)
  rw [lU (l:=l) (i:=i - 1) (by omega),lU (l:=l) (i:=i) (by omega)]
  exact this
theorem dA {l:List Bal} (hs:BSd l) (a c n:Int):dL l a c n = pf l (bIx l a c) ++ (if n = 0 then [] else [⟨a,c,n⟩]) ++ flt (neB a c) (l.drop (bIx l a c).toNat):=by
 have hK:=gc l a c
 have e:flt (neB a c) l = pf l (bIx l a c) ++ flt (neB a c) (l.drop (bIx l a c).toNat):=by
  have e1:l = pf l (bIx l a c) ++ l.drop (bIx l a c).toNat:=(List.take_append_drop _ _).symm
  conv => lhs;rw [e1]
  rw [aV,gU ky]
 unfold dL
 rw [← oh hs,e]
 by_cases hz:n = 0
 ·rw [au hz,if_pos hz,List.append_nil]
 ·rw [ab hz,if_neg hz,uw hK]
  simp
theorem vi {l:List Bal} (hs:BSd l) (a c:Int):∀ y ∈ l.drop (bIx l a c).toNat,¬ bef y.Account y.Instr a c:=by
 intro y hy
 have hK:=gc l a c
 obtain ⟨m,hm,rfl⟩:=List.getElem_of_mem hy
 rw [List.length_drop] at hm
 have e3:(l.drop (bIx l a c).toNat)[m] = rd l (bIx l a c + m):=by
  have:(bIx l a c + (m:Int)).toNat = (bIx l a c).toNat + m:=by omega
  rw [List.getElem_drop,lU (by omega)]
  simp only [this]
 rw [e3]
 have ha:=xi (l:=l) (a:=a) (c:=c) (by omega)
 by_cases h0:m = 0
 ·subst h0
  simpa using ha
 ·have:=hs.lt (i:=bIx l a c) (j:=bIx l a c + m) hK.1 (by omega) (by omega)
  intro k
  exact ha (n7 this k)
theorem ff {l:List Bal} (hs:BSd l) (a c n:Int):BSd (dL l a c n):=by
 have hp:=BSd_iff.1 hs
 rw [BSd_iff,dA hs]
 have h1:(pf l (bIx l a c)).Pairwise oO:=hp.sublist (List.take_sublist _ _)
 have h2:(flt (neB a c) (l.drop (bIx l a c).toNat)).Pairwise oO:=hp.sublist (List.filter_sublist.trans (List.drop_sublist _ _))
 have h3:∀ y ∈ pf l (bIx l a c),bef y.Account y.Instr a c:=fun y hy => by
  obtain ⟨j,hj,rfl⟩:=bw hy
  have hn:=gc l a c
  rw [bS hn] at hj
  rw [vT ⟨hj.1,hj.2⟩]
  exact qV hj.1 hj.2
 have h4:∀ y ∈ flt (neB a c) (l.drop (bIx l a c).toNat),bef a c y.Account y.Instr:=fun y hy => by
  obtain ⟨hy1,hy2⟩:=flt_mem.1 hy
  have hy3:=vi hs a c y hy1
  unfold neB at hy2
  unfold bef at *
  omega
 have h5:∀ x ∈ pf l (bIx l a c),∀ y ∈ flt (neB a c) (l.drop (bIx l a c).toNat),oO x y:=fun x hx y hy => n7 (h3 x hx) (h4 y hy)
 split
 ·rw [List.append_nil,List.pairwise_append]
  exact ⟨h1,h2,h5⟩
 ·rw [List.append_assoc,List.pairwise_append]
  refine ⟨h1,List.pairwise_cons.2 ⟨fun y hy => h4 y hy,h2⟩,fun x hx y hy => ?_⟩
  rcases List.mem_cons.1 hy with rfl | hy
  ·exact h3 x hx
  ·exact h5 x hx y hy
theorem pz {l:List Bal} (hs:BSd l) {a c n:Int} {x:Bal} (h:x ∈ dL l a c n):x ∈ l ∨ x = ⟨a,c,n⟩:=by
 rw [dA hs] at h
 simp only [List.mem_append] at h
 rcases h with (h | h) | h
 ·exact .inl (List.mem_of_mem_take h)
 ·split at h
  ·cases h
  ·exact .inr (List.mem_singleton.1 h)
 ·exact .inl (List.mem_of_mem_drop (flt_mem.1 h).1)
theorem px {l:List Bal} (hs:BSd l) (a c n:Int):(dL l a c n).length ≤ l.length + 1:=by
 rw [dA hs]
 have h1:=cV (neB a c) (l.drop (bIx l a c).toNat)
 have h2:=bS (gc l a c)
 have hK:=gc l a c
 rw [List.length_drop] at h1
 simp only [List.length_append]
 split
 ·simp only [List.length_nil];omega
 ·simp only [List.length_cons,List.length_nil];omega
noncomputable def lw (o:List Bal) (g:Leg):List Bal:=dL o g.Account g.Instr (aL o g.Account g.Instr + g.Amount)
noncomputable def pO (l:List Bal) (g:List Leg):List Bal:=g.foldl lw l
theorem rI {l:List Bal} {g:List Leg} {i:Int} (h:0 ≤ i ∧ i < g.length):pO l (pf g (i + 1)) = lw (pO l (pf g i)) (rd g i):=by
 rw [cg h,pO,List.foldl_append]
 rfl
def qU (l:List Bal):Prop:=∀ x ∈ l,aq x.Amount
theorem BalsOk.amt {l:List Bal} (h:BalsOk l):qU l:=fun x hx => by
 obtain ⟨i,hi,rfl⟩:=bw hx
 exact (h.1 i hi.1 hi.2).2.2.1
theorem mX {l:List Bal} {a c:Int} (h:aL l a c ≠ 0):∃ x ∈ l,x.Account = a ∧ x.Instr = c ∧ x.Amount = aL l a c:=by
 unfold aL at *
 cases hf:l.find? (fun x => decide (x.Account = a ∧ x.Instr = c)) with
 | none => rw [hf] at h;exact absurd rfl h
 | some x =>
   rw [hf] at h
   have:=List.find?_some hf
   simp only [decide_eq_true_eq] at this
   exact ⟨x,List.mem_of_find?_eq_some hf,this.1,this.2,rfl⟩
theorem cP {l:List Bal} (h:qU l) (a c:Int):aq (aL l a c):=by
 by_cases e:aL l a c = 0
 ·rw [e];unfold aq inP;omega
 ·obtain ⟨x,hx,_,_,e2⟩:=mX e
  rw [← e2]
  exact h x hx
theorem pv {l:List Bal} (hs:BSd l) (h:qU l) {a c n:Int} (hn:aq n):qU (dL l a c n):=fun x hx => by
 rcases pz hs hx with h1 | rfl
 ·exact h x h1
 ·exact hn
end
end Go.Proofs.YtgehbhkfehmdkaaGreat.Sh
