/- slices.SortFunc nq a row of one's own. No condition. -/
import Derived.Test.YtgehbhkfehmdkaaGreatKUShU
import Derived.Shelf.SlSortCmp.NoneTotal
set_option linter.unusedSectionVars false
set_option linter.unusedSimpArgs false
set_option linter.unusedVariables false
namespace Go.Proofs.YtgehbhkfehmdkaaGreat.Sh
open Go.RowKit Go.Shelf Go.Sort Go.Lib
section
variable {α:Type} [Enc α] [Inhabited α]
theorem vj (x:α):(Enc.enc x).length = Enc.sz α:=Enc.len x
theorem oQ (l:List α):gv (Enc.sz α) (l.map Enc.enc):=fun c hc => by
 obtain ⟨x,_,rfl⟩:=List.mem_map.1 hc
 exact ⟨Enc.len x,fun u hu => List.all_eq_true.1 (Enc.one x) u hu⟩
theorem zu (l:List α) {i:Nat} (h:i < l.length):l.toArray[i]! = l[i]:=by
 rw [getElem!_pos _ i (by simpa using h)]
 simp
theorem qF (l:List α) {t:Nat} (h:t < l.length * Enc.sz α):((l.map Enc.enc).flatten)[t]? = some ((flatK Enc.enc (Enc.sz α) l.toArray)[t]!):=by
 have hp:0 < Enc.sz α:=Enc.pos
 have h1:t / Enc.sz α < l.length:=by rw [Nat.div_lt_iff_lt_mul hp];exact h
 have h2:t % Enc.sz α < Enc.sz α:=Nat.mod_lt _ hp
 have hl:=vj (l[t / Enc.sz α]'h1)
 rw [get_flatK _ _ _ t (by simpa using h),zu l h1]
 have:=og (sz:=Enc.sz α) (L:=l.map Enc.enc) (fun c hc => (oQ l c hc).1) (i:=t / Enc.sz α) (j:=t % Enc.sz α) (c:=Enc.enc (l[t / Enc.sz α]'h1)) (u:=(Enc.enc (l[t / Enc.sz α]'h1))[t % Enc.sz α]!) (by rw [List.getElem?_map,List.getElem?_eq_getElem h1];rfl) (by rw [getElem!_pos _ _ (by omega),List.getElem?_eq_getElem (by omega)])
 rwa [Nat.div_add_mod' t (Enc.sz α)] at this
theorem sV (l:List α):((l.map Enc.enc).flatten).length = l.length * Enc.sz α:=by
 rw [cq (fun c hc => (oQ l c hc).1),List.length_map]
theorem wT {l:List α} {w:World} {gb e:Nat} {cur:Array Value} (hg:w.heap[gb]? = some (.cells cur e (0,0))) (ht:cur.toList.take (l.length * Enc.sz α) = (l.map Enc.enc).flatten):HoldsK Enc.enc (Enc.sz α) w gb 0 l.toArray:=by
 intro j hj
 have hj':j < l.length * Enc.sz α:=by simpa using hj
 refine ⟨?_,blk_frozen' hg _⟩
 have h1:=qF l hj'
 rw [← ht,List.getElem?_take_of_lt hj'] at h1
 unfold World.cell?
 rw [hg]
 show cur[0 + j]? = _
 rw [Nat.zero_add,← Array.getElem?_toList]
 exact h1
theorem rR {S:List α} {w:World} {gb e m:Nat} {os:Array Obj} {cur:Array Value} (hg:w.heap[gb]? = some (.cells cur e (0,0))) (hs:S.length * Enc.sz α ≤ cur.size) :
  ∃ cur',(sortWorldK Enc.enc (Enc.sz α) w gb 0 m S.toArray os).heap[gb]? = some (.cells cur' e (0,0)) ∧ cur'.size = cur.size ∧ cur'.toList.take (S.length * Enc.sz α) = (S.map Enc.enc).flatten:=by
 have hlt:gb < w.heap.size:=(Array.getElem?_eq_some_iff.1 hg).1
 refine ⟨putCells id 0 (flatK Enc.enc (Enc.sz α) S.toArray) cur,?_,by simp [putCells],?_⟩
 ·unfold sortWorldK putRowK putRow
  rw [heap_grow_old _ _ (by simpa [mapBlock,Sort.ahead] using hlt)]
  show ((Sort.ahead w m).heap.modify gb _)[gb]? = _
  rw [Array.getElem?_modify,if_pos rfl]
  show Option.map _ w.heap[gb]? = _
  rw [hg]
  rfl
 ·apply List.ext_getElem?
  intro t
  by_cases ht:t < S.length * Enc.sz α
  ·rw [List.getElem?_take_of_lt ht,qF S ht,Array.getElem?_toList,putCells,Array.getElem?_mapIdx,Array.getElem?_eq_getElem (by omega)]
   simp only [Option.map_some,size_flatK,Nat.zero_le,true_and,Nat.zero_add,Nat.sub_zero,id]
   rw [if_pos (by simpa using ht)]
  ·rw [List.getElem?_take_eq_none (by omega),List.getElem?_eq_none (by rw [sV];omega)]
theorem rS (S:Array α) (w:World) (gb m:Nat) (os:Array Obj) {k:Nat} (hk:k < w.heap.size) (hne:k ≠ gb):(sortWorldK Enc.enc (Enc.sz α) w gb 0 m S os).heap[k]? = w.heap[k]?:=by
 unfold sortWorldK putRowK putRow
 rw [heap_grow_old _ _ (by simpa [mapBlock,Sort.ahead] using hk)]
 show ((Sort.ahead w m).heap.modify gb _)[k]? = _
 rw [Array.getElem?_modify,if_neg (fun h => hne h.symm)]
 rfl
theorem zL {P:Program} {ρr:Ren} (L:SlLaysF0.n6 P ρr) (aE:∀ w,(isAgg (ρr.t 24)).run P w = .ok true w) (zE:∀ w,(Go.sizeOf (ρr.t 24)).run P w = .ok (Enc.sz α) w) (hE:ga P (ρr.f 6)) (e:TypeId) (cf:α → α → Int) (hO:SWO (ltOf cf)) (g:FuncId) (eg:∀ args w,(callFunc g args).run P w = .ok (.enter g args) w)
  (hcmp:∀ (w:World) (x y:α),Calls P g #[.agg (Enc.enc x).toArray,.agg (Enc.enc y).toArray] w fun e w' => e = .returned (.int .i64 (cf x y)) ∧ ∃ q os',w' = grow (w.drewN q) os')
  {l S:List α} (hl:l.length ≤ 4000000) (hS:∀ d:List α,d.Perm l → d.Pairwise (fun x y => ltOf cf y x = false) → d = S):FC P (ρr.f 6) [.c (.row 0 0 l.length),.c (.fn g [])] [ow e l] (.tup []) [ow e S] :=
 ⟨hE,fun ρ w fz cargs hρ hH ha => by
  obtain ⟨v0,v1,rfl⟩:∃ v0 v1,cargs = [v0,v1]:=by
   match cargs,ha with
   | [a,b],_ => exact ⟨a,b,rfl⟩
  obtain ⟨hv0,hv1,_⟩:=ha
  obtain ⟨cs,rfl,hcs⟩:=hv1
  have hcs0:cs = #[]:=by
   cases h:cs.toList with
   | nil => exact Array.eq_empty_of_size_eq_zero (by rw [← Array.length_toList,h];rfl)
   | cons a b => rw [h] at hcs;exact hcs.elim
  subst hcs0
  obtain ⟨sl,k1,k2⟩:=hH.obj 0 _ rfl
  obtain ⟨q1,q2⟩:=k2.own rfl
  obtain ⟨sl',e1,e2,e3⟩:=hv0
  obtain rfl:sl = sl':=by rw [k1] at e1;exact Option.some.inj e1
  have hlen:l.length ≤ sl.cap:=by have:=k2.len;simpa [El.len] using this
  by_cases h0:l = []
  ·subst h0
   have hS0:S = []:=(hS [] (.refl _) .nil).symm
   subst hS0
   obtain ⟨A,c,rfl⟩:∃ A c,v0 = .slice A 0 c:=by
    rcases e3 with ⟨c,rfl,_⟩ | ⟨_,_,A,c,rfl,_⟩
    ·exact ⟨_,_,rfl⟩
    ·exact ⟨_,_,rfl⟩
   refine (AnyF.slices_SortFunc_none { L with } A c (.func (.func g) #[] #[]) w).mono fun e' w' hh => ?_
   obtain ⟨rfl,rfl⟩:=hh
   exact ⟨.tup [],_,.tuple #[],ρ,⟨rfl,rfl⟩,rfl,⟨#[],rfl,trivial⟩,hH,hρ,Ext.refl _⟩
  ·have hpos:0 < l.length:=List.length_pos_iff.2 h0
   rcases q2 with ⟨_,q3⟩ | ⟨gb,cur,qa,qg,qs⟩
   ·omega
   have qg:w.heap[gb]? = some (.cells cur e (0,0)):=qg
   have hsz:sl.sz = Enc.sz α:=k2.sz
   have qs:cur.size = sl.cap * Enc.sz α:=qs
   have hsl:sl = ⟨some ⟨gb,0,none⟩,sl.cap,Enc.sz α,false⟩:=rQ qa hsz q1
   have htake:cur.toList.take (l.length * Enc.sz α) = (l.map Enc.enc).flatten:=by
    have:=pn k2 qa qg qs
    rwa [List.length_map] at this
   obtain ⟨c,rfl⟩:∃ c,v0 = .slice (some ⟨gb,0,none⟩) l.length c:=by
    rcases e3 with ⟨c,rfl,_⟩ | ⟨h,_⟩
    ·refine ⟨c,?_⟩
     rw [qa]
     simp [Addr.add]
    ·omega
   have hlt:gb < w.heap.size:=(Array.getElem?_eq_some_iff.1 qg).1
   refine (AnyQ.slices_SortFunc L (Enc.sz α) aE zE Enc.enc vj (fun x v hv => List.all_eq_true.1 (Enc.one x) v hv) cf hO g #[] gb 0 c l.toArray w eg (fun m os dk _ x y => hcmp _ x y) (wT qg htake) hlt (by simp;omega)).mono fun e' w' hh => ?_
   obtain ⟨rfl,d',m,os,hp,hs,rfl⟩:=hh
   have hd:d'.toList = S:=by
    have hsize:d'.size = l.length:=by simpa using hp.1
    refine hS _ ?_ ?_
    ·have:=hp.2.2
     have e1:d'.extract 0 l.toArray.size = d':=by rw [Array.extract_eq_self_iff];right;exact ⟨rfl,by simp [hsize]⟩
     have e2:l.toArray.extract 0 l.toArray.size = l.toArray:=by simp
     rw [e1,e2] at this
     exact this
    ·rw [List.pairwise_iff_getElem]
     intro i j hi hj hij
     have hi':i < d'.size:=by simpa using hi
     have hj':j < d'.size:=by simpa using hj
     have:=hs i j (Nat.zero_le _) hij (by simp;omega)
     rw [getElem!_pos _ i hi',getElem!_pos _ j hj'] at this
     simpa using this
   have hSl:S.length = l.length:=by rw [← hd];have:=hp.1;simpa using this
   have hd2:d' = S.toArray:=by rw [← hd]
   subst hd2
   obtain ⟨cur',c1,c2,c3⟩:=rR (S:=S) (m:=m) (os:=os) qg (by rw [hSl,qs];exact Nat.mul_le_mul_right _ hlen)
   have hobj:ObjH ρ sl ⟨true,e,Enc.sz α,.fl (S.map Enc.enc)⟩ (sortWorldK Enc.enc (Enc.sz α) w gb 0 m S.toArray os):=by
    have:=ju (ρ:=ρ) (L:=S.map Enc.enc) c1 (by rw [c2];exact qs) (oQ S) (by rw [List.length_map,hSl];exact hlen) k2.max Enc.pos (by rw [List.length_map];exact c3)
    rwa [← hsl] at this
   have hblk:sl.blk = some gb:=by simp [Slot.blk,qa]
   refine ⟨.tup [],[ow e S],.tuple #[],ρ,⟨rfl,rfl⟩,rfl,⟨#[],rfl,trivial⟩,?_,hρ,Ext.refl _⟩
   refine hH.one rfl rfl rfl (by unfold sortWorldK putRowK putRow;rw [size_grow];simp [mapBlock,Sort.ahead]) (some gb) (fun k hk hne => rS _ _ _ _ _ hk (fun e => hne (by rw [e]))) (Ext.refl _) 0 _ sl k1 hobj
    (fun g' hg' => ⟨0,_,sl,rfl,rfl,k1,by rw [hblk];exact hg',fun _ _ => rfl⟩) (fun o' ob' ho' hne => ?_) rfl (fun g' hg' => .inl (by rw [← hblk];exact hg'))
   cases o' with
   | zero => exact absurd rfl hne
   | succ o' => simp at ho'⟩
end
end Go.Proofs.YtgehbhkfehmdkaaGreat.Sh
