/- Lots told anew. No condition. -/
import Derived.Test.YtgehbhkfehmdkaaGreatKFxShPv
import Derived.Test.YtgehbhkfehmdkaaGreatKFxShTk
import Derived.Test.YtgehbhkfehmdkaaGreatKFxShV
import Derived.Test.YtgehbhkfehmdkaaGreatKFxShBo
import Derived.Test.YtgehbhkfehmdkaaGreatKFxShPo
set_option maxRecDepth 100000
set_option maxHeartbeats 40000000
set_option linter.unusedSimpArgs false
set_option linter.unusedVariables false
namespace Go.Proofs.YtgehbhkfehmdkaaGreat.Sh
section
open Go.RowKit
def scX (own:List Lot) (sh:List Int) (k:Int):Lot:=⟨(rd own k).Account,(rd own k).Instr,(rd own k).No,rd sh k,(rd own k).Cost⟩
def scA (own:List Lot) (sh:List Int) (i:Int):List Lot:=mkl i.toNat (scX own sh)
noncomputable def scL (own:List Lot) (sh:List Int) (i:Int):List Lot:=flt (fun x:Lot => ¬ x.Qty = 0) (scA own sh i)
def scZ (x:Lot):Int:=if x.Qty = 0 then x.Cost else 0
def scC (own:List Lot) (sh:List Int) (i:Int):Int:=ak scZ (scA own sh i)
section
variable {own:List Lot} {sh:List Int} {i:Int}
theorem iY (h:0 ≤ i):scA own sh (i + 1) = scA own sh i ++ [scX own sh i]:=iU h
theorem ku (h:0 ≤ i):((scA own sh i).length:Int) = i:=by rw [scA,gP];omega
theorem z6 (h:0 ≤ i) (e:¬ rd sh i = 0):scL own sh (i + 1) = scL own sh i ++ [⟨(rd own i).Account,(rd own i).Instr,(rd own i).No,rd sh i,(rd own i).Cost⟩]:=by
 rw [scL,iY h,aQ,dM (p:=fun x:Lot => ¬ x.Qty = 0) (x:=scX own sh i) e]
 rfl
theorem z5 (h:0 ≤ i) (e:rd sh i = 0):scL own sh (i + 1) = scL own sh i:=by
 rw [scL,iY h,aQ,dj (p:=fun x:Lot => ¬ x.Qty = 0) (x:=scX own sh i) (fun k => k e),List.append_nil]
 rfl
theorem x9 (h:0 ≤ i) (e:rd sh i = 0):scC own sh (i + 1) = scC own sh i + (rd own i).Cost:=by
 rw [scC,iY h,bh,cZ]
 show scC own sh i + (if rd sh i = 0 then (rd own i).Cost else 0) = _
 rw [if_pos e]
theorem x8 (h:0 ≤ i) (e:¬ rd sh i = 0):scC own sh (i + 1) = scC own sh i:=by
 rw [scC,iY h,bh,cZ]
 show scC own sh i + (if rd sh i = 0 then (rd own i).Cost else 0) = _
 rw [if_neg e,Int.add_zero]
theorem rK (h:0 ≤ i):((scL own sh i).length:Int) ≤ i:=by
 have h1:=cL (fun x:Lot => ¬ x.Qty = 0) (scA own sh i)
 have h2:=ku (own:=own) (sh:=sh) h
 unfold scL
 omega
theorem v6 (hc:∀ x ∈ own,0 ≤ x.Cost ∧ x.Cost ≤ 1000000000000000):∀ k:Nat,(k:Int) ≤ own.length → 0 ≤ scC own sh k ∧ scC own sh k ≤ 1000000000000000 * k
 | 0,_ => by show 0 ≤ (0:Int) ∧ (0:Int) ≤ _;omega
 | k + 1,hk => by
   have ih:=v6 hc k (by omega)
   have h1:=hc _ (az (l:=own) (i:=k) ⟨by omega,by omega⟩)
   have e:((k + 1:Nat):Int) = (k:Int) + 1:=by omega
   rw [e]
   by_cases q:rd sh k = 0
   ·rw [x9 (by omega) q];omega
   ·rw [x8 (by omega) q];omega
end
noncomputable def scF (own:List Lot) (sh:List Int):List Lot:=sel (0 < ((scL own sh own.length).length:Int)) (upd (scL own sh own.length) 0 ⟨(rd (scL own sh own.length) 0).Account,(rd (scL own sh own.length) 0).Instr,(rd (scL own sh own.length) 0).No,(rd (scL own sh own.length) 0).Qty,(rd (scL own sh own.length) 0).Cost + scC own sh own.length⟩) (scL own sh own.length)
theorem uY {R:Lot → Lot → Prop} {l:List Lot} (h:l.Pairwise R) {i j:Int} (h0:0 ≤ i) (h1:i < j) (h2:j < l.length):R (rd l i) (rd l j):=by
 have q:=List.pairwise_iff_getElem.1 h i.toNat j.toNat (by omega) (by omega) (by omega)
 unfold rd
 rw [List.getD_eq_getElem?_getD,List.getD_eq_getElem?_getD,List.getElem?_eq_getElem (by omega:i.toNat < l.length),List.getElem?_eq_getElem (by omega:j.toNat < l.length)]
 exact q
theorem ye {own:List Lot} {sh:List Int} (h:own.Pairwise lb2):(scA own sh own.length).Pairwise lb2:=rE fun i j h0 h1 h2 => by
 rw [ku (by omega)] at h2
 unfold scA
 rw [fF (by omega),fF (by omega)]
 exact uY h h0 h1 h2
theorem yi {own:List Lot} {sh:List Int} (h:own.Pairwise lb2):(scL own sh own.length).Pairwise lb2:=(ye h).filter _
theorem yg {own:List Lot} {sh:List Int} {a c:Int} (h:∀ x ∈ own,x.Account = a ∧ x.Instr = c):∀ x ∈ scL own sh own.length,x.Account = a ∧ x.Instr = c:=fun x hx => by
 obtain ⟨k,hk,rfl⟩:=bj (flt_mem.1 hx).1
 rw [ku (by omega)] at hk
 unfold scA
 rw [fF (by omega)]
 exact h (rd own k) (az hk)
theorem yw {l:List Lot} {x:Lot} (h:l.Pairwise lb2) (hl:0 < (l.length:Int)) (e:x.Account = (rd l 0).Account ∧ x.Instr = (rd l 0).Instr ∧ x.No = (rd l 0).No):(upd l 0 x).Pairwise lb2:=rE fun i j h0 h1 h2 => by
 rw [aE] at h2
 rw [eo (Int.le_refl 0) (by omega) (by omega:j ≠ 0)]
 by_cases c:i = 0
 ·subst c
  rw [bC ⟨Int.le_refl 0,hl⟩]
  have q:=uY h (Int.le_refl 0) h1 h2
  unfold lb2 at *
  rw [e.1,e.2.1,e.2.2]
  exact q
 ·rw [eo (Int.le_refl 0) h0 c]
  exact uY h h0 h1 h2
theorem yf {l:List Lot} {sh:List Int} {a c:Int} (h:LotsOk l):WL l (scF (ab l a c) sh) a c (scF (ab l a c) sh):=by
 have h1:=yi (sh:=sh) (sI (a:=a) (c:=c) h.pw)
 have h2:=yg (own:=ab l a c) (sh:=sh) (fun x hx => (lotsOf_mem.1 hx).2)
 by_cases q:0 < ((scL (ab l a c) sh (ab l a c).length).length:Int)
 ·refine ⟨h.pw,?_,.refl _,fun x hx => ?_⟩
  ·rw [scF,al q]
   exact yw h1 q ⟨rfl,rfl,rfl⟩
  ·rw [scF,al q] at hx
   obtain ⟨k,hk,rfl⟩:=bj hx
   rw [aE] at hk
   by_cases e:k = 0
   ·subst e
    rw [bC hk]
    exact h2 (rd (scL (ab l a c) sh (ab l a c).length) 0) (az hk)
   ·rw [eo (Int.le_refl 0) hk.1 e]
    exact h2 _ (az hk)
 ·refine ⟨h.pw,?_,.refl _,fun x hx => ?_⟩
  ·rw [scF,a8 q]
   exact h1
  ·rw [scF,a8 q] at hx
   exact h2 x hx
theorem rV (own:List Lot):ak id (own.map Lot.Qty) = sQ own:=by
 induction own with
 | nil => rfl
 | cons x own ih =>
   rw [List.map_cons,bp,ih,sQ,sQ,bp]
   rfl
theorem y1 {l:List Lot} {a c q:Int} (h:LotsOk l) (h0:0 < ((ab l a c).length:Int)) (h4:¬ (ab l a c).length > (40:Int)) (hq:inP q 0 1000000000000000):shareable q ((ab l a c).map Lot.Qty):=by
 have hx:∀ x ∈ ab l a c,1 ≤ x.Qty ∧ x.Qty ≤ 1000000000000000:=fun x hx => by
  obtain ⟨i,hi,rfl⟩:=bj (lotsOf_mem.1 hx).1
  have:=(h.1.1 i hi.1 hi.2).1.2.2.2.1
  unfold inP at this
  exact this
 have ho:=h.own a c
 have hm:∀ x ∈ (ab l a c).map Lot.Qty,0 ≤ x ∧ x ≤ 1000000000000000:=fun x k => by
  obtain ⟨y,hy,rfl⟩:=List.mem_map.1 k
  have:=hx y hy
  omega
 have hf:=hx _ (az ⟨Int.le_refl 0,h0⟩)
 have h5:=j8 (fun x k => (hm x k).1) (List.mem_map.2 ⟨_,az ⟨Int.le_refl 0,h0⟩,rfl⟩:(rd (ab l a c) 0).Qty ∈ (ab l a c).map Lot.Qty)
 rw [rV] at h5
 refine ⟨⟨⟨by rw [List.length_map];omega,by rw [List.length_map];omega⟩,fun x k => hm x k,?_⟩,hq⟩
 rw [rV]
 exact ⟨by omega,ho.1.2⟩
noncomputable def aY (l:List Lot) (a c q:Int):List Lot × Int :=
 sel (¬ (LotsOk l ∧ inP q 0 1000000000000000)) ([],1) (sel (¬ 0 < ((ab l a c).length:Int) ∧ ¬ q = 0) (l,2) (sel (¬ 0 < ((ab l a c).length:Int)) (l,0) (sel ((ab l a c).length > (40:Int)) (l,3) (mrg (bZ l a c) (scF (ab l a c) (shs q ((ab l a c).map Lot.Qty))),0))))
end
section
open Go.RowKit
theorem y8 {o:List Lot} {i:Int} (h:0 ≤ i ∧ i < o.length):rd (o.map Lot.Qty) i = (rd o i).Qty:=by
 unfold rd
 rw [List.getD_eq_getElem?_getD,List.getD_eq_getElem?_getD,List.getElem?_map,List.getElem?_eq_getElem (by omega:i.toNat < o.length)]
 rfl
theorem z4 {own:List Lot} {sh:List Int} (hc:∀ x ∈ own,0 ≤ x.Cost ∧ x.Cost ≤ 1000000000000000):∀ x ∈ scL own sh own.length,0 ≤ x.Cost ∧ x.Cost ≤ 1000000000000000:=fun x hx => by
 obtain ⟨k,hk,rfl⟩:=bj (flt_mem.1 hx).1
 rw [ku (by omega)] at hk
 unfold scA
 rw [fF (by omega)]
 exact hc (rd own k) (az hk)
section
variable {l:List Lot} {a c q:Int}
theorem zG (h:¬ (LotsOk l ∧ inP q 0 1000000000000000)):aY l a c q = ([],1):=by rw [aY,al h]
theorem zH (h:LotsOk l ∧ inP q 0 1000000000000000) (h1:¬ 0 < ((ab l a c).length:Int) ∧ ¬ q = 0):aY l a c q = (l,2):=by rw [aY,a8 (fun k => k h),al h1]
theorem zI (h:LotsOk l ∧ inP q 0 1000000000000000) (h1:¬ 0 < ((ab l a c).length:Int)) (h2:q = 0):aY l a c q = (l,0):=by rw [aY,a8 (fun k => k h),a8 (fun k => k.2 h2),al h1]
theorem zJ (h:LotsOk l ∧ inP q 0 1000000000000000) (h1:0 < ((ab l a c).length:Int)) (h2:(ab l a c).length > (40:Int)):aY l a c q = (l,3):=by rw [aY,a8 (fun k => k h),a8 (fun k => k.1 h1),a8 (fun k => k h1),al h2]
theorem zF (h:LotsOk l ∧ inP q 0 1000000000000000) (h1:0 < ((ab l a c).length:Int)) (h2:¬ (ab l a c).length > (40:Int)):aY l a c q = (mrg (bZ l a c) (scF (ab l a c) (shs q ((ab l a c).map Lot.Qty))),0):=by rw [aY,a8 (fun k => k h),a8 (fun k => k.1 h1),a8 (fun k => k h1),a8 h2]
end
theorem dq {l:List Lot} {a c q:Int}:FC Tryz.prog 137 [.c (.row 0 0 l.length),I a,I c,I q] ([ro 137 l]) (.tup [.c (.row 1 0 (aY l a c q).1.length),I (aY l a c q).2]) ([ro 137 l,ow 137 (aY l a c q).1]):=by
 refine ay tk 122 [.tmp 8,.tmp 9] Tryz.func137 (by kernel_rfl) rfl rfl rfl rfl rfl rfl rfl ?_
 by_cases hok:LotsOk l ∧ inP q 0 1000000000000000
 rotate_left
 ·
  rw [zG hok]
  repeat' (first
| intro h9;exact absurd ⟨by assumption,by assumption⟩ hok
| apply ia (d:=8) 137 5;rfl;rfl;rfl
| apply yd;rfl
| intro _
| refine nv ?_
| apply wct rfl
| apply aH (α:=Lot) (e:=137);rfl
| apply ycp;rfl;(first | exact bg | exact aA);rfl
| fail)
  all_goals exact au [0,2] rfl rfl rfl rfl rfl rfl
 obtain ⟨h1,h2⟩:=id hok
 have hll:=h1.1.2
 have hlq:=h1.q
 have h2':=h2
 unfold inP at h2'
 have hlo:(ab l a c).length ≤ l.length:=cL _ _
 have hlq2:LQ (ab l a c):=LQ.of hlq
 have hnl:(bZ l a c).length ≤ l.length:=cL _ _
 by_cases hn:0 < ((ab l a c).length:Int)
 rotate_left
 ·
  by_cases hq:q = 0
  ·
   rw [zI hok hn hq]
   repeat' (first
| intro h9;exfalso;first | contradiction | omega
| apply yds;rfl
| apply yd;rfl
| intro _
| refine nv ?_
| apply wct rfl
| apply wcf rfl
| apply aj;rfl
| apply aH (α:=Lot) (e:=137);rfl
| apply yap;rfl;(((try simp only [lE,lM]);(try dsimp only);omega))
| apply ycp;rfl;(first | exact bg | exact aA);rfl
| apply ycf;rfl;(exact bT (by omega));rfl
| fail)
   all_goals exact au [0,4] rfl rfl rfl rfl rfl rfl
  ·
   rw [zH hok ⟨hn,hq⟩]
   repeat' (first
| intro h9;exfalso;first | contradiction | omega
| apply yds;rfl
| apply yd;rfl
| intro _
| refine nv ?_
| apply wct rfl
| apply wcf rfl
| apply aj;rfl
| apply aH (α:=Lot) (e:=137);rfl
| apply yap;rfl;(((try simp only [lE,lM]);(try dsimp only);omega))
| apply ycp;rfl;(first | exact bg | exact aA);rfl
| apply ycf;rfl;(exact bT (by omega));rfl
| fail)
   all_goals exact au [0,4] rfl rfl rfl rfl rfl rfl
 by_cases h40:(ab l a c).length > (40:Int)
 ·
  rw [zJ hok hn h40]
  repeat' (first
| intro h9;exfalso;first | contradiction | omega
| apply yds;rfl
| apply yd;rfl
| intro _
| refine nv ?_
| apply wct rfl
| apply wcf rfl
| apply aj;rfl
| apply aH (α:=Lot) (e:=137);rfl
| apply yap;rfl;(((try simp only [lE,lM]);(try dsimp only);omega))
| apply ycp;rfl;(first | exact bg | exact aA);rfl
| apply ycf;rfl;(exact bT (by omega));rfl
| fail)
  all_goals exact au [0,4] rfl rfl rfl rfl rfl rfl
 rw [zF hok hn h40]
 have hsh:=y1 h1 hn h40 h2
 dsimp only
 have hqc:∀ x ∈ ab l a c,0 ≤ x.Cost ∧ x.Cost ≤ 1000000000000000:=hlq2.c
 have hsn:=kv q ((ab l a c).map Lot.Qty)
 have hml:((ab l a c).map Lot.Qty).length = (ab l a c).length:=List.length_map _
 have hwl:=yf (sh:=(shs q ((ab l a c).map Lot.Qty))) (a:=a) (c:=c) h1
 repeat' (first
| intro h9;exfalso;first | contradiction | omega
| apply yds;rfl
| apply yd;rfl
| intro _
| refine nv ?_
| apply wcf rfl
| apply aj;rfl
| apply aH (α:=Lot) (e:=137);rfl
| apply aH (α:=Int) (e:=3);rfl
| apply yap;rfl;(((try simp only [lE,lM]);(try dsimp only);omega))
| apply ycp;rfl;(first | exact bg | exact aA);rfl
| apply ycf;rfl;(exact bT (by omega));rfl
| fail)
 all_goals skip
 refine wlp (X:=Int × List Int) [3,10,11] [0,1,2,3,4,5] (fun x => [(14,I x.1),(13,.c (.row 5 0 x.2.length))]) (fun x => [(5,ow 3 x.2)]) (fun x => (0 ≤ x.1 ∧ x.1 ≤ (ab l a c).length) ∧ x.2 = pf ((ab l a c).map Lot.Qty) x.1) (fun x => ((ab l a c).length - x.1).toNat) (0,[]) ⟨by dsimp only;omega,rfl⟩ rfl rfl (fun _ => rfl) (fun _ => rfl) ⟨rfl,rfl,rfl,rfl,rfl,rfl,rfl,rfl⟩ (fun x hx => ?_)
 obtain ⟨i,u⟩:=x
 obtain ⟨h0,hu⟩:=hx
 dsimp only at h0 hu ⊢
 have hul:(u.length:Int) = i:=by rw [hu];exact bO (by omega)
 by_cases hil:i < (ab l a c).length
 ·
  have hu2:u ++ [(rd (ab l a c) i).Qty] = pf ((ab l a c).map Lot.Qty) (i + 1):=by rw [hu,bL (by omega),y8 ⟨h0.1,hil⟩]
  repeat' (first
| intro h9;exfalso;contradiction
| apply yds;rfl
| apply yd;rfl
| intro _
| refine nv ?_
| apply wct rfl
| apply aj;rfl
| apply yar;rfl;omega
| apply yix;rfl;omega
| apply yle;rfl;omega
| apply aH (α:=Int) (e:=3);rfl
| apply yap;rfl;(((try simp only [lE,lM]);(try dsimp only);omega))
| fail)
  all_goals first
   | exact aB (i + 1,u ++ [(rd (ab l a c) i).Qty]) [0,1,2,3,4,7] ⟨rfl,rfl,rfl,rfl,rfl,rfl,rfl,rfl⟩ ⟨by dsimp only;omega,hu2⟩ (by first | omega | (dsimp only;omega))
   | (exfalso;omega)
   | trace_state
 rw [b8 (by omega)] at hu
 subst hu
 repeat' (first
| intro h9;exfalso;contradiction
| apply yds;rfl
| apply yd;rfl
| intro _
| refine nv ?_
| apply wcf rfl
| apply ah rfl
| apply aj;rfl
| apply aH (α:=Lot) (e:=137);rfl
| apply ycf;rfl;(exact gC (by assumption));rfl
| fail)
 all_goals skip
 refine wlp (X:=Int × List Lot × Int) [10,11,15] [0,1,2,3,4,5,6,7] (fun x => [(19,I x.1),(17,.c (.row 7 0 x.2.1.length)),(18,I x.2.2)]) (fun x => [(7,ow 137 x.2.1)]) (fun x => (0 ≤ x.1 ∧ x.1 ≤ (ab l a c).length) ∧ x.2.1 = scL (ab l a c) (shs q ((ab l a c).map Lot.Qty)) x.1 ∧ x.2.2 = scC (ab l a c) (shs q ((ab l a c).map Lot.Qty)) x.1) (fun x => ((ab l a c).length - x.1).toNat) (0,[],0) ⟨by dsimp only;omega,rfl,rfl⟩ rfl rfl (fun _ => rfl) (fun _ => rfl) ⟨rfl,rfl,rfl,rfl,rfl,rfl,rfl,rfl⟩ (fun x hx => ?_)
 obtain ⟨i,u,n⟩:=x
 obtain ⟨h0,hu,hn2⟩:=hx
 dsimp only at h0 hu hn2 ⊢
 have hul:=rK (own:=ab l a c) (sh:=(shs q ((ab l a c).map Lot.Qty))) h0.1
 rw [← hu] at hul
 have hcb:=v6 (sh:=(shs q ((ab l a c).map Lot.Qty))) hqc i.toNat (by omega)
 rw [show ((i.toNat:Nat):Int) = i from by omega,← hn2] at hcb
 by_cases hil:i < (ab l a c).length
 ·
  have hc1:=hqc _ (az ⟨h0.1,hil⟩)
  by_cases hz:rd (shs q ((ab l a c).map Lot.Qty)) i = 0
  ·
   have hu2:u = scL (ab l a c) (shs q ((ab l a c).map Lot.Qty)) (i + 1):=by rw [z5 h0.1 hz,hu]
   have hn3:n + (rd (ab l a c) i).Cost = scC (ab l a c) (shs q ((ab l a c).map Lot.Qty)) (i + 1):=by rw [x9 h0.1 hz,hn2]
   repeat' (first
| intro h9;exfalso;contradiction
| apply yds;rfl
| apply yd;rfl
| apply yix;rfl;omega
| apply yle;rfl;omega
| intro _
| refine nv ?_
| apply wct rfl
| apply aj;rfl
| apply yar;rfl;omega
| fail)
   all_goals first
    | exact aB (i + 1,u,n + (rd (ab l a c) i).Cost) [0,1,2,3,4,5,6,7] ⟨rfl,rfl,rfl,rfl,rfl,rfl,rfl,rfl⟩ ⟨by dsimp only;omega,hu2,hn3⟩ (by first | omega | (dsimp only;omega))
    | (exfalso;omega)
    | trace_state
  ·
   have hu2:u ++ [⟨(rd (ab l a c) i).Account,(rd (ab l a c) i).Instr,(rd (ab l a c) i).No,rd (shs q ((ab l a c).map Lot.Qty)) i,(rd (ab l a c) i).Cost⟩] = scL (ab l a c) (shs q ((ab l a c).map Lot.Qty)) (i + 1):=by rw [z6 h0.1 hz,hu]
   have hn3:n = scC (ab l a c) (shs q ((ab l a c).map Lot.Qty)) (i + 1):=by rw [x8 h0.1 hz,hn2]
   repeat' (first
| intro h9;exfalso;contradiction
| apply yds;rfl
| apply yd;rfl
| apply yix;rfl;omega
| apply yle;rfl;omega
| intro _
| refine nv ?_
| apply wct rfl
| apply wcf rfl
| apply aj;rfl
| apply yar;rfl;omega
| apply aH (α:=Lot) (e:=137);rfl
| apply yap;rfl;(((try simp only [lE,lM]);(try dsimp only);omega))
| fail)
   all_goals first
    | exact aB (i + 1,u ++ [⟨(rd (ab l a c) i).Account,(rd (ab l a c) i).Instr,(rd (ab l a c) i).No,rd (shs q ((ab l a c).map Lot.Qty)) i,(rd (ab l a c) i).Cost⟩],n) [0,1,2,3,4,5,6,10] ⟨rfl,rfl,rfl,rfl,rfl,rfl,rfl,rfl⟩ ⟨by dsimp only;omega,hu2,hn3⟩ (by first | omega | (dsimp only;omega))
    | (exfalso;omega)
    | trace_state
 have ei:i = ((ab l a c).length:Int):=by omega
 rw [ei] at hu hn2
 by_cases hp:0 < (u.length:Int)
 ·
  have hF:scF (ab l a c) (shs q ((ab l a c).map Lot.Qty)) = upd u 0 ⟨(rd u 0).Account,(rd u 0).Instr,(rd u 0).No,(rd u 0).Qty,(rd u 0).Cost + n⟩:=by rw [scF,← hu,← hn2,al hp]
  have hub:=aE u 0 ⟨(rd u 0).Account,(rd u 0).Instr,(rd u 0).No,(rd u 0).Qty,(rd u 0).Cost + n⟩
  have hcu:0 ≤ (rd u 0).Cost ∧ (rd u 0).Cost ≤ 1000000000000000:=z4 hqc _ (by rw [← hu];exact az ⟨Int.le_refl 0,hp⟩)
  rw [hF] at hwl ⊢
  repeat' (first
| intro h9;exfalso;contradiction
| apply yds;rfl
| apply yd;rfl
| apply yix;rfl;omega
| apply yle;rfl;omega
| apply zse;rfl;exact tk;(iterate 6 rfl);omega;rfl;rfl;rfl;rfl;rfl
| intro _
| refine nv ?_
| apply wct rfl
| apply wcf rfl
| apply ah rfl
| apply aj;rfl
| apply yar;rfl;omega
| fail)
  all_goals skip
  rw [← hub]
  repeat' (first
| apply yds;rfl
| refine nv ?_
| apply ycf;rfl;(exact cC (by omega) (by omega));rfl
| fail)
  all_goals exact au [0,8] rfl rfl rfl rfl rfl rfl
 ·
  have hF:scF (ab l a c) (shs q ((ab l a c).map Lot.Qty)) = u:=by rw [scF,← hu,← hn2,a8 hp]
  rw [hF] at hwl ⊢
  repeat' (first
| intro h9;exfalso;contradiction
| apply yds;rfl
| intro _
| refine nv ?_
| apply wcf rfl
| apply ah rfl
| apply aj;rfl
| apply ycf;rfl;(exact cC (by omega) (by omega));rfl
| fail)
  all_goals exact au [0,8] rfl rfl rfl rfl rfl rfl
end
section
open Go.RowKit
noncomputable def scN (l:List Lot) (pa:Int) (who is:List Int):Nat → List Lot × Int
 | 0 => (l,0)
 | k + 1 => sel ((scN l pa who is k).2 = 0) (sel ((aY (scN l pa who is k).1 (rd who k) pa (rd is k)).2 = 0) ((aY (scN l pa who is k).1 (rd who k) pa (rd is k)).1,0) ((scN l pa who is k).1,7)) (scN l pa who is k)
theorem xb {l L:List Lot} {pa i:Int} {who is:List Int} (h:0 ≤ i) (e:scN l pa who is i.toNat = (L,0)) (c:(aY L (rd who i) pa (rd is i)).2 = 0):scN l pa who is (i + 1).toNat = ((aY L (rd who i) pa (rd is i)).1,0):=by
 rw [show (i + 1).toNat = i.toNat + 1 from by omega,scN,e,show ((i.toNat:Nat):Int) = i from by omega,al (show (L,(0:Int)).2 = 0 from rfl),al c]
theorem nm {l:List Lot} {pa:Int} {who is:List Int} {k:Nat} (h:¬ (scN l pa who is k).2 = 0):∀ m:Nat,¬ (scN l pa who is (k + m)).2 = 0
 | 0 => h
 | m + 1 => by
   show ¬ (scN l pa who is (k + m + 1)).2 = 0
   rw [scN,a8 (nm h m)]
   exact nm h m
theorem xa {l L:List Lot} {pa i n:Int} {who is:List Int} (h:0 ≤ i ∧ i < n) (e:scN l pa who is i.toNat = (L,0)) (c:¬ (aY L (rd who i) pa (rd is i)).2 = 0):¬ (scN l pa who is n.toNat).2 = 0:=by
 have h1:¬ (scN l pa who is (i.toNat + 1)).2 = 0:=by
  rw [scN,e,show ((i.toNat:Nat):Int) = i from by omega,al (show (L,(0:Int)).2 = 0 from rfl),a8 c]
  show ¬ (7:Int) = 0
  decide
 have h2:=nm h1 (n.toNat - (i.toNat + 1))
 rwa [show i.toNat + 1 + (n.toNat - (i.toNat + 1)) = n.toNat from by omega] at h2
end
end Go.Proofs.YtgehbhkfehmdkaaGreat.Sh
