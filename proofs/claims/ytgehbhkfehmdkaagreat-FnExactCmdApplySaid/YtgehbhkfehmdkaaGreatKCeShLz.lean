/- Lots told anew. No condition. -/
import Derived.Test.YtgehbhkfehmdkaaGreatKCeShPv
import Derived.Test.YtgehbhkfehmdkaaGreatKCeShTk
import Derived.Test.YtgehbhkfehmdkaaGreatKCeShV
import Derived.Test.YtgehbhkfehmdkaaGreatKCeShTr
import Derived.Test.YtgehbhkfehmdkaaGreatKCeShPo
set_option maxRecDepth 100000
set_option maxHeartbeats 40000000
set_option linter.unusedSimpArgs false
set_option linter.unusedVariables false
namespace Go.Proofs.YtgehbhkfehmdkaaGreat.Sh
section
open Go.RowKit
def scX (own:List Lot) (sh:List Int) (k:Int):Lot:=⟨(rd own k).Account,(rd own k).Instr,(rd own k).No,rd sh k,(rd own k).Cost⟩
def scA (own:List Lot) (sh:List Int) (i:Int):List Lot:=mkl i.toNat (scX own sh)
noncomputable def scL (own:List Lot) (sh:List Int) (i:Int):List Lot:=flt (fun x:Lot => ¬ x.Qty = 0) (scA own sh i)
def scZ (x:Lot):Int:=if x.Qty = 0 then x.Cost else 0
def scC (own:List Lot) (sh:List Int) (i:Int):Int:=ar scZ (scA own sh i)
section
variable {own:List Lot} {sh:List Int} {i:Int}
theorem lf (h:0 ≤ i):scA own sh (i + 1) = scA own sh i ++ [scX own sh i]:=gZ h
theorem mX (h:0 ≤ i):((scA own sh i).length:Int) = i:=by rw [scA,ck];omega
theorem Aw (h:0 ≤ i) (e:¬ rd sh i = 0):scL own sh (i + 1) = scL own sh i ++ [⟨(rd own i).Account,(rd own i).Instr,(rd own i).No,rd sh i,(rd own i).Cost⟩]:=by
 rw [scL,lf h,bK,fG (p:=fun x:Lot => ¬ x.Qty = 0) (x:=scX own sh i) e]
 rfl
theorem Av (h:0 ≤ i) (e:rd sh i = 0):scL own sh (i + 1) = scL own sh i:=by
 rw [scL,lf h,bK,eR (p:=fun x:Lot => ¬ x.Qty = 0) (x:=scX own sh i) (fun k => k e),List.append_nil]
 rfl
theorem yB (h:0 ≤ i) (e:rd sh i = 0):scC own sh (i + 1) = scC own sh i + (rd own i).Cost:=by
 rw [scC,lf h,cK,dx]
 show scC own sh i + (if rd sh i = 0 then (rd own i).Cost else 0) = _
 rw [if_pos e]
theorem yA (h:0 ≤ i) (e:¬ rd sh i = 0):scC own sh (i + 1) = scC own sh i:=by
 rw [scC,lf h,cK,dx]
 show scC own sh i + (if rd sh i = 0 then (rd own i).Cost else 0) = _
 rw [if_neg e,Int.add_zero]
theorem rz (h:0 ≤ i):((scL own sh i).length:Int) ≤ i:=by
 have h1:=cO (fun x:Lot => ¬ x.Qty = 0) (scA own sh i)
 have h2:=mX (own:=own) (sh:=sh) h
 unfold scL
 omega
theorem uj (hc:∀ x ∈ own,0 ≤ x.Cost ∧ x.Cost ≤ 1000000000000000):∀ k:Nat,(k:Int) ≤ own.length → 0 ≤ scC own sh k ∧ scC own sh k ≤ 1000000000000000 * k
 | 0,_ => by show 0 ≤ (0:Int) ∧ (0:Int) ≤ _;omega
 | k + 1,hk => by
   have ih:=uj hc k (by omega)
   have h1:=hc _ (ax (l:=own) (i:=k) ⟨by omega,by omega⟩)
   have e:((k + 1:Nat):Int) = (k:Int) + 1:=by omega
   rw [e]
   by_cases q:rd sh k = 0
   ·rw [yB (by omega) q];omega
   ·rw [yA (by omega) q];omega
end
noncomputable def scF (own:List Lot) (sh:List Int):List Lot:=sel (0 < ((scL own sh own.length).length:Int)) (upd (scL own sh own.length) 0 ⟨(rd (scL own sh own.length) 0).Account,(rd (scL own sh own.length) 0).Instr,(rd (scL own sh own.length) 0).No,(rd (scL own sh own.length) 0).Qty,(rd (scL own sh own.length) 0).Cost + scC own sh own.length⟩) (scL own sh own.length)
theorem yq {R:Lot → Lot → Prop} {l:List Lot} (h:l.Pairwise R) {i j:Int} (h0:0 ≤ i) (h1:i < j) (h2:j < l.length):R (rd l i) (rd l j):=by
 have q:=List.pairwise_iff_getElem.1 h i.toNat j.toNat (by omega) (by omega) (by omega)
 unfold rd
 rw [List.getD_eq_getElem?_getD,List.getD_eq_getElem?_getD,List.getElem?_eq_getElem (by omega:i.toNat < l.length),List.getElem?_eq_getElem (by omega:j.toNat < l.length)]
 exact q
theorem Bo {own:List Lot} {sh:List Int} (h:own.Pairwise lb2):(scA own sh own.length).Pairwise lb2:=va fun i j h0 h1 h2 => by
 rw [mX (by omega)] at h2
 unfold scA
 rw [dr (by omega),dr (by omega)]
 exact yq h h0 h1 h2
theorem Bq {own:List Lot} {sh:List Int} (h:own.Pairwise lb2):(scL own sh own.length).Pairwise lb2:=(Bo h).filter _
theorem Bp {own:List Lot} {sh:List Int} {a c:Int} (h:∀ x ∈ own,x.Account = a ∧ x.Instr = c):∀ x ∈ scL own sh own.length,x.Account = a ∧ x.Instr = c:=fun x hx => by
 obtain ⟨k,hk,rfl⟩:=bL (flt_mem.1 hx).1
 rw [mX (by omega)] at hk
 unfold scA
 rw [dr (by omega)]
 exact h (rd own k) (ax hk)
theorem BC {l:List Lot} {x:Lot} (h:l.Pairwise lb2) (hl:0 < (l.length:Int)) (e:x.Account = (rd l 0).Account ∧ x.Instr = (rd l 0).Instr ∧ x.No = (rd l 0).No):(upd l 0 x).Pairwise lb2:=va fun i j h0 h1 h2 => by
 rw [aF] at h2
 rw [fR (Int.le_refl 0) (by omega) (by omega:j ≠ 0)]
 by_cases c:i = 0
 ·subst c
  rw [bP ⟨Int.le_refl 0,hl⟩]
  have q:=yq h (Int.le_refl 0) h1 h2
  unfold lb2 at *
  rw [e.1,e.2.1,e.2.2]
  exact q
 ·rw [fR (Int.le_refl 0) h0 c]
  exact yq h h0 h1 h2
theorem yC {l:List Lot} {sh:List Int} {a c:Int} (h:LotsOk l):WL l (scF (aa l a c) sh) a c (scF (aa l a c) sh):=by
 have h1:=Bq (sh:=sh) (pW (a:=a) (c:=c) h.pw)
 have h2:=Bp (own:=aa l a c) (sh:=sh) (fun x hx => (lotsOf_mem.1 hx).2)
 by_cases q:0 < ((scL (aa l a c) sh (aa l a c).length).length:Int)
 ·refine ⟨h.pw,?_,.refl _,fun x hx => ?_⟩
  ·rw [scF,ap q]
   exact BC h1 q ⟨rfl,rfl,rfl⟩
  ·rw [scF,ap q] at hx
   obtain ⟨k,hk,rfl⟩:=bL hx
   rw [aF] at hk
   by_cases e:k = 0
   ·subst e
    rw [bP hk]
    exact h2 (rd (scL (aa l a c) sh (aa l a c).length) 0) (ax hk)
   ·rw [fR (Int.le_refl 0) hk.1 e]
    exact h2 _ (ax hk)
 ·refine ⟨h.pw,?_,.refl _,fun x hx => ?_⟩
  ·rw [scF,a8 q]
   exact h1
  ·rw [scF,a8 q] at hx
   exact h2 x hx
theorem vt (own:List Lot):ar id (own.map Lot.Qty) = sQ own:=by
 induction own with
 | nil => rfl
 | cons x own ih =>
   rw [List.map_cons,bY,ih,sQ,sQ,bY]
   rfl
theorem ym {l:List Lot} {a c q:Int} (h:LotsOk l) (h0:0 < ((aa l a c).length:Int)) (h4:¬ (aa l a c).length > (40:Int)) (hq:inP q 0 1000000000000000):shareable q ((aa l a c).map Lot.Qty):=by
 have hx:∀ x ∈ aa l a c,1 ≤ x.Qty ∧ x.Qty ≤ 1000000000000000:=fun x hx => by
  obtain ⟨i,hi,rfl⟩:=bL (lotsOf_mem.1 hx).1
  have:=(h.1.1 i hi.1 hi.2).1.2.2.2.1
  unfold inP at this
  exact this
 have ho:=h.own a c
 have hm:∀ x ∈ (aa l a c).map Lot.Qty,0 ≤ x ∧ x ≤ 1000000000000000:=fun x k => by
  obtain ⟨y,hy,rfl⟩:=List.mem_map.1 k
  have:=hx y hy
  omega
 have hf:=hx _ (ax ⟨Int.le_refl 0,h0⟩)
 have h5:=lp (fun x k => (hm x k).1) (List.mem_map.2 ⟨_,ax ⟨Int.le_refl 0,h0⟩,rfl⟩:(rd (aa l a c) 0).Qty ∈ (aa l a c).map Lot.Qty)
 rw [vt] at h5
 refine ⟨⟨⟨by rw [List.length_map];omega,by rw [List.length_map];omega⟩,fun x k => hm x k,?_⟩,hq⟩
 rw [vt]
 exact ⟨by omega,ho.1.2⟩
noncomputable def aR (l:List Lot) (a c q:Int):List Lot × Int :=
 sel (¬ (LotsOk l ∧ inP q 0 1000000000000000)) ([],1) (sel (¬ 0 < ((aa l a c).length:Int) ∧ ¬ q = 0) (l,2) (sel (¬ 0 < ((aa l a c).length:Int)) (l,0) (sel ((aa l a c).length > (40:Int)) (l,3) (mrg (bh l a c) (scF (aa l a c) (shs q ((aa l a c).map Lot.Qty))),0))))
end
section
open Go.RowKit
theorem yu {o:List Lot} {i:Int} (h:0 ≤ i ∧ i < o.length):rd (o.map Lot.Qty) i = (rd o i).Qty:=by
 unfold rd
 rw [List.getD_eq_getElem?_getD,List.getD_eq_getElem?_getD,List.getElem?_map,List.getElem?_eq_getElem (by omega:i.toNat < o.length)]
 rfl
theorem Au {own:List Lot} {sh:List Int} (hc:∀ x ∈ own,0 ≤ x.Cost ∧ x.Cost ≤ 1000000000000000):∀ x ∈ scL own sh own.length,0 ≤ x.Cost ∧ x.Cost ≤ 1000000000000000:=fun x hx => by
 obtain ⟨k,hk,rfl⟩:=bL (flt_mem.1 hx).1
 rw [mX (by omega)] at hk
 unfold scA
 rw [dr (by omega)]
 exact hc (rd own k) (ax hk)
section
variable {l:List Lot} {a c q:Int}
theorem C4 (h:¬ (LotsOk l ∧ inP q 0 1000000000000000)):aR l a c q = ([],1):=by rw [aR,ap h]
theorem C5 (h:LotsOk l ∧ inP q 0 1000000000000000) (h1:¬ 0 < ((aa l a c).length:Int) ∧ ¬ q = 0):aR l a c q = (l,2):=by rw [aR,a8 (fun k => k h),ap h1]
theorem C6 (h:LotsOk l ∧ inP q 0 1000000000000000) (h1:¬ 0 < ((aa l a c).length:Int)) (h2:q = 0):aR l a c q = (l,0):=by rw [aR,a8 (fun k => k h),a8 (fun k => k.2 h2),ap h1]
theorem C7 (h:LotsOk l ∧ inP q 0 1000000000000000) (h1:0 < ((aa l a c).length:Int)) (h2:(aa l a c).length > (40:Int)):aR l a c q = (l,3):=by rw [aR,a8 (fun k => k h),a8 (fun k => k.1 h1),a8 (fun k => k h1),ap h2]
theorem C3 (h:LotsOk l ∧ inP q 0 1000000000000000) (h1:0 < ((aa l a c).length:Int)) (h2:¬ (aa l a c).length > (40:Int)):aR l a c q = (mrg (bh l a c) (scF (aa l a c) (shs q ((aa l a c).map Lot.Qty))),0):=by rw [aR,a8 (fun k => k h),a8 (fun k => k.1 h1),a8 (fun k => k h1),a8 h2]
end
theorem ec {l:List Lot} {a c q:Int}:FC Tryz.prog 241 [.c (.row 0 0 l.length),I a,I c,I q] ([ro 137 l]) (.tup [.c (.row 1 0 (aR l a c q).1.length),I (aR l a c q).2]) ([ro 137 l,ow 137 (aR l a c q).1]):=by
 refine al tk 114 [.tmp 8,.tmp 9] Tryz.func241 (by kernel_rfl) rfl rfl rfl rfl rfl rfl rfl ?_
 by_cases hok:LotsOk l ∧ inP q 0 1000000000000000
 rotate_left
 ·
  rw [C4 hok]
  repeat' (first
| intro h9;exact absurd ⟨by assumption,by assumption⟩ hok
| apply d5 (d:=8) 137 5;rfl;rfl;rfl
| apply yd;rfl
| intro _
| refine nv ?_
| apply wct rfl
| apply ycp;rfl;(first | exact bD | exact aJ);rfl
| fail)
  all_goals exact ai [0,2] rfl rfl rfl rfl rfl rfl
 obtain ⟨h1,h2⟩:=id hok
 have hll:=h1.1.2
 have hlq:=h1.q
 have h2':=h2
 unfold inP at h2'
 have hlo:(aa l a c).length ≤ l.length:=cO _ _
 have hlq2:LQ (aa l a c):=LQ.of hlq
 have hnl:(bh l a c).length ≤ l.length:=cO _ _
 by_cases hn:0 < ((aa l a c).length:Int)
 rotate_left
 ·
  by_cases hq:q = 0
  ·
   rw [C6 hok hn hq]
   repeat' (first
| intro h9;exfalso;first | contradiction | omega
| apply yds;rfl
| apply yd;rfl
| intro _
| refine nv ?_
| apply wct rfl
| apply wcf rfl
| apply ag;rfl
| apply yne;rfl
| apply ycp;rfl;(first | exact bD | exact aJ);rfl
| apply ycf;rfl;(first | exact bj (by omega) | exact cJ (by omega));rfl
| fail)
   all_goals exact ai [0,1] rfl rfl rfl rfl rfl rfl
  ·
   rw [C5 hok ⟨hn,hq⟩]
   repeat' (first
| intro h9;exfalso;first | contradiction | omega
| apply yds;rfl
| apply yd;rfl
| intro _
| refine nv ?_
| apply wct rfl
| apply wcf rfl
| apply ag;rfl
| apply yne;rfl
| apply ycp;rfl;(first | exact bD | exact aJ);rfl
| apply ycf;rfl;(first | exact bj (by omega) | exact cJ (by omega));rfl
| fail)
   all_goals exact ai [0,1] rfl rfl rfl rfl rfl rfl
 by_cases h40:(aa l a c).length > (40:Int)
 ·
  rw [C7 hok hn h40]
  repeat' (first
| intro h9;exfalso;first | contradiction | omega
| apply yds;rfl
| apply yd;rfl
| intro _
| refine nv ?_
| apply wct rfl
| apply wcf rfl
| apply ag;rfl
| apply ycp;rfl;(first | exact bD | exact aJ);rfl
| apply ycf;rfl;(first | exact bj (by omega) | exact cJ (by omega));rfl
| fail)
  all_goals exact ai [0,1] rfl rfl rfl rfl rfl rfl
 rw [C3 hok hn h40]
 have hsh:=ym h1 hn h40 h2
 dsimp only
 have hqc:∀ x ∈ aa l a c,0 ≤ x.Cost ∧ x.Cost ≤ 1000000000000000:=hlq2.c
 have hsn:=gB q ((aa l a c).map Lot.Qty)
 have hml:((aa l a c).map Lot.Qty).length = (aa l a c).length:=List.length_map _
 have hwl:=yC (sh:=(shs q ((aa l a c).map Lot.Qty))) (a:=a) (c:=c) h1
 repeat' (first
| intro h9;exfalso;first | contradiction | omega
| apply yds;rfl
| apply yd;rfl
| intro _
| refine nv ?_
| apply wcf rfl
| apply ag;rfl
| apply aG (α:=Int) (e:=3);rfl
| apply ycp;rfl;(first | exact bD | exact aJ);rfl
| apply ycf;rfl;(first | exact bj (by omega) | exact cJ (by omega));rfl
| fail)
 all_goals skip
 refine wlp (X:=Int × List Int) [0,1,2,3,11,55,56] [0,1,2,3] (fun x => [(57,I x.1),(12,.c (.row 3 0 x.2.length))]) (fun x => [(3,ow 3 x.2)]) (fun x => (0 ≤ x.1 ∧ x.1 ≤ (aa l a c).length) ∧ x.2 = pf ((aa l a c).map Lot.Qty) x.1) (fun x => ((aa l a c).length - x.1).toNat) (0,[]) ⟨by dsimp only;omega,rfl⟩ rfl rfl (fun _ => rfl) (fun _ => rfl) ⟨rfl,rfl,rfl,rfl,rfl,rfl,rfl,rfl⟩ (fun x hx => ?_)
 obtain ⟨i,u⟩:=x
 obtain ⟨h0,hu⟩:=hx
 dsimp only at h0 hu ⊢
 have hul:(u.length:Int) = i:=by rw [hu];exact bU (by omega)
 by_cases hil:i < (aa l a c).length
 ·
  have hu2:u ++ [(rd (aa l a c) i).Qty] = pf ((aa l a c).map Lot.Qty) (i + 1):=by rw [hu,ce (by omega),yu ⟨h0.1,hil⟩]
  repeat' (first
| intro h9;exfalso;contradiction
| apply yds;rfl
| apply yd;rfl
| intro _
| refine nv ?_
| apply wct rfl
| apply ag;rfl
| apply yar;rfl;omega
| apply yix;rfl;omega
| apply yle;rfl;omega
| apply aG (α:=Int) (e:=3);rfl
| apply yap;rfl;(((try simp only [lE,lM]);(try dsimp only);omega))
| fail)
  all_goals first
   | exact aA (i + 1,u ++ [(rd (aa l a c) i).Qty]) [0,1,2,6] ⟨rfl,rfl,rfl,rfl,rfl,rfl,rfl,rfl⟩ ⟨by dsimp only;omega,hu2⟩ (by first | omega | (dsimp only;omega))
   | (exfalso;omega)
   | trace_state
 rw [aY (by omega)] at hu
 subst hu
 repeat' (first
| intro h9;exfalso;contradiction
| apply yds;rfl
| apply yd;rfl
| intro _
| refine nv ?_
| apply wcf rfl
| apply ae rfl
| apply ag;rfl
| apply aG (α:=Lot) (e:=137);rfl
| apply ycf;rfl;(exact jh (by assumption));rfl
| fail)
 all_goals skip
 refine wlp (X:=Int × List Lot × Int) [0,1,2,15,74,75] [0,1,2,3,4,5] (fun x => [(76,I x.1),(17,.c (.row 5 0 x.2.1.length)),(18,I x.2.2)]) (fun x => [(5,ow 137 x.2.1)]) (fun x => (0 ≤ x.1 ∧ x.1 ≤ (aa l a c).length) ∧ x.2.1 = scL (aa l a c) (shs q ((aa l a c).map Lot.Qty)) x.1 ∧ x.2.2 = scC (aa l a c) (shs q ((aa l a c).map Lot.Qty)) x.1) (fun x => ((aa l a c).length - x.1).toNat) (0,[],0) ⟨by dsimp only;omega,rfl,rfl⟩ rfl rfl (fun _ => rfl) (fun _ => rfl) ⟨rfl,rfl,rfl,rfl,rfl,rfl,rfl,rfl⟩ (fun x hx => ?_)
 obtain ⟨i,u,n⟩:=x
 obtain ⟨h0,hu,hn2⟩:=hx
 dsimp only at h0 hu hn2 ⊢
 have hul:=rz (own:=aa l a c) (sh:=(shs q ((aa l a c).map Lot.Qty))) h0.1
 rw [← hu] at hul
 have hcb:=uj (sh:=(shs q ((aa l a c).map Lot.Qty))) hqc i.toNat (by omega)
 rw [show ((i.toNat:Nat):Int) = i from by omega,← hn2] at hcb
 by_cases hil:i < (aa l a c).length
 ·
  have hc1:=hqc _ (ax ⟨h0.1,hil⟩)
  by_cases hz:rd (shs q ((aa l a c).map Lot.Qty)) i = 0
  ·
   have hu2:u = scL (aa l a c) (shs q ((aa l a c).map Lot.Qty)) (i + 1):=by rw [Av h0.1 hz,hu]
   have hn3:n + (rd (aa l a c) i).Cost = scC (aa l a c) (shs q ((aa l a c).map Lot.Qty)) (i + 1):=by rw [yB h0.1 hz,hn2]
   repeat' (first
| intro h9;exfalso;contradiction
| apply yds;rfl
| apply yd;rfl
| apply yix;rfl;omega
| apply yle;rfl;omega
| intro _
| refine nv ?_
| apply wct rfl
| apply ag;rfl
| apply yar;rfl;omega
| fail)
   all_goals first
    | exact aA (i + 1,u,n + (rd (aa l a c) i).Cost) [0,1,2,3,4,5] ⟨rfl,rfl,rfl,rfl,rfl,rfl,rfl,rfl⟩ ⟨by dsimp only;omega,hu2,hn3⟩ (by first | omega | (dsimp only;omega))
    | (exfalso;omega)
    | trace_state
  ·
   have hu2:u ++ [⟨(rd (aa l a c) i).Account,(rd (aa l a c) i).Instr,(rd (aa l a c) i).No,rd (shs q ((aa l a c).map Lot.Qty)) i,(rd (aa l a c) i).Cost⟩] = scL (aa l a c) (shs q ((aa l a c).map Lot.Qty)) (i + 1):=by rw [Aw h0.1 hz,hu]
   have hn3:n = scC (aa l a c) (shs q ((aa l a c).map Lot.Qty)) (i + 1):=by rw [yA h0.1 hz,hn2]
   repeat' (first
| intro h9;exfalso;contradiction
| apply yds;rfl
| apply yd;rfl
| apply yix;rfl;omega
| apply yle;rfl;omega
| intro _
| refine nv ?_
| apply wct rfl
| apply wcf rfl
| apply ag;rfl
| apply yar;rfl;omega
| apply aG (α:=Lot) (e:=137);rfl
| apply yap;rfl;(((try simp only [lE,lM]);(try dsimp only);omega))
| fail)
   all_goals first
    | exact aA (i + 1,u ++ [⟨(rd (aa l a c) i).Account,(rd (aa l a c) i).Instr,(rd (aa l a c) i).No,rd (shs q ((aa l a c).map Lot.Qty)) i,(rd (aa l a c) i).Cost⟩],n) [0,1,2,3,4,8] ⟨rfl,rfl,rfl,rfl,rfl,rfl,rfl,rfl⟩ ⟨by dsimp only;omega,hu2,hn3⟩ (by first | omega | (dsimp only;omega))
    | (exfalso;omega)
    | trace_state
 have ei:i = ((aa l a c).length:Int):=by omega
 rw [ei] at hu hn2
 by_cases hp:0 < (u.length:Int)
 ·
  have hF:scF (aa l a c) (shs q ((aa l a c).map Lot.Qty)) = upd u 0 ⟨(rd u 0).Account,(rd u 0).Instr,(rd u 0).No,(rd u 0).Qty,(rd u 0).Cost + n⟩:=by rw [scF,← hu,← hn2,ap hp]
  have hub:=aF u 0 ⟨(rd u 0).Account,(rd u 0).Instr,(rd u 0).No,(rd u 0).Qty,(rd u 0).Cost + n⟩
  have hcu:0 ≤ (rd u 0).Cost ∧ (rd u 0).Cost ≤ 1000000000000000:=Au hqc _ (by rw [← hu];exact ax ⟨Int.le_refl 0,hp⟩)
  rw [hF] at hwl ⊢
  repeat' (first
| intro h9;exfalso;contradiction
| apply yds;rfl
| apply yd;rfl
| apply yix;rfl;omega
| apply yle;rfl;omega
| apply zse;rfl;exact tk;(iterate 6 rfl);omega;rfl;rfl;rfl;rfl;rfl
| intro _
| refine nv ?_
| apply wct rfl
| apply wcf rfl
| apply ae rfl
| apply ag;rfl
| apply yar;rfl;omega
| fail)
  all_goals skip
  rw [← hub]
  repeat' (first
| apply yds;rfl
| refine nv ?_
| apply ycf;rfl;(exact dF (by assumption) (by omega) (by omega));rfl
| fail)
  all_goals exact ai [0,6] rfl rfl rfl rfl rfl rfl
 ·
  have hF:scF (aa l a c) (shs q ((aa l a c).map Lot.Qty)) = u:=by rw [scF,← hu,← hn2,a8 hp]
  rw [hF] at hwl ⊢
  repeat' (first
| intro h9;exfalso;contradiction
| apply yds;rfl
| intro _
| refine nv ?_
| apply wcf rfl
| apply ae rfl
| apply ag;rfl
| apply ycf;rfl;(exact dF (by assumption) (by omega) (by omega));rfl
| fail)
  all_goals exact ai [0,6] rfl rfl rfl rfl rfl rfl
theorem ew {l:List Lot} {a c q:Int}:FC Tryz.prog 137 [.c (.row 0 0 l.length),I a,I c,I q] ([ro 137 l]) (.tup [.c (.row 1 0 (aR l a c q).1.length),I (aR l a c q).2]) ([ro 137 l,ow 137 (aR l a c q).1]):=by
 refine al tk 122 [.tmp 8,.tmp 9] Tryz.func137 (by kernel_rfl) rfl rfl rfl rfl rfl rfl rfl ?_
 by_cases hok:LotsOk l ∧ inP q 0 1000000000000000
 rotate_left
 ·
  rw [C4 hok]
  repeat' (first
| intro h9;exact absurd ⟨by assumption,by assumption⟩ hok
| apply d5 (d:=8) 137 5;rfl;rfl;rfl
| apply yd;rfl
| intro _
| refine nv ?_
| apply wct rfl
| apply aG (α:=Lot) (e:=137);rfl
| apply ycp;rfl;(first | exact bJ | exact aC);rfl
| fail)
  all_goals exact ai [0,2] rfl rfl rfl rfl rfl rfl
 obtain ⟨h1,h2⟩:=id hok
 have hll:=h1.1.2
 have hlq:=h1.q
 have h2':=h2
 unfold inP at h2'
 have hlo:(aa l a c).length ≤ l.length:=cO _ _
 have hlq2:LQ (aa l a c):=LQ.of hlq
 have hnl:(bh l a c).length ≤ l.length:=cO _ _
 by_cases hn:0 < ((aa l a c).length:Int)
 rotate_left
 ·
  by_cases hq:q = 0
  ·
   rw [C6 hok hn hq]
   repeat' (first
| intro h9;exfalso;first | contradiction | omega
| apply yds;rfl
| apply yd;rfl
| intro _
| refine nv ?_
| apply wct rfl
| apply wcf rfl
| apply ag;rfl
| apply aG (α:=Lot) (e:=137);rfl
| apply yap;rfl;(((try simp only [lE,lM]);(try dsimp only);omega))
| apply ycp;rfl;(first | exact bJ | exact aC);rfl
| apply ycf;rfl;(exact cG (by omega));rfl
| fail)
   all_goals exact ai [0,4] rfl rfl rfl rfl rfl rfl
  ·
   rw [C5 hok ⟨hn,hq⟩]
   repeat' (first
| intro h9;exfalso;first | contradiction | omega
| apply yds;rfl
| apply yd;rfl
| intro _
| refine nv ?_
| apply wct rfl
| apply wcf rfl
| apply ag;rfl
| apply aG (α:=Lot) (e:=137);rfl
| apply yap;rfl;(((try simp only [lE,lM]);(try dsimp only);omega))
| apply ycp;rfl;(first | exact bJ | exact aC);rfl
| apply ycf;rfl;(exact cG (by omega));rfl
| fail)
   all_goals exact ai [0,4] rfl rfl rfl rfl rfl rfl
 by_cases h40:(aa l a c).length > (40:Int)
 ·
  rw [C7 hok hn h40]
  repeat' (first
| intro h9;exfalso;first | contradiction | omega
| apply yds;rfl
| apply yd;rfl
| intro _
| refine nv ?_
| apply wct rfl
| apply wcf rfl
| apply ag;rfl
| apply aG (α:=Lot) (e:=137);rfl
| apply yap;rfl;(((try simp only [lE,lM]);(try dsimp only);omega))
| apply ycp;rfl;(first | exact bJ | exact aC);rfl
| apply ycf;rfl;(exact cG (by omega));rfl
| fail)
  all_goals exact ai [0,4] rfl rfl rfl rfl rfl rfl
 rw [C3 hok hn h40]
 have hsh:=ym h1 hn h40 h2
 dsimp only
 have hqc:∀ x ∈ aa l a c,0 ≤ x.Cost ∧ x.Cost ≤ 1000000000000000:=hlq2.c
 have hsn:=gB q ((aa l a c).map Lot.Qty)
 have hml:((aa l a c).map Lot.Qty).length = (aa l a c).length:=List.length_map _
 have hwl:=yC (sh:=(shs q ((aa l a c).map Lot.Qty))) (a:=a) (c:=c) h1
 repeat' (first
| intro h9;exfalso;first | contradiction | omega
| apply yds;rfl
| apply yd;rfl
| intro _
| refine nv ?_
| apply wcf rfl
| apply ag;rfl
| apply aG (α:=Lot) (e:=137);rfl
| apply aG (α:=Int) (e:=3);rfl
| apply yap;rfl;(((try simp only [lE,lM]);(try dsimp only);omega))
| apply ycp;rfl;(first | exact bJ | exact aC);rfl
| apply ycf;rfl;(exact cG (by omega));rfl
| fail)
 all_goals skip
 refine wlp (X:=Int × List Int) [3,10,11] [0,1,2,3,4,5] (fun x => [(14,I x.1),(13,.c (.row 5 0 x.2.length))]) (fun x => [(5,ow 3 x.2)]) (fun x => (0 ≤ x.1 ∧ x.1 ≤ (aa l a c).length) ∧ x.2 = pf ((aa l a c).map Lot.Qty) x.1) (fun x => ((aa l a c).length - x.1).toNat) (0,[]) ⟨by dsimp only;omega,rfl⟩ rfl rfl (fun _ => rfl) (fun _ => rfl) ⟨rfl,rfl,rfl,rfl,rfl,rfl,rfl,rfl⟩ (fun x hx => ?_)
 obtain ⟨i,u⟩:=x
 obtain ⟨h0,hu⟩:=hx
 dsimp only at h0 hu ⊢
 have hul:(u.length:Int) = i:=by rw [hu];exact bU (by omega)
 by_cases hil:i < (aa l a c).length
 ·
  have hu2:u ++ [(rd (aa l a c) i).Qty] = pf ((aa l a c).map Lot.Qty) (i + 1):=by rw [hu,ce (by omega),yu ⟨h0.1,hil⟩]
  repeat' (first
| intro h9;exfalso;contradiction
| apply yds;rfl
| apply yd;rfl
| intro _
| refine nv ?_
| apply wct rfl
| apply ag;rfl
| apply yar;rfl;omega
| apply yix;rfl;omega
| apply yle;rfl;omega
| apply aG (α:=Int) (e:=3);rfl
| apply yap;rfl;(((try simp only [lE,lM]);(try dsimp only);omega))
| fail)
  all_goals first
   | exact aA (i + 1,u ++ [(rd (aa l a c) i).Qty]) [0,1,2,3,4,7] ⟨rfl,rfl,rfl,rfl,rfl,rfl,rfl,rfl⟩ ⟨by dsimp only;omega,hu2⟩ (by first | omega | (dsimp only;omega))
   | (exfalso;omega)
   | trace_state
 rw [aY (by omega)] at hu
 subst hu
 repeat' (first
| intro h9;exfalso;contradiction
| apply yds;rfl
| apply yd;rfl
| intro _
| refine nv ?_
| apply wcf rfl
| apply ae rfl
| apply ag;rfl
| apply aG (α:=Lot) (e:=137);rfl
| apply ycf;rfl;(exact ju (by assumption));rfl
| fail)
 all_goals skip
 refine wlp (X:=Int × List Lot × Int) [10,11,15] [0,1,2,3,4,5,6,7] (fun x => [(19,I x.1),(17,.c (.row 7 0 x.2.1.length)),(18,I x.2.2)]) (fun x => [(7,ow 137 x.2.1)]) (fun x => (0 ≤ x.1 ∧ x.1 ≤ (aa l a c).length) ∧ x.2.1 = scL (aa l a c) (shs q ((aa l a c).map Lot.Qty)) x.1 ∧ x.2.2 = scC (aa l a c) (shs q ((aa l a c).map Lot.Qty)) x.1) (fun x => ((aa l a c).length - x.1).toNat) (0,[],0) ⟨by dsimp only;omega,rfl,rfl⟩ rfl rfl (fun _ => rfl) (fun _ => rfl) ⟨rfl,rfl,rfl,rfl,rfl,rfl,rfl,rfl⟩ (fun x hx => ?_)
 obtain ⟨i,u,n⟩:=x
 obtain ⟨h0,hu,hn2⟩:=hx
 dsimp only at h0 hu hn2 ⊢
 have hul:=rz (own:=aa l a c) (sh:=(shs q ((aa l a c).map Lot.Qty))) h0.1
 rw [← hu] at hul
 have hcb:=uj (sh:=(shs q ((aa l a c).map Lot.Qty))) hqc i.toNat (by omega)
 rw [show ((i.toNat:Nat):Int) = i from by omega,← hn2] at hcb
 by_cases hil:i < (aa l a c).length
 ·
  have hc1:=hqc _ (ax ⟨h0.1,hil⟩)
  by_cases hz:rd (shs q ((aa l a c).map Lot.Qty)) i = 0
  ·
   have hu2:u = scL (aa l a c) (shs q ((aa l a c).map Lot.Qty)) (i + 1):=by rw [Av h0.1 hz,hu]
   have hn3:n + (rd (aa l a c) i).Cost = scC (aa l a c) (shs q ((aa l a c).map Lot.Qty)) (i + 1):=by rw [yB h0.1 hz,hn2]
   repeat' (first
| intro h9;exfalso;contradiction
| apply yds;rfl
| apply yd;rfl
| apply yix;rfl;omega
| apply yle;rfl;omega
| intro _
| refine nv ?_
| apply wct rfl
| apply ag;rfl
| apply yar;rfl;omega
| fail)
   all_goals first
    | exact aA (i + 1,u,n + (rd (aa l a c) i).Cost) [0,1,2,3,4,5,6,7] ⟨rfl,rfl,rfl,rfl,rfl,rfl,rfl,rfl⟩ ⟨by dsimp only;omega,hu2,hn3⟩ (by first | omega | (dsimp only;omega))
    | (exfalso;omega)
    | trace_state
  ·
   have hu2:u ++ [⟨(rd (aa l a c) i).Account,(rd (aa l a c) i).Instr,(rd (aa l a c) i).No,rd (shs q ((aa l a c).map Lot.Qty)) i,(rd (aa l a c) i).Cost⟩] = scL (aa l a c) (shs q ((aa l a c).map Lot.Qty)) (i + 1):=by rw [Aw h0.1 hz,hu]
   have hn3:n = scC (aa l a c) (shs q ((aa l a c).map Lot.Qty)) (i + 1):=by rw [yA h0.1 hz,hn2]
   repeat' (first
| intro h9;exfalso;contradiction
| apply yds;rfl
| apply yd;rfl
| apply yix;rfl;omega
| apply yle;rfl;omega
| intro _
| refine nv ?_
| apply wct rfl
| apply wcf rfl
| apply ag;rfl
| apply yar;rfl;omega
| apply aG (α:=Lot) (e:=137);rfl
| apply yap;rfl;(((try simp only [lE,lM]);(try dsimp only);omega))
| fail)
   all_goals first
    | exact aA (i + 1,u ++ [⟨(rd (aa l a c) i).Account,(rd (aa l a c) i).Instr,(rd (aa l a c) i).No,rd (shs q ((aa l a c).map Lot.Qty)) i,(rd (aa l a c) i).Cost⟩],n) [0,1,2,3,4,5,6,10] ⟨rfl,rfl,rfl,rfl,rfl,rfl,rfl,rfl⟩ ⟨by dsimp only;omega,hu2,hn3⟩ (by first | omega | (dsimp only;omega))
    | (exfalso;omega)
    | trace_state
 have ei:i = ((aa l a c).length:Int):=by omega
 rw [ei] at hu hn2
 by_cases hp:0 < (u.length:Int)
 ·
  have hF:scF (aa l a c) (shs q ((aa l a c).map Lot.Qty)) = upd u 0 ⟨(rd u 0).Account,(rd u 0).Instr,(rd u 0).No,(rd u 0).Qty,(rd u 0).Cost + n⟩:=by rw [scF,← hu,← hn2,ap hp]
  have hub:=aF u 0 ⟨(rd u 0).Account,(rd u 0).Instr,(rd u 0).No,(rd u 0).Qty,(rd u 0).Cost + n⟩
  have hcu:0 ≤ (rd u 0).Cost ∧ (rd u 0).Cost ≤ 1000000000000000:=Au hqc _ (by rw [← hu];exact ax ⟨Int.le_refl 0,hp⟩)
  rw [hF] at hwl ⊢
  repeat' (first
| intro h9;exfalso;contradiction
| apply yds;rfl
| apply yd;rfl
| apply yix;rfl;omega
| apply yle;rfl;omega
| apply zse;rfl;exact tk;(iterate 6 rfl);omega;rfl;rfl;rfl;rfl;rfl
| intro _
| refine nv ?_
| apply wct rfl
| apply wcf rfl
| apply ae rfl
| apply ag;rfl
| apply yar;rfl;omega
| fail)
  all_goals skip
  rw [← hub]
  repeat' (first
| apply yds;rfl
| refine nv ?_
| apply ycf;rfl;(exact da (by omega) (by omega));rfl
| fail)
  all_goals exact ai [0,8] rfl rfl rfl rfl rfl rfl
 ·
  have hF:scF (aa l a c) (shs q ((aa l a c).map Lot.Qty)) = u:=by rw [scF,← hu,← hn2,a8 hp]
  rw [hF] at hwl ⊢
  repeat' (first
| intro h9;exfalso;contradiction
| apply yds;rfl
| intro _
| refine nv ?_
| apply wcf rfl
| apply ae rfl
| apply ag;rfl
| apply ycf;rfl;(exact da (by omega) (by omega));rfl
| fail)
  all_goals exact ai [0,8] rfl rfl rfl rfl rfl rfl
end
section
open Go.RowKit
noncomputable def scN (l:List Lot) (pa:Int) (who is:List Int):Nat → List Lot × Int
 | 0 => (l,0)
 | k + 1 => sel ((scN l pa who is k).2 = 0) (sel ((aR (scN l pa who is k).1 (rd who k) pa (rd is k)).2 = 0) ((aR (scN l pa who is k).1 (rd who k) pa (rd is k)).1,0) ((scN l pa who is k).1,7)) (scN l pa who is k)
theorem vh {l L:List Lot} {pa i:Int} {who is:List Int} (h:0 ≤ i) (e:scN l pa who is i.toNat = (L,0)) (c:(aR L (rd who i) pa (rd is i)).2 = 0):scN l pa who is (i + 1).toNat = ((aR L (rd who i) pa (rd is i)).1,0):=by
 rw [show (i + 1).toNat = i.toNat + 1 from by omega,scN,e,show ((i.toNat:Nat):Int) = i from by omega,ap (show (L,(0:Int)).2 = 0 from rfl),ap c]
theorem rA {l:List Lot} {pa:Int} {who is:List Int} {k:Nat} (h:¬ (scN l pa who is k).2 = 0):∀ m:Nat,¬ (scN l pa who is (k + m)).2 = 0
 | 0 => h
 | m + 1 => by
   show ¬ (scN l pa who is (k + m + 1)).2 = 0
   rw [scN,a8 (rA h m)]
   exact rA h m
theorem vg {l L:List Lot} {pa i n:Int} {who is:List Int} (h:0 ≤ i ∧ i < n) (e:scN l pa who is i.toNat = (L,0)) (c:¬ (aR L (rd who i) pa (rd is i)).2 = 0):¬ (scN l pa who is n.toNat).2 = 0:=by
 have h1:¬ (scN l pa who is (i.toNat + 1)).2 = 0:=by
  rw [scN,e,show ((i.toNat:Nat):Int) = i from by omega,ap (show (L,(0:Int)).2 = 0 from rfl),a8 c]
  show ¬ (7:Int) = 0
  decide
 have h2:=rA h1 (n.toNat - (i.toNat + 1))
 rwa [show i.toNat + 1 + (n.toNat - (i.toNat + 1)) = n.toNat from by omega] at h2
theorem kS {ba:List Account} {bi:List Instr} {bb:List Bal} {bl:List Lot} {bt:List Trade} {bn:Int} {pa:Int} {who is:List Int} (hl:is.length = who.length ∧ 0 < who.length ∧ who.length ≤ 100):FC Tryz.prog 132 [.c (.ptr 0 0 0),I pa,.c (.row 1 0 who.length),.c (.row 2 0 is.length)] ([bkX 3 ⟨ba,bi,bb,bl,bt,bn⟩,ro 3 who,ro 3 is,ow 42 ba,ow 74 bi,ow 135 bb,ro 137 bl,ow 103 bt]) (sel ((scN bl pa who is (who.length:Int).toNat).2 = 0) (I 0) (I 7)) (sel ((scN bl pa who is (who.length:Int).toNat).2 = 0) ([some ⟨true,30,6,.mx [.row 3 0 ba.length,.row 4 0 bi.length,.row 5 0 bb.length,.row 8 0 (scN bl pa who is (who.length:Int).toNat).1.length,.row 7 0 bt.length,.sc (.int .i64 bn)]⟩,ro 3 who,ro 3 is,ow 42 ba,ow 74 bi,ow 135 bb,ro 137 bl,ow 103 bt,ow 137 (scN bl pa who is (who.length:Int).toNat).1]) ([none,ro 3 who,ro 3 is,ow 42 ba,ow 74 bi,ow 135 bb,ro 137 bl,ow 103 bt])):=by
 refine al tk 41 [.tmp 8] Tryz.func132 (by kernel_rfl) rfl rfl rfl rfl rfl rfl rfl ?_
 repeat' (first
| apply yds;rfl
| apply yd;rfl
| refine nv ?_
| fail)
 refine dy (X:=Option (Int × List Lot)) (fun x => match x with | none => True | some y => (1 ≤ y.1 ∧ y.1 ≤ who.length) ∧ scN bl pa who is y.1.toNat = (y.2,0)) (fun x => match x with | none => ⟨41,8,[(15,I 0),(14,.c (.sc (.int .i64 who.length))),(13,.c (.row 1 0 who.length)),(0,.c (.ptr 0 0 0)),(1,I pa),(3,.c (.row 2 0 is.length))],[some ⟨true,30,6,.mx [.row 3 0 ba.length,.row 4 0 bi.length,.row 5 0 bb.length,.row 6 0 bl.length,.row 7 0 bt.length,.sc (.int .i64 bn)]⟩,ro 3 who,ro 3 is,ow 42 ba,ow 74 bi,ow 135 bb,ro 137 bl,ow 103 bt]⟩ | some y => ⟨41,8,[(15,I y.1),(14,.c (.sc (.int .i64 who.length))),(13,.c (.row 1 0 who.length)),(0,.c (.ptr 0 0 0)),(1,I pa),(3,.c (.row 2 0 is.length))],[some ⟨true,30,6,.mx [.row 3 0 ba.length,.row 4 0 bi.length,.row 5 0 bb.length,.row 8 0 y.2.length,.row 7 0 bt.length,.sc (.int .i64 bn)]⟩,ro 3 who,ro 3 is,ow 42 ba,ow 74 bi,ow 135 bb,ro 137 bl,ow 103 bt,ow 137 y.2]⟩) (fun x => match x with | none => who.length + 1 | some y => (who.length - y.1).toNat) none [0,1,2,3,4,5,6,7] trivial ⟨rfl,rfl,rfl,rfl,rfl,rfl,rfl,rfl⟩ (fun x hx => ?_)
 cases x with
 | none =>
   dsimp only
   have hS:scN bl pa who is (0:Int).toNat = (bl,0):=rfl
   by_cases hc:(aR bl (rd who 0) pa (rd is 0)).2 = 0
   ·
    have hS2:=vh (Int.le_refl 0) hS hc
    repeat' (first
| intro h9;exfalso;first | contradiction | omega
| apply yds;rfl
| apply yd;rfl
| intro _
| refine nv ?_
| apply wct rfl
| apply wcf rfl
| apply ag;rfl
| apply yne;rfl
| apply yar;rfl;omega
| apply yix;rfl;omega
| apply yle;rfl;omega
| refine zdq (id:=4) rfl (by kernel_rfl) [(.p,0),(.p,1),(.p,2),(.p,4),(.p,5),(.p,6),(.p,7),(.p,8),(.t,3),(.t,9),(.o,10),(.p,11),(.p,12),(.p,13),(.p,14),(.p,15)] [] (by kernel_rfl) rfl ?_
| apply ycf;rfl;exact ec;rfl
| fail)
    all_goals first
     | exact aA (some (0 + 1,(aR bl (rd who 0) pa (rd is 0)).1)) [0,1,2,3,4,5,6,7,8] ⟨rfl,rfl,rfl,rfl,rfl,rfl,rfl,rfl⟩ ⟨by dsimp only;omega,hS2⟩ (by first | omega | (dsimp only;omega))
     | (exfalso;omega)
     | trace_state
   ·
    have hS2:=vg (n:=who.length) ⟨Int.le_refl 0,by omega⟩ hS hc
    repeat' (first
| intro h9;exfalso;first | contradiction | omega
| apply yds;rfl
| apply yd;rfl
| intro _
| refine nv ?_
| apply wct rfl
| apply ag;rfl
| apply yne;rfl
| apply yix;rfl;omega
| apply yle;rfl;omega
| refine zdq (id:=4) rfl (by kernel_rfl) [(.p,0),(.p,1),(.p,2),(.p,4),(.p,5),(.p,6),(.p,7),(.p,8),(.t,3),(.t,9),(.o,10),(.p,11),(.p,12),(.p,13),(.p,14),(.p,15)] [] (by kernel_rfl) rfl ?_
| apply ycf;rfl;exact ec;rfl
| fail)
    all_goals first
     | exact bS hS2 [0,1,2,3,4,5,6,7] rfl rfl rfl rfl rfl rfl
     | (exfalso;omega)
     | trace_state
 | some y =>
   obtain ⟨i,L⟩:=y
   obtain ⟨h0,hS⟩:=hx
   dsimp only at h0 hS ⊢
   by_cases hil:i < who.length
   ·
    by_cases hc:(aR L (rd who i) pa (rd is i)).2 = 0
    ·
     have hS2:=vh (by omega) hS hc
     repeat' (first
| intro h9;exfalso;contradiction
| apply yds;rfl
| apply yd;rfl
| intro _
| refine nv ?_
| apply wct rfl
| apply wcf rfl
| apply ag;rfl
| apply yne;rfl
| apply yar;rfl;omega
| apply yix;rfl;omega
| apply yle;rfl;omega
| refine zdq (id:=4) rfl (by kernel_rfl) [(.p,0),(.p,1),(.p,2),(.p,4),(.p,5),(.p,6),(.p,7),(.p,8),(.t,3),(.t,9),(.o,10),(.p,11),(.p,12),(.p,13),(.p,14),(.p,15)] [] (by kernel_rfl) rfl ?_
| apply ycf;rfl;exact ec;rfl
| fail)
     all_goals first
      | exact aA (some (i + 1,(aR L (rd who i) pa (rd is i)).1)) [0,1,2,3,4,5,6,7,9] ⟨rfl,rfl,rfl,rfl,rfl,rfl,rfl,rfl⟩ ⟨by dsimp only;omega,hS2⟩ (by first | omega | (dsimp only;omega))
      | (exfalso;omega)
      | trace_state
    ·
     have hS2:=vg (n:=who.length) ⟨by omega,hil⟩ hS hc
     repeat' (first
| intro h9;exfalso;contradiction
| apply yds;rfl
| apply yd;rfl
| intro _
| refine nv ?_
| apply wct rfl
| apply ag;rfl
| apply yne;rfl
| apply yix;rfl;omega
| apply yle;rfl;omega
| refine zdq (id:=4) rfl (by kernel_rfl) [(.p,0),(.p,1),(.p,2),(.p,4),(.p,5),(.p,6),(.p,7),(.p,8),(.t,3),(.t,9),(.o,10),(.p,11),(.p,12),(.p,13),(.p,14),(.p,15)] [] (by kernel_rfl) rfl ?_
| apply ycf;rfl;exact ec;rfl
| fail)
     all_goals first
      | exact bS hS2 [0,1,2,3,4,5,6,7] rfl rfl rfl rfl rfl rfl
      | (exfalso;omega)
      | trace_state
   ·
    have ei:i = (who.length:Int):=by omega
    subst ei
    have hz:(scN bl pa who is (who.length:Int).toNat).2 = 0:=by rw [hS]
    repeat' (first
| intro h9;exfalso;contradiction
| apply yd;rfl
| intro _
| refine nv ?_
| apply wcf rfl
| apply ae rfl
| apply ag;rfl
| fail)
    all_goals first
     | (rw [show L = (scN bl pa who is (who.length:Int).toNat).1 from by rw [hS]]
        exact gM hz [0,1,2,3,4,5,6,7,8] rfl rfl rfl rfl rfl rfl)
     | (exfalso;omega)
     | trace_state
end
end Go.Proofs.YtgehbhkfehmdkaaGreat.Sh
