/- Lots told anew. No condition. -/
import Derived.Test.YtgehbhkfehmdkaaGreatKUShPv
import Derived.Test.YtgehbhkfehmdkaaGreatKUShTk
import Derived.Test.YtgehbhkfehmdkaaGreatKUShV
import Derived.Test.YtgehbhkfehmdkaaGreatKUShBo
import Derived.Test.YtgehbhkfehmdkaaGreatKUShPo
set_option maxRecDepth 100000
set_option maxHeartbeats 40000000
set_option linter.unusedSimpArgs false
set_option linter.unusedVariables false
namespace Go.Proofs.YtgehbhkfehmdkaaGreat.Sh
section
open Go.RowKit
def scX (own:List Lot) (sh:List Int) (k:Int):Lot:=⟨(rd own k).Account,(rd own k).Instr,(rd own k).No,rd sh k,(rd own k).Cost⟩
def scA (own:List Lot) (sh:List Int) (i:Int):List Lot:=mkl i.toNat (scX own sh)
noncomputable def scL (own:List Lot) (sh:List Int) (i:Int):List Lot:=flt (fun x:Lot => ¬ x.Qty = 0) (scA own sh i)
def scZ (x:Lot):Int:=if x.Qty = 0 then x.Cost else 0
def scC (own:List Lot) (sh:List Int) (i:Int):Int:=ao scZ (scA own sh i)
section
variable {own:List Lot} {sh:List Int} {i:Int}
theorem mD (h:0 ≤ i):scA own sh (i + 1) = scA own sh i ++ [scX own sh i]:=iY h
theorem oF (h:0 ≤ i):((scA own sh i).length:Int) = i:=by rw [scA,ce];omega
theorem CH (h:0 ≤ i) (e:¬ rd sh i = 0):scL own sh (i + 1) = scL own sh i ++ [⟨(rd own i).Account,(rd own i).Instr,(rd own i).No,rd sh i,(rd own i).Cost⟩]:=by
 rw [scL,mD h,aV,dN (p:=fun x:Lot => ¬ x.Qty = 0) (x:=scX own sh i) e]
 rfl
theorem CG (h:0 ≤ i) (e:rd sh i = 0):scL own sh (i + 1) = scL own sh i:=by
 rw [scL,mD h,aV,dm (p:=fun x:Lot => ¬ x.Qty = 0) (x:=scX own sh i) (fun k => k e),List.append_nil]
 rfl
theorem AX (h:0 ≤ i) (e:rd sh i = 0):scC own sh (i + 1) = scC own sh i + (rd own i).Cost:=by
 rw [scC,mD h,bk,cT]
 show scC own sh i + (if rd sh i = 0 then (rd own i).Cost else 0) = _
 rw [if_pos e]
theorem AW (h:0 ≤ i) (e:¬ rd sh i = 0):scC own sh (i + 1) = scC own sh i:=by
 rw [scC,mD h,bk,cT]
 show scC own sh i + (if rd sh i = 0 then (rd own i).Cost else 0) = _
 rw [if_neg e,Int.add_zero]
theorem vV (h:0 ≤ i):((scL own sh i).length:Int) ≤ i:=by
 have h1:=cV (fun x:Lot => ¬ x.Qty = 0) (scA own sh i)
 have h2:=oF (own:=own) (sh:=sh) h
 unfold scL
 omega
theorem yU (hc:∀ x ∈ own,0 ≤ x.Cost ∧ x.Cost ≤ 1000000000000000):∀ k:Nat,(k:Int) ≤ own.length → 0 ≤ scC own sh k ∧ scC own sh k ≤ 1000000000000000 * k
 | 0,_ => by show 0 ≤ (0:Int) ∧ (0:Int) ≤ _;omega
 | k + 1,hk => by
   have ih:=yU hc k (by omega)
   have h1:=hc _ (aA (l:=own) (i:=k) ⟨by omega,by omega⟩)
   have e:((k + 1:Nat):Int) = (k:Int) + 1:=by omega
   rw [e]
   by_cases q:rd sh k = 0
   ·rw [AX (by omega) q];omega
   ·rw [AW (by omega) q];omega
end
noncomputable def scF (own:List Lot) (sh:List Int):List Lot:=sel (0 < ((scL own sh own.length).length:Int)) (upd (scL own sh own.length) 0 ⟨(rd (scL own sh own.length) 0).Account,(rd (scL own sh own.length) 0).Instr,(rd (scL own sh own.length) 0).No,(rd (scL own sh own.length) 0).Qty,(rd (scL own sh own.length) 0).Cost + scC own sh own.length⟩) (scL own sh own.length)
theorem yK {R:Lot → Lot → Prop} {l:List Lot} (h:l.Pairwise R) {i j:Int} (h0:0 ≤ i) (h1:i < j) (h2:j < l.length):R (rd l i) (rd l j):=by
 have q:=List.pairwise_iff_getElem.1 h i.toNat j.toNat (by omega) (by omega) (by omega)
 unfold rd
 rw [List.getD_eq_getElem?_getD,List.getD_eq_getElem?_getD,List.getElem?_eq_getElem (by omega:i.toNat < l.length),List.getElem?_eq_getElem (by omega:j.toNat < l.length)]
 exact q
theorem BX {own:List Lot} {sh:List Int} (h:own.Pairwise lb2):(scA own sh own.length).Pairwise lb2:=tv fun i j h0 h1 h2 => by
 rw [oF (by omega)] at h2
 unfold scA
 rw [dC (by omega),dC (by omega)]
 exact yK h h0 h1 h2
theorem C0 {own:List Lot} {sh:List Int} (h:own.Pairwise lb2):(scL own sh own.length).Pairwise lb2:=(BX h).filter _
theorem BZ {own:List Lot} {sh:List Int} {a c:Int} (h:∀ x ∈ own,x.Account = a ∧ x.Instr = c):∀ x ∈ scL own sh own.length,x.Account = a ∧ x.Instr = c:=fun x hx => by
 obtain ⟨k,hk,rfl⟩:=bw (flt_mem.1 hx).1
 rw [oF (by omega)] at hk
 unfold scA
 rw [dC (by omega)]
 exact h (rd own k) (aA hk)
theorem Ca {l:List Lot} {x:Lot} (h:l.Pairwise lb2) (hl:0 < (l.length:Int)) (e:x.Account = (rd l 0).Account ∧ x.Instr = (rd l 0).Instr ∧ x.No = (rd l 0).No):(upd l 0 x).Pairwise lb2:=tv fun i j h0 h1 h2 => by
 rw [aG] at h2
 rw [i9 (Int.le_refl 0) (by omega) (by omega:j ≠ 0)]
 by_cases c:i = 0
 ·subst c
  rw [bM ⟨Int.le_refl 0,hl⟩]
  have q:=yK h (Int.le_refl 0) h1 h2
  unfold lb2 at *
  rw [e.1,e.2.1,e.2.2]
  exact q
 ·rw [i9 (Int.le_refl 0) h0 c]
  exact yK h h0 h1 h2
theorem BY {l:List Lot} {sh:List Int} {a c:Int} (h:LotsOk l):WL l (scF (ae l a c) sh) a c (scF (ae l a c) sh):=by
 have h1:=C0 (sh:=sh) (qK (a:=a) (c:=c) h.pw)
 have h2:=BZ (own:=ae l a c) (sh:=sh) (fun x hx => (lotsOf_mem.1 hx).2)
 by_cases q:0 < ((scL (ae l a c) sh (ae l a c).length).length:Int)
 ·refine ⟨h.pw,?_,.refl _,fun x hx => ?_⟩
  ·rw [scF,au q]
   exact Ca h1 q ⟨rfl,rfl,rfl⟩
  ·rw [scF,au q] at hx
   obtain ⟨k,hk,rfl⟩:=bw hx
   rw [aG] at hk
   by_cases e:k = 0
   ·subst e
    rw [bM hk]
    exact h2 (rd (scL (ae l a c) sh (ae l a c).length) 0) (aA hk)
   ·rw [i9 (Int.le_refl 0) hk.1 e]
    exact h2 _ (aA hk)
 ·refine ⟨h.pw,?_,.refl _,fun x hx => ?_⟩
  ·rw [scF,ab q]
   exact h1
  ·rw [scF,ab q] at hx
   exact h2 x hx
theorem wb (own:List Lot):ao id (own.map Lot.Qty) = sQ own:=by
 induction own with
 | nil => rfl
 | cons x own ih =>
   rw [List.map_cons,aT,ih,sQ,sQ,aT]
   rfl
theorem BJ {l:List Lot} {a c q:Int} (h:LotsOk l) (h0:0 < ((ae l a c).length:Int)) (h4:¬ (ae l a c).length > (40:Int)) (hq:inP q 0 1000000000000000):shareable q ((ae l a c).map Lot.Qty):=by
 have hx:∀ x ∈ ae l a c,1 ≤ x.Qty ∧ x.Qty ≤ 1000000000000000:=fun x hx => by
  obtain ⟨i,hi,rfl⟩:=bw (lotsOf_mem.1 hx).1
  have:=(h.1.1 i hi.1 hi.2).1.2.2.2.1
  unfold inP at this
  exact this
 have ho:=h.own a c
 have hm:∀ x ∈ (ae l a c).map Lot.Qty,0 ≤ x ∧ x ≤ 1000000000000000:=fun x k => by
  obtain ⟨y,hy,rfl⟩:=List.mem_map.1 k
  have:=hx y hy
  omega
 have hf:=hx _ (aA ⟨Int.le_refl 0,h0⟩)
 have h5:=mM (fun x k => (hm x k).1) (List.mem_map.2 ⟨_,aA ⟨Int.le_refl 0,h0⟩,rfl⟩:(rd (ae l a c) 0).Qty ∈ (ae l a c).map Lot.Qty)
 rw [wb] at h5
 refine ⟨⟨⟨by rw [List.length_map];omega,by rw [List.length_map];omega⟩,fun x k => hm x k,?_⟩,hq⟩
 rw [wb]
 exact ⟨by omega,ho.1.2⟩
noncomputable def bj (l:List Lot) (a c q:Int):List Lot × Int :=
 sel (¬ (LotsOk l ∧ inP q 0 1000000000000000)) ([],1) (sel (¬ 0 < ((ae l a c).length:Int) ∧ ¬ q = 0) (l,2) (sel (¬ 0 < ((ae l a c).length:Int)) (l,0) (sel ((ae l a c).length > (40:Int)) (l,3) (mrg (aY l a c) (scF (ae l a c) (shs q ((ae l a c).map Lot.Qty))),0))))
end
section
open Go.RowKit
theorem BQ {o:List Lot} {i:Int} (h:0 ≤ i ∧ i < o.length):rd (o.map Lot.Qty) i = (rd o i).Qty:=by
 unfold rd
 rw [List.getD_eq_getElem?_getD,List.getD_eq_getElem?_getD,List.getElem?_map,List.getElem?_eq_getElem (by omega:i.toNat < o.length)]
 rfl
theorem CF {own:List Lot} {sh:List Int} (hc:∀ x ∈ own,0 ≤ x.Cost ∧ x.Cost ≤ 1000000000000000):∀ x ∈ scL own sh own.length,0 ≤ x.Cost ∧ x.Cost ≤ 1000000000000000:=fun x hx => by
 obtain ⟨k,hk,rfl⟩:=bw (flt_mem.1 hx).1
 rw [oF (by omega)] at hk
 unfold scA
 rw [dC (by omega)]
 exact hc (rd own k) (aA hk)
section
variable {l:List Lot} {a c q:Int}
theorem D4 (h:¬ (LotsOk l ∧ inP q 0 1000000000000000)):bj l a c q = ([],1):=by rw [bj,au h]
theorem D5 (h:LotsOk l ∧ inP q 0 1000000000000000) (h1:¬ 0 < ((ae l a c).length:Int) ∧ ¬ q = 0):bj l a c q = (l,2):=by rw [bj,ab (fun k => k h),au h1]
theorem D6 (h:LotsOk l ∧ inP q 0 1000000000000000) (h1:¬ 0 < ((ae l a c).length:Int)) (h2:q = 0):bj l a c q = (l,0):=by rw [bj,ab (fun k => k h),ab (fun k => k.2 h2),au h1]
theorem D7 (h:LotsOk l ∧ inP q 0 1000000000000000) (h1:0 < ((ae l a c).length:Int)) (h2:(ae l a c).length > (40:Int)):bj l a c q = (l,3):=by rw [bj,ab (fun k => k h),ab (fun k => k.1 h1),ab (fun k => k h1),au h2]
theorem D3 (h:LotsOk l ∧ inP q 0 1000000000000000) (h1:0 < ((ae l a c).length:Int)) (h2:¬ (ae l a c).length > (40:Int)):bj l a c q = (mrg (aY l a c) (scF (ae l a c) (shs q ((ae l a c).map Lot.Qty))),0):=by rw [bj,ab (fun k => k h),ab (fun k => k.1 h1),ab (fun k => k h1),ab h2]
end
theorem fj {l:List Lot} {a c q:Int}:FC Tryz.prog 137 [.c (.row 0 0 l.length),I a,I c,I q] ([ro 137 l]) (.tup [.c (.row 1 0 (bj l a c q).1.length),I (bj l a c q).2]) ([ro 137 l,ow 137 (bj l a c q).1]):=by
 refine ax tk 122 [.tmp 8,.tmp 9] Tryz.func137 (by kernel_rfl) rfl rfl rfl rfl rfl rfl rfl ?_
 by_cases hok:LotsOk l ∧ inP q 0 1000000000000000
 rotate_left
 ·
  rw [D4 hok]
  repeat' (first
| intro h9;exact absurd ⟨by assumption,by assumption⟩ hok
| apply fZ (d:=8) 137 5;rfl;rfl;rfl
| apply yd;rfl
| intro _
| refine nv ?_
| apply wct rfl
| apply aH (α:=Lot) (e:=137);rfl
| apply ycp;rfl;(first | exact bB | exact aJ);rfl
| fail)
  all_goals exact ak [0,2] rfl rfl rfl rfl rfl rfl
 obtain ⟨h1,h2⟩:=id hok
 have hll:=h1.1.2
 have hlq:=h1.q
 have h2':=h2
 unfold inP at h2'
 have hlo:(ae l a c).length ≤ l.length:=cV _ _
 have hlq2:LQ (ae l a c):=LQ.of hlq
 have hnl:(aY l a c).length ≤ l.length:=cV _ _
 by_cases hn:0 < ((ae l a c).length:Int)
 rotate_left
 ·
  by_cases hq:q = 0
  ·
   rw [D6 hok hn hq]
   repeat' (first
| intro h9;exfalso;first | contradiction | omega
| apply yds;rfl
| apply yd;rfl
| intro _
| refine nv ?_
| apply wct rfl
| apply wcf rfl
| apply ai;rfl
| apply aH (α:=Lot) (e:=137);rfl
| apply yap;rfl;(((try simp only [lE,lM]);(try dsimp only);omega))
| apply ycp;rfl;(first | exact bB | exact aJ);rfl
| apply ycf;rfl;(exact bW (by omega));rfl
| fail)
   all_goals exact ak [0,4] rfl rfl rfl rfl rfl rfl
  ·
   rw [D5 hok ⟨hn,hq⟩]
   repeat' (first
| intro h9;exfalso;first | contradiction | omega
| apply yds;rfl
| apply yd;rfl
| intro _
| refine nv ?_
| apply wct rfl
| apply wcf rfl
| apply ai;rfl
| apply aH (α:=Lot) (e:=137);rfl
| apply yap;rfl;(((try simp only [lE,lM]);(try dsimp only);omega))
| apply ycp;rfl;(first | exact bB | exact aJ);rfl
| apply ycf;rfl;(exact bW (by omega));rfl
| fail)
   all_goals exact ak [0,4] rfl rfl rfl rfl rfl rfl
 by_cases h40:(ae l a c).length > (40:Int)
 ·
  rw [D7 hok hn h40]
  repeat' (first
| intro h9;exfalso;first | contradiction | omega
| apply yds;rfl
| apply yd;rfl
| intro _
| refine nv ?_
| apply wct rfl
| apply wcf rfl
| apply ai;rfl
| apply aH (α:=Lot) (e:=137);rfl
| apply yap;rfl;(((try simp only [lE,lM]);(try dsimp only);omega))
| apply ycp;rfl;(first | exact bB | exact aJ);rfl
| apply ycf;rfl;(exact bW (by omega));rfl
| fail)
  all_goals exact ak [0,4] rfl rfl rfl rfl rfl rfl
 rw [D3 hok hn h40]
 have hsh:=BJ h1 hn h40 h2
 dsimp only
 have hqc:∀ x ∈ ae l a c,0 ≤ x.Cost ∧ x.Cost ≤ 1000000000000000:=hlq2.c
 have hsn:=iB q ((ae l a c).map Lot.Qty)
 have hml:((ae l a c).map Lot.Qty).length = (ae l a c).length:=List.length_map _
 have hwl:=BY (sh:=(shs q ((ae l a c).map Lot.Qty))) (a:=a) (c:=c) h1
 repeat' (first
| intro h9;exfalso;first | contradiction | omega
| apply yds;rfl
| apply yd;rfl
| intro _
| refine nv ?_
| apply wcf rfl
| apply ai;rfl
| apply aH (α:=Lot) (e:=137);rfl
| apply aH (α:=Int) (e:=3);rfl
| apply yap;rfl;(((try simp only [lE,lM]);(try dsimp only);omega))
| apply ycp;rfl;(first | exact bB | exact aJ);rfl
| apply ycf;rfl;(exact bW (by omega));rfl
| fail)
 all_goals skip
 refine wlp (X:=Int × List Int) [3,10,11] [0,1,2,3,4,5] (fun x => [(14,I x.1),(13,.c (.row 5 0 x.2.length))]) (fun x => [(5,ow 3 x.2)]) (fun x => (0 ≤ x.1 ∧ x.1 ≤ (ae l a c).length) ∧ x.2 = pf ((ae l a c).map Lot.Qty) x.1) (fun x => ((ae l a c).length - x.1).toNat) (0,[]) ⟨by dsimp only;omega,rfl⟩ rfl rfl (fun _ => rfl) (fun _ => rfl) ⟨rfl,rfl,rfl,rfl,rfl,rfl,rfl,rfl⟩ (fun x hx => ?_)
 obtain ⟨i,u⟩:=x
 obtain ⟨h0,hu⟩:=hx
 dsimp only at h0 hu ⊢
 have hul:(u.length:Int) = i:=by rw [hu];exact bS (by omega)
 by_cases hil:i < (ae l a c).length
 ·
  have hu2:u ++ [(rd (ae l a c) i).Qty] = pf ((ae l a c).map Lot.Qty) (i + 1):=by rw [hu,cg (by omega),BQ ⟨h0.1,hil⟩]
  repeat' (first
| intro h9;exfalso;contradiction
| apply yds;rfl
| apply yd;rfl
| intro _
| refine nv ?_
| apply wct rfl
| apply ai;rfl
| apply yar;rfl;omega
| apply yix;rfl;omega
| apply yle;rfl;omega
| apply aH (α:=Int) (e:=3);rfl
| apply yap;rfl;(((try simp only [lE,lM]);(try dsimp only);omega))
| fail)
  all_goals first
   | exact aB (i + 1,u ++ [(rd (ae l a c) i).Qty]) [0,1,2,3,4,7] ⟨rfl,rfl,rfl,rfl,rfl,rfl,rfl,rfl⟩ ⟨by dsimp only;omega,hu2⟩ (by first | omega | (dsimp only;omega))
   | (exfalso;omega)
   | trace_state
 rw [b6 (by omega)] at hu
 subst hu
 repeat' (first
| intro h9;exfalso;contradiction
| apply yds;rfl
| apply yd;rfl
| intro _
| refine nv ?_
| apply wcf rfl
| apply ah rfl
| apply ai;rfl
| apply aH (α:=Lot) (e:=137);rfl
| apply ycf;rfl;(exact kF (by assumption));rfl
| fail)
 all_goals skip
 refine wlp (X:=Int × List Lot × Int) [10,11,15] [0,1,2,3,4,5,6,7] (fun x => [(19,I x.1),(17,.c (.row 7 0 x.2.1.length)),(18,I x.2.2)]) (fun x => [(7,ow 137 x.2.1)]) (fun x => (0 ≤ x.1 ∧ x.1 ≤ (ae l a c).length) ∧ x.2.1 = scL (ae l a c) (shs q ((ae l a c).map Lot.Qty)) x.1 ∧ x.2.2 = scC (ae l a c) (shs q ((ae l a c).map Lot.Qty)) x.1) (fun x => ((ae l a c).length - x.1).toNat) (0,[],0) ⟨by dsimp only;omega,rfl,rfl⟩ rfl rfl (fun _ => rfl) (fun _ => rfl) ⟨rfl,rfl,rfl,rfl,rfl,rfl,rfl,rfl⟩ (fun x hx => ?_)
 obtain ⟨i,u,n⟩:=x
 obtain ⟨h0,hu,hn2⟩:=hx
 dsimp only at h0 hu hn2 ⊢
 have hul:=vV (own:=ae l a c) (sh:=(shs q ((ae l a c).map Lot.Qty))) h0.1
 rw [← hu] at hul
 have hcb:=yU (sh:=(shs q ((ae l a c).map Lot.Qty))) hqc i.toNat (by omega)
 rw [show ((i.toNat:Nat):Int) = i from by omega,← hn2] at hcb
 by_cases hil:i < (ae l a c).length
 ·
  have hc1:=hqc _ (aA ⟨h0.1,hil⟩)
  by_cases hz:rd (shs q ((ae l a c).map Lot.Qty)) i = 0
  ·
   have hu2:u = scL (ae l a c) (shs q ((ae l a c).map Lot.Qty)) (i + 1):=by rw [CG h0.1 hz,hu]
   have hn3:n + (rd (ae l a c) i).Cost = scC (ae l a c) (shs q ((ae l a c).map Lot.Qty)) (i + 1):=by rw [AX h0.1 hz,hn2]
   repeat' (first
| intro h9;exfalso;contradiction
| apply yds;rfl
| apply yd;rfl
| apply yix;rfl;omega
| apply yle;rfl;omega
| intro _
| refine nv ?_
| apply wct rfl
| apply ai;rfl
| apply yar;rfl;omega
| fail)
   all_goals first
    | exact aB (i + 1,u,n + (rd (ae l a c) i).Cost) [0,1,2,3,4,5,6,7] ⟨rfl,rfl,rfl,rfl,rfl,rfl,rfl,rfl⟩ ⟨by dsimp only;omega,hu2,hn3⟩ (by first | omega | (dsimp only;omega))
    | (exfalso;omega)
    | trace_state
  ·
   have hu2:u ++ [⟨(rd (ae l a c) i).Account,(rd (ae l a c) i).Instr,(rd (ae l a c) i).No,rd (shs q ((ae l a c).map Lot.Qty)) i,(rd (ae l a c) i).Cost⟩] = scL (ae l a c) (shs q ((ae l a c).map Lot.Qty)) (i + 1):=by rw [CH h0.1 hz,hu]
   have hn3:n = scC (ae l a c) (shs q ((ae l a c).map Lot.Qty)) (i + 1):=by rw [AW h0.1 hz,hn2]
   repeat' (first
| intro h9;exfalso;contradiction
| apply yds;rfl
| apply yd;rfl
| apply yix;rfl;omega
| apply yle;rfl;omega
| intro _
| refine nv ?_
| apply wct rfl
| apply wcf rfl
| apply ai;rfl
| apply yar;rfl;omega
| apply aH (α:=Lot) (e:=137);rfl
| apply yap;rfl;(((try simp only [lE,lM]);(try dsimp only);omega))
| fail)
   all_goals first
    | exact aB (i + 1,u ++ [⟨(rd (ae l a c) i).Account,(rd (ae l a c) i).Instr,(rd (ae l a c) i).No,rd (shs q ((ae l a c).map Lot.Qty)) i,(rd (ae l a c) i).Cost⟩],n) [0,1,2,3,4,5,6,10] ⟨rfl,rfl,rfl,rfl,rfl,rfl,rfl,rfl⟩ ⟨by dsimp only;omega,hu2,hn3⟩ (by first | omega | (dsimp only;omega))
    | (exfalso;omega)
    | trace_state
 have ei:i = ((ae l a c).length:Int):=by omega
 rw [ei] at hu hn2
 by_cases hp:0 < (u.length:Int)
 ·
  have hF:scF (ae l a c) (shs q ((ae l a c).map Lot.Qty)) = upd u 0 ⟨(rd u 0).Account,(rd u 0).Instr,(rd u 0).No,(rd u 0).Qty,(rd u 0).Cost + n⟩:=by rw [scF,← hu,← hn2,au hp]
  have hub:=aG u 0 ⟨(rd u 0).Account,(rd u 0).Instr,(rd u 0).No,(rd u 0).Qty,(rd u 0).Cost + n⟩
  have hcu:0 ≤ (rd u 0).Cost ∧ (rd u 0).Cost ≤ 1000000000000000:=CF hqc _ (by rw [← hu];exact aA ⟨Int.le_refl 0,hp⟩)
  rw [hF] at hwl ⊢
  repeat' (first
| intro h9;exfalso;contradiction
| apply yds;rfl
| apply yd;rfl
| apply yix;rfl;omega
| apply yle;rfl;omega
| apply zse;rfl;exact tk;(iterate 6 rfl);omega;rfl;rfl;rfl;rfl;rfl
| intro _
| refine nv ?_
| apply wct rfl
| apply wcf rfl
| apply ah rfl
| apply ai;rfl
| apply yar;rfl;omega
| fail)
  all_goals skip
  rw [← hub]
  repeat' (first
| apply yds;rfl
| refine nv ?_
| apply ycf;rfl;(exact dg (by omega) (by omega));rfl
| fail)
  all_goals exact ak [0,8] rfl rfl rfl rfl rfl rfl
 ·
  have hF:scF (ae l a c) (shs q ((ae l a c).map Lot.Qty)) = u:=by rw [scF,← hu,← hn2,ab hp]
  rw [hF] at hwl ⊢
  repeat' (first
| intro h9;exfalso;contradiction
| apply yds;rfl
| intro _
| refine nv ?_
| apply wcf rfl
| apply ah rfl
| apply ai;rfl
| apply ycf;rfl;(exact dg (by omega) (by omega));rfl
| fail)
  all_goals exact ak [0,8] rfl rfl rfl rfl rfl rfl
end
section
open Go.RowKit
noncomputable def scN (l:List Lot) (pa:Int) (who is:List Int):Nat → List Lot × Int
 | 0 => (l,0)
 | k + 1 => sel ((scN l pa who is k).2 = 0) (sel ((bj (scN l pa who is k).1 (rd who k) pa (rd is k)).2 = 0) ((bj (scN l pa who is k).1 (rd who k) pa (rd is k)).1,0) ((scN l pa who is k).1,7)) (scN l pa who is k)
theorem AZ {l L:List Lot} {pa i:Int} {who is:List Int} (h:0 ≤ i) (e:scN l pa who is i.toNat = (L,0)) (c:(bj L (rd who i) pa (rd is i)).2 = 0):scN l pa who is (i + 1).toNat = ((bj L (rd who i) pa (rd is i)).1,0):=by
 rw [show (i + 1).toNat = i.toNat + 1 from by omega,scN,e,show ((i.toNat:Nat):Int) = i from by omega,au (show (L,(0:Int)).2 = 0 from rfl),au c]
theorem rO {l:List Lot} {pa:Int} {who is:List Int} {k:Nat} (h:¬ (scN l pa who is k).2 = 0):∀ m:Nat,¬ (scN l pa who is (k + m)).2 = 0
 | 0 => h
 | m + 1 => by
   show ¬ (scN l pa who is (k + m + 1)).2 = 0
   rw [scN,ab (rO h m)]
   exact rO h m
theorem AY {l L:List Lot} {pa i n:Int} {who is:List Int} (h:0 ≤ i ∧ i < n) (e:scN l pa who is i.toNat = (L,0)) (c:¬ (bj L (rd who i) pa (rd is i)).2 = 0):¬ (scN l pa who is n.toNat).2 = 0:=by
 have h1:¬ (scN l pa who is (i.toNat + 1)).2 = 0:=by
  rw [scN,e,show ((i.toNat:Nat):Int) = i from by omega,au (show (L,(0:Int)).2 = 0 from rfl),ab c]
  show ¬ (7:Int) = 0
  decide
 have h2:=rO h1 (n.toNat - (i.toNat + 1))
 rwa [show i.toNat + 1 + (n.toNat - (i.toNat + 1)) = n.toNat from by omega] at h2
end
end Go.Proofs.YtgehbhkfehmdkaaGreat.Sh
