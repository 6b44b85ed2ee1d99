/- Legs are posted: both sides. No condition. -/
import Derived.Test.YtgehbhkfehmdkaaGreatKFxShV
import Derived.Test.YtgehbhkfehmdkaaGreatKFxShBp
import Derived.Test.YtgehbhkfehmdkaaGreatKFxShBo
import Derived.Test.YtgehbhkfehmdkaaGreatKFxShLo
import Derived.Test.YtgehbhkfehmdkaaGreatKFxShU
import Derived.Shelf.SlSortCmp.NoneTotal
import Derived.Shelf.Lay
import Derived.Ground.SlsfProg
import Derived.Tactics
import Derived.Deep.QuietTactic
set_option maxRecDepth 100000
set_option maxHeartbeats 40000000
set_option linter.unusedSectionVars false
set_option linter.unusedSimpArgs false
set_option linter.unusedVariables false
namespace Go.Proofs.YtgehbhkfehmdkaaGreat.Sh
section
open Go.RowKit
theorem jw {l:List Int} {x:Int}:FC Tryz.prog 232 [.c (.row 0 0 l.length),I x] ([ro 3 l]) (sel (x ∈ l) (I (fIx l (fun y => x = y))) (I (-1))) (sel (x ∈ l) [ro 3 l] [ro 3 l]):=by
 refine ay tk 19 [.tmp 4] Tryz.func232 (by kernel_rfl) rfl rfl rfl rfl rfl rfl rfl ?_
 refine cw l 0 rfl (fun hl => ?_)
 repeat' (first
| apply yds;rfl
| apply yd;rfl
| refine nv ?_
| fail)
 refine wlp (X:=Int) [0,1,7] [0] (fun i => [(8,I i)]) (fun _ => []) (fun i => 0 ≤ i ∧ i ≤ l.length ∧ ∀ j:Int,0 ≤ j → j < i → ¬ (fun y => x = y) (rd l j)) (fun i => (l.length - i).toNat) 0 ⟨by omega,by omega,fun j h0 h1 => by omega⟩ rfl rfl (fun _ => rfl) (fun _ => rfl) ⟨rfl,rfl,rfl,rfl,rfl,rfl,rfl,rfl⟩ (fun i hi => ?_)
 obtain ⟨h0,hi,hall⟩:=hi
 repeat' (first
| apply yds;rfl
| apply yd;rfl
| intro _
| refine nv ?_
| apply wct rfl
| apply wcf rfl
| apply ah rfl
| apply aj;rfl
| apply yar;rfl;omega
| apply yix;rfl;omega
| apply yle;rfl;omega
| fail)
 all_goals first
  | (rename_i h1 h2
     have hm:x ∈ l:=h2 ▸ az ⟨h0,h1⟩
     refine fv (X':=I i) (hs':=[ro 3 l]) [0] rfl rfl rfl rfl rfl rfl ?_ ?_
     ·rw [al hm,ii ⟨h0,h1⟩ hall h2]
     ·rw [al hm])
  | exact cD (fun hm => hJ (q:=fun y => x = y) (by assumption) hall ⟨x,hm,rfl⟩) [0] rfl rfl rfl rfl rfl rfl
  | exact aB (i + 1) [0] ⟨rfl,rfl,rfl,rfl,rfl,rfl,rfl,rfl⟩ ⟨by omega,by omega,ax hall (by assumption)⟩ (by first | omega | (dsimp only;omega))
theorem gV {l:List Int} {x:Int}:FC Tryz.prog 120 [.c (.row 0 0 l.length),I x] ([ro 3 l]) (B (dB (x ∈ l))) ([ro 3 l]):=by
 refine ay tk 9 [.tmp 4] Tryz.func120 (by kernel_rfl) rfl rfl rfl rfl rfl rfl rfl ?_
 have hn:=cK l (fun y => x = y)
 repeat' (first
| intro h9;exfalso;first | contradiction | omega
| apply yds;rfl
| apply yd;rfl
| intro _
| refine nv ?_
| apply aj;rfl
| apply zcs;(iterate 10 rfl);exact jw;exact fun _ => rfl;exact fun _ => rfl;rfl;rfl;rfl;rfl
| fail)
 all_goals first
  | exact bG [0] rfl rfl rfl rfl rfl rfl (by assumption)
  | exact aV [0] rfl rfl rfl rfl rfl rfl (by assumption)
  | (exfalso;omega)
theorem lw {l:List Int} {x:Int}:FC Tryz.prog 167 [.c (.row 0 0 l.length),I x] ([ro 3 l]) (B (dB (x ∈ l))) ([ro 3 l]):=by
 refine ay tk 18 [.tmp 4] Tryz.func167 (by kernel_rfl) rfl rfl rfl rfl rfl rfl rfl ?_
 refine cw l 0 rfl (fun hl => ?_)
 repeat' (first
| apply yd;rfl
| refine nv ?_
| fail)
 refine wlp (X:=Int) [0,1] [0] (fun i => [(5,I i)]) (fun _ => []) (fun i => 0 ≤ i ∧ i ≤ l.length ∧ ∀ j:Int,0 ≤ j → j < i → ¬ (fun y => y = x) (rd l j)) (fun i => (l.length - i).toNat) 0 ⟨by omega,by omega,fun j h0 h1 => by omega⟩ rfl rfl (fun _ => rfl) (fun _ => rfl) ⟨rfl,rfl,rfl,rfl,rfl,rfl,rfl,rfl⟩ (fun i hi => ?_)
 obtain ⟨h0,hi,hall⟩:=hi
 repeat' (first
| apply yds;rfl
| apply yd;rfl
| intro _
| refine nv ?_
| apply wct rfl
| apply wcf rfl
| apply ah rfl
| apply aj;rfl
| apply yar;rfl;omega
| apply yix;rfl;omega
| apply yle;rfl;omega
| fail)
 all_goals first
  | (rename_i h1 h2
     exact bG [0] rfl rfl rfl rfl rfl rfl (h2 ▸ az ⟨h0,h1⟩))
  | exact aV [0] rfl rfl rfl rfl rfl rfl (fun hm => hJ (q:=fun y => y = x) (by assumption) hall ⟨x,hm,rfl⟩)
  | exact aB (i + 1) [0] ⟨rfl,rfl,rfl,rfl,rfl,rfl,rfl,rfl⟩ ⟨by omega,by omega,ax hall (by assumption)⟩ (by first | omega | (dsimp only;omega))
def ir (l:List Bal) (g:List Leg) (i:Int):Prop:=ai (aK (pO l (pf g i)) (rd g i).Account (rd g i).Instr + (rd g i).Amount)
def d7 (l:List Bal) (g:List Leg):Prop:=∀ i:Int,0 ≤ i → i < g.length → ir l g i
def eJ (o:List Bal) (g:List Leg) (sh:List Int):Prop:=∃ x ∈ g,¬ (x.Account ∈ sh) ∧ aK o x.Account x.Instr < 0
noncomputable def aW (l:List Bal) (g:List Leg) (sh:List Int):List Bal × Int :=
 sel (¬ (BalsOk l ∧ bQ g ∧ sh.length ≤ 20)) ([],1) (sel (¬ co g) (l,2) (sel (¬ d7 l g) (l,4) (sel (eJ (pO l g) g sh) (l,3) (sel (160 < (pO l g).length) (l,5) (pO l g,0)))))
section
variable {l:List Bal} {g:List Leg} {sh:List Int}
theorem vD (h:¬ (BalsOk l ∧ bQ g ∧ sh.length ≤ 20)):aW l g sh = ([],1):=by rw [aW,al h]
theorem vE (h:BalsOk l ∧ bQ g ∧ sh.length ≤ 20) (h2:¬ co g):aW l g sh = (l,2):=by rw [aW,a8 (fun k => k h),al h2]
theorem tu (h:BalsOk l ∧ bQ g ∧ sh.length ≤ 20) (h2:co g) (h3:¬ d7 l g):aW l g sh = (l,4):=by rw [aW,a8 (fun k => k h),a8 (fun k => k h2),al h3]
theorem tt (h:BalsOk l ∧ bQ g ∧ sh.length ≤ 20) (h2:co g) (h3:d7 l g) (h4:eJ (pO l g) g sh):aW l g sh = (l,3):=by rw [aW,a8 (fun k => k h),a8 (fun k => k h2),a8 (fun k => k h3),al h4]
theorem tv (h:BalsOk l ∧ bQ g ∧ sh.length ≤ 20) (h2:co g) (h3:d7 l g) (h4:¬ eJ (pO l g) g sh) (h5:160 < (pO l g).length):aW l g sh = (l,5):=by rw [aW,a8 (fun k => k h),a8 (fun k => k h2),a8 (fun k => k h3),a8 h4,al h5]
theorem tr (h:BalsOk l ∧ bQ g ∧ sh.length ≤ 20) (h2:co g) (h3:d7 l g) (h4:¬ eJ (pO l g) g sh) (h5:¬ 160 < (pO l g).length):aW l g sh = (pO l g,0):=by rw [aW,a8 (fun k => k h),a8 (fun k => k h2),a8 (fun k => k h3),a8 h4,a8 h5]
end
theorem lH {l:List Bal} {g:List Leg} {sh:List Int}:FC Tryz.prog 24 [.c (.row 0 0 l.length),.c (.row 1 0 g.length),.c (.row 2 0 sh.length)] ([ro 135 l,ro 46 g,ro 3 sh]) (.tup [.c (.row 3 0 (aW l g sh).1.length),I (aW l g sh).2]) ([ro 135 l,ro 46 g,ro 3 sh,ow 135 (aW l g sh).1]):=by
 refine ay tk 90 [.tmp 6,.tmp 7] Tryz.func24 (by kernel_rfl) rfl rfl rfl rfl rfl rfl rfl ?_
 by_cases hok:BalsOk l ∧ bQ g ∧ sh.length ≤ 20
 rotate_left
 ·rw [vD hok]
  repeat' (first
| intro h9;exact absurd ⟨by assumption,by assumption,by omega⟩ hok
| apply ia (d:=6) 135 3;rfl;rfl;rfl
| apply yd;rfl
| intro _
| refine nv ?_
| apply wct rfl
| apply aj;rfl
| apply ycp;rfl;(first | exact dG | exact dD);rfl
| fail)
  all_goals exact au [0,1,2,4] rfl rfl rfl rfl rfl rfl
 obtain ⟨hb,hf,hsh⟩:=id hok
 by_cases hlo:co g
 rotate_left
 ·rw [vE hok hlo]
  have hbl:=hb.2
  repeat' (first
| intro h9;exfalso;first | contradiction | omega
| apply yds;rfl
| apply yd;rfl
| intro _
| refine nv ?_
| apply wct rfl
| apply wcf rfl
| apply aj;rfl
| apply ycp;rfl;(first | exact dG | exact dD | exact jF);rfl
| apply ycf;rfl;(exact bI (by omega));rfl
| fail)
  all_goals exact au [0,1,2,3] rfl rfl rfl rfl rfl rfl
 have hbl:=hb.2
 have hgl:=hf.1
 repeat' (first
| intro h9;exfalso;first | contradiction | omega
| apply yds;rfl
| apply yd;rfl
| intro _
| refine nv ?_
| apply wcf rfl
| apply aj;rfl
| apply ycp;rfl;(first | exact dG | exact dD | exact jF);rfl
| apply ycf;rfl;(exact bI (by omega));rfl
| fail)
 refine wlp (X:=Int × List Bal) [1,2,8,36,37] [0,1,2,3,4] (fun x => [(38,I x.1),(9,.c (.row 4 0 x.2.length))]) (fun x => [(4,ow 135 x.2)]) (fun x => (0 ≤ x.1 ∧ x.1 ≤ g.length) ∧ x.2 = pO l (pf g x.1) ∧ (BSd x.2 ∧ mA x.2) ∧ x.2.length ≤ l.length + x.1 ∧ ∀ j:Int,0 ≤ j → j < x.1 → ir l g j) (fun x => (g.length - x.1).toNat) (0,l) ⟨⟨by dsimp only;omega,by dsimp only;omega⟩,rfl,⟨hb.sd,hb.amt⟩,by dsimp only;omega,fun j h0 h1 => by dsimp only at h1;omega⟩ rfl rfl (fun _ => rfl) (fun _ => rfl) ⟨rfl,rfl,rfl,rfl,rfl,rfl,rfl,rfl⟩ (fun x hx => ?_)
 obtain ⟨i,xs⟩:=x
 obtain ⟨h0,hxs,⟨hsd,hamt⟩,hxl,hall⟩:=hx
 dsimp only at h0 hxs hsd hamt hxl hall ⊢
 have hba:=je hamt (rd g i).Account (rd g i).Instr
 have hga:i < g.length → ai (rd g i).Amount:=fun h => (hf.2 _ (az ⟨h0.1,h⟩)).2.2
 unfold ai inP at hba hga
 repeat' (first
| apply yds;rfl
| apply yd;rfl
| apply yar;rfl;(have h1:=hga (by assumption);omega)
| intro _
| refine nv ?_
| apply wct rfl
| apply wcf rfl
| apply ah rfl
| apply aj;rfl
| apply yix;rfl;omega
| apply yle;rfl;omega
| refine zdq (id:=10) rfl (by kernel_rfl) [(.p,0),(.p,1),(.p,3),(.p,6),(.t,2),(.t,4),(.t,7),(.o,5),(.p,8),(.p,9)] [] (by kernel_rfl) rfl ?_
| apply ycp;rfl;exact dC;rfl
| apply ycf;rfl;(exact mW (by assumption) (by omega));rfl
| apply yc;rfl;exact fx (by assumption);rfl;exact fun _ => rfl
| fail)
 all_goals first
  | exact aB (i + 1,cU xs (rd g i).Account (rd g i).Instr (aK xs (rd g i).Account (rd g i).Instr + (rd g i).Amount)) [0,1,2,3,6] ⟨rfl,rfl,rfl,rfl,rfl,rfl,rfl,rfl⟩ ⟨⟨by dsimp only;omega,by dsimp only;omega⟩,by dsimp only;rw [ng ⟨h0.1,by assumption⟩,← hxs];rfl,⟨dl hsd _ _ _,ld hsd hamt (by assumption)⟩,(by dsimp only;have:=lf hsd (rd g i).Account (rd g i).Instr (aK xs (rd g i).Account (rd g i).Instr + (rd g i).Amount);omega),ax hall (by unfold ir;rw [← hxs];assumption)⟩ (by first | omega | (dsimp only;omega))
  | (rw [tu hok hlo (fun k => absurd (k i h0.1 (by assumption)) (by unfold ir;rw [← hxs];assumption))]
     exact au [0,1,2,3] rfl rfl rfl rfl rfl rfl)
  | skip
 rename_i hil
 have e:xs = pO l g:=hxs.trans (by rw [b8 hil])
 have hfit:d7 l g:=fun j h0 h1 => hall j h0 (by omega)
 clear hxs hba hga
 subst e
 refine wlp (X:=Int) [2,8,9,63,64] [0,1,2,3,4] (fun k => [(65,I k)]) (fun _ => []) (fun k => 0 ≤ k ∧ k ≤ g.length ∧ ∀ j:Int,0 ≤ j → j < k → ¬ (fun x:Leg => ¬ (x.Account ∈ sh) ∧ aK (pO l g) x.Account x.Instr < 0) (rd g j)) (fun k => (g.length - k).toNat) 0 ⟨by omega,by omega,fun j h0 h1 => by omega⟩ rfl rfl (fun _ => rfl) (fun _ => rfl) ⟨rfl,rfl,rfl,rfl,rfl,rfl,rfl,rfl⟩ (fun k hk => ?_)
 obtain ⟨k0,hk,hall2⟩:=hk
 repeat' (first
| apply yds;rfl
| apply yd;rfl
| intro _
| refine nv ?_
| apply wct rfl
| apply wcf rfl
| apply ah rfl
| apply aj;rfl
| apply yar;rfl;omega
| apply yix;rfl;omega
| apply yle;rfl;omega
| apply ycp;rfl;exact gV;rfl
| apply yc;rfl;exact fx (by assumption);rfl;exact fun _ => rfl
| fail)
 all_goals first
  | (rw [tt hok hlo hfit ⟨rd g k,az ⟨k0,by assumption⟩,by assumption,by assumption⟩]
     exact au [0,1,2,3] rfl rfl rfl rfl rfl rfl)
  | exact aB (k + 1) [0,1,2,3,4] ⟨rfl,rfl,rfl,rfl,rfl,rfl,rfl,rfl⟩ ⟨by omega,by omega,ax hall2 (fun e => by first | exact e.1 (by assumption) | exact absurd e.2 (by assumption))⟩ (by first | omega | (dsimp only;omega))
  | (have hno:=hJ (q:=fun x:Leg => ¬ (x.Account ∈ sh) ∧ aK (pO l g) x.Account x.Instr < 0) (by assumption) hall2
     first
     | (rw [tv hok hlo hfit hno (by omega)]
        exact au [0,1,2,3] rfl rfl rfl rfl rfl rfl)
     | (rw [tr hok hlo hfit hno (by omega)]
        exact au [0,1,2,4] rfl rfl rfl rfl rfl rfl))
theorem lU {l:List Bal} {g:List Leg} {sh:List Int}:FC Tryz.prog 245 [.c (.row 0 0 l.length),.c (.row 1 0 g.length),.c (.row 2 0 sh.length)] ([ro 135 l,ro 46 g,ro 3 sh]) (.tup [.c (.row 3 0 (aW l g sh).1.length),I (aW l g sh).2]) ([ro 135 l,ro 46 g,ro 3 sh,ow 135 (aW l g sh).1]):=by
 refine ay tk 120 [.tmp 6,.tmp 7] Tryz.func245 (by kernel_rfl) rfl rfl rfl rfl rfl rfl rfl ?_
 by_cases hok:BalsOk l ∧ bQ g ∧ sh.length ≤ 20
 rotate_left
 ·rw [vD hok]
  repeat' (first
| apply yds;rfl
| apply yd;rfl
| intro h9;exact absurd ⟨by assumption,by assumption,by omega⟩ hok
| intro _
| refine nv ?_
| apply wct rfl
| apply aj;rfl
| apply aH (α:=Bal) (e:=135);rfl
| apply ycp;rfl;(first | exact cx | exact cV);rfl
| fail)
  all_goals exact au [0,1,2,3] rfl rfl rfl rfl rfl rfl
 obtain ⟨hb,hf,hsh⟩:=id hok
 have hbl:=hb.2
 have hgl:=hf.1
 by_cases hlo:co g
 rotate_left
 ·rw [vE hok hlo]
  repeat' (first
| intro h9;exfalso;first | contradiction | omega
| apply yds;rfl
| apply yd;rfl
| intro _
| refine nv ?_
| apply wct rfl
| apply wcf rfl
| apply aj;rfl
| apply aH (α:=Bal) (e:=135);rfl
| apply yap;rfl;(((try simp only [lE,lM]);(try dsimp only);omega))
| apply ycp;rfl;(first | exact cx | exact cV | exact jL);rfl
| fail)
  all_goals exact au [0,1,2,4] rfl rfl rfl rfl rfl rfl
 repeat' (first
| intro h9;exfalso;first | contradiction | omega
| apply yds;rfl
| apply yd;rfl
| intro _
| refine nv ?_
| apply wcf rfl
| apply aj;rfl
| apply aH (α:=Bal) (e:=135);rfl
| apply yap;rfl;(((try simp only [lE,lM]);(try dsimp only);omega))
| apply ycp;rfl;(first | exact cx | exact cV | exact jL);rfl
| fail)
 refine wlp (X:=Int × List Bal) [0,1,2] [0,1,2,4] (fun x => [(10,I x.1),(9,.c (.row 3 0 x.2.length))]) (fun x => [(3,ow 135 x.2)]) (fun x => (0 ≤ x.1 ∧ x.1 ≤ g.length) ∧ x.2 = pO l (pf g x.1) ∧ (BSd x.2 ∧ mA x.2) ∧ x.2.length ≤ l.length + x.1 ∧ ∀ j:Int,0 ≤ j → j < x.1 → ir l g j) (fun x => (g.length - x.1).toNat) (0,l) ⟨⟨by dsimp only;omega,by dsimp only;omega⟩,rfl,⟨hb.sd,hb.amt⟩,by dsimp only;omega,fun j h0 h1 => by dsimp only at h1;omega⟩ rfl rfl (fun _ => rfl) (fun _ => rfl) ⟨rfl,rfl,rfl,rfl,rfl,rfl,rfl,rfl⟩ (fun x hx => ?_)
 obtain ⟨i,xs⟩:=x
 obtain ⟨h0,hxs,⟨hsd,hamt⟩,hxl,hall⟩:=hx
 dsimp only at h0 hxs hsd hamt hxl hall ⊢
 have hba:=je hamt (rd g i).Account (rd g i).Instr
 have hga:i < g.length → ai (rd g i).Amount:=fun h => (hf.2 _ (az ⟨h0.1,h⟩)).2.2
 by_cases hil2:i < g.length
 ·have hga2:=hga hil2
  repeat' (first
| intro h9;exfalso;contradiction
| apply yds;rfl
| apply yd;rfl
| intro _
| refine nv ?_
| apply wct rfl
| apply wcf rfl
| apply aj;rfl
| apply yar;rfl;omega
| apply yix;rfl;omega
| apply yle;rfl;omega
| apply aH (α:=Bal) (e:=135);rfl
| apply yap;rfl;(((try simp only [lE,lM]);(try dsimp only);omega))
| refine zdq (id:=10) rfl (by kernel_rfl) [(.p,0),(.p,1),(.p,2),(.p,3),(.p,4),(.p,6),(.p,7),(.p,8),(.p,9),(.p,12),(.p,13),(.p,14),(.p,15),(.t,5),(.t,10),(.t,16),(.o,11),(.o,17),(.p,18),(.p,19),(.p,20),(.p,21),(.p,22)] [] (by kernel_rfl) rfl ?_
| refine zdq (id:=13) rfl (by kernel_rfl) [(.p,0),(.p,1),(.p,2),(.p,3),(.p,4),(.p,6),(.p,7),(.p,8),(.p,9),(.p,11),(.t,5),(.t,10),(.o,12),(.p,13)] [] (by kernel_rfl) rfl ?_
| apply yc;rfl;exact dz;rfl;exact fun _ => rfl
| apply zcs;(iterate 10 rfl);exact qC (by assumption) (by assumption);exact fun _ => rfl;exact fun _ => rfl;rfl;rfl;rfl;rfl
| apply ycf;rfl;exact iA (by assumption) (by omega);rfl
| fail)
  all_goals first
   | exact aB (i + 1,cU xs (rd g i).Account (rd g i).Instr (aK xs (rd g i).Account (rd g i).Instr + (rd g i).Amount)) [0,1,2,4] ⟨rfl,rfl,rfl,rfl,rfl,rfl,rfl,rfl⟩ ⟨⟨by dsimp only;omega,by dsimp only;omega⟩,by dsimp only;rw [ng ⟨h0.1,by assumption⟩,← hxs];rfl,⟨dl hsd _ _ _,ld hsd hamt (by assumption)⟩,(by dsimp only;have:=lf hsd (rd g i).Account (rd g i).Instr (aK xs (rd g i).Account (rd g i).Instr + (rd g i).Amount);omega),ax hall (by unfold ir;rw [← hxs];assumption)⟩ (by first | omega | (dsimp only;omega))
   | (rw [tu hok hlo (fun k => absurd (k i h0.1 (by assumption)) (by unfold ir;rw [← hxs];assumption))]
      exact au [0,1,2,5] rfl rfl rfl rfl rfl rfl)
 repeat' (first
| intro h9;exfalso;contradiction
| apply yds;rfl
| apply yd;rfl
| intro _
| refine nv ?_
| apply wcf rfl
| apply ah rfl
| apply aj;rfl
| fail)
 rename_i hil
 have e:xs = pO l g:=hxs.trans (by rw [b8 hil])
 have hfit:d7 l g:=fun j h0 h1 => hall j h0 (by omega)
 clear hxs hba hga
 subst e
 refine wlp (X:=Int) [0,1,2,9] [0,1,2,3] (fun k => [(13,I k)]) (fun _ => []) (fun k => 0 ≤ k ∧ k ≤ g.length ∧ ∀ j:Int,0 ≤ j → j < k → ¬ (fun x:Leg => ¬ (x.Account ∈ sh) ∧ aK (pO l g) x.Account x.Instr < 0) (rd g j)) (fun k => (g.length - k).toNat) 0 ⟨by omega,by omega,fun j h0 h1 => by omega⟩ rfl rfl (fun _ => rfl) (fun _ => rfl) ⟨rfl,rfl,rfl,rfl,rfl,rfl,rfl,rfl⟩ (fun k hk => ?_)
 obtain ⟨k0,hk,hall2⟩:=hk
 repeat' (first
| apply yds;rfl
| apply yd;rfl
| intro _
| refine nv ?_
| apply wct rfl
| apply wcf rfl
| apply ah rfl
| apply aj;rfl
| apply yar;rfl;omega
| apply yix;rfl;omega
| apply yle;rfl;omega
| apply aH (α:=Bal) (e:=135);rfl
| apply yap;rfl;(((try simp only [lE,lM]);(try dsimp only);omega))
| refine zdq (id:=17) rfl (by kernel_rfl) [(.p,0),(.p,1),(.p,2),(.p,3),(.p,4),(.p,6),(.p,7),(.p,8),(.p,9),(.t,5),(.t,10),(.o,11),(.p,12),(.p,13),(.p,14),(.p,15),(.p,16),(.p,17),(.p,18),(.t,19),(.o,20),(.p,21),(.p,22)] [] (by kernel_rfl) rfl ?_
| apply ycp;rfl;exact lw;rfl
| apply yc;rfl;exact dz;rfl;exact fun _ => rfl
| fail)
 all_goals first
  | (rw [tt hok hlo hfit ⟨rd g k,az ⟨k0,by assumption⟩,by assumption,by assumption⟩]
     exact au [0,1,2,5] rfl rfl rfl rfl rfl rfl)
  | exact aB (k + 1) [0,1,2,3] ⟨rfl,rfl,rfl,rfl,rfl,rfl,rfl,rfl⟩ ⟨by omega,by omega,ax hall2 (fun e => by first | exact e.1 (by assumption) | exact absurd e.2 (by assumption))⟩ (by first | omega | (dsimp only;omega))
  | (have hno:=hJ (q:=fun x:Leg => ¬ (x.Account ∈ sh) ∧ aK (pO l g) x.Account x.Instr < 0) (by assumption) hall2
     first
     | (rw [tv hok hlo hfit hno (by omega)]
        exact au [0,1,2,5] rfl rfl rfl rfl rfl rfl)
     | (rw [tr hok hlo hfit hno (by omega)]
        exact au [0,1,2,3] rfl rfl rfl rfl rfl rfl))
end
section
open Go.RowKit
noncomputable def cj (n:Int):Int:=pick (n = 0) 0 (pick (n = 3) 5 (pick (n = 4) 8 (pick (n = 5) 7 1)))
theorem lL {n:Int}:FC Tryz.prog 224 [I n] ([]) (I (cj n)) ([]):=by
 refine ay tk 12 [.tmp 2] Tryz.func224 (by kernel_rfl) rfl rfl rfl rfl rfl rfl rfl ?_
 repeat' (first
| apply yd;rfl
| intro _
| refine nv ?_
| apply wct rfl
| apply wcf rfl
| apply yeq;rfl
| fail)
 all_goals first
  | exact cW [] rfl rfl rfl rfl rfl rfl (by rw [cj,aJ (by assumption)])
  | exact cW [] rfl rfl rfl rfl rfl rfl (by rw [cj,aD (by assumption),aJ (by assumption)])
  | exact cW [] rfl rfl rfl rfl rfl rfl (by rw [cj,aD (by assumption),aD (by assumption),aJ (by assumption)])
  | exact cW [] rfl rfl rfl rfl rfl rfl (by rw [cj,aD (by assumption),aD (by assumption),aD (by assumption),aJ (by assumption)])
  | exact cW [] rfl rfl rfl rfl rfl rfl (by rw [cj,aD (by assumption),aD (by assumption),aD (by assumption),aD (by assumption)])
noncomputable def shA (ba:List Account):List Int:=(flt (fun a => ¬ a.Kind = 1) ba).map Account.No
theorem np (ba:List Account):(shA ba).length ≤ ba.length:=by
 unfold shA
 rw [List.length_map]
 exact cL _ _
theorem xd {ba:List Account} {i:Int} (h:0 ≤ i ∧ i < ba.length) (k:¬ (rd ba i).Kind = 1):shA (pf ba (i + 1)) = shA (pf ba i) ++ [(rd ba i).No]:=by
 unfold shA
 rw [bB h,dM (p:=fun a:Account => ¬ a.Kind = 1) k,List.map_append]
 rfl
theorem xc {ba:List Account} {i:Int} (h:0 ≤ i ∧ i < ba.length) (k:(rd ba i).Kind = 1):shA (pf ba (i + 1)) = shA (pf ba i):=by
 unfold shA
 rw [bB h,dj (p:=fun a:Account => ¬ a.Kind = 1) (fun q => q k),List.append_nil]
theorem nC {ba:List Account} {bi:List Instr} {bb:List Bal} {bl:List Lot} {bt:List Trade} {bn:Int} (hl:ba.length ≤ 1000000):FC Tryz.prog 246 [bkV 0 ⟨ba,bi,bb,bl,bt,bn⟩] (bkR ⟨ba,bi,bb,bl,bt,bn⟩) (.c (.row 5 0 (shA ba).length)) (bkR ⟨ba,bi,bb,bl,bt,bn⟩ ++ [ow 3 (shA ba)]):=by
 refine ay tk 30 [.tmp 2] Tryz.func246 (by kernel_rfl) rfl rfl rfl rfl rfl rfl rfl ?_
 repeat' (first
| apply yds;rfl
| apply yd;rfl
| refine nv ?_
| apply aH (α:=Int) (e:=3);rfl
| fail)
 refine wlp (X:=Int × List Int) [1] [0,1,2,3,4,5,6] (fun x => [(4,I x.1),(3,.c (.row 6 0 x.2.length))]) (fun x => [(6,ow 3 x.2)]) (fun x => (0 ≤ x.1 ∧ x.1 ≤ ba.length) ∧ x.2 = shA (pf ba x.1)) (fun x => (ba.length - x.1).toNat) (0,[]) ⟨⟨by dsimp only;omega,by dsimp only;omega⟩,rfl⟩ rfl rfl (fun _ => rfl) (fun _ => rfl) ⟨rfl,rfl,rfl,rfl,rfl,rfl,rfl,rfl⟩ (fun x hx => ?_)
 obtain ⟨i,u⟩:=x
 obtain ⟨h0,hu⟩:=hx
 dsimp only at h0 hu ⊢
 have hul:u.length ≤ 1000000:=by rw [hu];have:=np (pf ba i);have:=bO h0;omega
 repeat' (first
| apply yds;rfl
| apply yd;rfl
| intro _
| refine nv ?_
| apply wct rfl
| apply wcf rfl
| apply ah rfl
| apply aj;rfl
| apply yne;rfl
| apply yar;rfl;omega
| apply yix;rfl;omega
| apply yle;rfl;omega
| apply aH (α:=Int) (e:=3);rfl
| apply yap;rfl;(((try simp only [lE,lM]);(try dsimp only);omega))
| fail)
 all_goals first
  | exact aB (i + 1,u ++ [(rd ba i).No]) [0,1,2,3,4,5,8] ⟨rfl,rfl,rfl,rfl,rfl,rfl,rfl,rfl⟩ ⟨⟨by dsimp only;omega,by dsimp only;omega⟩,by dsimp only;rw [xd ⟨h0.1,by assumption⟩ (by assumption),hu]⟩ (by first | omega | (dsimp only;omega))
  | exact aB (i + 1,u) [0,1,2,3,4,5,6] ⟨rfl,rfl,rfl,rfl,rfl,rfl,rfl,rfl⟩ ⟨⟨by dsimp only;omega,by dsimp only;omega⟩,by dsimp only;rw [xc ⟨h0.1,by assumption⟩ (by assumption),hu]⟩ (by first | omega | (dsimp only;omega))
  | (rw [show shA ba = u from by rw [hu,b8 (by assumption)]]
     exact au [0,1,2,3,4,6] rfl rfl rfl rfl rfl rfl)
end
section
open Go.RowKit
noncomputable def poR (b:Books) (g:List Leg):List Bal × Int:=aW b.Bals g (shA b.Accounts)
theorem eh {b:Books} {g:List Leg} (hb:BooksOk b) (hg:co g):(poR b g).2 = 0 ∨ (poR b g).2 = 3 ∨ (poR b g).2 = 4 ∨ (poR b g).2 = 5:=by
 have h:BalsOk b.Bals ∧ bQ g ∧ (shA b.Accounts).length ≤ 20:=⟨hb.bals,hg.1,by have:=np b.Accounts;have:=hb.acc.2;omega⟩
 unfold poR
 by_cases h3:d7 b.Bals g
 ·by_cases h4:eJ (pO b.Bals g) g (shA b.Accounts)
  ·rw [tt h hg h3 h4];simp
  ·by_cases h5:160 < (pO b.Bals g).length
   ·rw [tv h hg h3 h4 h5];simp
   ·rw [tr h hg h3 h4 h5];simp
 ·rw [tu h hg h3];simp
def bkX (n:Nat):Books → Option AO
 | ⟨a,i,b,l,t,x⟩ => some ⟨true,30,6,.mx [.row n 0 a.length,.row (n + 1) 0 i.length,.row (n + 2) 0 b.length,.row (n + 3) 0 l.length,.row (n + 4) 0 t.length,.sc (.int .i64 x)]⟩
section
variable {P:Program} {T:TB} {ops:Array Oper} {Q:Exit → St → Prop} {h1:AH} {k:Sk} {ks ks':List Sk} {l:List Oper} {N0 k0 d0:Nat} {e0:List (Nat × AV)} {h0:AH} {ty:TypeId} {pos:String} {af:Array Edge} {g:Option (Nat × Bool)}
theorem jb {fo:Operand} {ars:Array Operand} {ts:Array TypeId} {f:FuncId} {caps:List (Nat × Nat × Nat)} {vals args:List AV} {hs hs2 hs3 hv h2' h3':AH} {p:Prop} {X Y X' Y':AV} {m:List Nat} (fl:List Bool) (hs0:stK ks = (Sk.l,ks')) (hf:ev e0 fo = some (.c (.fn f caps))) (hev:evs e0 ars.toList = some vals) (hm:fL (fU h0 (vals ++ caps.map bw)) = some m) (hca:gh m (vals ++ caps.map bw) = some args) (hch:gi fl m h0 = some hs) (hvw:fH (vwH m hs h0) = some hv)
  (hargs:args.map (AV.ren (mf m h0.length)) = vals ++ caps.map bw) (hp:bS (mf m h0.length) hs = bN hs (bF m hv)) (hb:cI hs m h0.length = true) (hc:FC P f args hs (sel p X Y) (sel p hs2 hs3))
  (hX':fV (X.ren (mf m h0.length)) = some X') (hh:fH (cG (mf m h0.length) m hs hs2 hv) = some h2') (hY':fV (Y.ren (mf m h0.length)) = some Y') (hh3:fH (cG (mf m h0.length) m hs hs3 hv) = some h3') (hg:gd ops ⟨some d0,.call { callee:=.value fo,args:=ars,argTypes:=ts },ty,pos,af,g⟩ e0 = some true) (hd:Nat.blt d0 N0 = true)
  (ht:p → ZZ P ops Q h1 ks' l ⟨N0,k0,(d0,X') :: e0,h2'⟩) (hf':¬ p → ZZ P ops Q h1 ks' l ⟨N0,k0,(d0,Y') :: e0,h3'⟩):ZZ P ops Q h1 ks (⟨some d0,.call { callee:=.value fo,args:=ars,argTypes:=ts },ty,pos,af,g⟩ :: l) ⟨N0,k0,e0,h0⟩:=by
 by_cases hp0:p
 ·rw [al hp0,al hp0] at hc
  exact zcw fl hs0 hf hev hm hca hch hvw hargs hp hb hc hX' hh hg hd (ht hp0)
 ·rw [a8 hp0,a8 hp0] at hc
  exact zcw fl hs0 hf hev hm hca hch hvw hargs hp hb hc hY' hh3 hg hd (hf' hp0)
end
theorem jI (n:Int):n = 0 ∨ cj n ≠ 0:=by
 by_cases h:n = 0
 ·exact .inl h
 ·right
  unfold cj
  rw [aD h]
  by_cases h3:n = 3
  ·rw [aJ h3];decide
  ·rw [aD h3]
   by_cases h4:n = 4
   ·rw [aJ h4];decide
   ·rw [aD h4]
    by_cases h5:n = 5
    ·rw [aJ h5];decide
    ·rw [aD h5];decide
noncomputable def eL (n:Int):Int:=pick (n = 0) 0 (pick (n = 3) 5 (pick (n = 4) 8 7))
theorem ll (n:Int):n = 0 ∨ eL n ≠ 0:=by
 by_cases h:n = 0
 ·exact .inl h
 ·right
  unfold eL
  rw [aD h]
  by_cases h3:n = 3
  ·rw [aJ h3];decide
  ·rw [aD h3]
   by_cases h4:n = 4
   ·rw [aJ h4];decide
   ·rw [aD h4];decide
theorem jJ {n:Int} (h:n = 0 ∨ n = 3 ∨ n = 4 ∨ n = 5):eL n = cj n:=by
 rcases h with rfl | rfl | rfl | rfl
 ·rw [eL,aJ rfl,cj,aJ rfl]
 ·rw [eL,aD (by decide),aJ rfl,cj,aD (by decide),aJ rfl]
 ·rw [eL,aD (by decide),aD (by decide),aJ rfl,cj,aD (by decide),aD (by decide),aJ rfl]
 ·rw [eL,aD (by decide),aD (by decide),aD (by decide),cj,aD (by decide),aD (by decide),aD (by decide),aJ rfl]
noncomputable abbrev pN (ba:List Account) (bb:List Bal) (g:List Leg):Int:=(aW bb g (shA ba)).2
noncomputable abbrev pL (ba:List Account) (bb:List Bal) (g:List Leg):List Bal:=(aW bb g (shA ba)).1
theorem jS {ba:List Account} {bi:List Instr} {bb:List Bal} {bl:List Lot} {bt:List Trade} {bn:Int} {g:List Leg} (hl:ba.length ≤ 1000000):FC Tryz.prog 111 [.c (.ptr 0 0 0),.c (.row 1 0 g.length)] ([bkX 2 ⟨ba,bi,bb,bl,bt,bn⟩,ow 46 g] ++ bkO ⟨ba,bi,bb,bl,bt,bn⟩) (sel (pN ba bb g = 0) (I 0) (I (cj (pN ba bb g)))) (sel (pN ba bb g = 0) ([some ⟨true,30,6,.mx [.row 2 0 ba.length,.row 3 0 bi.length,.row 7 0 (pL ba bb g).length,.row 5 0 bl.length,.row 6 0 bt.length,.sc (.int .i64 bn)]⟩,ow 46 g] ++ bkO ⟨ba,bi,bb,bl,bt,bn⟩ ++ [ow 135 (pL ba bb g)]) ([bkX 2 ⟨ba,bi,bb,bl,bt,bn⟩,ow 46 g] ++ bkO ⟨ba,bi,bb,bl,bt,bn⟩)):=by
 refine ay tk 47 [.tmp 4] Tryz.func111 (by kernel_rfl) rfl rfl rfl rfl rfl rfl rfl ?_
 repeat' (first
| apply yds;rfl
| apply yd;rfl
| refine nv ?_
| apply aH (α:=Int) (e:=3);rfl
| fail)
 refine wlp (X:=Int × List Int) [0,1,14,15] [0,1,2,3,4,5,6,7] (fun x => [(16,I x.1),(5,.c (.row 7 0 x.2.length))]) (fun x => [(7,ow 3 x.2)]) (fun x => (0 ≤ x.1 ∧ x.1 ≤ ba.length) ∧ x.2 = shA (pf ba x.1)) (fun x => (ba.length - x.1).toNat) (0,[]) ⟨⟨by dsimp only;omega,by dsimp only;omega⟩,rfl⟩ rfl rfl (fun _ => rfl) (fun _ => rfl) ⟨rfl,rfl,rfl,rfl,rfl,rfl,rfl,rfl⟩ (fun x hx => ?_)
 obtain ⟨i,u⟩:=x
 obtain ⟨h0,hu⟩:=hx
 dsimp only at h0 hu ⊢
 have hul:u.length ≤ 1000000:=by rw [hu];have:=np (pf ba i);have:=bO h0;omega
 by_cases hi:i < ba.length
 ·
  repeat' (first
| intro h9;exfalso;contradiction
| apply yds;rfl
| apply yd;rfl
| intro _
| refine nv ?_
| apply wct rfl
| apply wcf rfl
| apply aj;rfl
| apply yne;rfl
| apply yar;rfl;omega
| apply yix;rfl;omega
| apply yle;rfl;omega
| apply aH (α:=Int) (e:=3);rfl
| apply yap;rfl;(((try simp only [lE,lM]);(try dsimp only);omega))
| fail)
  all_goals first
   | exact aB (i + 1,u ++ [(rd ba i).No]) [0,1,2,3,4,5,6,10] ⟨rfl,rfl,rfl,rfl,rfl,rfl,rfl,rfl⟩ ⟨⟨by dsimp only;omega,by dsimp only;omega⟩,by dsimp only;rw [xd ⟨h0.1,by assumption⟩ (by assumption),hu]⟩ (by first | omega | (dsimp only;omega))
   | exact aB (i + 1,u) [0,1,2,3,4,5,6,7] ⟨rfl,rfl,rfl,rfl,rfl,rfl,rfl,rfl⟩ ⟨⟨by dsimp only;omega,by dsimp only;omega⟩,by dsimp only;rw [xc ⟨h0.1,by assumption⟩ (by assumption),hu]⟩ (by first | omega | (dsimp only;omega))
 ·have hu2:u = shA ba:=by rw [hu,b8 hi]
  subst hu2
  repeat' (first
| intro h9;exfalso;contradiction
| apply yds;rfl
| apply yd;rfl
| intro _
| refine nv ?_
| apply wct rfl
| apply wcf rfl
| apply ah rfl
| apply aj;rfl
| apply ycf;rfl;exact lH;rfl
| apply yc;rfl;exact lL;rfl;exact fun _ => rfl
| fail)
  ·rename_i hp
   refine fv (X':=I (cj (pN ba bb g))) (hs':=[some ⟨true,30,6,.mx [.row 2 0 ba.length,.row 3 0 bi.length,.row 7 0 (pL ba bb g).length,.row 5 0 bl.length,.row 6 0 bt.length,.sc (.int .i64 bn)]⟩,ow 46 g] ++ bkO ⟨ba,bi,bb,bl,bt,bn⟩ ++ [ow 135 (pL ba bb g)]) [0,1,2,3,4,5,6,8] rfl rfl rfl rfl rfl rfl ?_ ?_
   ·rw [al hp,cj,aJ hp]
   ·rw [al hp]
  ·rename_i hp
   exact cD hp [0,1,2,3,4,5,6] rfl rfl rfl rfl rfl rfl
theorem cy {ba:List Account} {bi:List Instr} {bb:List Bal} {bl:List Lot} {bt:List Trade} {bn:Int} {g:List Leg} (hl:ba.length ≤ 1000000):FC Tryz.prog 136 [bkV 0 ⟨ba,bi,bb,bl,bt,bn⟩,.c (.row 5 0 g.length)] (bkO ⟨ba,bi,bb,bl,bt,bn⟩ ++ [ro 46 g]) (sel (pN ba bb g = 0) (.tup [.agg [.row 0 0 ba.length,.row 1 0 bi.length,.row 6 0 (pL ba bb g).length,.row 3 0 bl.length,.row 4 0 bt.length,.sc (.int .i64 bn)],I 0]) (.tup [bkV 0 ⟨ba,bi,bb,bl,bt,bn⟩,I (eL (pN ba bb g))])) (sel (pN ba bb g = 0) (bkO ⟨ba,bi,bb,bl,bt,bn⟩ ++ [ro 46 g,ow 135 (pL ba bb g)]) (bkO ⟨ba,bi,bb,bl,bt,bn⟩ ++ [ro 46 g])):=by
 refine ay tk 30 [.cell 4 _,.tmp 5] Tryz.func136 (by kernel_rfl) rfl rfl rfl rfl rfl rfl rfl ?_
 repeat' (first
| apply yds;rfl
| apply yd;rfl
| intro _
| refine nv ?_
| apply wct rfl
| apply wcf rfl
| apply yeq;rfl
| refine zdq (id:=1) rfl (by kernel_rfl) [(.p,0),(.p,2),(.t,1),(.t,3),(.o,4),(.o,5),(.p,6),(.p,7),(.p,8),(.p,9),(.p,10)] [] (by kernel_rfl) rfl ?_
| apply ycf;rfl;(first | exact nC (by omega) | exact lU);rfl
| fail)
 all_goals first
  | exact jl (by assumption) [0,1,2,3,4,5,9] rfl rfl rfl rfl rfl rfl
  | (have hp:¬ pN ba bb g = 0:=by assumption
     first
     | (rw [show eL (pN ba bb g) = 5 from by rw [eL,aD hp,aJ (by assumption)]]
        exact cD hp [0,1,2,3,4,5] rfl rfl rfl rfl rfl rfl)
     | (rw [show eL (pN ba bb g) = 8 from by rw [eL,aD hp,aD (by assumption),aJ (by assumption)]]
        exact cD hp [0,1,2,3,4,5] rfl rfl rfl rfl rfl rfl)
     | (rw [show eL (pN ba bb g) = 7 from by rw [eL,aD hp,aD (by assumption),aD (by assumption)]]
        exact cD hp [0,1,2,3,4,5] rfl rfl rfl rfl rfl rfl))
end
section
open Go.RowKit
theorem ao {β:Type} {P:β → Prop} {p:Prop} {a b:β} (h1:p → P a) (h2:¬ p → P b):P (sel p a b):=by
 by_cases h:p
 ·rw [al h];exact h1 h
 ·rw [a8 h];exact h2 h
def aL (b:Books):Prop:=MidL b.Accounts.length b.Instrs.length b.Bals.length b.Lots.length b.Trades.length
theorem iq:aL ⟨[],[],[],[],[],0⟩:=⟨by simp,by simp,by simp,by simp,by simp⟩
theorem pc {l:List Bal} {g:List Leg} {sh:List Int} (h:(aW l g sh).2 = 0):(aW l g sh).1.length ≤ 160:=by
 by_cases h1:BalsOk l ∧ bQ g ∧ sh.length ≤ 20
 rotate_left
 ·rw [vD h1] at h;exact absurd (show (1:Int) = 0 from h) (by decide)
 by_cases h2:co g
 rotate_left
 ·rw [vE h1 h2] at h;exact absurd (show (2:Int) = 0 from h) (by decide)
 by_cases h3:d7 l g
 rotate_left
 ·rw [tu h1 h2 h3] at h;exact absurd (show (4:Int) = 0 from h) (by decide)
 by_cases h4:eJ (pO l g) g sh
 ·rw [tt h1 h2 h3 h4] at h;exact absurd (show (3:Int) = 0 from h) (by decide)
 by_cases h5:160 < (pO l g).length
 ·rw [tv h1 h2 h3 h4 h5] at h;exact absurd (show (5:Int) = 0 from h) (by decide)
 ·rw [tr h1 h2 h3 h4 h5];exact Nat.le_of_not_lt h5
theorem Small.post {b:Books} (s:Small b) {g:List Leg} (h:(poR b g).2 = 0) {n:Int}:aL ⟨b.Accounts,b.Instrs,(poR b g).1,b.Lots,b.Trades,n⟩:=by
 have m:=s.mid
 have:=pc h
 exact ⟨m.a1,m.a2,by show (aW b.Bals g (shA b.Accounts)).1.length ≤ 4294967296;omega,m.a4,m.a5⟩
end
section
open Go.RowKit
def lb2 (x y:Lot):Prop:=gu x.Account x.Instr x.No y.Account y.Instr y.No
noncomputable def mrg:List Lot → List Lot → List Lot
 | [],b => b
 | x :: a,[] => x :: a
 | x :: a,y :: b => sel (lb2 x y) (x :: mrg a (y :: b)) (y :: mrg (x :: a) b)
termination_by a b => a.length + b.length
theorem kl (b:List Lot):mrg [] b = b:=by rw [mrg]
theorem l6 (a:List Lot):mrg a [] = a:=by cases a <;> rw [mrg]
theorem wZ {x y:Lot} {a b:List Lot} (h:lb2 x y):mrg (x :: a) (y :: b) = x :: mrg a (y :: b):=by rw [mrg,al h]
theorem x1 {x y:Lot} {a b:List Lot} (h:¬ lb2 x y):mrg (x :: a) (y :: b) = y :: mrg (x :: a) b:=by rw [mrg,a8 h]
theorem l7:∀ (a b:List Lot),(mrg a b).Perm (a ++ b)
 | [],b => by rw [kl];exact .refl _
 | x :: a,[] => by rw [l6,List.append_nil]
 | x :: a,y :: b => by
   by_cases h:lb2 x y
   ·rw [wZ h]
    exact (l7 a (y :: b)).cons x
   ·rw [x1 h]
    exact ((l7 (x :: a) b).cons y).trans List.perm_middle.symm
termination_by a b => a.length + b.length
theorem rq (a b:List Lot):(mrg a b).length = a.length + b.length:=by rw [(l7 a b).length_eq,List.length_append]
theorem LSd.pw {l:List Lot} (h:LSd l l.length):l.Pairwise lb2:=by
 rw [List.pairwise_iff_getElem]
 intro i j hi hj hij
 have:=h.lt (i:=i) (j:=j) (by omega) (by omega) (by omega)
 simpa [lb2,rd,List.getD_eq_getElem?_getD,hi,hj] using this
theorem LotsOk.pw {l:List Lot} (h:LotsOk l):l.Pairwise lb2:=LSd.pw (fun i h0 h1 => (h.1.1 i (by omega) h1).2 h0)
def reL (l:Lot) (q k:Int):Lot:=⟨l.Account,l.Instr,l.No,q,k⟩
def tkq:List Lot → Int → List Lot × Int
 | [],_ => ([],0)
 | l :: r,q => if q ≤ 0 then (l :: r,0) else if l.Qty ≤ q then ((tkq r (q - l.Qty)).1,l.Cost + (tkq r (q - l.Qty)).2) else (reL l (l.Qty - q) (l.Cost - l.Cost * q / l.Qty) :: r,l.Cost * q / l.Qty)
theorem vi {l:List Lot} {q:Int} (h:q ≤ 0):tkq l q = (l,0):=by
 cases l with
 | nil => rfl
 | cons x r => rw [tkq,if_pos h]
theorem yt {l:Lot} {r:List Lot} {q:Int} (h:0 < q) (h2:l.Qty ≤ q):tkq (l :: r) q = ((tkq r (q - l.Qty)).1,l.Cost + (tkq r (q - l.Qty)).2):=by
 rw [tkq,if_neg (by omega),if_pos h2]
theorem yu {l:Lot} {r:List Lot} {q:Int} (h:0 < q) (h2:¬ l.Qty ≤ q):tkq (l :: r) q = (reL l (l.Qty - q) (l.Cost - l.Cost * q / l.Qty) :: r,l.Cost * q / l.Qty):=by
 rw [tkq,if_neg (by omega),if_neg h2]
def LG (l:List Lot):Prop:=∀ x ∈ l,(1 ≤ x.Qty ∧ x.Qty ≤ 1000000000000000) ∧ 0 ≤ x.Cost ∧ x.Cost ≤ 1000000000000000
theorem d6 {k q n:Int} (hk:0 ≤ k) (hq:0 ≤ q) (hn:q ≤ n) (h1:1 ≤ n):0 ≤ k * q / n ∧ k * q / n ≤ k:=by
 refine ⟨Int.ediv_nonneg (Int.mul_nonneg hk hq) (by omega),?_⟩
 have h2:k * q ≤ k * n:=Int.mul_le_mul_of_nonneg_left hn hk
 have h3:=Int.ediv_le_ediv (c:=n) (by omega) h2
 rwa [Int.mul_ediv_cancel _ (by omega)] at h3
theorem uU {k n:Int} (h1:1 ≤ n):k * n / n = k:=Int.mul_ediv_cancel _ (by omega)
theorem LG.cons {x:Lot} {r:List Lot} (h:LG (x :: r)):((1 ≤ x.Qty ∧ x.Qty ≤ 1000000000000000) ∧ 0 ≤ x.Cost ∧ x.Cost ≤ 1000000000000000) ∧ LG r:=⟨h x (by simp),fun y hy => h y (by simp [hy])⟩
theorem wD (x:Lot) (r:List Lot):sC (x :: r) = x.Cost + sC r:=bp _ _ _
theorem wE (x:Lot) (r:List Lot):sQ (x :: r) = x.Qty + sQ r:=bp _ _ _
theorem LG.sC_nn {l:List Lot} (h:LG l):0 ≤ sC l:=eQ (fun x hx => (h x hx).2.1)
theorem LG.sQ_nn {l:List Lot} (h:LG l):0 ≤ sQ l:=eQ (fun x hx => by have:=(h x hx).1.1;omega)
theorem fK:∀ {l:List Lot} {q:Int},LG l → 0 ≤ (tkq l q).2 ∧ (tkq l q).2 ≤ sC l
 | [],q,_ => by simp [tkq,sC,ak]
 | x :: r,q,h => by
   have hc:=h.cons
   have hs:=hc.2.sC_nn
   rw [wD]
   by_cases h1:q ≤ 0
   ·rw [vi h1];dsimp only;omega
   by_cases h2:x.Qty ≤ q
   ·rw [yt (by omega) h2]
    have:=fK (q:=q - x.Qty) hc.2
    dsimp only;omega
   ·rw [yu (by omega) h2]
    have:=d6 (k:=x.Cost) (q:=q) (n:=x.Qty) (by omega) (by omega) (by omega) (by omega)
    dsimp only;omega
theorem qH:∀ (l:List Lot) (q:Int),(tkq l q).1.length ≤ l.length
 | [],q => by simp [tkq]
 | x :: r,q => by
   by_cases h1:q ≤ 0
   ·rw [vi h1];exact Nat.le_refl _
   by_cases h2:x.Qty ≤ q
   ·rw [yt (by omega) h2]
    have:=qH r (q - x.Qty)
    simp only [List.length_cons];omega
   ·rw [yu (by omega) h2]
    simp
noncomputable def tkL (own:List Lot) (q way:Int):List Lot :=
 sel (way = 3) (sel (sQ own = q) [] [reL (rd own 0) (sQ own - q) (sC own - sC own * q / sQ own)]) (sel (way = 2) (tkq own.reverse q).1.reverse (tkq own q).1)
noncomputable def tkC (own:List Lot) (q way:Int):Int :=
 pick (way = 3) (sC own * q / sQ own) (pick (way = 2) (tkq own.reverse q).2 (tkq own q).2)
theorem LG.rev {l:List Lot} (h:LG l):LG l.reverse:=fun x hx => h x (List.mem_reverse.1 hx)
theorem v5 (l:List Lot):sC l.reverse = sC l:=by
 unfold sC ak
 rw [List.map_reverse,List.sum_reverse]
theorem yb (l:List Lot):sQ l.reverse = sQ l:=by
 unfold sQ ak
 rw [List.map_reverse,List.sum_reverse]
theorem yr {own:List Lot} {q way:Int} (h:LG own) (hq:0 ≤ q ∧ q ≤ sQ own) (h1:1 ≤ sQ own):0 ≤ tkC own q way ∧ tkC own q way ≤ sC own:=by
 unfold tkC
 by_cases h3:way = 3
 ·rw [aJ h3]
  exact d6 h.sC_nn hq.1 hq.2 h1
 ·rw [aD h3]
  by_cases h2:way = 2
  ·rw [aJ h2,← v5]
   exact fK h.rev
  ·rw [aD h2]
   exact fK h
theorem wO {own:List Lot} {q way:Int} (hn:0 < (own.length:Int)):(tkL own q way).length ≤ own.length:=by
 unfold tkL
 by_cases h3:way = 3
 ·rw [al h3]
  by_cases h4:sQ own = q
  ·rw [al h4];simp
  ·rw [a8 h4];simp only [List.length_cons,List.length_nil];omega
 ·rw [a8 h3]
  by_cases h2:way = 2
  ·rw [al h2,List.length_reverse]
   have:=qH own.reverse q
   rwa [List.length_reverse] at this
  ·rw [a8 h2]
   exact qH _ _
theorem lotsOf_mem {l:List Lot} {a c:Int} {x:Lot}:x ∈ ab l a c ↔ x ∈ l ∧ x.Account = a ∧ x.Instr = c:=flt_mem
theorem sI {l:List Lot} {a c:Int} (h:l.Pairwise lb2):(ab l a c).Pairwise lb2:=h.filter _
theorem LotsOk.LG {l:List Lot} (h:LotsOk l):LG l:=fun x hx => by
 obtain ⟨i,hi,rfl⟩:=bj hx
 have:=(h.1.1 i hi.1 hi.2).1
 unfold jV inP at this
 omega
theorem LG.flt {l:List Lot} (h:LG l) (p:Lot → Prop):LG (flt p l):=fun x hx => h x (flt_mem.1 hx).1
theorem LotsOk.own {l:List Lot} (h:LotsOk l) (a c:Int):(0 ≤ sQ (ab l a c) ∧ sQ (ab l a c) ≤ 1000000000000000) ∧ 0 ≤ sC (ab l a c) ∧ sC (ab l a c) ≤ 1000000000000000:=by
 have hg:=h.LG.flt (fun x => x.Account = a ∧ x.Instr = c)
 have h1:=hg.sQ_nn
 have h2:=hg.sC_nn
 by_cases e:ab l a c = []
 ·rw [e];decide
 ·obtain ⟨x,hx⟩:=List.exists_mem_of_ne_nil _ e
  obtain ⟨hx1,hx2,hx3⟩:=lotsOf_mem.1 hx
  have:=h.2 x hx1
  rw [hx2,hx3] at this
  unfold ai inP at this
  exact ⟨⟨h1,by omega⟩,h2,by omega⟩
theorem qz {l:List Lot} (h:1 ≤ sQ l):0 < (l.length:Int):=by
 cases l with
 | nil => simp [sQ,ak] at h
 | cons x r => simp only [List.length_cons];omega
end
section
open Go.RowKit Go.Shelf Go.Sort Go.Lib
shelf_lay_g SlLaysF0.n6 Slsf 6 at Tryz 323 as laysSortLot
instance:Inhabited Lot:=⟨⟨0,0,0,0,0⟩⟩
end
end Go.Proofs.YtgehbhkfehmdkaaGreat.Sh
