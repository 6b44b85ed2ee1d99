/- Legs are posted: both sides. No condition. -/
import Derived.Test.YtgehbhkfehmdkaaGreatKUShV
import Derived.Test.YtgehbhkfehmdkaaGreatKUShDp
import Derived.Test.YtgehbhkfehmdkaaGreatKUShBo
import Derived.Test.YtgehbhkfehmdkaaGreatKUShLo
set_option maxRecDepth 100000
set_option maxHeartbeats 40000000
set_option linter.unusedSimpArgs false
set_option linter.unusedVariables false
namespace Go.Proofs.YtgehbhkfehmdkaaGreat.Sh
section
open Go.RowKit
theorem nB {l:List Int} {x:Int}:FC Tryz.prog 232 [.c (.row 0 0 l.length),I x] ([ro 3 l]) (sel (x ∈ l) (I (fIx l (fun y => x = y))) (I (-1))) (sel (x ∈ l) [ro 3 l] [ro 3 l]):=by
 refine ax tk 19 [.tmp 4] Tryz.func232 (by kernel_rfl) rfl rfl rfl rfl rfl rfl rfl ?_
 refine bX l 0 rfl (fun hl => ?_)
 repeat' (first
| apply yds;rfl
| apply yd;rfl
| refine nv ?_
| fail)
 refine wlp (X:=Int) [0,1,7] [0] (fun i => [(8,I i)]) (fun _ => []) (fun i => 0 ≤ i ∧ i ≤ l.length ∧ ∀ j:Int,0 ≤ j → j < i → ¬ (fun y => x = y) (rd l j)) (fun i => (l.length - i).toNat) 0 ⟨by omega,by omega,fun j h0 h1 => by omega⟩ rfl rfl (fun _ => rfl) (fun _ => rfl) ⟨rfl,rfl,rfl,rfl,rfl,rfl,rfl,rfl⟩ (fun i hi => ?_)
 obtain ⟨h0,hi,hall⟩:=hi
 repeat' (first
| apply yds;rfl
| apply yd;rfl
| intro _
| refine nv ?_
| apply wct rfl
| apply wcf rfl
| apply ah rfl
| apply ai;rfl
| apply yar;rfl;omega
| apply yix;rfl;omega
| apply yle;rfl;omega
| fail)
 all_goals first
  | (rename_i h1 h2
     have hm:x ∈ l:=h2 ▸ aA ⟨h0,h1⟩
     refine dP (X':=I i) (hs':=[ro 3 l]) [0] rfl rfl rfl rfl rfl rfl ?_ ?_
     ·rw [au hm,fD ⟨h0,h1⟩ hall h2]
     ·rw [au hm])
  | exact bQ (fun hm => iw (q:=fun y => x = y) (by assumption) hall ⟨x,hm,rfl⟩) [0] rfl rfl rfl rfl rfl rfl
  | exact aB (i + 1) [0] ⟨rfl,rfl,rfl,rfl,rfl,rfl,rfl,rfl⟩ ⟨by omega,by omega,aD hall (by assumption)⟩ (by first | omega | (dsimp only;omega))
theorem l7 {l:List Int} {x:Int}:FC Tryz.prog 120 [.c (.row 0 0 l.length),I x] ([ro 3 l]) (B (dB (x ∈ l))) ([ro 3 l]):=by
 refine ax tk 9 [.tmp 4] Tryz.func120 (by kernel_rfl) rfl rfl rfl rfl rfl rfl rfl ?_
 have hn:=bY l (fun y => x = y)
 repeat' (first
| intro h9;exfalso;first | contradiction | omega
| apply yds;rfl
| apply yd;rfl
| intro _
| refine nv ?_
| apply ai;rfl
| apply zcs;(iterate 10 rfl);exact nB;exact fun _ => rfl;exact fun _ => rfl;rfl;rfl;rfl;rfl
| fail)
 all_goals first
  | exact bF [0] rfl rfl rfl rfl rfl rfl (by assumption)
  | exact b5 [0] rfl rfl rfl rfl rfl rfl (by assumption)
  | (exfalso;omega)
theorem pI {l:List Int} {x:Int}:FC Tryz.prog 167 [.c (.row 0 0 l.length),I x] ([ro 3 l]) (B (dB (x ∈ l))) ([ro 3 l]):=by
 refine ax tk 18 [.tmp 4] Tryz.func167 (by kernel_rfl) rfl rfl rfl rfl rfl rfl rfl ?_
 refine bX l 0 rfl (fun hl => ?_)
 repeat' (first
| apply yd;rfl
| refine nv ?_
| fail)
 refine wlp (X:=Int) [0,1] [0] (fun i => [(5,I i)]) (fun _ => []) (fun i => 0 ≤ i ∧ i ≤ l.length ∧ ∀ j:Int,0 ≤ j → j < i → ¬ (fun y => y = x) (rd l j)) (fun i => (l.length - i).toNat) 0 ⟨by omega,by omega,fun j h0 h1 => by omega⟩ rfl rfl (fun _ => rfl) (fun _ => rfl) ⟨rfl,rfl,rfl,rfl,rfl,rfl,rfl,rfl⟩ (fun i hi => ?_)
 obtain ⟨h0,hi,hall⟩:=hi
 repeat' (first
| apply yds;rfl
| apply yd;rfl
| intro _
| refine nv ?_
| apply wct rfl
| apply wcf rfl
| apply ah rfl
| apply ai;rfl
| apply yar;rfl;omega
| apply yix;rfl;omega
| apply yle;rfl;omega
| fail)
 all_goals first
  | (rename_i h1 h2
     exact bF [0] rfl rfl rfl rfl rfl rfl (h2 ▸ aA ⟨h0,h1⟩))
  | exact b5 [0] rfl rfl rfl rfl rfl rfl (fun hm => iw (q:=fun y => y = x) (by assumption) hall ⟨x,hm,rfl⟩)
  | exact aB (i + 1) [0] ⟨rfl,rfl,rfl,rfl,rfl,rfl,rfl,rfl⟩ ⟨by omega,by omega,aD hall (by assumption)⟩ (by first | omega | (dsimp only;omega))
def lT (l:List Bal) (g:List Leg) (i:Int):Prop:=aq (aL (pO l (pf g i)) (rd g i).Account (rd g i).Instr + (rd g i).Amount)
def eh (l:List Bal) (g:List Leg):Prop:=∀ i:Int,0 ≤ i → i < g.length → lT l g i
def iy (o:List Bal) (g:List Leg) (sh:List Int):Prop:=∃ x ∈ g,¬ (x.Account ∈ sh) ∧ aL o x.Account x.Instr < 0
noncomputable def bg (l:List Bal) (g:List Leg) (sh:List Int):List Bal × Int :=
 sel (¬ (BalsOk l ∧ cw g ∧ sh.length ≤ 20)) ([],1) (sel (¬ d4 g) (l,2) (sel (¬ eh l g) (l,4) (sel (iy (pO l g) g sh) (l,3) (sel (160 < (pO l g).length) (l,5) (pO l g,0)))))
section
variable {l:List Bal} {g:List Leg} {sh:List Int}
theorem zy (h:¬ (BalsOk l ∧ cw g ∧ sh.length ≤ 20)):bg l g sh = ([],1):=by rw [bg,au h]
theorem zz (h:BalsOk l ∧ cw g ∧ sh.length ≤ 20) (h2:¬ d4 g):bg l g sh = (l,2):=by rw [bg,ab (fun k => k h),au h2]
theorem xB (h:BalsOk l ∧ cw g ∧ sh.length ≤ 20) (h2:d4 g) (h3:¬ eh l g):bg l g sh = (l,4):=by rw [bg,ab (fun k => k h),ab (fun k => k h2),au h3]
theorem xA (h:BalsOk l ∧ cw g ∧ sh.length ≤ 20) (h2:d4 g) (h3:eh l g) (h4:iy (pO l g) g sh):bg l g sh = (l,3):=by rw [bg,ab (fun k => k h),ab (fun k => k h2),ab (fun k => k h3),au h4]
theorem xC (h:BalsOk l ∧ cw g ∧ sh.length ≤ 20) (h2:d4 g) (h3:eh l g) (h4:¬ iy (pO l g) g sh) (h5:160 < (pO l g).length):bg l g sh = (l,5):=by rw [bg,ab (fun k => k h),ab (fun k => k h2),ab (fun k => k h3),ab h4,au h5]
theorem xz (h:BalsOk l ∧ cw g ∧ sh.length ≤ 20) (h2:d4 g) (h3:eh l g) (h4:¬ iy (pO l g) g sh) (h5:¬ 160 < (pO l g).length):bg l g sh = (pO l g,0):=by rw [bg,ab (fun k => k h),ab (fun k => k h2),ab (fun k => k h3),ab h4,ab h5]
end
theorem pW {l:List Bal} {g:List Leg} {sh:List Int}:FC Tryz.prog 24 [.c (.row 0 0 l.length),.c (.row 1 0 g.length),.c (.row 2 0 sh.length)] ([ro 135 l,ro 46 g,ro 3 sh]) (.tup [.c (.row 3 0 (bg l g sh).1.length),I (bg l g sh).2]) ([ro 135 l,ro 46 g,ro 3 sh,ow 135 (bg l g sh).1]):=by
 refine ax tk 90 [.tmp 6,.tmp 7] Tryz.func24 (by kernel_rfl) rfl rfl rfl rfl rfl rfl rfl ?_
 by_cases hok:BalsOk l ∧ cw g ∧ sh.length ≤ 20
 rotate_left
 ·rw [zy hok]
  repeat' (first
| intro h9;exact absurd ⟨by assumption,by assumption,by omega⟩ hok
| apply fZ (d:=6) 135 3;rfl;rfl;rfl
| apply yd;rfl
| intro _
| refine nv ?_
| apply wct rfl
| apply ai;rfl
| apply ycp;rfl;(first | exact fT | exact fP);rfl
| fail)
  all_goals exact ak [0,1,2,4] rfl rfl rfl rfl rfl rfl
 obtain ⟨hb,hf,hsh⟩:=id hok
 by_cases hlo:d4 g
 rotate_left
 ·rw [zz hok hlo]
  have hbl:=hb.2
  repeat' (first
| intro h9;exfalso;first | contradiction | omega
| apply yds;rfl
| apply yd;rfl
| intro _
| refine nv ?_
| apply wct rfl
| apply wcf rfl
| apply ai;rfl
| apply ycp;rfl;(first | exact fT | exact fP | exact nK);rfl
| apply ycf;rfl;(exact bT (by omega));rfl
| fail)
  all_goals exact ak [0,1,2,3] rfl rfl rfl rfl rfl rfl
 have hbl:=hb.2
 have hgl:=hf.1
 repeat' (first
| intro h9;exfalso;first | contradiction | omega
| apply yds;rfl
| apply yd;rfl
| intro _
| refine nv ?_
| apply wcf rfl
| apply ai;rfl
| apply ycp;rfl;(first | exact fT | exact fP | exact nK);rfl
| apply ycf;rfl;(exact bT (by omega));rfl
| fail)
 refine wlp (X:=Int × List Bal) [1,2,8,36,37] [0,1,2,3,4] (fun x => [(38,I x.1),(9,.c (.row 4 0 x.2.length))]) (fun x => [(4,ow 135 x.2)]) (fun x => (0 ≤ x.1 ∧ x.1 ≤ g.length) ∧ x.2 = pO l (pf g x.1) ∧ (BSd x.2 ∧ qU x.2) ∧ x.2.length ≤ l.length + x.1 ∧ ∀ j:Int,0 ≤ j → j < x.1 → lT l g j) (fun x => (g.length - x.1).toNat) (0,l) ⟨⟨by dsimp only;omega,by dsimp only;omega⟩,rfl,⟨hb.sd,hb.amt⟩,by dsimp only;omega,fun j h0 h1 => by dsimp only at h1;omega⟩ rfl rfl (fun _ => rfl) (fun _ => rfl) ⟨rfl,rfl,rfl,rfl,rfl,rfl,rfl,rfl⟩ (fun x hx => ?_)
 obtain ⟨i,xs⟩:=x
 obtain ⟨h0,hxs,⟨hsd,hamt⟩,hxl,hall⟩:=hx
 dsimp only at h0 hxs hsd hamt hxl hall ⊢
 have hba:=cP hamt (rd g i).Account (rd g i).Instr
 have hga:i < g.length → aq (rd g i).Amount:=fun h => (hf.2 _ (aA ⟨h0.1,h⟩)).2.2
 unfold aq inP at hba hga
 repeat' (first
| apply yds;rfl
| apply yd;rfl
| apply yar;rfl;(have h1:=hga (by assumption);omega)
| intro _
| refine nv ?_
| apply wct rfl
| apply wcf rfl
| apply ah rfl
| apply ai;rfl
| apply yix;rfl;omega
| apply yle;rfl;omega
| refine zdq (id:=10) rfl (by kernel_rfl) [(.p,0),(.p,1),(.p,3),(.p,6),(.t,2),(.t,4),(.t,7),(.o,5),(.p,8),(.p,9)] [] (by kernel_rfl) rfl ?_
| apply ycp;rfl;exact dU;rfl
| apply ycf;rfl;(exact ry (by assumption) (by omega));rfl
| apply yc;rfl;exact jm (by assumption);rfl;exact fun _ => rfl
| fail)
 all_goals first
  | exact aB (i + 1,dL xs (rd g i).Account (rd g i).Instr (aL xs (rd g i).Account (rd g i).Instr + (rd g i).Amount)) [0,1,2,3,6] ⟨rfl,rfl,rfl,rfl,rfl,rfl,rfl,rfl⟩ ⟨⟨by dsimp only;omega,by dsimp only;omega⟩,by dsimp only;rw [rI ⟨h0.1,by assumption⟩,← hxs];rfl,⟨ff hsd _ _ _,pv hsd hamt (by assumption)⟩,(by dsimp only;have:=px hsd (rd g i).Account (rd g i).Instr (aL xs (rd g i).Account (rd g i).Instr + (rd g i).Amount);omega),aD hall (by unfold lT;rw [← hxs];assumption)⟩ (by first | omega | (dsimp only;omega))
  | (rw [xB hok hlo (fun k => absurd (k i h0.1 (by assumption)) (by unfold lT;rw [← hxs];assumption))]
     exact ak [0,1,2,3] rfl rfl rfl rfl rfl rfl)
  | skip
 rename_i hil
 have e:xs = pO l g:=hxs.trans (by rw [b6 hil])
 have hfit:eh l g:=fun j h0 h1 => hall j h0 (by omega)
 clear hxs hba hga
 subst e
 refine wlp (X:=Int) [2,8,9,63,64] [0,1,2,3,4] (fun k => [(65,I k)]) (fun _ => []) (fun k => 0 ≤ k ∧ k ≤ g.length ∧ ∀ j:Int,0 ≤ j → j < k → ¬ (fun x:Leg => ¬ (x.Account ∈ sh) ∧ aL (pO l g) x.Account x.Instr < 0) (rd g j)) (fun k => (g.length - k).toNat) 0 ⟨by omega,by omega,fun j h0 h1 => by omega⟩ rfl rfl (fun _ => rfl) (fun _ => rfl) ⟨rfl,rfl,rfl,rfl,rfl,rfl,rfl,rfl⟩ (fun k hk => ?_)
 obtain ⟨k0,hk,hall2⟩:=hk
 repeat' (first
| apply yds;rfl
| apply yd;rfl
| intro _
| refine nv ?_
| apply wct rfl
| apply wcf rfl
| apply ah rfl
| apply ai;rfl
| apply yar;rfl;omega
| apply yix;rfl;omega
| apply yle;rfl;omega
| apply ycp;rfl;exact l7;rfl
| apply yc;rfl;exact jm (by assumption);rfl;exact fun _ => rfl
| fail)
 all_goals first
  | (rw [xA hok hlo hfit ⟨rd g k,aA ⟨k0,by assumption⟩,by assumption,by assumption⟩]
     exact ak [0,1,2,3] rfl rfl rfl rfl rfl rfl)
  | exact aB (k + 1) [0,1,2,3,4] ⟨rfl,rfl,rfl,rfl,rfl,rfl,rfl,rfl⟩ ⟨by omega,by omega,aD hall2 (fun e => by first | exact e.1 (by assumption) | exact absurd e.2 (by assumption))⟩ (by first | omega | (dsimp only;omega))
  | (have hno:=iw (q:=fun x:Leg => ¬ (x.Account ∈ sh) ∧ aL (pO l g) x.Account x.Instr < 0) (by assumption) hall2
     first
     | (rw [xC hok hlo hfit hno (by omega)]
        exact ak [0,1,2,3] rfl rfl rfl rfl rfl rfl)
     | (rw [xz hok hlo hfit hno (by omega)]
        exact ak [0,1,2,4] rfl rfl rfl rfl rfl rfl))
theorem ql {l:List Bal} {g:List Leg} {sh:List Int}:FC Tryz.prog 245 [.c (.row 0 0 l.length),.c (.row 1 0 g.length),.c (.row 2 0 sh.length)] ([ro 135 l,ro 46 g,ro 3 sh]) (.tup [.c (.row 3 0 (bg l g sh).1.length),I (bg l g sh).2]) ([ro 135 l,ro 46 g,ro 3 sh,ow 135 (bg l g sh).1]):=by
 refine ax tk 120 [.tmp 6,.tmp 7] Tryz.func245 (by kernel_rfl) rfl rfl rfl rfl rfl rfl rfl ?_
 by_cases hok:BalsOk l ∧ cw g ∧ sh.length ≤ 20
 rotate_left
 ·rw [zy hok]
  repeat' (first
| apply yds;rfl
| apply yd;rfl
| intro h9;exact absurd ⟨by assumption,by assumption,by omega⟩ hok
| intro _
| refine nv ?_
| apply wct rfl
| apply ai;rfl
| apply aH (α:=Bal) (e:=135);rfl
| apply ycp;rfl;(first | exact da | exact dM);rfl
| fail)
  all_goals exact ak [0,1,2,3] rfl rfl rfl rfl rfl rfl
 obtain ⟨hb,hf,hsh⟩:=id hok
 have hbl:=hb.2
 have hgl:=hf.1
 by_cases hlo:d4 g
 rotate_left
 ·rw [zz hok hlo]
  repeat' (first
| intro h9;exfalso;first | contradiction | omega
| apply yds;rfl
| apply yd;rfl
| intro _
| refine nv ?_
| apply wct rfl
| apply wcf rfl
| apply ai;rfl
| apply aH (α:=Bal) (e:=135);rfl
| apply yap;rfl;(((try simp only [lE,lM]);(try dsimp only);omega))
| apply ycp;rfl;(first | exact da | exact dM | exact nN);rfl
| fail)
  all_goals exact ak [0,1,2,4] rfl rfl rfl rfl rfl rfl
 repeat' (first
| intro h9;exfalso;first | contradiction | omega
| apply yds;rfl
| apply yd;rfl
| intro _
| refine nv ?_
| apply wcf rfl
| apply ai;rfl
| apply aH (α:=Bal) (e:=135);rfl
| apply yap;rfl;(((try simp only [lE,lM]);(try dsimp only);omega))
| apply ycp;rfl;(first | exact da | exact dM | exact nN);rfl
| fail)
 refine wlp (X:=Int × List Bal) [0,1,2] [0,1,2,4] (fun x => [(10,I x.1),(9,.c (.row 3 0 x.2.length))]) (fun x => [(3,ow 135 x.2)]) (fun x => (0 ≤ x.1 ∧ x.1 ≤ g.length) ∧ x.2 = pO l (pf g x.1) ∧ (BSd x.2 ∧ qU x.2) ∧ x.2.length ≤ l.length + x.1 ∧ ∀ j:Int,0 ≤ j → j < x.1 → lT l g j) (fun x => (g.length - x.1).toNat) (0,l) ⟨⟨by dsimp only;omega,by dsimp only;omega⟩,rfl,⟨hb.sd,hb.amt⟩,by dsimp only;omega,fun j h0 h1 => by dsimp only at h1;omega⟩ rfl rfl (fun _ => rfl) (fun _ => rfl) ⟨rfl,rfl,rfl,rfl,rfl,rfl,rfl,rfl⟩ (fun x hx => ?_)
 obtain ⟨i,xs⟩:=x
 obtain ⟨h0,hxs,⟨hsd,hamt⟩,hxl,hall⟩:=hx
 dsimp only at h0 hxs hsd hamt hxl hall ⊢
 have hba:=cP hamt (rd g i).Account (rd g i).Instr
 have hga:i < g.length → aq (rd g i).Amount:=fun h => (hf.2 _ (aA ⟨h0.1,h⟩)).2.2
 by_cases hil2:i < g.length
 ·have hga2:=hga hil2
  repeat' (first
| intro h9;exfalso;contradiction
| apply yds;rfl
| apply yd;rfl
| intro _
| refine nv ?_
| apply wct rfl
| apply wcf rfl
| apply ai;rfl
| apply yar;rfl;omega
| apply yix;rfl;omega
| apply yle;rfl;omega
| apply aH (α:=Bal) (e:=135);rfl
| apply yap;rfl;(((try simp only [lE,lM]);(try dsimp only);omega))
| refine zdq (id:=10) rfl (by kernel_rfl) [(.p,0),(.p,1),(.p,2),(.p,3),(.p,4),(.p,6),(.p,7),(.p,8),(.p,9),(.p,12),(.p,13),(.p,14),(.p,15),(.t,5),(.t,10),(.t,16),(.o,11),(.o,17),(.p,18),(.p,19),(.p,20),(.p,21),(.p,22)] [] (by kernel_rfl) rfl ?_
| refine zdq (id:=13) rfl (by kernel_rfl) [(.p,0),(.p,1),(.p,2),(.p,3),(.p,4),(.p,6),(.p,7),(.p,8),(.p,9),(.p,11),(.t,5),(.t,10),(.o,12),(.p,13)] [] (by kernel_rfl) rfl ?_
| apply yc;rfl;exact fK;rfl;exact fun _ => rfl
| apply zcs;(iterate 10 rfl);exact uQ (by assumption) (by assumption);exact fun _ => rfl;exact fun _ => rfl;rfl;rfl;rfl;rfl
| apply ycf;rfl;exact m7 (by assumption) (by omega);rfl
| fail)
  all_goals first
   | exact aB (i + 1,dL xs (rd g i).Account (rd g i).Instr (aL xs (rd g i).Account (rd g i).Instr + (rd g i).Amount)) [0,1,2,4] ⟨rfl,rfl,rfl,rfl,rfl,rfl,rfl,rfl⟩ ⟨⟨by dsimp only;omega,by dsimp only;omega⟩,by dsimp only;rw [rI ⟨h0.1,by assumption⟩,← hxs];rfl,⟨ff hsd _ _ _,pv hsd hamt (by assumption)⟩,(by dsimp only;have:=px hsd (rd g i).Account (rd g i).Instr (aL xs (rd g i).Account (rd g i).Instr + (rd g i).Amount);omega),aD hall (by unfold lT;rw [← hxs];assumption)⟩ (by first | omega | (dsimp only;omega))
   | (rw [xB hok hlo (fun k => absurd (k i h0.1 (by assumption)) (by unfold lT;rw [← hxs];assumption))]
      exact ak [0,1,2,5] rfl rfl rfl rfl rfl rfl)
 repeat' (first
| intro h9;exfalso;contradiction
| apply yds;rfl
| apply yd;rfl
| intro _
| refine nv ?_
| apply wcf rfl
| apply ah rfl
| apply ai;rfl
| fail)
 rename_i hil
 have e:xs = pO l g:=hxs.trans (by rw [b6 hil])
 have hfit:eh l g:=fun j h0 h1 => hall j h0 (by omega)
 clear hxs hba hga
 subst e
 refine wlp (X:=Int) [0,1,2,9] [0,1,2,3] (fun k => [(13,I k)]) (fun _ => []) (fun k => 0 ≤ k ∧ k ≤ g.length ∧ ∀ j:Int,0 ≤ j → j < k → ¬ (fun x:Leg => ¬ (x.Account ∈ sh) ∧ aL (pO l g) x.Account x.Instr < 0) (rd g j)) (fun k => (g.length - k).toNat) 0 ⟨by omega,by omega,fun j h0 h1 => by omega⟩ rfl rfl (fun _ => rfl) (fun _ => rfl) ⟨rfl,rfl,rfl,rfl,rfl,rfl,rfl,rfl⟩ (fun k hk => ?_)
 obtain ⟨k0,hk,hall2⟩:=hk
 repeat' (first
| apply yds;rfl
| apply yd;rfl
| intro _
| refine nv ?_
| apply wct rfl
| apply wcf rfl
| apply ah rfl
| apply ai;rfl
| apply yar;rfl;omega
| apply yix;rfl;omega
| apply yle;rfl;omega
| apply aH (α:=Bal) (e:=135);rfl
| apply yap;rfl;(((try simp only [lE,lM]);(try dsimp only);omega))
| refine zdq (id:=17) rfl (by kernel_rfl) [(.p,0),(.p,1),(.p,2),(.p,3),(.p,4),(.p,6),(.p,7),(.p,8),(.p,9),(.t,5),(.t,10),(.o,11),(.p,12),(.p,13),(.p,14),(.p,15),(.p,16),(.p,17),(.p,18),(.t,19),(.o,20),(.p,21),(.p,22)] [] (by kernel_rfl) rfl ?_
| apply ycp;rfl;exact pI;rfl
| apply yc;rfl;exact fK;rfl;exact fun _ => rfl
| fail)
 all_goals first
  | (rw [xA hok hlo hfit ⟨rd g k,aA ⟨k0,by assumption⟩,by assumption,by assumption⟩]
     exact ak [0,1,2,5] rfl rfl rfl rfl rfl rfl)
  | exact aB (k + 1) [0,1,2,3] ⟨rfl,rfl,rfl,rfl,rfl,rfl,rfl,rfl⟩ ⟨by omega,by omega,aD hall2 (fun e => by first | exact e.1 (by assumption) | exact absurd e.2 (by assumption))⟩ (by first | omega | (dsimp only;omega))
  | (have hno:=iw (q:=fun x:Leg => ¬ (x.Account ∈ sh) ∧ aL (pO l g) x.Account x.Instr < 0) (by assumption) hall2
     first
     | (rw [xC hok hlo hfit hno (by omega)]
        exact ak [0,1,2,5] rfl rfl rfl rfl rfl rfl)
     | (rw [xz hok hlo hfit hno (by omega)]
        exact ak [0,1,2,3] rfl rfl rfl rfl rfl rfl))
end
section
open Go.RowKit
noncomputable def cX (n:Int):Int:=pick (n = 0) 0 (pick (n = 3) 5 (pick (n = 4) 8 (pick (n = 5) 7 1)))
theorem qc {n:Int}:FC Tryz.prog 224 [I n] ([]) (I (cX n)) ([]):=by
 refine ax tk 12 [.tmp 2] Tryz.func224 (by kernel_rfl) rfl rfl rfl rfl rfl rfl rfl ?_
 repeat' (first
| apply yd;rfl
| intro _
| refine nv ?_
| apply wct rfl
| apply wcf rfl
| apply yeq;rfl
| fail)
 all_goals first
  | exact du [] rfl rfl rfl rfl rfl rfl (by rw [cX,aK (by assumption)])
  | exact du [] rfl rfl rfl rfl rfl rfl (by rw [cX,aC (by assumption),aK (by assumption)])
  | exact du [] rfl rfl rfl rfl rfl rfl (by rw [cX,aC (by assumption),aC (by assumption),aK (by assumption)])
  | exact du [] rfl rfl rfl rfl rfl rfl (by rw [cX,aC (by assumption),aC (by assumption),aC (by assumption),aK (by assumption)])
  | exact du [] rfl rfl rfl rfl rfl rfl (by rw [cX,aC (by assumption),aC (by assumption),aC (by assumption),aC (by assumption)])
noncomputable def shA (ba:List Account):List Int:=(flt (fun a => ¬ a.Kind = 1) ba).map Account.No
theorem rP (ba:List Account):(shA ba).length ≤ ba.length:=by
 unfold shA
 rw [List.length_map]
 exact cV _ _
theorem B2 {ba:List Account} {i:Int} (h:0 ≤ i ∧ i < ba.length) (k:¬ (rd ba i).Kind = 1):shA (pf ba (i + 1)) = shA (pf ba i) ++ [(rd ba i).No]:=by
 unfold shA
 rw [bz h,dN (p:=fun a:Account => ¬ a.Kind = 1) k,List.map_append]
 rfl
theorem B1 {ba:List Account} {i:Int} (h:0 ≤ i ∧ i < ba.length) (k:(rd ba i).Kind = 1):shA (pf ba (i + 1)) = shA (pf ba i):=by
 unfold shA
 rw [bz h,dm (p:=fun a:Account => ¬ a.Kind = 1) (fun q => q k),List.append_nil]
theorem rX {ba:List Account} {bi:List Instr} {bb:List Bal} {bl:List Lot} {bt:List Trade} {bn:Int} (hl:ba.length ≤ 1000000):FC Tryz.prog 246 [bkV 0 ⟨ba,bi,bb,bl,bt,bn⟩] (bkR ⟨ba,bi,bb,bl,bt,bn⟩) (.c (.row 5 0 (shA ba).length)) (bkR ⟨ba,bi,bb,bl,bt,bn⟩ ++ [ow 3 (shA ba)]):=by
 refine ax tk 30 [.tmp 2] Tryz.func246 (by kernel_rfl) rfl rfl rfl rfl rfl rfl rfl ?_
 repeat' (first
| apply yds;rfl
| apply yd;rfl
| refine nv ?_
| apply aH (α:=Int) (e:=3);rfl
| fail)
 refine wlp (X:=Int × List Int) [1] [0,1,2,3,4,5,6] (fun x => [(4,I x.1),(3,.c (.row 6 0 x.2.length))]) (fun x => [(6,ow 3 x.2)]) (fun x => (0 ≤ x.1 ∧ x.1 ≤ ba.length) ∧ x.2 = shA (pf ba x.1)) (fun x => (ba.length - x.1).toNat) (0,[]) ⟨⟨by dsimp only;omega,by dsimp only;omega⟩,rfl⟩ rfl rfl (fun _ => rfl) (fun _ => rfl) ⟨rfl,rfl,rfl,rfl,rfl,rfl,rfl,rfl⟩ (fun x hx => ?_)
 obtain ⟨i,u⟩:=x
 obtain ⟨h0,hu⟩:=hx
 dsimp only at h0 hu ⊢
 have hul:u.length ≤ 1000000:=by rw [hu];have:=rP (pf ba i);have:=bS h0;omega
 repeat' (first
| apply yds;rfl
| apply yd;rfl
| intro _
| refine nv ?_
| apply wct rfl
| apply wcf rfl
| apply ah rfl
| apply ai;rfl
| apply yne;rfl
| apply yar;rfl;omega
| apply yix;rfl;omega
| apply yle;rfl;omega
| apply aH (α:=Int) (e:=3);rfl
| apply yap;rfl;(((try simp only [lE,lM]);(try dsimp only);omega))
| fail)
 all_goals first
  | exact aB (i + 1,u ++ [(rd ba i).No]) [0,1,2,3,4,5,8] ⟨rfl,rfl,rfl,rfl,rfl,rfl,rfl,rfl⟩ ⟨⟨by dsimp only;omega,by dsimp only;omega⟩,by dsimp only;rw [B2 ⟨h0.1,by assumption⟩ (by assumption),hu]⟩ (by first | omega | (dsimp only;omega))
  | exact aB (i + 1,u) [0,1,2,3,4,5,6] ⟨rfl,rfl,rfl,rfl,rfl,rfl,rfl,rfl⟩ ⟨⟨by dsimp only;omega,by dsimp only;omega⟩,by dsimp only;rw [B1 ⟨h0.1,by assumption⟩ (by assumption),hu]⟩ (by first | omega | (dsimp only;omega))
  | (rw [show shA ba = u from by rw [hu,b6 (by assumption)]]
     exact ak [0,1,2,3,4,6] rfl rfl rfl rfl rfl rfl)
end
section
open Go.RowKit
noncomputable def poR (b:Books) (g:List Leg):List Bal × Int:=bg b.Bals g (shA b.Accounts)
theorem dX {b:Books} {g:List Leg} (hb:BooksOk b) (hg:d4 g):(poR b g).2 = 0 ∨ (poR b g).2 = 3 ∨ (poR b g).2 = 4 ∨ (poR b g).2 = 5:=by
 have h:BalsOk b.Bals ∧ cw g ∧ (shA b.Accounts).length ≤ 20:=⟨hb.bals,hg.1,by have:=rP b.Accounts;have:=hb.acc.2;omega⟩
 unfold poR
 by_cases h3:eh b.Bals g
 ·by_cases h4:iy (pO b.Bals g) g (shA b.Accounts)
  ·rw [xA h hg h3 h4];simp
  ·by_cases h5:160 < (pO b.Bals g).length
   ·rw [xC h hg h3 h4 h5];simp
   ·rw [xz h hg h3 h4 h5];simp
 ·rw [xB h hg h3];simp
def bkX (n:Nat):Books → Option AO
 | ⟨a,i,b,l,t,x⟩ => some ⟨true,30,6,.mx [.row n 0 a.length,.row (n + 1) 0 i.length,.row (n + 2) 0 b.length,.row (n + 3) 0 l.length,.row (n + 4) 0 t.length,.sc (.int .i64 x)]⟩
section
variable {P:Program} {T:TB} {ops:Array Oper} {Q:Exit → St → Prop} {h1:AH} {k:Sk} {ks ks':List Sk} {l:List Oper} {N0 k0 d0:Nat} {e0:List (Nat × AV)} {h0:AH} {ty:TypeId} {pos:String} {af:Array Edge} {g:Option (Nat × Bool)}
theorem jd {fo:Operand} {ars:Array Operand} {ts:Array TypeId} {f:FuncId} {caps:List (Nat × Nat × Nat)} {vals args:List AV} {hs hs2 hs3 hv h2' h3':AH} {p:Prop} {X Y X' Y':AV} {m:List Nat} (fl:List Bool) (hs0:stK ks = (Sk.l,ks')) (hf:ev e0 fo = some (.c (.fn f caps))) (hev:evs e0 ars.toList = some vals) (hm:fL (jK h0 (vals ++ caps.map bK)) = some m) (hca:jX m (vals ++ caps.map bK) = some args) (hch:jY fl m h0 = some hs) (hvw:fH (vwH m hs h0) = some hv)
  (hargs:args.map (AV.ren (mf m h0.length)) = vals ++ caps.map bK) (hp:cx (mf m h0.length) hs = cm hs (bP m hv)) (hb:dr hs m h0.length = true) (hc:FC P f args hs (sel p X Y) (sel p hs2 hs3))
  (hX':fV (X.ren (mf m h0.length)) = some X') (hh:fH (dj (mf m h0.length) m hs hs2 hv) = some h2') (hY':fV (Y.ren (mf m h0.length)) = some Y') (hh3:fH (dj (mf m h0.length) m hs hs3 hv) = some h3') (hg:gd ops ⟨some d0,.call { callee:=.value fo,args:=ars,argTypes:=ts },ty,pos,af,g⟩ e0 = some true) (hd:Nat.blt d0 N0 = true)
  (ht:p → ZZ P ops Q h1 ks' l ⟨N0,k0,(d0,X') :: e0,h2'⟩) (hf':¬ p → ZZ P ops Q h1 ks' l ⟨N0,k0,(d0,Y') :: e0,h3'⟩):ZZ P ops Q h1 ks (⟨some d0,.call { callee:=.value fo,args:=ars,argTypes:=ts },ty,pos,af,g⟩ :: l) ⟨N0,k0,e0,h0⟩:=by
 by_cases hp0:p
 ·rw [au hp0,au hp0] at hc
  exact zcw fl hs0 hf hev hm hca hch hvw hargs hp hb hc hX' hh hg hd (ht hp0)
 ·rw [ab hp0,ab hp0] at hc
  exact zcw fl hs0 hf hev hm hca hch hvw hargs hp hb hc hY' hh3 hg hd (hf' hp0)
end
theorem ix (n:Int):n = 0 ∨ cX n ≠ 0:=by
 by_cases h:n = 0
 ·exact .inl h
 ·right
  unfold cX
  rw [aC h]
  by_cases h3:n = 3
  ·rw [aK h3];decide
  ·rw [aC h3]
   by_cases h4:n = 4
   ·rw [aK h4];decide
   ·rw [aC h4]
    by_cases h5:n = 5
    ·rw [aK h5];decide
    ·rw [aC h5];decide
noncomputable def iA (n:Int):Int:=pick (n = 0) 0 (pick (n = 3) 5 (pick (n = 4) 8 7))
theorem lp (n:Int):n = 0 ∨ iA n ≠ 0:=by
 by_cases h:n = 0
 ·exact .inl h
 ·right
  unfold iA
  rw [aC h]
  by_cases h3:n = 3
  ·rw [aK h3];decide
  ·rw [aC h3]
   by_cases h4:n = 4
   ·rw [aK h4];decide
   ·rw [aC h4];decide
theorem nM {n:Int} (h:n = 0 ∨ n = 3 ∨ n = 4 ∨ n = 5):iA n = cX n:=by
 rcases h with rfl | rfl | rfl | rfl
 ·rw [iA,aK rfl,cX,aK rfl]
 ·rw [iA,aC (by decide),aK rfl,cX,aC (by decide),aK rfl]
 ·rw [iA,aC (by decide),aC (by decide),aK rfl,cX,aC (by decide),aC (by decide),aK rfl]
 ·rw [iA,aC (by decide),aC (by decide),aC (by decide),cX,aC (by decide),aC (by decide),aC (by decide),aK rfl]
noncomputable abbrev pN (ba:List Account) (bb:List Bal) (g:List Leg):Int:=(bg bb g (shA ba)).2
noncomputable abbrev pL (ba:List Account) (bb:List Bal) (g:List Leg):List Bal:=(bg bb g (shA ba)).1
theorem ef {ba:List Account} {bi:List Instr} {bb:List Bal} {bl:List Lot} {bt:List Trade} {bn:Int} {g:List Leg} (hl:ba.length ≤ 1000000):FC Tryz.prog 111 [.c (.ptr 0 0 0),.c (.row 1 0 g.length)] ([bkX 2 ⟨ba,bi,bb,bl,bt,bn⟩,ow 46 g] ++ bkO ⟨ba,bi,bb,bl,bt,bn⟩) (sel (pN ba bb g = 0) (I 0) (I (cX (pN ba bb g)))) (sel (pN ba bb g = 0) ([some ⟨true,30,6,.mx [.row 2 0 ba.length,.row 3 0 bi.length,.row 7 0 (pL ba bb g).length,.row 5 0 bl.length,.row 6 0 bt.length,.sc (.int .i64 bn)]⟩,ow 46 g] ++ bkO ⟨ba,bi,bb,bl,bt,bn⟩ ++ [ow 135 (pL ba bb g)]) ([bkX 2 ⟨ba,bi,bb,bl,bt,bn⟩,ow 46 g] ++ bkO ⟨ba,bi,bb,bl,bt,bn⟩)):=by
 refine ax tk 47 [.tmp 4] Tryz.func111 (by kernel_rfl) rfl rfl rfl rfl rfl rfl rfl ?_
 repeat' (first
| apply yds;rfl
| apply yd;rfl
| refine nv ?_
| apply aH (α:=Int) (e:=3);rfl
| fail)
 refine wlp (X:=Int × List Int) [0,1,14,15] [0,1,2,3,4,5,6,7] (fun x => [(16,I x.1),(5,.c (.row 7 0 x.2.length))]) (fun x => [(7,ow 3 x.2)]) (fun x => (0 ≤ x.1 ∧ x.1 ≤ ba.length) ∧ x.2 = shA (pf ba x.1)) (fun x => (ba.length - x.1).toNat) (0,[]) ⟨⟨by dsimp only;omega,by dsimp only;omega⟩,rfl⟩ rfl rfl (fun _ => rfl) (fun _ => rfl) ⟨rfl,rfl,rfl,rfl,rfl,rfl,rfl,rfl⟩ (fun x hx => ?_)
 obtain ⟨i,u⟩:=x
 obtain ⟨h0,hu⟩:=hx
 dsimp only at h0 hu ⊢
 have hul:u.length ≤ 1000000:=by rw [hu];have:=rP (pf ba i);have:=bS h0;omega
 by_cases hi:i < ba.length
 ·
  repeat' (first
| intro h9;exfalso;contradiction
| apply yds;rfl
| apply yd;rfl
| intro _
| refine nv ?_
| apply wct rfl
| apply wcf rfl
| apply ai;rfl
| apply yne;rfl
| apply yar;rfl;omega
| apply yix;rfl;omega
| apply yle;rfl;omega
| apply aH (α:=Int) (e:=3);rfl
| apply yap;rfl;(((try simp only [lE,lM]);(try dsimp only);omega))
| fail)
  all_goals first
   | exact aB (i + 1,u ++ [(rd ba i).No]) [0,1,2,3,4,5,6,10] ⟨rfl,rfl,rfl,rfl,rfl,rfl,rfl,rfl⟩ ⟨⟨by dsimp only;omega,by dsimp only;omega⟩,by dsimp only;rw [B2 ⟨h0.1,by assumption⟩ (by assumption),hu]⟩ (by first | omega | (dsimp only;omega))
   | exact aB (i + 1,u) [0,1,2,3,4,5,6,7] ⟨rfl,rfl,rfl,rfl,rfl,rfl,rfl,rfl⟩ ⟨⟨by dsimp only;omega,by dsimp only;omega⟩,by dsimp only;rw [B1 ⟨h0.1,by assumption⟩ (by assumption),hu]⟩ (by first | omega | (dsimp only;omega))
 ·have hu2:u = shA ba:=by rw [hu,b6 hi]
  subst hu2
  repeat' (first
| intro h9;exfalso;contradiction
| apply yds;rfl
| apply yd;rfl
| intro _
| refine nv ?_
| apply wct rfl
| apply wcf rfl
| apply ah rfl
| apply ai;rfl
| apply ycf;rfl;exact pW;rfl
| apply yc;rfl;exact qc;rfl;exact fun _ => rfl
| fail)
  ·rename_i hp
   refine dP (X':=I (cX (pN ba bb g))) (hs':=[some ⟨true,30,6,.mx [.row 2 0 ba.length,.row 3 0 bi.length,.row 7 0 (pL ba bb g).length,.row 5 0 bl.length,.row 6 0 bt.length,.sc (.int .i64 bn)]⟩,ow 46 g] ++ bkO ⟨ba,bi,bb,bl,bt,bn⟩ ++ [ow 135 (pL ba bb g)]) [0,1,2,3,4,5,6,8] rfl rfl rfl rfl rfl rfl ?_ ?_
   ·rw [au hp,cX,aK hp]
   ·rw [au hp]
  ·rename_i hp
   exact bQ hp [0,1,2,3,4,5,6] rfl rfl rfl rfl rfl rfl
theorem db {ba:List Account} {bi:List Instr} {bb:List Bal} {bl:List Lot} {bt:List Trade} {bn:Int} {g:List Leg} (hl:ba.length ≤ 1000000):FC Tryz.prog 136 [bkV 0 ⟨ba,bi,bb,bl,bt,bn⟩,.c (.row 5 0 g.length)] (bkO ⟨ba,bi,bb,bl,bt,bn⟩ ++ [ro 46 g]) (sel (pN ba bb g = 0) (.tup [.agg [.row 0 0 ba.length,.row 1 0 bi.length,.row 6 0 (pL ba bb g).length,.row 3 0 bl.length,.row 4 0 bt.length,.sc (.int .i64 bn)],I 0]) (.tup [bkV 0 ⟨ba,bi,bb,bl,bt,bn⟩,I (iA (pN ba bb g))])) (sel (pN ba bb g = 0) (bkO ⟨ba,bi,bb,bl,bt,bn⟩ ++ [ro 46 g,ow 135 (pL ba bb g)]) (bkO ⟨ba,bi,bb,bl,bt,bn⟩ ++ [ro 46 g])):=by
 refine ax tk 30 [.cell 4 _,.tmp 5] Tryz.func136 (by kernel_rfl) rfl rfl rfl rfl rfl rfl rfl ?_
 repeat' (first
| apply yds;rfl
| apply yd;rfl
| intro _
| refine nv ?_
| apply wct rfl
| apply wcf rfl
| apply yeq;rfl
| refine zdq (id:=1) rfl (by kernel_rfl) [(.p,0),(.p,2),(.t,1),(.t,3),(.o,4),(.o,5),(.p,6),(.p,7),(.p,8),(.p,9),(.p,10)] [] (by kernel_rfl) rfl ?_
| apply ycf;rfl;(first | exact rX (by omega) | exact ql);rfl
| fail)
 all_goals first
  | exact iH (by assumption) [0,1,2,3,4,5,9] rfl rfl rfl rfl rfl rfl
  | (have hp:¬ pN ba bb g = 0:=by assumption
     first
     | (rw [show iA (pN ba bb g) = 5 from by rw [iA,aC hp,aK (by assumption)]]
        exact bQ hp [0,1,2,3,4,5] rfl rfl rfl rfl rfl rfl)
     | (rw [show iA (pN ba bb g) = 8 from by rw [iA,aC hp,aC (by assumption),aK (by assumption)]]
        exact bQ hp [0,1,2,3,4,5] rfl rfl rfl rfl rfl rfl)
     | (rw [show iA (pN ba bb g) = 7 from by rw [iA,aC hp,aC (by assumption),aC (by assumption)]]
        exact bQ hp [0,1,2,3,4,5] rfl rfl rfl rfl rfl rfl))
end
section
open Go.RowKit
theorem ay {β:Type} {P:β → Prop} {p:Prop} {a b:β} (h1:p → P a) (h2:¬ p → P b):P (sel p a b):=by
 by_cases h:p
 ·rw [au h];exact h1 h
 ·rw [ab h];exact h2 h
def aW (b:Books):Prop:=MidL b.Accounts.length b.Instrs.length b.Bals.length b.Lots.length b.Trades.length
theorem lS:aW ⟨[],[],[],[],[],0⟩:=⟨by simp,by simp,by simp,by simp,by simp⟩
theorem tt {l:List Bal} {g:List Leg} {sh:List Int} (h:(bg l g sh).2 = 0):(bg l g sh).1.length ≤ 160:=by
 by_cases h1:BalsOk l ∧ cw g ∧ sh.length ≤ 20
 rotate_left
 ·rw [zy h1] at h;exact absurd (show (1:Int) = 0 from h) (by decide)
 by_cases h2:d4 g
 rotate_left
 ·rw [zz h1 h2] at h;exact absurd (show (2:Int) = 0 from h) (by decide)
 by_cases h3:eh l g
 rotate_left
 ·rw [xB h1 h2 h3] at h;exact absurd (show (4:Int) = 0 from h) (by decide)
 by_cases h4:iy (pO l g) g sh
 ·rw [xA h1 h2 h3 h4] at h;exact absurd (show (3:Int) = 0 from h) (by decide)
 by_cases h5:160 < (pO l g).length
 ·rw [xC h1 h2 h3 h4 h5] at h;exact absurd (show (5:Int) = 0 from h) (by decide)
 ·rw [xz h1 h2 h3 h4 h5];exact Nat.le_of_not_lt h5
theorem Small.post {b:Books} (s:Small b) {g:List Leg} (h:(poR b g).2 = 0) {n:Int}:aW ⟨b.Accounts,b.Instrs,(poR b g).1,b.Lots,b.Trades,n⟩:=by
 have m:=s.mid
 have:=tt h
 exact ⟨m.a1,m.a2,by show (bg b.Bals g (shA b.Accounts)).1.length ≤ 4294967296;omega,m.a4,m.a5⟩
end
end Go.Proofs.YtgehbhkfehmdkaaGreat.Sh
