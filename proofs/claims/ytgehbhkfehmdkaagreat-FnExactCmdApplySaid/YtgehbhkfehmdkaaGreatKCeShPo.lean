/- Legs are posted: both sides. No condition. -/
import Derived.Test.YtgehbhkfehmdkaaGreatKCeShV
import Derived.Test.YtgehbhkfehmdkaaGreatKCeShBp
import Derived.Test.YtgehbhkfehmdkaaGreatKCeShTr
set_option maxRecDepth 100000
set_option maxHeartbeats 40000000
set_option linter.unusedSimpArgs false
set_option linter.unusedVariables false
namespace Go.Proofs.YtgehbhkfehmdkaaGreat.Sh
section
open Go.RowKit
theorem lX {l:List Int} {x:Int}:FC Tryz.prog 232 [.c (.row 0 0 l.length),I x] ([ro 3 l]) (sel (x ∈ l) (I (fIx l (fun y => x = y))) (I (-1))) (sel (x ∈ l) [ro 3 l] [ro 3 l]):=by
 refine al tk 19 [.tmp 4] Tryz.func232 (by kernel_rfl) rfl rfl rfl rfl rfl rfl rfl ?_
 refine cj l 0 rfl (fun hl => ?_)
 repeat' (first
| apply yds;rfl
| apply yd;rfl
| refine nv ?_
| fail)
 refine wlp (X:=Int) [0,1,7] [0] (fun i => [(8,I i)]) (fun _ => []) (fun i => 0 ≤ i ∧ i ≤ l.length ∧ ∀ j:Int,0 ≤ j → j < i → ¬ (fun y => x = y) (rd l j)) (fun i => (l.length - i).toNat) 0 ⟨by omega,by omega,fun j h0 h1 => by omega⟩ rfl rfl (fun _ => rfl) (fun _ => rfl) ⟨rfl,rfl,rfl,rfl,rfl,rfl,rfl,rfl⟩ (fun i hi => ?_)
 obtain ⟨h0,hi,hall⟩:=hi
 repeat' (first
| apply yds;rfl
| apply yd;rfl
| intro _
| refine nv ?_
| apply wct rfl
| apply wcf rfl
| apply ae rfl
| apply ag;rfl
| apply yar;rfl;omega
| apply yix;rfl;omega
| apply yle;rfl;omega
| fail)
 all_goals first
  | (rename_i h1 h2
     have hm:x ∈ l:=h2 ▸ ax ⟨h0,h1⟩
     refine cy (X':=I i) (hs':=[ro 3 l]) [0] rfl rfl rfl rfl rfl rfl ?_ ?_
     ·rw [ap hm,dZ ⟨h0,h1⟩ hall h2]
     ·rw [ap hm])
  | exact bS (fun hm => eS (q:=fun y => x = y) (by assumption) hall ⟨x,hm,rfl⟩) [0] rfl rfl rfl rfl rfl rfl
  | exact aA (i + 1) [0] ⟨rfl,rfl,rfl,rfl,rfl,rfl,rfl,rfl⟩ ⟨by omega,by omega,ay hall (by assumption)⟩ (by first | omega | (dsimp only;omega))
theorem fi {l:List Int} {x:Int}:FC Tryz.prog 120 [.c (.row 0 0 l.length),I x] ([ro 3 l]) (B (dB (x ∈ l))) ([ro 3 l]):=by
 refine al tk 9 [.tmp 4] Tryz.func120 (by kernel_rfl) rfl rfl rfl rfl rfl rfl rfl ?_
 have hn:=bW l (fun y => x = y)
 repeat' (first
| intro h9;exfalso;first | contradiction | omega
| apply yds;rfl
| apply yd;rfl
| intro _
| refine nv ?_
| apply ag;rfl
| apply zcs;(iterate 10 rfl);exact lX;exact fun _ => rfl;exact fun _ => rfl;rfl;rfl;rfl;rfl
| fail)
 all_goals first
  | exact bp [0] rfl rfl rfl rfl rfl rfl (by assumption)
  | exact aQ [0] rfl rfl rfl rfl rfl rfl (by assumption)
  | (exfalso;omega)
theorem oF {l:List Int} {x:Int}:FC Tryz.prog 167 [.c (.row 0 0 l.length),I x] ([ro 3 l]) (B (dB (x ∈ l))) ([ro 3 l]):=by
 refine al tk 18 [.tmp 4] Tryz.func167 (by kernel_rfl) rfl rfl rfl rfl rfl rfl rfl ?_
 refine cj l 0 rfl (fun hl => ?_)
 repeat' (first
| apply yd;rfl
| refine nv ?_
| fail)
 refine wlp (X:=Int) [0,1] [0] (fun i => [(5,I i)]) (fun _ => []) (fun i => 0 ≤ i ∧ i ≤ l.length ∧ ∀ j:Int,0 ≤ j → j < i → ¬ (fun y => y = x) (rd l j)) (fun i => (l.length - i).toNat) 0 ⟨by omega,by omega,fun j h0 h1 => by omega⟩ rfl rfl (fun _ => rfl) (fun _ => rfl) ⟨rfl,rfl,rfl,rfl,rfl,rfl,rfl,rfl⟩ (fun i hi => ?_)
 obtain ⟨h0,hi,hall⟩:=hi
 repeat' (first
| apply yds;rfl
| apply yd;rfl
| intro _
| refine nv ?_
| apply wct rfl
| apply wcf rfl
| apply ae rfl
| apply ag;rfl
| apply yar;rfl;omega
| apply yix;rfl;omega
| apply yle;rfl;omega
| fail)
 all_goals first
  | (rename_i h1 h2
     exact bp [0] rfl rfl rfl rfl rfl rfl (h2 ▸ ax ⟨h0,h1⟩))
  | exact aQ [0] rfl rfl rfl rfl rfl rfl (fun hm => eS (q:=fun y => y = x) (by assumption) hall ⟨x,hm,rfl⟩)
  | exact aA (i + 1) [0] ⟨rfl,rfl,rfl,rfl,rfl,rfl,rfl,rfl⟩ ⟨by omega,by omega,ay hall (by assumption)⟩ (by first | omega | (dsimp only;omega))
def ky (l:List Bal) (g:List Leg) (i:Int):Prop:=ak (aW (pO l (pf g i)) (rd g i).Account (rd g i).Instr + (rd g i).Amount)
def fx (l:List Bal) (g:List Leg):Prop:=∀ i:Int,0 ≤ i → i < g.length → ky l g i
def jN (o:List Bal) (g:List Leg) (sh:List Int):Prop:=∃ x ∈ g,¬ (x.Account ∈ sh) ∧ aW o x.Account x.Instr < 0
noncomputable def br (l:List Bal) (g:List Leg) (sh:List Int):List Bal × Int :=
 sel (¬ (BalsOk l ∧ cP g ∧ sh.length ≤ 20)) ([],1) (sel (¬ dj g) (l,2) (sel (¬ fx l g) (l,4) (sel (jN (pO l g) g sh) (l,3) (sel (160 < (pO l g).length) (l,5) (pO l g,0)))))
section
variable {l:List Bal} {g:List Leg} {sh:List Int}
theorem AP (h:¬ (BalsOk l ∧ cP g ∧ sh.length ≤ 20)):br l g sh = ([],1):=by rw [br,ap h]
theorem AQ (h:BalsOk l ∧ cP g ∧ sh.length ≤ 20) (h2:¬ dj g):br l g sh = (l,2):=by rw [br,a8 (fun k => k h),ap h2]
theorem z3 (h:BalsOk l ∧ cP g ∧ sh.length ≤ 20) (h2:dj g) (h3:¬ fx l g):br l g sh = (l,4):=by rw [br,a8 (fun k => k h),a8 (fun k => k h2),ap h3]
theorem z0 (h:BalsOk l ∧ cP g ∧ sh.length ≤ 20) (h2:dj g) (h3:fx l g) (h4:jN (pO l g) g sh):br l g sh = (l,3):=by rw [br,a8 (fun k => k h),a8 (fun k => k h2),a8 (fun k => k h3),ap h4]
theorem z4 (h:BalsOk l ∧ cP g ∧ sh.length ≤ 20) (h2:dj g) (h3:fx l g) (h4:¬ jN (pO l g) g sh) (h5:160 < (pO l g).length):br l g sh = (l,5):=by rw [br,a8 (fun k => k h),a8 (fun k => k h2),a8 (fun k => k h3),a8 h4,ap h5]
theorem yZ (h:BalsOk l ∧ cP g ∧ sh.length ≤ 20) (h2:dj g) (h3:fx l g) (h4:¬ jN (pO l g) g sh) (h5:¬ 160 < (pO l g).length):br l g sh = (pO l g,0):=by rw [br,a8 (fun k => k h),a8 (fun k => k h2),a8 (fun k => k h3),a8 h4,a8 h5]
end
theorem oP {l:List Bal} {g:List Leg} {sh:List Int}:FC Tryz.prog 24 [.c (.row 0 0 l.length),.c (.row 1 0 g.length),.c (.row 2 0 sh.length)] ([ro 135 l,ro 46 g,ro 3 sh]) (.tup [.c (.row 3 0 (br l g sh).1.length),I (br l g sh).2]) ([ro 135 l,ro 46 g,ro 3 sh,ow 135 (br l g sh).1]):=by
 refine al tk 90 [.tmp 6,.tmp 7] Tryz.func24 (by kernel_rfl) rfl rfl rfl rfl rfl rfl rfl ?_
 by_cases hok:BalsOk l ∧ cP g ∧ sh.length ≤ 20
 rotate_left
 ·rw [AP hok]
  repeat' (first
| intro h9;exact absurd ⟨by assumption,by assumption,by omega⟩ hok
| apply d5 (d:=6) 135 3;rfl;rfl;rfl
| apply yd;rfl
| intro _
| refine nv ?_
| apply wct rfl
| apply ag;rfl
| apply ycp;rfl;(first | exact gp | exact eJ);rfl
| fail)
  all_goals exact ai [0,1,2,4] rfl rfl rfl rfl rfl rfl
 obtain ⟨hb,hf,hsh⟩:=id hok
 by_cases hlo:dj g
 rotate_left
 ·rw [AQ hok hlo]
  have hbl:=hb.2
  repeat' (first
| intro h9;exfalso;first | contradiction | omega
| apply yds;rfl
| apply yd;rfl
| intro _
| refine nv ?_
| apply wct rfl
| apply wcf rfl
| apply ag;rfl
| apply ycp;rfl;(first | exact gp | exact eJ | exact mn);rfl
| apply ycf;rfl;(exact bX (by omega));rfl
| fail)
  all_goals exact ai [0,1,2,3] rfl rfl rfl rfl rfl rfl
 have hbl:=hb.2
 have hgl:=hf.1
 repeat' (first
| intro h9;exfalso;first | contradiction | omega
| apply yds;rfl
| apply yd;rfl
| intro _
| refine nv ?_
| apply wcf rfl
| apply ag;rfl
| apply ycp;rfl;(first | exact gp | exact eJ | exact mn);rfl
| apply ycf;rfl;(exact bX (by omega));rfl
| fail)
 refine wlp (X:=Int × List Bal) [1,2,8,36,37] [0,1,2,3,4] (fun x => [(38,I x.1),(9,.c (.row 4 0 x.2.length))]) (fun x => [(4,ow 135 x.2)]) (fun x => (0 ≤ x.1 ∧ x.1 ≤ g.length) ∧ x.2 = pO l (pf g x.1) ∧ (BSd x.2 ∧ vB x.2) ∧ x.2.length ≤ l.length + x.1 ∧ ∀ j:Int,0 ≤ j → j < x.1 → ky l g j) (fun x => (g.length - x.1).toNat) (0,l) ⟨⟨by dsimp only;omega,by dsimp only;omega⟩,rfl,⟨hb.sd,hb.amt⟩,by dsimp only;omega,fun j h0 h1 => by dsimp only at h1;omega⟩ rfl rfl (fun _ => rfl) (fun _ => rfl) ⟨rfl,rfl,rfl,rfl,rfl,rfl,rfl,rfl⟩ (fun x hx => ?_)
 obtain ⟨i,xs⟩:=x
 obtain ⟨h0,hxs,⟨hsd,hamt⟩,hxl,hall⟩:=hx
 dsimp only at h0 hxs hsd hamt hxl hall ⊢
 have hba:=pq hamt (rd g i).Account (rd g i).Instr
 have hga:i < g.length → ak (rd g i).Amount:=fun h => (hf.2 _ (ax ⟨h0.1,h⟩)).2.2
 unfold ak inP at hba hga
 repeat' (first
| apply yds;rfl
| apply yd;rfl
| apply yar;rfl;(have h1:=hga (by assumption);omega)
| intro _
| refine nv ?_
| apply wct rfl
| apply wcf rfl
| apply ae rfl
| apply ag;rfl
| apply yix;rfl;omega
| apply yle;rfl;omega
| refine zdq (id:=10) rfl (by kernel_rfl) [(.p,0),(.p,1),(.p,3),(.p,6),(.t,2),(.t,4),(.t,7),(.o,5),(.p,8),(.p,9)] [] (by kernel_rfl) rfl ?_
| apply ycp;rfl;exact cI;rfl
| apply ycf;rfl;(exact qN (by assumption) (by omega));rfl
| apply yc;rfl;exact kr (by assumption);rfl;exact fun _ => rfl
| fail)
 all_goals first
  | exact aA (i + 1,eo xs (rd g i).Account (rd g i).Instr (aW xs (rd g i).Account (rd g i).Instr + (rd g i).Amount)) [0,1,2,3,6] ⟨rfl,rfl,rfl,rfl,rfl,rfl,rfl,rfl⟩ ⟨⟨by dsimp only;omega,by dsimp only;omega⟩,by dsimp only;rw [v6 ⟨h0.1,by assumption⟩,← hxs];rfl,⟨gx hsd _ _ _,t4 hsd hamt (by assumption)⟩,(by dsimp only;have:=oc hsd (rd g i).Account (rd g i).Instr (aW xs (rd g i).Account (rd g i).Instr + (rd g i).Amount);omega),ay hall (by unfold ky;rw [← hxs];assumption)⟩ (by first | omega | (dsimp only;omega))
  | (rw [z3 hok hlo (fun k => absurd (k i h0.1 (by assumption)) (by unfold ky;rw [← hxs];assumption))]
     exact ai [0,1,2,3] rfl rfl rfl rfl rfl rfl)
  | skip
 rename_i hil
 have e:xs = pO l g:=hxs.trans (by rw [aY hil])
 have hfit:fx l g:=fun j h0 h1 => hall j h0 (by omega)
 clear hxs hba hga
 subst e
 refine wlp (X:=Int) [2,8,9,63,64] [0,1,2,3,4] (fun k => [(65,I k)]) (fun _ => []) (fun k => 0 ≤ k ∧ k ≤ g.length ∧ ∀ j:Int,0 ≤ j → j < k → ¬ (fun x:Leg => ¬ (x.Account ∈ sh) ∧ aW (pO l g) x.Account x.Instr < 0) (rd g j)) (fun k => (g.length - k).toNat) 0 ⟨by omega,by omega,fun j h0 h1 => by omega⟩ rfl rfl (fun _ => rfl) (fun _ => rfl) ⟨rfl,rfl,rfl,rfl,rfl,rfl,rfl,rfl⟩ (fun k hk => ?_)
 obtain ⟨k0,hk,hall2⟩:=hk
 repeat' (first
| apply yds;rfl
| apply yd;rfl
| intro _
| refine nv ?_
| apply wct rfl
| apply wcf rfl
| apply ae rfl
| apply ag;rfl
| apply yar;rfl;omega
| apply yix;rfl;omega
| apply yle;rfl;omega
| apply ycp;rfl;exact fi;rfl
| apply yc;rfl;exact kr (by assumption);rfl;exact fun _ => rfl
| fail)
 all_goals first
  | (rw [z0 hok hlo hfit ⟨rd g k,ax ⟨k0,by assumption⟩,by assumption,by assumption⟩]
     exact ai [0,1,2,3] rfl rfl rfl rfl rfl rfl)
  | exact aA (k + 1) [0,1,2,3,4] ⟨rfl,rfl,rfl,rfl,rfl,rfl,rfl,rfl⟩ ⟨by omega,by omega,ay hall2 (fun e => by first | exact e.1 (by assumption) | exact absurd e.2 (by assumption))⟩ (by first | omega | (dsimp only;omega))
  | (have hno:=eS (q:=fun x:Leg => ¬ (x.Account ∈ sh) ∧ aW (pO l g) x.Account x.Instr < 0) (by assumption) hall2
     first
     | (rw [z4 hok hlo hfit hno (by omega)]
        exact ai [0,1,2,3] rfl rfl rfl rfl rfl rfl)
     | (rw [yZ hok hlo hfit hno (by omega)]
        exact ai [0,1,2,4] rfl rfl rfl rfl rfl rfl))
theorem pj {l:List Bal} {g:List Leg} {sh:List Int}:FC Tryz.prog 245 [.c (.row 0 0 l.length),.c (.row 1 0 g.length),.c (.row 2 0 sh.length)] ([ro 135 l,ro 46 g,ro 3 sh]) (.tup [.c (.row 3 0 (br l g sh).1.length),I (br l g sh).2]) ([ro 135 l,ro 46 g,ro 3 sh,ow 135 (br l g sh).1]):=by
 refine al tk 120 [.tmp 6,.tmp 7] Tryz.func245 (by kernel_rfl) rfl rfl rfl rfl rfl rfl rfl ?_
 by_cases hok:BalsOk l ∧ cP g ∧ sh.length ≤ 20
 rotate_left
 ·rw [AP hok]
  repeat' (first
| apply yds;rfl
| apply yd;rfl
| intro h9;exact absurd ⟨by assumption,by assumption,by omega⟩ hok
| intro _
| refine nv ?_
| apply wct rfl
| apply ag;rfl
| apply aG (α:=Bal) (e:=135);rfl
| apply ycp;rfl;(first | exact eT | exact dA);rfl
| fail)
  all_goals exact ai [0,1,2,3] rfl rfl rfl rfl rfl rfl
 obtain ⟨hb,hf,hsh⟩:=id hok
 have hbl:=hb.2
 have hgl:=hf.1
 by_cases hlo:dj g
 rotate_left
 ·rw [AQ hok hlo]
  repeat' (first
| intro h9;exfalso;first | contradiction | omega
| apply yds;rfl
| apply yd;rfl
| intro _
| refine nv ?_
| apply wct rfl
| apply wcf rfl
| apply ag;rfl
| apply aG (α:=Bal) (e:=135);rfl
| apply yap;rfl;(((try simp only [lE,lM]);(try dsimp only);omega))
| apply ycp;rfl;(first | exact eT | exact dA | exact mq);rfl
| fail)
  all_goals exact ai [0,1,2,4] rfl rfl rfl rfl rfl rfl
 repeat' (first
| intro h9;exfalso;first | contradiction | omega
| apply yds;rfl
| apply yd;rfl
| intro _
| refine nv ?_
| apply wcf rfl
| apply ag;rfl
| apply aG (α:=Bal) (e:=135);rfl
| apply yap;rfl;(((try simp only [lE,lM]);(try dsimp only);omega))
| apply ycp;rfl;(first | exact eT | exact dA | exact mq);rfl
| fail)
 refine wlp (X:=Int × List Bal) [0,1,2] [0,1,2,4] (fun x => [(10,I x.1),(9,.c (.row 3 0 x.2.length))]) (fun x => [(3,ow 135 x.2)]) (fun x => (0 ≤ x.1 ∧ x.1 ≤ g.length) ∧ x.2 = pO l (pf g x.1) ∧ (BSd x.2 ∧ vB x.2) ∧ x.2.length ≤ l.length + x.1 ∧ ∀ j:Int,0 ≤ j → j < x.1 → ky l g j) (fun x => (g.length - x.1).toNat) (0,l) ⟨⟨by dsimp only;omega,by dsimp only;omega⟩,rfl,⟨hb.sd,hb.amt⟩,by dsimp only;omega,fun j h0 h1 => by dsimp only at h1;omega⟩ rfl rfl (fun _ => rfl) (fun _ => rfl) ⟨rfl,rfl,rfl,rfl,rfl,rfl,rfl,rfl⟩ (fun x hx => ?_)
 obtain ⟨i,xs⟩:=x
 obtain ⟨h0,hxs,⟨hsd,hamt⟩,hxl,hall⟩:=hx
 dsimp only at h0 hxs hsd hamt hxl hall ⊢
 have hba:=pq hamt (rd g i).Account (rd g i).Instr
 have hga:i < g.length → ak (rd g i).Amount:=fun h => (hf.2 _ (ax ⟨h0.1,h⟩)).2.2
 by_cases hil2:i < g.length
 ·have hga2:=hga hil2
  repeat' (first
| intro h9;exfalso;contradiction
| apply yds;rfl
| apply yd;rfl
| intro _
| refine nv ?_
| apply wct rfl
| apply wcf rfl
| apply ag;rfl
| apply yar;rfl;omega
| apply yix;rfl;omega
| apply yle;rfl;omega
| apply aG (α:=Bal) (e:=135);rfl
| apply yap;rfl;(((try simp only [lE,lM]);(try dsimp only);omega))
| refine zdq (id:=10) rfl (by kernel_rfl) [(.p,0),(.p,1),(.p,2),(.p,3),(.p,4),(.p,6),(.p,7),(.p,8),(.p,9),(.p,12),(.p,13),(.p,14),(.p,15),(.t,5),(.t,10),(.t,16),(.o,11),(.o,17),(.p,18),(.p,19),(.p,20),(.p,21),(.p,22)] [] (by kernel_rfl) rfl ?_
| refine zdq (id:=13) rfl (by kernel_rfl) [(.p,0),(.p,1),(.p,2),(.p,3),(.p,4),(.p,6),(.p,7),(.p,8),(.p,9),(.p,11),(.t,5),(.t,10),(.o,12),(.p,13)] [] (by kernel_rfl) rfl ?_
| apply yc;rfl;exact ik;rfl;exact fun _ => rfl
| apply zcs;(iterate 10 rfl);exact um (by assumption) (by assumption);exact fun _ => rfl;exact fun _ => rfl;rfl;rfl;rfl;rfl
| apply ycf;rfl;exact oG (by assumption) (by omega);rfl
| fail)
  all_goals first
   | exact aA (i + 1,eo xs (rd g i).Account (rd g i).Instr (aW xs (rd g i).Account (rd g i).Instr + (rd g i).Amount)) [0,1,2,4] ⟨rfl,rfl,rfl,rfl,rfl,rfl,rfl,rfl⟩ ⟨⟨by dsimp only;omega,by dsimp only;omega⟩,by dsimp only;rw [v6 ⟨h0.1,by assumption⟩,← hxs];rfl,⟨gx hsd _ _ _,t4 hsd hamt (by assumption)⟩,(by dsimp only;have:=oc hsd (rd g i).Account (rd g i).Instr (aW xs (rd g i).Account (rd g i).Instr + (rd g i).Amount);omega),ay hall (by unfold ky;rw [← hxs];assumption)⟩ (by first | omega | (dsimp only;omega))
   | (rw [z3 hok hlo (fun k => absurd (k i h0.1 (by assumption)) (by unfold ky;rw [← hxs];assumption))]
      exact ai [0,1,2,5] rfl rfl rfl rfl rfl rfl)
 repeat' (first
| intro h9;exfalso;contradiction
| apply yds;rfl
| apply yd;rfl
| intro _
| refine nv ?_
| apply wcf rfl
| apply ae rfl
| apply ag;rfl
| fail)
 rename_i hil
 have e:xs = pO l g:=hxs.trans (by rw [aY hil])
 have hfit:fx l g:=fun j h0 h1 => hall j h0 (by omega)
 clear hxs hba hga
 subst e
 refine wlp (X:=Int) [0,1,2,9] [0,1,2,3] (fun k => [(13,I k)]) (fun _ => []) (fun k => 0 ≤ k ∧ k ≤ g.length ∧ ∀ j:Int,0 ≤ j → j < k → ¬ (fun x:Leg => ¬ (x.Account ∈ sh) ∧ aW (pO l g) x.Account x.Instr < 0) (rd g j)) (fun k => (g.length - k).toNat) 0 ⟨by omega,by omega,fun j h0 h1 => by omega⟩ rfl rfl (fun _ => rfl) (fun _ => rfl) ⟨rfl,rfl,rfl,rfl,rfl,rfl,rfl,rfl⟩ (fun k hk => ?_)
 obtain ⟨k0,hk,hall2⟩:=hk
 repeat' (first
| apply yds;rfl
| apply yd;rfl
| intro _
| refine nv ?_
| apply wct rfl
| apply wcf rfl
| apply ae rfl
| apply ag;rfl
| apply yar;rfl;omega
| apply yix;rfl;omega
| apply yle;rfl;omega
| apply aG (α:=Bal) (e:=135);rfl
| apply yap;rfl;(((try simp only [lE,lM]);(try dsimp only);omega))
| refine zdq (id:=17) rfl (by kernel_rfl) [(.p,0),(.p,1),(.p,2),(.p,3),(.p,4),(.p,6),(.p,7),(.p,8),(.p,9),(.t,5),(.t,10),(.o,11),(.p,12),(.p,13),(.p,14),(.p,15),(.p,16),(.p,17),(.p,18),(.t,19),(.o,20),(.p,21),(.p,22)] [] (by kernel_rfl) rfl ?_
| apply ycp;rfl;exact oF;rfl
| apply yc;rfl;exact ik;rfl;exact fun _ => rfl
| fail)
 all_goals first
  | (rw [z0 hok hlo hfit ⟨rd g k,ax ⟨k0,by assumption⟩,by assumption,by assumption⟩]
     exact ai [0,1,2,5] rfl rfl rfl rfl rfl rfl)
  | exact aA (k + 1) [0,1,2,3] ⟨rfl,rfl,rfl,rfl,rfl,rfl,rfl,rfl⟩ ⟨by omega,by omega,ay hall2 (fun e => by first | exact e.1 (by assumption) | exact absurd e.2 (by assumption))⟩ (by first | omega | (dsimp only;omega))
  | (have hno:=eS (q:=fun x:Leg => ¬ (x.Account ∈ sh) ∧ aW (pO l g) x.Account x.Instr < 0) (by assumption) hall2
     first
     | (rw [z4 hok hlo hfit hno (by omega)]
        exact ai [0,1,2,5] rfl rfl rfl rfl rfl rfl)
     | (rw [yZ hok hlo hfit hno (by omega)]
        exact ai [0,1,2,3] rfl rfl rfl rfl rfl rfl))
end
section
open Go.RowKit
noncomputable def cX (n:Int):Int:=pick (n = 0) 0 (pick (n = 3) 5 (pick (n = 4) 8 (pick (n = 5) 7 1)))
theorem oV {n:Int}:FC Tryz.prog 224 [I n] ([]) (I (cX n)) ([]):=by
 refine al tk 12 [.tmp 2] Tryz.func224 (by kernel_rfl) rfl rfl rfl rfl rfl rfl rfl ?_
 repeat' (first
| apply yd;rfl
| intro _
| refine nv ?_
| apply wct rfl
| apply wcf rfl
| apply yeq;rfl
| fail)
 all_goals first
  | exact bO [] rfl rfl rfl rfl rfl rfl (by rw [cX,aD (by assumption)])
  | exact bO [] rfl rfl rfl rfl rfl rfl (by rw [cX,aB (by assumption),aD (by assumption)])
  | exact bO [] rfl rfl rfl rfl rfl rfl (by rw [cX,aB (by assumption),aB (by assumption),aD (by assumption)])
  | exact bO [] rfl rfl rfl rfl rfl rfl (by rw [cX,aB (by assumption),aB (by assumption),aB (by assumption),aD (by assumption)])
  | exact bO [] rfl rfl rfl rfl rfl rfl (by rw [cX,aB (by assumption),aB (by assumption),aB (by assumption),aB (by assumption)])
noncomputable def shA (ba:List Account):List Int:=(flt (fun a => ¬ a.Kind = 1) ba).map Account.No
theorem rB (ba:List Account):(shA ba).length ≤ ba.length:=by
 unfold shA
 rw [List.length_map]
 exact cO _ _
theorem Ay {ba:List Account} {i:Int} (h:0 ≤ i ∧ i < ba.length) (k:¬ (rd ba i).Kind = 1):shA (pf ba (i + 1)) = shA (pf ba i) ++ [(rd ba i).No]:=by
 unfold shA
 rw [bB h,fG (p:=fun a:Account => ¬ a.Kind = 1) k,List.map_append]
 rfl
theorem Ax {ba:List Account} {i:Int} (h:0 ≤ i ∧ i < ba.length) (k:(rd ba i).Kind = 1):shA (pf ba (i + 1)) = shA (pf ba i):=by
 unfold shA
 rw [bB h,eR (p:=fun a:Account => ¬ a.Kind = 1) (fun q => q k),List.append_nil]
theorem rL {ba:List Account} {bi:List Instr} {bb:List Bal} {bl:List Lot} {bt:List Trade} {bn:Int} (hl:ba.length ≤ 1000000):FC Tryz.prog 246 [bkV 0 ⟨ba,bi,bb,bl,bt,bn⟩] (bkR ⟨ba,bi,bb,bl,bt,bn⟩) (.c (.row 5 0 (shA ba).length)) (bkR ⟨ba,bi,bb,bl,bt,bn⟩ ++ [ow 3 (shA ba)]):=by
 refine al tk 30 [.tmp 2] Tryz.func246 (by kernel_rfl) rfl rfl rfl rfl rfl rfl rfl ?_
 repeat' (first
| apply yds;rfl
| apply yd;rfl
| refine nv ?_
| apply aG (α:=Int) (e:=3);rfl
| fail)
 refine wlp (X:=Int × List Int) [1] [0,1,2,3,4,5,6] (fun x => [(4,I x.1),(3,.c (.row 6 0 x.2.length))]) (fun x => [(6,ow 3 x.2)]) (fun x => (0 ≤ x.1 ∧ x.1 ≤ ba.length) ∧ x.2 = shA (pf ba x.1)) (fun x => (ba.length - x.1).toNat) (0,[]) ⟨⟨by dsimp only;omega,by dsimp only;omega⟩,rfl⟩ rfl rfl (fun _ => rfl) (fun _ => rfl) ⟨rfl,rfl,rfl,rfl,rfl,rfl,rfl,rfl⟩ (fun x hx => ?_)
 obtain ⟨i,u⟩:=x
 obtain ⟨h0,hu⟩:=hx
 dsimp only at h0 hu ⊢
 have hul:u.length ≤ 1000000:=by rw [hu];have:=rB (pf ba i);have:=bU h0;omega
 repeat' (first
| apply yds;rfl
| apply yd;rfl
| intro _
| refine nv ?_
| apply wct rfl
| apply wcf rfl
| apply ae rfl
| apply ag;rfl
| apply yne;rfl
| apply yar;rfl;omega
| apply yix;rfl;omega
| apply yle;rfl;omega
| apply aG (α:=Int) (e:=3);rfl
| apply yap;rfl;(((try simp only [lE,lM]);(try dsimp only);omega))
| fail)
 all_goals first
  | exact aA (i + 1,u ++ [(rd ba i).No]) [0,1,2,3,4,5,8] ⟨rfl,rfl,rfl,rfl,rfl,rfl,rfl,rfl⟩ ⟨⟨by dsimp only;omega,by dsimp only;omega⟩,by dsimp only;rw [Ay ⟨h0.1,by assumption⟩ (by assumption),hu]⟩ (by first | omega | (dsimp only;omega))
  | exact aA (i + 1,u) [0,1,2,3,4,5,6] ⟨rfl,rfl,rfl,rfl,rfl,rfl,rfl,rfl⟩ ⟨⟨by dsimp only;omega,by dsimp only;omega⟩,by dsimp only;rw [Ax ⟨h0.1,by assumption⟩ (by assumption),hu]⟩ (by first | omega | (dsimp only;omega))
  | (rw [show shA ba = u from by rw [hu,aY (by assumption)]]
     exact ai [0,1,2,3,4,6] rfl rfl rfl rfl rfl rfl)
end
section
open Go.RowKit
noncomputable def poR (b:Books) (g:List Leg):List Bal × Int:=br b.Bals g (shA b.Accounts)
theorem db {b:Books} {g:List Leg} (hb:BooksOk b) (hg:dj g):(poR b g).2 = 0 ∨ (poR b g).2 = 3 ∨ (poR b g).2 = 4 ∨ (poR b g).2 = 5:=by
 have h:BalsOk b.Bals ∧ cP g ∧ (shA b.Accounts).length ≤ 20:=⟨hb.bals,hg.1,by have:=rB b.Accounts;have:=hb.acc.2;omega⟩
 unfold poR
 by_cases h3:fx b.Bals g
 ·by_cases h4:jN (pO b.Bals g) g (shA b.Accounts)
  ·rw [z0 h hg h3 h4];simp
  ·by_cases h5:160 < (pO b.Bals g).length
   ·rw [z4 h hg h3 h4 h5];simp
   ·rw [yZ h hg h3 h4 h5];simp
 ·rw [z3 h hg h3];simp
def bkX (n:Nat):Books → Option AO
 | ⟨a,i,b,l,t,x⟩ => some ⟨true,30,6,.mx [.row n 0 a.length,.row (n + 1) 0 i.length,.row (n + 2) 0 b.length,.row (n + 3) 0 l.length,.row (n + 4) 0 t.length,.sc (.int .i64 x)]⟩
section
variable {P:Program} {T:TB} {ops:Array Oper} {Q:Exit → St → Prop} {h1:AH} {k:Sk} {ks ks':List Sk} {l:List Oper} {N0 k0 d0:Nat} {e0:List (Nat × AV)} {h0:AH} {ty:TypeId} {pos:String} {af:Array Edge} {g:Option (Nat × Bool)}
theorem gc {fo:Operand} {ars:Array Operand} {ts:Array TypeId} {f:FuncId} {caps:List (Nat × Nat × Nat)} {vals args:List AV} {hs hs2 hs3 hv h2' h3':AH} {p:Prop} {X Y X' Y':AV} {m:List Nat} (fl:List Bool) (hs0:stK ks = (Sk.l,ks')) (hf:ev e0 fo = some (.c (.fn f caps))) (hev:evs e0 ars.toList = some vals) (hm:fL (kx h0 (vals ++ caps.map cu)) = some m) (hca:kN m (vals ++ caps.map cu) = some args) (hch:kO fl m h0 = some hs) (hvw:fH (vwH m hs h0) = some hv)
  (hargs:args.map (AV.ren (mf m h0.length)) = vals ++ caps.map cu) (hp:cV (mf m h0.length) hs = cR hs (cw m hv)) (hb:eP hs m h0.length = true) (hc:FC P f args hs (sel p X Y) (sel p hs2 hs3))
  (hX':fV (X.ren (mf m h0.length)) = some X') (hh:fH (dN (mf m h0.length) m hs hs2 hv) = some h2') (hY':fV (Y.ren (mf m h0.length)) = some Y') (hh3:fH (dN (mf m h0.length) m hs hs3 hv) = some h3') (hg:gd ops ⟨some d0,.call { callee:=.value fo,args:=ars,argTypes:=ts },ty,pos,af,g⟩ e0 = some true) (hd:Nat.blt d0 N0 = true)
  (ht:p → ZZ P ops Q h1 ks' l ⟨N0,k0,(d0,X') :: e0,h2'⟩) (hf':¬ p → ZZ P ops Q h1 ks' l ⟨N0,k0,(d0,Y') :: e0,h3'⟩):ZZ P ops Q h1 ks (⟨some d0,.call { callee:=.value fo,args:=ars,argTypes:=ts },ty,pos,af,g⟩ :: l) ⟨N0,k0,e0,h0⟩:=by
 by_cases hp0:p
 ·rw [ap hp0,ap hp0] at hc
  exact zcw fl hs0 hf hev hm hca hch hvw hargs hp hb hc hX' hh hg hd (ht hp0)
 ·rw [a8 hp0,a8 hp0] at hc
  exact zcw fl hs0 hf hev hm hca hch hvw hargs hp hb hc hY' hh3 hg hd (hf' hp0)
end
theorem iV (n:Int):n = 0 ∨ cX n ≠ 0:=by
 by_cases h:n = 0
 ·exact .inl h
 ·right
  unfold cX
  rw [aB h]
  by_cases h3:n = 3
  ·rw [aD h3];decide
  ·rw [aB h3]
   by_cases h4:n = 4
   ·rw [aD h4];decide
   ·rw [aB h4]
    by_cases h5:n = 5
    ·rw [aD h5];decide
    ·rw [aB h5];decide
noncomputable def gz (n:Int):Int:=pick (n = 0) 0 (pick (n = 3) 5 (pick (n = 4) 8 7))
theorem js (n:Int):n = 0 ∨ gz n ≠ 0:=by
 by_cases h:n = 0
 ·exact .inl h
 ·right
  unfold gz
  rw [aB h]
  by_cases h3:n = 3
  ·rw [aD h3];decide
  ·rw [aB h3]
   by_cases h4:n = 4
   ·rw [aD h4];decide
   ·rw [aB h4];decide
theorem mo {n:Int} (h:n = 0 ∨ n = 3 ∨ n = 4 ∨ n = 5):gz n = cX n:=by
 rcases h with rfl | rfl | rfl | rfl
 ·rw [gz,aD rfl,cX,aD rfl]
 ·rw [gz,aB (by decide),aD rfl,cX,aB (by decide),aD rfl]
 ·rw [gz,aB (by decide),aB (by decide),aD rfl,cX,aB (by decide),aB (by decide),aD rfl]
 ·rw [gz,aB (by decide),aB (by decide),aB (by decide),cX,aB (by decide),aB (by decide),aB (by decide),aD rfl]
noncomputable abbrev pN (ba:List Account) (bb:List Bal) (g:List Leg):Int:=(br bb g (shA ba)).2
noncomputable abbrev pL (ba:List Account) (bb:List Bal) (g:List Leg):List Bal:=(br bb g (shA ba)).1
theorem cS {ba:List Account} {bi:List Instr} {bb:List Bal} {bl:List Lot} {bt:List Trade} {bn:Int} {g:List Leg} (hl:ba.length ≤ 1000000):FC Tryz.prog 111 [.c (.ptr 0 0 0),.c (.row 1 0 g.length)] ([bkX 2 ⟨ba,bi,bb,bl,bt,bn⟩,ow 46 g] ++ bkO ⟨ba,bi,bb,bl,bt,bn⟩) (sel (pN ba bb g = 0) (I 0) (I (cX (pN ba bb g)))) (sel (pN ba bb g = 0) ([some ⟨true,30,6,.mx [.row 2 0 ba.length,.row 3 0 bi.length,.row 7 0 (pL ba bb g).length,.row 5 0 bl.length,.row 6 0 bt.length,.sc (.int .i64 bn)]⟩,ow 46 g] ++ bkO ⟨ba,bi,bb,bl,bt,bn⟩ ++ [ow 135 (pL ba bb g)]) ([bkX 2 ⟨ba,bi,bb,bl,bt,bn⟩,ow 46 g] ++ bkO ⟨ba,bi,bb,bl,bt,bn⟩)):=by
 refine al tk 47 [.tmp 4] Tryz.func111 (by kernel_rfl) rfl rfl rfl rfl rfl rfl rfl ?_
 repeat' (first
| apply yds;rfl
| apply yd;rfl
| refine nv ?_
| apply aG (α:=Int) (e:=3);rfl
| fail)
 refine wlp (X:=Int × List Int) [0,1,14,15] [0,1,2,3,4,5,6,7] (fun x => [(16,I x.1),(5,.c (.row 7 0 x.2.length))]) (fun x => [(7,ow 3 x.2)]) (fun x => (0 ≤ x.1 ∧ x.1 ≤ ba.length) ∧ x.2 = shA (pf ba x.1)) (fun x => (ba.length - x.1).toNat) (0,[]) ⟨⟨by dsimp only;omega,by dsimp only;omega⟩,rfl⟩ rfl rfl (fun _ => rfl) (fun _ => rfl) ⟨rfl,rfl,rfl,rfl,rfl,rfl,rfl,rfl⟩ (fun x hx => ?_)
 obtain ⟨i,u⟩:=x
 obtain ⟨h0,hu⟩:=hx
 dsimp only at h0 hu ⊢
 have hul:u.length ≤ 1000000:=by rw [hu];have:=rB (pf ba i);have:=bU h0;omega
 by_cases hi:i < ba.length
 ·
  repeat' (first
| intro h9;exfalso;contradiction
| apply yds;rfl
| apply yd;rfl
| intro _
| refine nv ?_
| apply wct rfl
| apply wcf rfl
| apply ag;rfl
| apply yne;rfl
| apply yar;rfl;omega
| apply yix;rfl;omega
| apply yle;rfl;omega
| apply aG (α:=Int) (e:=3);rfl
| apply yap;rfl;(((try simp only [lE,lM]);(try dsimp only);omega))
| fail)
  all_goals first
   | exact aA (i + 1,u ++ [(rd ba i).No]) [0,1,2,3,4,5,6,10] ⟨rfl,rfl,rfl,rfl,rfl,rfl,rfl,rfl⟩ ⟨⟨by dsimp only;omega,by dsimp only;omega⟩,by dsimp only;rw [Ay ⟨h0.1,by assumption⟩ (by assumption),hu]⟩ (by first | omega | (dsimp only;omega))
   | exact aA (i + 1,u) [0,1,2,3,4,5,6,7] ⟨rfl,rfl,rfl,rfl,rfl,rfl,rfl,rfl⟩ ⟨⟨by dsimp only;omega,by dsimp only;omega⟩,by dsimp only;rw [Ax ⟨h0.1,by assumption⟩ (by assumption),hu]⟩ (by first | omega | (dsimp only;omega))
 ·have hu2:u = shA ba:=by rw [hu,aY hi]
  subst hu2
  repeat' (first
| intro h9;exfalso;contradiction
| apply yds;rfl
| apply yd;rfl
| intro _
| refine nv ?_
| apply wct rfl
| apply wcf rfl
| apply ae rfl
| apply ag;rfl
| apply ycf;rfl;exact oP;rfl
| apply yc;rfl;exact oV;rfl;exact fun _ => rfl
| fail)
  ·rename_i hp
   refine cy (X':=I (cX (pN ba bb g))) (hs':=[some ⟨true,30,6,.mx [.row 2 0 ba.length,.row 3 0 bi.length,.row 7 0 (pL ba bb g).length,.row 5 0 bl.length,.row 6 0 bt.length,.sc (.int .i64 bn)]⟩,ow 46 g] ++ bkO ⟨ba,bi,bb,bl,bt,bn⟩ ++ [ow 135 (pL ba bb g)]) [0,1,2,3,4,5,6,8] rfl rfl rfl rfl rfl rfl ?_ ?_
   ·rw [ap hp,cX,aD hp]
   ·rw [ap hp]
  ·rename_i hp
   exact bS hp [0,1,2,3,4,5,6] rfl rfl rfl rfl rfl rfl
theorem d7 {ba:List Account} {bi:List Instr} {bb:List Bal} {bl:List Lot} {bt:List Trade} {bn:Int} {g:List Leg} (hl:ba.length ≤ 1000000):FC Tryz.prog 136 [bkV 0 ⟨ba,bi,bb,bl,bt,bn⟩,.c (.row 5 0 g.length)] (bkO ⟨ba,bi,bb,bl,bt,bn⟩ ++ [ro 46 g]) (sel (pN ba bb g = 0) (.tup [.agg [.row 0 0 ba.length,.row 1 0 bi.length,.row 6 0 (pL ba bb g).length,.row 3 0 bl.length,.row 4 0 bt.length,.sc (.int .i64 bn)],I 0]) (.tup [bkV 0 ⟨ba,bi,bb,bl,bt,bn⟩,I (gz (pN ba bb g))])) (sel (pN ba bb g = 0) (bkO ⟨ba,bi,bb,bl,bt,bn⟩ ++ [ro 46 g,ow 135 (pL ba bb g)]) (bkO ⟨ba,bi,bb,bl,bt,bn⟩ ++ [ro 46 g])):=by
 refine al tk 30 [.cell 4 _,.tmp 5] Tryz.func136 (by kernel_rfl) rfl rfl rfl rfl rfl rfl rfl ?_
 repeat' (first
| apply yds;rfl
| apply yd;rfl
| intro _
| refine nv ?_
| apply wct rfl
| apply wcf rfl
| apply yeq;rfl
| refine zdq (id:=1) rfl (by kernel_rfl) [(.p,0),(.p,2),(.t,1),(.t,3),(.o,4),(.o,5),(.p,6),(.p,7),(.p,8),(.p,9),(.p,10)] [] (by kernel_rfl) rfl ?_
| apply ycf;rfl;(first | exact rL (by omega) | exact pj);rfl
| fail)
 all_goals first
  | exact gM (by assumption) [0,1,2,3,4,5,9] rfl rfl rfl rfl rfl rfl
  | (have hp:¬ pN ba bb g = 0:=by assumption
     first
     | (rw [show gz (pN ba bb g) = 5 from by rw [gz,aB hp,aD (by assumption)]]
        exact bS hp [0,1,2,3,4,5] rfl rfl rfl rfl rfl rfl)
     | (rw [show gz (pN ba bb g) = 8 from by rw [gz,aB hp,aB (by assumption),aD (by assumption)]]
        exact bS hp [0,1,2,3,4,5] rfl rfl rfl rfl rfl rfl)
     | (rw [show gz (pN ba bb g) = 7 from by rw [gz,aB hp,aB (by assumption),aB (by assumption)]]
        exact bS hp [0,1,2,3,4,5] rfl rfl rfl rfl rfl rfl))
end
end Go.Proofs.YtgehbhkfehmdkaaGreat.Sh
