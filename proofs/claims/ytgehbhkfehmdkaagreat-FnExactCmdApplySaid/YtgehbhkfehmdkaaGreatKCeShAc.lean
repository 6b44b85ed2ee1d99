/- Accounts and instruments are put: both sides. No condition. -/
import Derived.Test.YtgehbhkfehmdkaaGreatKCeShV
import Derived.Test.YtgehbhkfehmdkaaGreatKCeShTr
import Derived.Test.YtgehbhkfehmdkaaGreatKCeShLt
import Derived.Test.YtgehbhkfehmdkaaGreatKCeShDr
set_option maxRecDepth 100000
set_option maxHeartbeats 40000000
set_option linter.unusedSimpArgs false
set_option linter.unusedVariables false
namespace Go.Proofs.YtgehbhkfehmdkaaGreat.Sh
open Go.RowKit
section
variable {α:Type} [Enc α] {l:List α} {i k:Int} {x:α}
theorem Ar (h:0 ≤ k ∧ k < i) (hi:i < l.length):ins (pf l i) k x ++ [rd l i] = ins (pf l (i + 1)) k x:=by
 rw [ce ⟨by omega,hi⟩]
 have h1:k.toNat ≤ (pf l i).length:=by have:=bU (l:=l) (i:=i) ⟨by omega,by omega⟩;omega
 unfold ins
 rw [List.take_append_of_le_length h1,List.drop_append_of_le_length h1]
 simp
theorem Ap (h:0 ≤ i ∧ i < l.length):pf l i ++ [x] ++ [rd l i] = ins (pf l (i + 1)) i x:=by
 rw [ce h]
 have h1:(pf l i).length = i.toNat:=by have:=bU (l:=l) (i:=i) ⟨by omega,by omega⟩;omega
 unfold ins
 rw [← h1,List.take_left,List.drop_left]
 simp
theorem Aq (h:0 ≤ i ∧ ¬ i < l.length):pf l i ++ [x] = ins l l.length x:=by
 rw [aY h.2,d8 rfl]
end
noncomputable def gL (l:List Account) (no:Int):Int:=fIx l (fun t => ¬ t.No < no)
noncomputable def dE (l:List Account) (x:Account):List Account:=ins l (gL l x.No) x
theorem kG (l:List Account) (no:Int):0 ≤ gL l no ∧ gL l no ≤ l.length:=bW _ _
theorem n8 {l:List Account} {no j:Int} (h0:0 ≤ j) (h:j < gL l no):(rd l j).No < no:=by
 have:=iy h0 h
 omega
theorem qj {l:List Account} {no:Int} (h:gL l no < l.length):¬ (rd l (gL l no)).No < no:=by
 have hn:=kG l no
 by_cases hx:∃ t ∈ l,¬ t.No < no
 ·exact ko hx
 ·exfalso
  have h1:=qy (l:=l) (q:=fun t => ¬ t.No < no) (fun x hm k => hx ⟨x,hm,k⟩)
  unfold gL at h
  omega
theorem pp (l:List Account) (x:Account):(dE l x).length = l.length + 1:=bZ (kG l x.No)
theorem n9 {l:List Account} {no:Int} (h:aL l):(a9 l no = 0 ∧ ∀ j:Int,0 ≤ j → j < l.length → (rd l j).No ≠ no) ∨ ((1 ≤ a9 l no ∧ a9 l no ≤ 4) ∧ ∃ j:Int,(0 ≤ j ∧ j < l.length) ∧ (rd l j).No = no):=by
 by_cases hx:∃ t ∈ l,t.No = no
 ·right
  have h1:=gN hx
  have h0:=(bW l (fun t => t.No = no)).1
  have h2:(rd l (fIx l (fun t => t.No = no))).No = no:=ko hx
  have h3:∀ j:Int,0 ≤ j → j < fIx l (fun t => t.No = no) → (rd l j).No ≠ no:=fun j j0 j1 => iy (q:=fun t:Account => t.No = no) j0 j1
  rw [im (i:=fIx l (fun t => t.No = no)) ⟨h0,h1⟩ h3 h2]
  have:=(h.1 _ h0 h1).2.1
  unfold inP at this
  exact ⟨by omega,_,⟨h0,h1⟩,h2⟩
 ·left
  have hn:∀ j:Int,0 ≤ j → j < l.length → (rd l j).No ≠ no:=fun j h0 h1 e => hx ⟨_,ax ⟨h0,h1⟩,e⟩
  exact ⟨km (i:=l.length) (by omega) hn,hn⟩
theorem rR {l:List Account} {x:Account} (h:aL l) (hn:∀ j:Int,0 ≤ j → j < l.length → (rd l j).No ≠ x.No) (h1:aj x.No) (h2:inP x.Kind 1 4):aL (dE l x) ↔ l.length < 20:=by
 have hl:=pp l x
 refine ⟨fun k => by have:=k.2;omega,fun k => ⟨fun i h0 hi => ?_,by omega⟩⟩
 have hk:=kG l x.No
 have ha:=qj (l:=l) (no:=x.No)
 have e:∀ p:Int,0 ≤ p → rd (dE l x) p = if p < gL l x.No then rd l p else if p = gL l x.No then x else rd l (p - 1):=fun p hp => ug hk hp
 unfold ut
 rw [e i h0]
 by_cases c1:i < gL l x.No
 ·rw [if_pos c1]
  obtain ⟨q1,q2,q3⟩:=h.1 i h0 (by omega)
  refine ⟨q1,q2,fun hp => ?_⟩
  rw [e (i - 1) (by omega),if_pos (by omega)]
  exact q3 hp
 ·rw [if_neg c1]
  by_cases c2:i = gL l x.No
  ·rw [if_pos c2]
   refine ⟨h1,h2,fun hp => ?_⟩
   rw [e (i - 1) (by omega),if_pos (by omega)]
   exact n8 (by omega) (by omega)
  ·rw [if_neg c2]
   obtain ⟨q1,q2,q3⟩:=h.1 (i - 1) (by omega) (by omega)
   refine ⟨q1,q2,fun hp => ?_⟩
   rw [e (i - 1) (by omega),if_neg (by omega)]
   by_cases c3:i - 1 = gL l x.No
   ·rw [if_pos c3]
    have g1:=ha (by omega)
    rw [← c3] at g1
    have g2:=hn (i - 1) (by omega) (by omega)
    omega
   ·rw [if_neg c3]
    exact q3 (by omega)
theorem kp {l:List Account} {no ki:Int} (hok:aL l):FC Tryz.prog 311 [.c (.row 0 0 l.length),.agg [.sc (.int .i64 no),.sc (.int .i64 ki)]] ([ro 42 l]) (sel (aL (dE l ⟨no,ki⟩)) (.tup [.c (.row 1 0 (dE l ⟨no,ki⟩).length),B true]) (.tup [.c (.row 1 0 l.length),B false])) (sel (aL (dE l ⟨no,ki⟩)) [ro 42 l,ow 42 (dE l ⟨no,ki⟩)] [ro 42 l,ow 42 l]):=by
 refine al tk 39 [.tmp 4,.tmp 5] Tryz.func311 (by kernel_rfl) rfl rfl rfl rfl rfl rfl rfl ?_
 have hl:=hok.2
 have hK:=kG l no
 repeat' (first
| intro h9;exfalso;contradiction
| apply yds;rfl
| apply yd;rfl
| intro _
| refine nv ?_
| apply wcf rfl
| apply ycp;rfl;exact dJ;rfl
| fail)
 refine wlp (X:=Int) [0,3] [0,1] (fun i => [(6,I i)]) (fun _ => []) (fun i => 0 ≤ i ∧ i ≤ gL l no) (fun i => (l.length - i).toNat) 0 ⟨by omega,by omega⟩ rfl rfl (fun _ => rfl) (fun _ => rfl) ⟨rfl,rfl,rfl,rfl,rfl,rfl,rfl,rfl⟩ (fun i hi => ?_)
 obtain ⟨h0,hi⟩:=hi
 have hb:=fun h => n8 (l:=l) (no:=no) h0 h
 have ha:=qj (l:=l) (no:=no)
 by_cases e:i = gL l no
 ·
  have ee:ins l i ⟨no,ki⟩ = dE l ⟨no,ki⟩:=by rw [e];rfl
  have ht:∀ h:i < l.length,¬ (rd l i).No < no:=fun h => by rw [e] at h ⊢;exact ha h
  by_cases hp:aL (ins l i ⟨no,ki⟩)
  ·
   repeat' (first
| intro h9;exfalso;first | contradiction | omega
| apply yds;rfl
| apply yd;rfl
| intro _
| refine nv ?_
| apply wcf rfl
| apply ae rfl
| apply ag;rfl
| apply yix;rfl;omega
| apply yle;rfl;omega
| apply aG (α:=Account) (e:=42);rfl
| refine zdq (id:=4) rfl (by kernel_rfl) [(.p,0),(.p,1),(.p,2),(.p,3),(.p,4),(.p,5),(.p,6),(.p,7),(.p,8),(.p,10),(.t,9),(.t,11),(.p,12),(.p,13)] [] (by kernel_rfl) rfl ?_
| refine rO (id:=6) rfl (by kernel_rfl) [(.p,0),(.p,2),(.t,3)] 1 4 [(.o,4),(.l,5),(.p,6)] [(.o,1),(.l,5),(.p,6)] [5] (by kernel_rfl) rfl rfl rfl ?_
| apply fv
| apply ycp;rfl;exact dJ;rfl
| apply ycf;rfl;exact dv (by omega);rfl
| apply ycw  [true,true];rfl;exact eC (by omega) (by omega);rfl
| fail)
   all_goals first
    | (rw [← ee];exact gM hp [0,4] rfl rfl rfl rfl rfl rfl)
    | (exfalso;first | contradiction | exact ht (by assumption) (by assumption))
    | trace_state
  ·
   repeat' (first
| intro h9;exfalso;first | contradiction | omega
| apply yds;rfl
| apply yd;rfl
| intro _
| refine nv ?_
| apply wct rfl
| apply wcf rfl
| apply ae rfl
| apply ag;rfl
| apply yix;rfl;omega
| apply yle;rfl;omega
| apply aG (α:=Account) (e:=42);rfl
| refine zdq (id:=4) rfl (by kernel_rfl) [(.p,0),(.p,1),(.p,2),(.p,3),(.p,4),(.p,5),(.p,6),(.p,7),(.p,8),(.p,10),(.t,9),(.t,11),(.p,12),(.p,13)] [] (by kernel_rfl) rfl ?_
| refine rO (id:=6) rfl (by kernel_rfl) [(.p,0),(.p,2),(.t,3)] 1 4 [(.o,4),(.l,5),(.p,6)] [(.o,1),(.l,5),(.p,6)] [5] (by kernel_rfl) rfl rfl rfl ?_
| apply fv
| apply ycp;rfl;exact dJ;rfl
| apply ycf;rfl;exact dv (by omega);rfl
| apply ycw  [true,true];rfl;exact eC (by omega) (by omega);rfl
| fail)
   all_goals first
    | (rw [← ee];exact bS hp [0,5] rfl rfl rfl rfl rfl rfl)
    | (exfalso;first | contradiction | exact ht (by assumption) (by assumption))
    | trace_state
 ·
  have hlt:=hb (by omega)
  repeat' (first
| intro h9;exfalso;first | contradiction | omega
| apply yds;rfl
| apply yd;rfl
| intro _
| refine nv ?_
| apply wct rfl
| apply ag;rfl
| apply yar;rfl;omega
| apply yix;rfl;omega
| apply yle;rfl;omega
| refine zdq (id:=4) rfl (by kernel_rfl) [(.p,0),(.p,1),(.p,2),(.p,3),(.p,4),(.p,5),(.p,6),(.p,7),(.p,8),(.p,10),(.t,9),(.t,11),(.p,12),(.p,13)] [] (by kernel_rfl) rfl ?_
| fail)
  all_goals first
   | exact aA (i + 1) [0,1] ⟨rfl,rfl,rfl,rfl,rfl,rfl,rfl,rfl⟩ ⟨by omega,by omega⟩ (by first | omega | (dsimp only;omega))
   | (exfalso;first | contradiction | omega)
   | trace_state
theorem kE {l:List Account} {no ki:Int} (hok:aL l):FC Tryz.prog 259 [.c (.row 0 0 l.length),.agg [.sc (.int .i64 no),.sc (.int .i64 ki)]] ([ro 42 l]) (sel (aL (dE l ⟨no,ki⟩)) (.tup [.c (.row 1 0 (dE l ⟨no,ki⟩).length),B true]) (.tup [.c (.row 1 0 l.length),B false])) (sel (aL (dE l ⟨no,ki⟩)) [ro 42 l,ow 42 (dE l ⟨no,ki⟩)] [ro 42 l,ow 42 l]):=by
 refine al tk 56 [.tmp 4,.tmp 5] Tryz.func259 (by kernel_rfl) rfl rfl rfl rfl rfl rfl rfl ?_
 have hl:=hok.2
 have hK:=kG l no
 have hKa:=qj (l:=l) (no:=no)
 repeat' (first
| intro h9;exfalso;contradiction
| apply yds;rfl
| apply yd;rfl
| intro _
| refine nv ?_
| apply wcf rfl
| apply aG (α:=Account) (e:=42);rfl
| apply ycp;rfl;exact cq;rfl
| fail)
 refine wlp (X:=Int × Bool × List Account) [0,3] [0,1,2] (fun x => [(8,I x.1),(7,B x.2.1),(6,.c (.row 2 0 x.2.2.length))]) (fun x => [(2,ow 42 x.2.2)]) (fun x => (0 ≤ x.1 ∧ x.1 ≤ l.length) ∧ (x.2.1 = false → x.1 ≤ gL l no ∧ x.2.2 = pf l x.1) ∧ (x.2.1 = true → gL l no < x.1 ∧ x.2.2 = ins (pf l x.1) (gL l no) ⟨no,ki⟩)) (fun x => (l.length - x.1).toNat) (0,false,[]) ⟨⟨by dsimp only;omega,by dsimp only;omega⟩,fun _ => ⟨by dsimp only;omega,rfl⟩,fun h => (by cases h)⟩ rfl rfl (fun _ => rfl) (fun _ => rfl) ⟨rfl,rfl,rfl,rfl,rfl,rfl,rfl,rfl⟩ (fun x hx => ?_)
 obtain ⟨i,put,xs⟩:=x
 obtain ⟨h0,hf,ht⟩:=hx
 dsimp only at h0 hf ht ⊢
 have hb:=fun h => n8 (l:=l) (no:=no) h0.1 h
 have hpl:=bU h0
 cases put
 ·obtain ⟨h1,h2⟩:=hf rfl
  have hxl:xs.length ≤ 20:=by rw [h2];omega
  clear hf ht
  by_cases hil:i < l.length
  ·
   by_cases hge:(rd l i).No ≥ no
   ·
    have e:gL l no = i:=by
     rcases Int.lt_or_le i (gL l no) with q | q
     ·have:=hb q
      omega
     ·omega
    repeat' (first
| intro h9;exfalso;contradiction
| apply yds;rfl
| apply yd;rfl
| intro _
| refine nv ?_
| apply wct rfl
| apply ag;rfl
| apply yar;rfl;omega
| apply yix;rfl;omega
| apply yle;rfl;omega
| apply aG (α:=Account) (e:=42);rfl
| apply yap;rfl;(((try simp only [lE,lM]);(try dsimp only);omega))
| refine zdq (id:=8) rfl (by kernel_rfl) [(.p,0),(.p,1),(.p,2),(.p,3),(.p,4),(.p,5),(.p,6),(.p,8),(.t,7),(.t,9),(.p,10),(.p,11)] [] (by kernel_rfl) rfl ?_
| fail)
    all_goals first
     | exact aA (i + 1,true,xs ++ [⟨no,ki⟩] ++ [rd l i]) [0,1,6] ⟨rfl,rfl,rfl,rfl,rfl,rfl,rfl,rfl⟩ ⟨⟨by dsimp only;omega,by dsimp only;omega⟩,fun h => (by cases h),fun _ => ⟨by dsimp only;omega,by dsimp only;rw [h2,Ap ⟨h0.1,hil⟩,e]⟩⟩ (by first | omega | (dsimp only;omega))
     | (exfalso;omega)
     | trace_state
   ·
    have e:i ≠ gL l no:=fun e => by
     have q1:=hKa (by omega)
     rw [← e] at q1
     omega
    repeat' (first
| intro h9;exfalso;contradiction
| apply yds;rfl
| apply yd;rfl
| intro _
| refine nv ?_
| apply wct rfl
| apply wcf rfl
| apply ag;rfl
| apply yar;rfl;omega
| apply yix;rfl;omega
| apply yle;rfl;omega
| apply aG (α:=Account) (e:=42);rfl
| apply yap;rfl;(((try simp only [lE,lM]);(try dsimp only);omega))
| refine zdq (id:=8) rfl (by kernel_rfl) [(.p,0),(.p,1),(.p,2),(.p,3),(.p,4),(.p,5),(.p,6),(.p,8),(.t,7),(.t,9),(.p,10),(.p,11)] [] (by kernel_rfl) rfl ?_
| fail)
    all_goals first
     | exact aA (i + 1,false,xs ++ [rd l i]) [0,1,4] ⟨rfl,rfl,rfl,rfl,rfl,rfl,rfl,rfl⟩ ⟨⟨by dsimp only;omega,by dsimp only;omega⟩,fun _ => ⟨by dsimp only;omega,by dsimp only;rw [h2,ce ⟨h0.1,hil⟩]⟩,fun h => (by cases h)⟩ (by first | omega | (dsimp only;omega))
     | (exfalso;omega)
     | trace_state
  ·
   have ee:xs ++ [⟨no,ki⟩] = dE l ⟨no,ki⟩:=by rw [h2,Aq ⟨h0.1,hil⟩,← show gL l no = l.length from by omega];rfl
   by_cases hp:aL (xs ++ [⟨no,ki⟩])
   ·
    repeat' (first
| intro h9;exfalso;contradiction
| apply yds;rfl
| apply yd;rfl
| intro _
| refine nv ?_
| apply wct rfl
| apply wcf rfl
| apply ae rfl
| apply ag;rfl
| apply aG (α:=Account) (e:=42);rfl
| apply yap;rfl;(((try simp only [lE,lM]);(try dsimp only);omega))
| apply ycp;rfl;exact cq;rfl
| fail)
    all_goals first
     | (rw [← ee];exact gM hp [0,4] rfl rfl rfl rfl rfl rfl)
     | (exfalso;omega)
     | trace_state
   ·
    repeat' (first
| intro h9;exfalso;contradiction
| apply yds;rfl
| apply yd;rfl
| intro _
| refine nv ?_
| apply wct rfl
| apply wcf rfl
| apply ae rfl
| apply ag;rfl
| apply aG (α:=Account) (e:=42);rfl
| apply yap;rfl;(((try simp only [lE,lM]);(try dsimp only);omega))
| apply ycp;rfl;exact cq;rfl
| fail)
    all_goals first
     | (rw [← ee];exact bS hp [0,6] rfl rfl rfl rfl rfl rfl)
     | (exfalso;omega)
     | trace_state
 ·obtain ⟨h1,h2⟩:=ht rfl
  have hxl:xs.length ≤ 20 + 1:=by rw [h2,bZ ⟨by omega,by omega⟩];omega
  clear hf ht
  by_cases hil:i < l.length
  ·
   repeat' (first
| intro h9;exfalso;contradiction
| apply yds;rfl
| apply yd;rfl
| intro _
| refine nv ?_
| apply wct rfl
| apply wcf rfl
| apply ag;rfl
| apply yar;rfl;omega
| apply yix;rfl;omega
| apply yle;rfl;omega
| apply aG (α:=Account) (e:=42);rfl
| apply yap;rfl;(((try simp only [lE,lM]);(try dsimp only);omega))
| refine zdq (id:=8) rfl (by kernel_rfl) [(.p,0),(.p,1),(.p,2),(.p,3),(.p,4),(.p,5),(.p,6),(.p,8),(.t,7),(.t,9),(.p,10),(.p,11)] [] (by kernel_rfl) rfl ?_
| fail)
   all_goals first
    | exact aA (i + 1,true,xs ++ [rd l i]) [0,1,4] ⟨rfl,rfl,rfl,rfl,rfl,rfl,rfl,rfl⟩ ⟨⟨by dsimp only;omega,by dsimp only;omega⟩,fun h => (by cases h),fun _ => ⟨by dsimp only;omega,by dsimp only;rw [h2,Ar ⟨hK.1,h1⟩ hil]⟩⟩ (by first | omega | (dsimp only;omega))
    | (exfalso;omega)
    | trace_state
  ·
   have ee:xs = dE l ⟨no,ki⟩:=by rw [h2,aY hil];rfl
   by_cases hp:aL xs
   ·
    repeat' (first
| intro h9;exfalso;contradiction
| apply yds;rfl
| apply yd;rfl
| intro _
| refine nv ?_
| apply wcf rfl
| apply ae rfl
| apply ag;rfl
| apply ycp;rfl;exact cq;rfl
| fail)
    all_goals first
     | (rw [← ee];exact gM hp [0,2] rfl rfl rfl rfl rfl rfl)
     | (exfalso;omega)
     | trace_state
   ·
    repeat' (first
| intro h9;exfalso;contradiction
| apply yds;rfl
| apply yd;rfl
| intro _
| refine nv ?_
| apply wct rfl
| apply wcf rfl
| apply ae rfl
| apply ag;rfl
| apply aG (α:=Account) (e:=42);rfl
| apply yap;rfl;(((try simp only [lE,lM]);(try dsimp only);omega))
| apply ycp;rfl;exact cq;rfl
| fail)
    all_goals first
     | (rw [← ee];exact bS hp [0,4] rfl rfl rfl rfl rfl rfl)
     | (exfalso;omega)
     | trace_state
noncomputable def gP (l:List Instr) (no:Int):Int:=fIx l (fun t => ¬ t.No < no)
noncomputable def dG (l:List Instr) (x:Instr):List Instr:=ins l (gP l x.No) x
theorem kU (l:List Instr) (no:Int):0 ≤ gP l no ∧ gP l no ≤ l.length:=bW _ _
theorem nO {l:List Instr} {no j:Int} (h0:0 ≤ j) (h:j < gP l no):(rd l j).No < no:=by
 have:=iy h0 h
 omega
theorem qO {l:List Instr} {no:Int} (h:gP l no < l.length):¬ (rd l (gP l no)).No < no:=by
 have hn:=kU l no
 by_cases hx:∃ t ∈ l,¬ t.No < no
 ·exact ko hx
 ·exfalso
  have h1:=qy (l:=l) (q:=fun t => ¬ t.No < no) (fun x hm k => hx ⟨x,hm,k⟩)
  unfold gP at h
  omega
theorem pU (l:List Instr) (x:Instr):(dG l x).length = l.length + 1:=bZ (kU l x.No)
theorem eF {l:List Instr} {no:Int} (h:bq l):(ab l no = 0 ∧ ∀ j:Int,0 ≤ j → j < l.length → (rd l j).No ≠ no) ∨ ((1 ≤ ab l no ∧ ab l no ≤ 2) ∧ ∃ j:Int,(0 ≤ j ∧ j < l.length) ∧ (rd l j).No = no):=by
 by_cases hx:∃ t ∈ l,t.No = no
 ·right
  have h1:=gN hx
  have h0:=(bW l (fun t => t.No = no)).1
  have h2:(rd l (fIx l (fun t => t.No = no))).No = no:=ko hx
  have h3:∀ j:Int,0 ≤ j → j < fIx l (fun t => t.No = no) → (rd l j).No ≠ no:=fun j j0 j1 => iy (q:=fun t:Instr => t.No = no) j0 j1
  rw [ku (i:=fIx l (fun t => t.No = no)) ⟨h0,h1⟩ h3 h2]
  have:=(h.1 _ h0 h1).2.1
  unfold inP at this
  exact ⟨by omega,_,⟨h0,h1⟩,h2⟩
 ·left
  have hn:∀ j:Int,0 ≤ j → j < l.length → (rd l j).No ≠ no:=fun j h0 h1 e => hx ⟨_,ax ⟨h0,h1⟩,e⟩
  exact ⟨kv (i:=l.length) (by omega) hn,hn⟩
theorem sy {l:List Instr} {x:Instr} (h:bq l) (hn:∀ j:Int,0 ≤ j → j < l.length → (rd l j).No ≠ x.No) (h1:aj x.No) (h2:inP x.Kind 1 2):bq (dG l x) ↔ l.length < 8:=by
 have hl:=pU l x
 refine ⟨fun k => by have:=k.2;omega,fun k => ⟨fun i h0 hi => ?_,by omega⟩⟩
 have hk:=kU l x.No
 have ha:=qO (l:=l) (no:=x.No)
 have e:∀ p:Int,0 ≤ p → rd (dG l x) p = if p < gP l x.No then rd l p else if p = gP l x.No then x else rd l (p - 1):=fun p hp => ug hk hp
 unfold uN
 rw [e i h0]
 by_cases c1:i < gP l x.No
 ·rw [if_pos c1]
  obtain ⟨q1,q2,q3⟩:=h.1 i h0 (by omega)
  refine ⟨q1,q2,fun hp => ?_⟩
  rw [e (i - 1) (by omega),if_pos (by omega)]
  exact q3 hp
 ·rw [if_neg c1]
  by_cases c2:i = gP l x.No
  ·rw [if_pos c2]
   refine ⟨h1,h2,fun hp => ?_⟩
   rw [e (i - 1) (by omega),if_pos (by omega)]
   exact nO (by omega) (by omega)
  ·rw [if_neg c2]
   obtain ⟨q1,q2,q3⟩:=h.1 (i - 1) (by omega) (by omega)
   refine ⟨q1,q2,fun hp => ?_⟩
   rw [e (i - 1) (by omega),if_neg (by omega)]
   by_cases c3:i - 1 = gP l x.No
   ·rw [if_pos c3]
    have g1:=ha (by omega)
    rw [← c3] at g1
    have g2:=hn (i - 1) (by omega) (by omega)
    omega
   ·rw [if_neg c3]
    exact q3 (by omega)
theorem lF {l:List Instr} {no ki:Int} (hok:bq l):FC Tryz.prog 312 [.c (.row 0 0 l.length),.agg [.sc (.int .i64 no),.sc (.int .i64 ki)]] ([ro 74 l]) (sel (bq (dG l ⟨no,ki⟩)) (.tup [.c (.row 1 0 (dG l ⟨no,ki⟩).length),B true]) (.tup [.c (.row 1 0 l.length),B false])) (sel (bq (dG l ⟨no,ki⟩)) [ro 74 l,ow 74 (dG l ⟨no,ki⟩)] [ro 74 l,ow 74 l]):=by
 refine al tk 39 [.tmp 4,.tmp 5] Tryz.func312 (by kernel_rfl) rfl rfl rfl rfl rfl rfl rfl ?_
 have hl:=hok.2
 have hK:=kU l no
 repeat' (first
| intro h9;exfalso;contradiction
| apply yds;rfl
| apply yd;rfl
| intro _
| refine nv ?_
| apply wcf rfl
| apply ycp;rfl;exact eI;rfl
| fail)
 refine wlp (X:=Int) [0,3] [0,1] (fun i => [(6,I i)]) (fun _ => []) (fun i => 0 ≤ i ∧ i ≤ gP l no) (fun i => (l.length - i).toNat) 0 ⟨by omega,by omega⟩ rfl rfl (fun _ => rfl) (fun _ => rfl) ⟨rfl,rfl,rfl,rfl,rfl,rfl,rfl,rfl⟩ (fun i hi => ?_)
 obtain ⟨h0,hi⟩:=hi
 have hb:=fun h => nO (l:=l) (no:=no) h0 h
 have ha:=qO (l:=l) (no:=no)
 by_cases e:i = gP l no
 ·
  have ee:ins l i ⟨no,ki⟩ = dG l ⟨no,ki⟩:=by rw [e];rfl
  have ht:∀ h:i < l.length,¬ (rd l i).No < no:=fun h => by rw [e] at h ⊢;exact ha h
  by_cases hp:bq (ins l i ⟨no,ki⟩)
  ·
   repeat' (first
| intro h9;exfalso;first | contradiction | omega
| apply yds;rfl
| apply yd;rfl
| intro _
| refine nv ?_
| apply wcf rfl
| apply ae rfl
| apply ag;rfl
| apply yix;rfl;omega
| apply yle;rfl;omega
| apply aG (α:=Instr) (e:=74);rfl
| refine zdq (id:=4) rfl (by kernel_rfl) [(.p,0),(.p,1),(.p,2),(.p,3),(.p,4),(.p,5),(.p,6),(.p,7),(.p,8),(.p,10),(.t,9),(.t,11),(.p,12),(.p,13)] [] (by kernel_rfl) rfl ?_
| refine rO (id:=6) rfl (by kernel_rfl) [(.p,0),(.p,2),(.t,3)] 1 4 [(.o,4),(.l,5),(.p,6)] [(.o,1),(.l,5),(.p,6)] [5] (by kernel_rfl) rfl rfl rfl ?_
| apply fv
| apply ycp;rfl;exact eI;rfl
| apply ycf;rfl;exact dP (by omega);rfl
| apply ycw  [true,true];rfl;exact fj (by omega) (by omega);rfl
| fail)
   all_goals first
    | (rw [← ee];exact gM hp [0,4] rfl rfl rfl rfl rfl rfl)
    | (exfalso;first | contradiction | exact ht (by assumption) (by assumption))
    | trace_state
  ·
   repeat' (first
| intro h9;exfalso;first | contradiction | omega
| apply yds;rfl
| apply yd;rfl
| intro _
| refine nv ?_
| apply wct rfl
| apply wcf rfl
| apply ae rfl
| apply ag;rfl
| apply yix;rfl;omega
| apply yle;rfl;omega
| apply aG (α:=Instr) (e:=74);rfl
| refine zdq (id:=4) rfl (by kernel_rfl) [(.p,0),(.p,1),(.p,2),(.p,3),(.p,4),(.p,5),(.p,6),(.p,7),(.p,8),(.p,10),(.t,9),(.t,11),(.p,12),(.p,13)] [] (by kernel_rfl) rfl ?_
| refine rO (id:=6) rfl (by kernel_rfl) [(.p,0),(.p,2),(.t,3)] 1 4 [(.o,4),(.l,5),(.p,6)] [(.o,1),(.l,5),(.p,6)] [5] (by kernel_rfl) rfl rfl rfl ?_
| apply fv
| apply ycp;rfl;exact eI;rfl
| apply ycf;rfl;exact dP (by omega);rfl
| apply ycw  [true,true];rfl;exact fj (by omega) (by omega);rfl
| fail)
   all_goals first
    | (rw [← ee];exact bS hp [0,5] rfl rfl rfl rfl rfl rfl)
    | (exfalso;first | contradiction | exact ht (by assumption) (by assumption))
    | trace_state
 ·
  have hlt:=hb (by omega)
  repeat' (first
| intro h9;exfalso;first | contradiction | omega
| apply yds;rfl
| apply yd;rfl
| intro _
| refine nv ?_
| apply wct rfl
| apply ag;rfl
| apply yar;rfl;omega
| apply yix;rfl;omega
| apply yle;rfl;omega
| refine zdq (id:=4) rfl (by kernel_rfl) [(.p,0),(.p,1),(.p,2),(.p,3),(.p,4),(.p,5),(.p,6),(.p,7),(.p,8),(.p,10),(.t,9),(.t,11),(.p,12),(.p,13)] [] (by kernel_rfl) rfl ?_
| fail)
  all_goals first
   | exact aA (i + 1) [0,1] ⟨rfl,rfl,rfl,rfl,rfl,rfl,rfl,rfl⟩ ⟨by omega,by omega⟩ (by first | omega | (dsimp only;omega))
   | (exfalso;first | contradiction | omega)
   | trace_state
theorem lZ {l:List Instr} {no ki:Int} (hok:bq l):FC Tryz.prog 260 [.c (.row 0 0 l.length),.agg [.sc (.int .i64 no),.sc (.int .i64 ki)]] ([ro 74 l]) (sel (bq (dG l ⟨no,ki⟩)) (.tup [.c (.row 1 0 (dG l ⟨no,ki⟩).length),B true]) (.tup [.c (.row 1 0 l.length),B false])) (sel (bq (dG l ⟨no,ki⟩)) [ro 74 l,ow 74 (dG l ⟨no,ki⟩)] [ro 74 l,ow 74 l]):=by
 refine al tk 56 [.tmp 4,.tmp 5] Tryz.func260 (by kernel_rfl) rfl rfl rfl rfl rfl rfl rfl ?_
 have hl:=hok.2
 have hK:=kU l no
 have hKa:=qO (l:=l) (no:=no)
 repeat' (first
| intro h9;exfalso;contradiction
| apply yds;rfl
| apply yd;rfl
| intro _
| refine nv ?_
| apply wcf rfl
| apply aG (α:=Instr) (e:=74);rfl
| apply ycp;rfl;exact cW;rfl
| fail)
 refine wlp (X:=Int × Bool × List Instr) [0,3] [0,1,2] (fun x => [(8,I x.1),(7,B x.2.1),(6,.c (.row 2 0 x.2.2.length))]) (fun x => [(2,ow 74 x.2.2)]) (fun x => (0 ≤ x.1 ∧ x.1 ≤ l.length) ∧ (x.2.1 = false → x.1 ≤ gP l no ∧ x.2.2 = pf l x.1) ∧ (x.2.1 = true → gP l no < x.1 ∧ x.2.2 = ins (pf l x.1) (gP l no) ⟨no,ki⟩)) (fun x => (l.length - x.1).toNat) (0,false,[]) ⟨⟨by dsimp only;omega,by dsimp only;omega⟩,fun _ => ⟨by dsimp only;omega,rfl⟩,fun h => (by cases h)⟩ rfl rfl (fun _ => rfl) (fun _ => rfl) ⟨rfl,rfl,rfl,rfl,rfl,rfl,rfl,rfl⟩ (fun x hx => ?_)
 obtain ⟨i,put,xs⟩:=x
 obtain ⟨h0,hf,ht⟩:=hx
 dsimp only at h0 hf ht ⊢
 have hb:=fun h => nO (l:=l) (no:=no) h0.1 h
 have hpl:=bU h0
 cases put
 ·obtain ⟨h1,h2⟩:=hf rfl
  have hxl:xs.length ≤ 8:=by rw [h2];omega
  clear hf ht
  by_cases hil:i < l.length
  ·
   by_cases hge:(rd l i).No ≥ no
   ·
    have e:gP l no = i:=by
     rcases Int.lt_or_le i (gP l no) with q | q
     ·have:=hb q
      omega
     ·omega
    repeat' (first
| intro h9;exfalso;contradiction
| apply yds;rfl
| apply yd;rfl
| intro _
| refine nv ?_
| apply wct rfl
| apply ag;rfl
| apply yar;rfl;omega
| apply yix;rfl;omega
| apply yle;rfl;omega
| apply aG (α:=Instr) (e:=74);rfl
| apply yap;rfl;(((try simp only [lE,lM]);(try dsimp only);omega))
| refine zdq (id:=8) rfl (by kernel_rfl) [(.p,0),(.p,1),(.p,2),(.p,3),(.p,4),(.p,5),(.p,6),(.p,8),(.t,7),(.t,9),(.p,10),(.p,11)] [] (by kernel_rfl) rfl ?_
| fail)
    all_goals first
     | exact aA (i + 1,true,xs ++ [⟨no,ki⟩] ++ [rd l i]) [0,1,6] ⟨rfl,rfl,rfl,rfl,rfl,rfl,rfl,rfl⟩ ⟨⟨by dsimp only;omega,by dsimp only;omega⟩,fun h => (by cases h),fun _ => ⟨by dsimp only;omega,by dsimp only;rw [h2,Ap ⟨h0.1,hil⟩,e]⟩⟩ (by first | omega | (dsimp only;omega))
     | (exfalso;omega)
     | trace_state
   ·
    have e:i ≠ gP l no:=fun e => by
     have q1:=hKa (by omega)
     rw [← e] at q1
     omega
    repeat' (first
| intro h9;exfalso;contradiction
| apply yds;rfl
| apply yd;rfl
| intro _
| refine nv ?_
| apply wct rfl
| apply wcf rfl
| apply ag;rfl
| apply yar;rfl;omega
| apply yix;rfl;omega
| apply yle;rfl;omega
| apply aG (α:=Instr) (e:=74);rfl
| apply yap;rfl;(((try simp only [lE,lM]);(try dsimp only);omega))
| refine zdq (id:=8) rfl (by kernel_rfl) [(.p,0),(.p,1),(.p,2),(.p,3),(.p,4),(.p,5),(.p,6),(.p,8),(.t,7),(.t,9),(.p,10),(.p,11)] [] (by kernel_rfl) rfl ?_
| fail)
    all_goals first
     | exact aA (i + 1,false,xs ++ [rd l i]) [0,1,4] ⟨rfl,rfl,rfl,rfl,rfl,rfl,rfl,rfl⟩ ⟨⟨by dsimp only;omega,by dsimp only;omega⟩,fun _ => ⟨by dsimp only;omega,by dsimp only;rw [h2,ce ⟨h0.1,hil⟩]⟩,fun h => (by cases h)⟩ (by first | omega | (dsimp only;omega))
     | (exfalso;omega)
     | trace_state
  ·
   have ee:xs ++ [⟨no,ki⟩] = dG l ⟨no,ki⟩:=by rw [h2,Aq ⟨h0.1,hil⟩,← show gP l no = l.length from by omega];rfl
   by_cases hp:bq (xs ++ [⟨no,ki⟩])
   ·
    repeat' (first
| intro h9;exfalso;contradiction
| apply yds;rfl
| apply yd;rfl
| intro _
| refine nv ?_
| apply wct rfl
| apply wcf rfl
| apply ae rfl
| apply ag;rfl
| apply aG (α:=Instr) (e:=74);rfl
| apply yap;rfl;(((try simp only [lE,lM]);(try dsimp only);omega))
| apply ycp;rfl;exact cW;rfl
| fail)
    all_goals first
     | (rw [← ee];exact gM hp [0,4] rfl rfl rfl rfl rfl rfl)
     | (exfalso;omega)
     | trace_state
   ·
    repeat' (first
| intro h9;exfalso;contradiction
| apply yds;rfl
| apply yd;rfl
| intro _
| refine nv ?_
| apply wct rfl
| apply wcf rfl
| apply ae rfl
| apply ag;rfl
| apply aG (α:=Instr) (e:=74);rfl
| apply yap;rfl;(((try simp only [lE,lM]);(try dsimp only);omega))
| apply ycp;rfl;exact cW;rfl
| fail)
    all_goals first
     | (rw [← ee];exact bS hp [0,6] rfl rfl rfl rfl rfl rfl)
     | (exfalso;omega)
     | trace_state
 ·obtain ⟨h1,h2⟩:=ht rfl
  have hxl:xs.length ≤ 8 + 1:=by rw [h2,bZ ⟨by omega,by omega⟩];omega
  clear hf ht
  by_cases hil:i < l.length
  ·
   repeat' (first
| intro h9;exfalso;contradiction
| apply yds;rfl
| apply yd;rfl
| intro _
| refine nv ?_
| apply wct rfl
| apply wcf rfl
| apply ag;rfl
| apply yar;rfl;omega
| apply yix;rfl;omega
| apply yle;rfl;omega
| apply aG (α:=Instr) (e:=74);rfl
| apply yap;rfl;(((try simp only [lE,lM]);(try dsimp only);omega))
| refine zdq (id:=8) rfl (by kernel_rfl) [(.p,0),(.p,1),(.p,2),(.p,3),(.p,4),(.p,5),(.p,6),(.p,8),(.t,7),(.t,9),(.p,10),(.p,11)] [] (by kernel_rfl) rfl ?_
| fail)
   all_goals first
    | exact aA (i + 1,true,xs ++ [rd l i]) [0,1,4] ⟨rfl,rfl,rfl,rfl,rfl,rfl,rfl,rfl⟩ ⟨⟨by dsimp only;omega,by dsimp only;omega⟩,fun h => (by cases h),fun _ => ⟨by dsimp only;omega,by dsimp only;rw [h2,Ar ⟨hK.1,h1⟩ hil]⟩⟩ (by first | omega | (dsimp only;omega))
    | (exfalso;omega)
    | trace_state
  ·
   have ee:xs = dG l ⟨no,ki⟩:=by rw [h2,aY hil];rfl
   by_cases hp:bq xs
   ·
    repeat' (first
| intro h9;exfalso;contradiction
| apply yds;rfl
| apply yd;rfl
| intro _
| refine nv ?_
| apply wcf rfl
| apply ae rfl
| apply ag;rfl
| apply ycp;rfl;exact cW;rfl
| fail)
    all_goals first
     | (rw [← ee];exact gM hp [0,2] rfl rfl rfl rfl rfl rfl)
     | (exfalso;omega)
     | trace_state
   ·
    repeat' (first
| intro h9;exfalso;contradiction
| apply yds;rfl
| apply yd;rfl
| intro _
| refine nv ?_
| apply wct rfl
| apply wcf rfl
| apply ae rfl
| apply ag;rfl
| apply aG (α:=Instr) (e:=74);rfl
| apply yap;rfl;(((try simp only [lE,lM]);(try dsimp only);omega))
| apply ycp;rfl;exact cW;rfl
| fail)
    all_goals first
     | (rw [← ee];exact bS hp [0,4] rfl rfl rfl rfl rfl rfl)
     | (exfalso;omega)
     | trace_state
end Go.Proofs.YtgehbhkfehmdkaaGreat.Sh
