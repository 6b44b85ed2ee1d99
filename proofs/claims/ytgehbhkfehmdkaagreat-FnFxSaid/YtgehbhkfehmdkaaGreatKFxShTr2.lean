/- Trades of the specification. No condition. -/
import Derived.Test.YtgehbhkfehmdkaaGreatKFxShV
import Derived.Test.YtgehbhkfehmdkaaGreatKFxShBo
import Derived.Test.YtgehbhkfehmdkaaGreatKFxShSo
import Derived.Test.YtgehbhkfehmdkaaGreatKFxShDr
set_option maxRecDepth 100000
set_option maxHeartbeats 40000000
set_option linter.unusedSimpArgs false
set_option linter.unusedVariables false
namespace Go.Proofs.YtgehbhkfehmdkaaGreat.Sh
section
open Go.RowKit
theorem sY {no bu se pa qt ca pr:Int} (h1:ag no) (h2:ag bu) (h3:ag se) (h4:ag pa) (h5:inP qt 1 1000000000000000) (h6:ag ca) (h7:inP pr 0 1000000000000000):eD no bu se pa qt ca pr:=⟨fun x hx => by simp only [List.mem_cons,List.not_mem_nil,or_false] at hx;rcases hx with rfl | rfl | rfl | rfl | rfl <;> assumption,h5,h7⟩
theorem sZ {no bu se pa qt ca pr:Int} (h:eD no bu se pa qt ca pr):ag no ∧ ag bu ∧ ag se ∧ ag pa ∧ inP qt 1 1000000000000000 ∧ ag ca ∧ inP pr 0 1000000000000000:=⟨h.1 _ (by simp),h.1 _ (by simp),h.1 _ (by simp),h.1 _ (by simp),h.2.1,h.1 _ (by simp),h.2.2⟩
theorem y5 {l:List Trade} {i k:Int} {x:Trade} (h:0 ≤ k ∧ k < i) (hi:i < l.length):ins (pf l i) k x ++ [rd l i] = ins (pf l (i + 1)) k x:=by
 rw [bL ⟨by omega,hi⟩]
 have h1:k.toNat ≤ (pf l i).length:=by have:=bO (l:=l) (i:=i) ⟨by omega,by omega⟩;omega
 unfold ins
 rw [List.take_append_of_le_length h1,List.drop_append_of_le_length h1]
 simp
theorem ww {l:List Trade} {i:Int} {x:Trade} (h:0 ≤ i ∧ i < l.length):pf l i ++ [x] ++ [rd l i] = ins (pf l (i + 1)) i x:=by
 rw [bL h]
 have h1:(pf l i).length = i.toNat:=by have:=bO (l:=l) (i:=i) ⟨by omega,by omega⟩;omega
 unfold ins
 rw [← h1,List.take_left,List.drop_left]
 simp
theorem wx {l:List Trade} {i:Int} {x:Trade} (h:0 ≤ i ∧ ¬ i < l.length):pf l i ++ [x] = ins l l.length x:=by
 rw [b8 h.2,iQ rfl]
theorem ls {ba:List Account} {bi:List Instr} {bb:List Bal} {bl:List Lot} {bt:List Trade} {bn:Int} {no bu se pa qt ca pr:Int}:FC Tryz.prog 77 [bkV 0 ⟨ba,bi,bb,bl,bt,bn⟩,I no,I bu,I se,I pa,I qt,I ca,I pr] (bkR ⟨ba,bi,bb,bl,bt,bn⟩) (.tup [bkE 5 (b6 ⟨ba,bi,bb,bl,bt,bn⟩ no bu se pa qt ca pr).1,I (b6 ⟨ba,bi,bb,bl,bt,bn⟩ no bu se pa qt ca pr).2]) (bkR ⟨ba,bi,bb,bl,bt,bn⟩ ++ bkW (b6 ⟨ba,bi,bb,bl,bt,bn⟩ no bu se pa qt ca pr).1):=by
 refine ay tk 182 [.cell 16 _,.tmp 17] Tryz.func77 (by kernel_rfl) rfl rfl rfl rfl rfl rfl rfl ?_
 by_cases hok:BooksOk ⟨ba,bi,bb,bl,bt,bn⟩
 rotate_left
 ·
  repeat' (first
| intro h9;exfalso;contradiction
| apply ap (d:=65) 0 42 2;rfl;rfl;rfl;rfl;rfl
| apply ap (d:=65) 1 74 2;rfl;rfl;rfl;rfl;rfl
| apply ap (d:=65) 2 135 3;rfl;rfl;rfl;rfl;rfl
| apply ap (d:=65) 3 137 5;rfl;rfl;rfl;rfl;rfl
| apply ap (d:=65) 4 103 8;rfl;rfl;rfl;rfl;rfl
| apply yd;rfl
| intro _
| refine nv ?_
| apply wct rfl
| apply ycp;rfl;exact ae;rfl
| fail)
  all_goals first
   | (rw [tw (b:=⟨ba,bi,bb,bl,bt,bn⟩) (fun h => hok h.1)]
      exact au [0,1,2,3,4,7,8,9,10,11] rfl rfl rfl rfl rfl rfl)
 by_cases hta:eD no bu se pa qt ca pr
 rotate_left
 ·
  repeat' (first
| intro h9;exfalso;contradiction
| intro h9;exact absurd (sY (by assumption) (by assumption) (by assumption) (by assumption) (by assumption) (by assumption) h9) hta
| apply ap (d:=65) 0 42 2;rfl;rfl;rfl;rfl;rfl
| apply ap (d:=65) 1 74 2;rfl;rfl;rfl;rfl;rfl
| apply ap (d:=65) 2 135 3;rfl;rfl;rfl;rfl;rfl
| apply ap (d:=65) 3 137 5;rfl;rfl;rfl;rfl;rfl
| apply ap (d:=65) 4 103 8;rfl;rfl;rfl;rfl;rfl
| apply yd;rfl
| intro _
| refine nv ?_
| apply wct rfl
| apply ycp;rfl;(first | exact ae | exact aG | exact aA);rfl
| fail)
  all_goals first
   | (rw [tw (b:=⟨ba,bi,bb,bl,bt,bn⟩) (fun h => hta h.2)]
      exact au [0,1,2,3,4,7,8,9,10,11] rfl rfl rfl rfl rfl rfl)
 have hA:=hok.acc
 have hI:=hok.ins
 have hl:=hok.trades.2
 dsimp only at hA hI hl
 obtain ⟨k1,k2,k3,k4,k5,k6,k7⟩:=sZ hta
 have hnn:=cK bt (fun t => t.No = no)
 have hbb:BooksOk ⟨ba,bi,bb,bl,bt,bn⟩ ∧ eD no bu se pa qt ca pr:=⟨hok,hta⟩
 repeat' (first
| intro h9;exfalso;first | contradiction | omega
| apply yds;rfl
| apply yd;rfl
| intro _
| refine nv ?_
| apply wct rfl
| apply wcf rfl
| apply aj;rfl
| apply yne;rfl
| apply aH (α:=Trade) (e:=103);rfl
| refine zdq (id:=4) rfl (by kernel_rfl) [(.p,0),(.p,2),(.p,4),(.p,6),(.t,1),(.t,5),(.o,3),(.o,7),(.p,8),(.p,9)] [] (by kernel_rfl) rfl ?_
| refine zdq (id:=5) rfl (by kernel_rfl) [(.p,0),(.p,2),(.p,4),(.p,6),(.t,1),(.t,5),(.o,3),(.o,7),(.p,8),(.p,9)] [] (by kernel_rfl) rfl ?_
| apply ycp;rfl;(first | exact ae | exact aG | exact aA);rfl
| apply ycf;rfl;exact aI (by exact BooksOk.midB (by assumption));rfl
| apply ycq;rfl;(first | exact aM | exact aU);rfl
| apply zcs;(iterate 10 rfl);exact gH;exact fun _ => rfl;exact fun _ => rfl;rfl;rfl;rfl;rfl
| fail)
 all_goals first
  | (have hk:∃ t ∈ bt,t.No = no:=by assumption
     rw [zy (b:=⟨ba,bi,bb,bl,bt,bn⟩) hbb hk]
     exact au [0,1,2,3,4,7,8,9,10,11] rfl rfl rfl rfl rfl rfl)
  | (rw [zz (b:=⟨ba,bi,bb,bl,bt,bn⟩) hbb (by assumption) (by dsimp only;omega)]
     exact au [0,1,2,3,4,7,8,9,10,11] rfl rfl rfl rfl rfl rfl)
  | (rw [zA (b:=⟨ba,bi,bb,bl,bt,bn⟩) hbb (by assumption) (by dsimp only;omega) (by dsimp only;omega)]
     exact au [0,1,2,3,4,7,8,9,10,11] rfl rfl rfl rfl rfl rfl)
  | (rw [zC (b:=⟨ba,bi,bb,bl,bt,bn⟩) hbb (by assumption) (by dsimp only;omega) (by dsimp only;omega)]
     exact au [0,1,2,3,4,7,8,9,10,11] rfl rfl rfl rfl rfl rfl)
  | skip
 all_goals
  have hne:∀ j:Int,0 ≤ j → j < bt.length → (rd bt j).No ≠ no:=fun j h0 h1 e => (by assumption:¬ ∃ t,t ∈ bt ∧ t.No = no) ⟨_,az ⟨h0,h1⟩,e⟩
  have hK:=nE bt no
  have hKa:=wP (l:=bt) (no:=no)
  refine wlp (X:=Int × Bool × List Trade) [1,8,16,18,23] [0,1,2,3,4,5,6,7,8,9,10,11,12,13,14] (fun x => [(26,I x.1),(25,B x.2.1),(24,.c (.row 14 0 x.2.2.length))]) (fun x => [(14,ow 103 x.2.2)]) (fun x => (0 ≤ x.1 ∧ x.1 ≤ bt.length) ∧ (x.2.1 = false → x.1 ≤ jz bt no ∧ x.2.2 = pf bt x.1) ∧ (x.2.1 = true → jz bt no < x.1 ∧ x.2.2 = ins (pf bt x.1) (jz bt no) ⟨no,bu,se,pa,qt,ca,pr,1⟩)) (fun x => (bt.length - x.1).toNat) (0,false,[]) ⟨⟨by dsimp only;omega,by dsimp only;omega⟩,fun _ => ⟨hK.1,rfl⟩,fun h => by cases h⟩ rfl rfl (fun _ => rfl) (fun _ => rfl) ⟨rfl,rfl,rfl,rfl,rfl,rfl,rfl,rfl⟩ (fun x hx => ?_)
  obtain ⟨i,put,xs⟩:=x
  obtain ⟨h0,hf,ht⟩:=hx
  dsimp only at h0 hf ht ⊢
  have hb:=fun h => vj (l:=bt) (no:=no) h0.1 h
  have hnei:=hne i h0.1
  have hpl:=bO h0
  cases put
  ·obtain ⟨h1,h2⟩:=hf rfl
   have hxl:xs.length ≤ 30:=by rw [h2];omega
   clear hf ht
   repeat' (first
| apply yds;rfl
| apply yd;rfl
| intro _
| refine nv ?_
| apply wct rfl
| apply wcf rfl
| apply ah rfl
| apply aj;rfl
| apply yar;rfl;omega
| apply yix;rfl;omega
| apply yle;rfl;omega
| apply aH (α:=Trade) (e:=103);rfl
| apply yap;rfl;(((try simp only [lE,lM]);(try dsimp only);omega))
| fail)
   all_goals first
    | (rename_i hi hgt
       have e:jz bt no = i:=by omega
       exact aB (i + 1,true,xs ++ [⟨no,bu,se,pa,qt,ca,pr,1⟩] ++ [rd bt i]) [0,1,2,3,4,5,6,7,8,9,10,11,12,13,18] ⟨rfl,rfl,rfl,rfl,rfl,rfl,rfl,rfl⟩ ⟨⟨by dsimp only;omega,by dsimp only;omega⟩,fun h => (by cases h),fun _ => ⟨by dsimp only;omega,by dsimp only;rw [h2,ww ⟨h0.1,hi⟩,e]⟩⟩ (by first | omega | (dsimp only;omega)))
    | (rename_i hi hgt
       have e:i ≠ jz bt no:=fun e => by
        have q1:=hKa (by omega)
        rw [← e] at q1
        have q2:=hnei hi
        omega
       exact aB (i + 1,false,xs ++ [rd bt i]) [0,1,2,3,4,5,6,7,8,9,10,11,12,13,16] ⟨rfl,rfl,rfl,rfl,rfl,rfl,rfl,rfl⟩ ⟨⟨by dsimp only;omega,by dsimp only;omega⟩,fun _ => ⟨by dsimp only;omega,by dsimp only;rw [h2,bL ⟨h0.1,hi⟩]⟩,fun h => (by cases h)⟩ (by first | omega | (dsimp only;omega)))
    | (rename_i hi
       rw [yJ (b:=⟨ba,bi,bb,bl,bt,bn⟩) (r:=xs ++ [⟨no,bu,se,pa,qt,ca,pr,1⟩]) hbb (by assumption) (by dsimp only;omega) (by dsimp only;omega) (by rw [h2,wx ⟨h0.1,hi⟩,← show jz bt no = bt.length from by omega];rfl)]
       exact au [0,1,2,3,4,7,8,9,10,16] rfl rfl rfl rfl rfl rfl)
  ·obtain ⟨h1,h2⟩:=ht rfl
   have hxl:xs.length ≤ 31:=by rw [h2,dE ⟨by omega,by omega⟩];omega
   clear hf ht
   repeat' (first
| apply yds;rfl
| apply yd;rfl
| intro _
| refine nv ?_
| apply wct rfl
| apply wcf rfl
| apply ah rfl
| apply aj;rfl
| apply yar;rfl;omega
| apply yix;rfl;omega
| apply yle;rfl;omega
| apply aH (α:=Trade) (e:=103);rfl
| apply yap;rfl;(((try simp only [lE,lM]);(try dsimp only);omega))
| fail)
   all_goals first
    | (rename_i hi
       exact aB (i + 1,true,xs ++ [rd bt i]) [0,1,2,3,4,5,6,7,8,9,10,11,12,13,16] ⟨rfl,rfl,rfl,rfl,rfl,rfl,rfl,rfl⟩ ⟨⟨by dsimp only;omega,by dsimp only;omega⟩,fun h => (by cases h),fun _ => ⟨by dsimp only;omega,by dsimp only;rw [h2,y5 ⟨hK.1,h1⟩ hi]⟩⟩ (by first | omega | (dsimp only;omega)))
    | (rename_i hi
       rw [yJ (b:=⟨ba,bi,bb,bl,bt,bn⟩) (r:=xs) hbb (by assumption) (by dsimp only;omega) (by dsimp only;omega) (by rw [h2,b8 hi];rfl)]
       exact au [0,1,2,3,4,7,8,9,10,14] rfl rfl rfl rfl rfl rfl)
end
section
open Go.RowKit
section
variable {α:Type} [Enc α] {l:List α} {i k:Int} {x:α}
theorem x5 (h:0 ≤ k ∧ k < i) (hi:i < l.length):ins (pf l i) k x ++ [rd l i] = ins (pf l (i + 1)) k x:=by
 rw [bL ⟨by omega,hi⟩]
 have h1:k.toNat ≤ (pf l i).length:=by have:=bO (l:=l) (i:=i) ⟨by omega,by omega⟩;omega
 unfold ins
 rw [List.take_append_of_le_length h1,List.drop_append_of_le_length h1]
 simp
theorem x3 (h:0 ≤ i ∧ i < l.length):pf l i ++ [x] ++ [rd l i] = ins (pf l (i + 1)) i x:=by
 rw [bL h]
 have h1:(pf l i).length = i.toNat:=by have:=bO (l:=l) (i:=i) ⟨by omega,by omega⟩;omega
 unfold ins
 rw [← h1,List.take_left,List.drop_left]
 simp
theorem x4 (h:0 ≤ i ∧ ¬ i < l.length):pf l i ++ [x] = ins l l.length x:=by
 rw [b8 h.2,iQ rfl]
end
noncomputable def fk (l:List Account) (no:Int):Int:=fIx l (fun t => ¬ t.No < no)
noncomputable def eF (l:List Account) (x:Account):List Account:=ins l (fk l x.No) x
theorem ke (l:List Account) (no:Int):0 ≤ fk l no ∧ fk l no ≤ l.length:=cK _ _
theorem nJ {l:List Account} {no j:Int} (h0:0 ≤ j) (h:j < fk l no):(rd l j).No < no:=by
 have:=fw h0 h
 omega
theorem qL {l:List Account} {no:Int} (h:fk l no < l.length):¬ (rd l (fk l no)).No < no:=by
 have hn:=ke l no
 by_cases hx:∃ t ∈ l,¬ t.No < no
 ·exact ig hx
 ·exfalso
  have h1:=mM (l:=l) (q:=fun t => ¬ t.No < no) (fun x hm k => hx ⟨x,hm,k⟩)
  unfold fk at h
  omega
theorem m3 (l:List Account) (x:Account):(eF l x).length = l.length + 1:=dE (ke l x.No)
theorem pR {l:List Account} {no:Int} (h:aO l):(a9 l no = 0 ∧ ∀ j:Int,0 ≤ j → j < l.length → (rd l j).No ≠ no) ∨ ((1 ≤ a9 l no ∧ a9 l no ≤ 4) ∧ ∃ j:Int,(0 ≤ j ∧ j < l.length) ∧ (rd l j).No = no):=by
 by_cases hx:∃ t ∈ l,t.No = no
 ·right
  have h1:=ij hx
  have h0:=(cK l (fun t => t.No = no)).1
  have h2:(rd l (fIx l (fun t => t.No = no))).No = no:=ig hx
  have h3:∀ j:Int,0 ≤ j → j < fIx l (fun t => t.No = no) → (rd l j).No ≠ no:=fun j j0 j1 => fw (q:=fun t:Account => t.No = no) j0 j1
  rw [fm (i:=fIx l (fun t => t.No = no)) ⟨h0,h1⟩ h3 h2]
  have:=(h.1 _ h0 h1).2.1
  unfold inP at this
  exact ⟨by omega,_,⟨h0,h1⟩,h2⟩
 ·left
  have hn:∀ j:Int,0 ≤ j → j < l.length → (rd l j).No ≠ no:=fun j h0 h1 e => hx ⟨_,az ⟨h0,h1⟩,e⟩
  exact ⟨ib (i:=l.length) (by omega) hn,hn⟩
theorem tc {l:List Account} {x:Account} (h:aO l) (hn:∀ j:Int,0 ≤ j → j < l.length → (rd l j).No ≠ x.No) (h1:ag x.No) (h2:inP x.Kind 1 4):aO (eF l x) ↔ l.length < 20:=by
 have hl:=m3 l x
 refine ⟨fun k => by have:=k.2;omega,fun k => ⟨fun i h0 hi => ?_,by omega⟩⟩
 have hk:=ke l x.No
 have ha:=qL (l:=l) (no:=x.No)
 have e:∀ p:Int,0 ≤ p → rd (eF l x) p = if p < fk l x.No then rd l p else if p = fk l x.No then x else rd l (p - 1):=fun p hp => qy hk hp
 unfold qM
 rw [e i h0]
 by_cases c1:i < fk l x.No
 ·rw [if_pos c1]
  obtain ⟨q1,q2,q3⟩:=h.1 i h0 (by omega)
  refine ⟨q1,q2,fun hp => ?_⟩
  rw [e (i - 1) (by omega),if_pos (by omega)]
  exact q3 hp
 ·rw [if_neg c1]
  by_cases c2:i = fk l x.No
  ·rw [if_pos c2]
   refine ⟨h1,h2,fun hp => ?_⟩
   rw [e (i - 1) (by omega),if_pos (by omega)]
   exact nJ (by omega) (by omega)
  ·rw [if_neg c2]
   obtain ⟨q1,q2,q3⟩:=h.1 (i - 1) (by omega) (by omega)
   refine ⟨q1,q2,fun hp => ?_⟩
   rw [e (i - 1) (by omega),if_neg (by omega)]
   by_cases c3:i - 1 = fk l x.No
   ·rw [if_pos c3]
    have g1:=ha (by omega)
    rw [← c3] at g1
    have g2:=hn (i - 1) (by omega) (by omega)
    omega
   ·rw [if_neg c3]
    exact q3 (by omega)
theorem ez {l:List Account} {no ki:Int} (hok:aO l):FC Tryz.prog 259 [.c (.row 0 0 l.length),.agg [.sc (.int .i64 no),.sc (.int .i64 ki)]] ([ro 42 l]) (sel (aO (eF l ⟨no,ki⟩)) (.tup [.c (.row 1 0 (eF l ⟨no,ki⟩).length),B true]) (.tup [.c (.row 1 0 l.length),B false])) (sel (aO (eF l ⟨no,ki⟩)) [ro 42 l,ow 42 (eF l ⟨no,ki⟩)] [ro 42 l,ow 42 l]):=by
 refine ay tk 56 [.tmp 4,.tmp 5] Tryz.func259 (by kernel_rfl) rfl rfl rfl rfl rfl rfl rfl ?_
 have hl:=hok.2
 have hK:=ke l no
 have hKa:=qL (l:=l) (no:=no)
 repeat' (first
| intro h9;exfalso;contradiction
| apply yds;rfl
| apply yd;rfl
| intro _
| refine nv ?_
| apply wcf rfl
| apply aH (α:=Account) (e:=42);rfl
| apply ycp;rfl;exact bP;rfl
| fail)
 refine wlp (X:=Int × Bool × List Account) [0,3] [0,1,2] (fun x => [(8,I x.1),(7,B x.2.1),(6,.c (.row 2 0 x.2.2.length))]) (fun x => [(2,ow 42 x.2.2)]) (fun x => (0 ≤ x.1 ∧ x.1 ≤ l.length) ∧ (x.2.1 = false → x.1 ≤ fk l no ∧ x.2.2 = pf l x.1) ∧ (x.2.1 = true → fk l no < x.1 ∧ x.2.2 = ins (pf l x.1) (fk l no) ⟨no,ki⟩)) (fun x => (l.length - x.1).toNat) (0,false,[]) ⟨⟨by dsimp only;omega,by dsimp only;omega⟩,fun _ => ⟨by dsimp only;omega,rfl⟩,fun h => (by cases h)⟩ rfl rfl (fun _ => rfl) (fun _ => rfl) ⟨rfl,rfl,rfl,rfl,rfl,rfl,rfl,rfl⟩ (fun x hx => ?_)
 obtain ⟨i,put,xs⟩:=x
 obtain ⟨h0,hf,ht⟩:=hx
 dsimp only at h0 hf ht ⊢
 have hb:=fun h => nJ (l:=l) (no:=no) h0.1 h
 have hpl:=bO h0
 cases put
 ·obtain ⟨h1,h2⟩:=hf rfl
  have hxl:xs.length ≤ 20:=by rw [h2];omega
  clear hf ht
  by_cases hil:i < l.length
  ·
   by_cases hge:(rd l i).No ≥ no
   ·
    have e:fk l no = i:=by
     rcases Int.lt_or_le i (fk l no) with q | q
     ·have:=hb q
      omega
     ·omega
    repeat' (first
| intro h9;exfalso;contradiction
| apply yds;rfl
| apply yd;rfl
| intro _
| refine nv ?_
| apply wct rfl
| apply aj;rfl
| apply yar;rfl;omega
| apply yix;rfl;omega
| apply yle;rfl;omega
| apply aH (α:=Account) (e:=42);rfl
| apply yap;rfl;(((try simp only [lE,lM]);(try dsimp only);omega))
| refine zdq (id:=8) rfl (by kernel_rfl) [(.p,0),(.p,1),(.p,2),(.p,3),(.p,4),(.p,5),(.p,6),(.p,8),(.t,7),(.t,9),(.p,10),(.p,11)] [] (by kernel_rfl) rfl ?_
| fail)
    all_goals first
     | exact aB (i + 1,true,xs ++ [⟨no,ki⟩] ++ [rd l i]) [0,1,6] ⟨rfl,rfl,rfl,rfl,rfl,rfl,rfl,rfl⟩ ⟨⟨by dsimp only;omega,by dsimp only;omega⟩,fun h => (by cases h),fun _ => ⟨by dsimp only;omega,by dsimp only;rw [h2,x3 ⟨h0.1,hil⟩,e]⟩⟩ (by first | omega | (dsimp only;omega))
     | (exfalso;omega)
     | trace_state
   ·
    have e:i ≠ fk l no:=fun e => by
     have q1:=hKa (by omega)
     rw [← e] at q1
     omega
    repeat' (first
| intro h9;exfalso;contradiction
| apply yds;rfl
| apply yd;rfl
| intro _
| refine nv ?_
| apply wct rfl
| apply wcf rfl
| apply aj;rfl
| apply yar;rfl;omega
| apply yix;rfl;omega
| apply yle;rfl;omega
| apply aH (α:=Account) (e:=42);rfl
| apply yap;rfl;(((try simp only [lE,lM]);(try dsimp only);omega))
| refine zdq (id:=8) rfl (by kernel_rfl) [(.p,0),(.p,1),(.p,2),(.p,3),(.p,4),(.p,5),(.p,6),(.p,8),(.t,7),(.t,9),(.p,10),(.p,11)] [] (by kernel_rfl) rfl ?_
| fail)
    all_goals first
     | exact aB (i + 1,false,xs ++ [rd l i]) [0,1,4] ⟨rfl,rfl,rfl,rfl,rfl,rfl,rfl,rfl⟩ ⟨⟨by dsimp only;omega,by dsimp only;omega⟩,fun _ => ⟨by dsimp only;omega,by dsimp only;rw [h2,bL ⟨h0.1,hil⟩]⟩,fun h => (by cases h)⟩ (by first | omega | (dsimp only;omega))
     | (exfalso;omega)
     | trace_state
  ·
   have ee:xs ++ [⟨no,ki⟩] = eF l ⟨no,ki⟩:=by rw [h2,x4 ⟨h0.1,hil⟩,← show fk l no = l.length from by omega];rfl
   by_cases hp:aO (xs ++ [⟨no,ki⟩])
   ·
    repeat' (first
| intro h9;exfalso;contradiction
| apply yds;rfl
| apply yd;rfl
| intro _
| refine nv ?_
| apply wct rfl
| apply wcf rfl
| apply ah rfl
| apply aj;rfl
| apply aH (α:=Account) (e:=42);rfl
| apply yap;rfl;(((try simp only [lE,lM]);(try dsimp only);omega))
| apply ycp;rfl;exact bP;rfl
| fail)
    all_goals first
     | (rw [← ee];exact jl hp [0,4] rfl rfl rfl rfl rfl rfl)
     | (exfalso;omega)
     | trace_state
   ·
    repeat' (first
| intro h9;exfalso;contradiction
| apply yds;rfl
| apply yd;rfl
| intro _
| refine nv ?_
| apply wct rfl
| apply wcf rfl
| apply ah rfl
| apply aj;rfl
| apply aH (α:=Account) (e:=42);rfl
| apply yap;rfl;(((try simp only [lE,lM]);(try dsimp only);omega))
| apply ycp;rfl;exact bP;rfl
| fail)
    all_goals first
     | (rw [← ee];exact cD hp [0,6] rfl rfl rfl rfl rfl rfl)
     | (exfalso;omega)
     | trace_state
 ·obtain ⟨h1,h2⟩:=ht rfl
  have hxl:xs.length ≤ 20 + 1:=by rw [h2,dE ⟨by omega,by omega⟩];omega
  clear hf ht
  by_cases hil:i < l.length
  ·
   repeat' (first
| intro h9;exfalso;contradiction
| apply yds;rfl
| apply yd;rfl
| intro _
| refine nv ?_
| apply wct rfl
| apply wcf rfl
| apply aj;rfl
| apply yar;rfl;omega
| apply yix;rfl;omega
| apply yle;rfl;omega
| apply aH (α:=Account) (e:=42);rfl
| apply yap;rfl;(((try simp only [lE,lM]);(try dsimp only);omega))
| refine zdq (id:=8) rfl (by kernel_rfl) [(.p,0),(.p,1),(.p,2),(.p,3),(.p,4),(.p,5),(.p,6),(.p,8),(.t,7),(.t,9),(.p,10),(.p,11)] [] (by kernel_rfl) rfl ?_
| fail)
   all_goals first
    | exact aB (i + 1,true,xs ++ [rd l i]) [0,1,4] ⟨rfl,rfl,rfl,rfl,rfl,rfl,rfl,rfl⟩ ⟨⟨by dsimp only;omega,by dsimp only;omega⟩,fun h => (by cases h),fun _ => ⟨by dsimp only;omega,by dsimp only;rw [h2,x5 ⟨hK.1,h1⟩ hil]⟩⟩ (by first | omega | (dsimp only;omega))
    | (exfalso;omega)
    | trace_state
  ·
   have ee:xs = eF l ⟨no,ki⟩:=by rw [h2,b8 hil];rfl
   by_cases hp:aO xs
   ·
    repeat' (first
| intro h9;exfalso;contradiction
| apply yds;rfl
| apply yd;rfl
| intro _
| refine nv ?_
| apply wcf rfl
| apply ah rfl
| apply aj;rfl
| apply ycp;rfl;exact bP;rfl
| fail)
    all_goals first
     | (rw [← ee];exact jl hp [0,2] rfl rfl rfl rfl rfl rfl)
     | (exfalso;omega)
     | trace_state
   ·
    repeat' (first
| intro h9;exfalso;contradiction
| apply yds;rfl
| apply yd;rfl
| intro _
| refine nv ?_
| apply wct rfl
| apply wcf rfl
| apply ah rfl
| apply aj;rfl
| apply aH (α:=Account) (e:=42);rfl
| apply yap;rfl;(((try simp only [lE,lM]);(try dsimp only);omega))
| apply ycp;rfl;exact bP;rfl
| fail)
    all_goals first
     | (rw [← ee];exact cD hp [0,4] rfl rfl rfl rfl rfl rfl)
     | (exfalso;omega)
     | trace_state
noncomputable def fy (l:List Instr) (no:Int):Int:=fIx l (fun t => ¬ t.No < no)
noncomputable def eH (l:List Instr) (x:Instr):List Instr:=ins l (fy l x.No) x
theorem kj (l:List Instr) (no:Int):0 ≤ fy l no ∧ fy l no ≤ l.length:=cK _ _
theorem oL {l:List Instr} {no j:Int} (h0:0 ≤ j) (h:j < fy l no):(rd l j).No < no:=by
 have:=fw h0 h
 omega
theorem rh {l:List Instr} {no:Int} (h:fy l no < l.length):¬ (rd l (fy l no)).No < no:=by
 have hn:=kj l no
 by_cases hx:∃ t ∈ l,¬ t.No < no
 ·exact ig hx
 ·exfalso
  have h1:=mM (l:=l) (q:=fun t => ¬ t.No < no) (fun x hm k => hx ⟨x,hm,k⟩)
  unfold fy at h
  omega
theorem mi (l:List Instr) (x:Instr):(eH l x).length = l.length + 1:=dE (kj l x.No)
theorem io {l:List Instr} {no:Int} (h:bA l):(aa l no = 0 ∧ ∀ j:Int,0 ≤ j → j < l.length → (rd l j).No ≠ no) ∨ ((1 ≤ aa l no ∧ aa l no ≤ 2) ∧ ∃ j:Int,(0 ≤ j ∧ j < l.length) ∧ (rd l j).No = no):=by
 by_cases hx:∃ t ∈ l,t.No = no
 ·right
  have h1:=ij hx
  have h0:=(cK l (fun t => t.No = no)).1
  have h2:(rd l (fIx l (fun t => t.No = no))).No = no:=ig hx
  have h3:∀ j:Int,0 ≤ j → j < fIx l (fun t => t.No = no) → (rd l j).No ≠ no:=fun j j0 j1 => fw (q:=fun t:Instr => t.No = no) j0 j1
  rw [fA (i:=fIx l (fun t => t.No = no)) ⟨h0,h1⟩ h3 h2]
  have:=(h.1 _ h0 h1).2.1
  unfold inP at this
  exact ⟨by omega,_,⟨h0,h1⟩,h2⟩
 ·left
  have hn:∀ j:Int,0 ≤ j → j < l.length → (rd l j).No ≠ no:=fun j h0 h1 e => hx ⟨_,az ⟨h0,h1⟩,e⟩
  exact ⟨ip (i:=l.length) (by omega) hn,hn⟩
theorem tX {l:List Instr} {x:Instr} (h:bA l) (hn:∀ j:Int,0 ≤ j → j < l.length → (rd l j).No ≠ x.No) (h1:ag x.No) (h2:inP x.Kind 1 2):bA (eH l x) ↔ l.length < 8:=by
 have hl:=mi l x
 refine ⟨fun k => by have:=k.2;omega,fun k => ⟨fun i h0 hi => ?_,by omega⟩⟩
 have hk:=kj l x.No
 have ha:=rh (l:=l) (no:=x.No)
 have e:∀ p:Int,0 ≤ p → rd (eH l x) p = if p < fy l x.No then rd l p else if p = fy l x.No then x else rd l (p - 1):=fun p hp => qy hk hp
 unfold ri
 rw [e i h0]
 by_cases c1:i < fy l x.No
 ·rw [if_pos c1]
  obtain ⟨q1,q2,q3⟩:=h.1 i h0 (by omega)
  refine ⟨q1,q2,fun hp => ?_⟩
  rw [e (i - 1) (by omega),if_pos (by omega)]
  exact q3 hp
 ·rw [if_neg c1]
  by_cases c2:i = fy l x.No
  ·rw [if_pos c2]
   refine ⟨h1,h2,fun hp => ?_⟩
   rw [e (i - 1) (by omega),if_pos (by omega)]
   exact oL (by omega) (by omega)
  ·rw [if_neg c2]
   obtain ⟨q1,q2,q3⟩:=h.1 (i - 1) (by omega) (by omega)
   refine ⟨q1,q2,fun hp => ?_⟩
   rw [e (i - 1) (by omega),if_neg (by omega)]
   by_cases c3:i - 1 = fy l x.No
   ·rw [if_pos c3]
    have g1:=ha (by omega)
    rw [← c3] at g1
    have g2:=hn (i - 1) (by omega) (by omega)
    omega
   ·rw [if_neg c3]
    exact q3 (by omega)
theorem jy {l:List Instr} {no ki:Int} (hok:bA l):FC Tryz.prog 260 [.c (.row 0 0 l.length),.agg [.sc (.int .i64 no),.sc (.int .i64 ki)]] ([ro 74 l]) (sel (bA (eH l ⟨no,ki⟩)) (.tup [.c (.row 1 0 (eH l ⟨no,ki⟩).length),B true]) (.tup [.c (.row 1 0 l.length),B false])) (sel (bA (eH l ⟨no,ki⟩)) [ro 74 l,ow 74 (eH l ⟨no,ki⟩)] [ro 74 l,ow 74 l]):=by
 refine ay tk 56 [.tmp 4,.tmp 5] Tryz.func260 (by kernel_rfl) rfl rfl rfl rfl rfl rfl rfl ?_
 have hl:=hok.2
 have hK:=kj l no
 have hKa:=rh (l:=l) (no:=no)
 repeat' (first
| intro h9;exfalso;contradiction
| apply yds;rfl
| apply yd;rfl
| intro _
| refine nv ?_
| apply wcf rfl
| apply aH (α:=Instr) (e:=74);rfl
| apply ycp;rfl;exact cg;rfl
| fail)
 refine wlp (X:=Int × Bool × List Instr) [0,3] [0,1,2] (fun x => [(8,I x.1),(7,B x.2.1),(6,.c (.row 2 0 x.2.2.length))]) (fun x => [(2,ow 74 x.2.2)]) (fun x => (0 ≤ x.1 ∧ x.1 ≤ l.length) ∧ (x.2.1 = false → x.1 ≤ fy l no ∧ x.2.2 = pf l x.1) ∧ (x.2.1 = true → fy l no < x.1 ∧ x.2.2 = ins (pf l x.1) (fy l no) ⟨no,ki⟩)) (fun x => (l.length - x.1).toNat) (0,false,[]) ⟨⟨by dsimp only;omega,by dsimp only;omega⟩,fun _ => ⟨by dsimp only;omega,rfl⟩,fun h => (by cases h)⟩ rfl rfl (fun _ => rfl) (fun _ => rfl) ⟨rfl,rfl,rfl,rfl,rfl,rfl,rfl,rfl⟩ (fun x hx => ?_)
 obtain ⟨i,put,xs⟩:=x
 obtain ⟨h0,hf,ht⟩:=hx
 dsimp only at h0 hf ht ⊢
 have hb:=fun h => oL (l:=l) (no:=no) h0.1 h
 have hpl:=bO h0
 cases put
 ·obtain ⟨h1,h2⟩:=hf rfl
  have hxl:xs.length ≤ 8:=by rw [h2];omega
  clear hf ht
  by_cases hil:i < l.length
  ·
   by_cases hge:(rd l i).No ≥ no
   ·
    have e:fy l no = i:=by
     rcases Int.lt_or_le i (fy l no) with q | q
     ·have:=hb q
      omega
     ·omega
    repeat' (first
| intro h9;exfalso;contradiction
| apply yds;rfl
| apply yd;rfl
| intro _
| refine nv ?_
| apply wct rfl
| apply aj;rfl
| apply yar;rfl;omega
| apply yix;rfl;omega
| apply yle;rfl;omega
| apply aH (α:=Instr) (e:=74);rfl
| apply yap;rfl;(((try simp only [lE,lM]);(try dsimp only);omega))
| refine zdq (id:=8) rfl (by kernel_rfl) [(.p,0),(.p,1),(.p,2),(.p,3),(.p,4),(.p,5),(.p,6),(.p,8),(.t,7),(.t,9),(.p,10),(.p,11)] [] (by kernel_rfl) rfl ?_
| fail)
    all_goals first
     | exact aB (i + 1,true,xs ++ [⟨no,ki⟩] ++ [rd l i]) [0,1,6] ⟨rfl,rfl,rfl,rfl,rfl,rfl,rfl,rfl⟩ ⟨⟨by dsimp only;omega,by dsimp only;omega⟩,fun h => (by cases h),fun _ => ⟨by dsimp only;omega,by dsimp only;rw [h2,x3 ⟨h0.1,hil⟩,e]⟩⟩ (by first | omega | (dsimp only;omega))
     | (exfalso;omega)
     | trace_state
   ·
    have e:i ≠ fy l no:=fun e => by
     have q1:=hKa (by omega)
     rw [← e] at q1
     omega
    repeat' (first
| intro h9;exfalso;contradiction
| apply yds;rfl
| apply yd;rfl
| intro _
| refine nv ?_
| apply wct rfl
| apply wcf rfl
| apply aj;rfl
| apply yar;rfl;omega
| apply yix;rfl;omega
| apply yle;rfl;omega
| apply aH (α:=Instr) (e:=74);rfl
| apply yap;rfl;(((try simp only [lE,lM]);(try dsimp only);omega))
| refine zdq (id:=8) rfl (by kernel_rfl) [(.p,0),(.p,1),(.p,2),(.p,3),(.p,4),(.p,5),(.p,6),(.p,8),(.t,7),(.t,9),(.p,10),(.p,11)] [] (by kernel_rfl) rfl ?_
| fail)
    all_goals first
     | exact aB (i + 1,false,xs ++ [rd l i]) [0,1,4] ⟨rfl,rfl,rfl,rfl,rfl,rfl,rfl,rfl⟩ ⟨⟨by dsimp only;omega,by dsimp only;omega⟩,fun _ => ⟨by dsimp only;omega,by dsimp only;rw [h2,bL ⟨h0.1,hil⟩]⟩,fun h => (by cases h)⟩ (by first | omega | (dsimp only;omega))
     | (exfalso;omega)
     | trace_state
  ·
   have ee:xs ++ [⟨no,ki⟩] = eH l ⟨no,ki⟩:=by rw [h2,x4 ⟨h0.1,hil⟩,← show fy l no = l.length from by omega];rfl
   by_cases hp:bA (xs ++ [⟨no,ki⟩])
   ·
    repeat' (first
| intro h9;exfalso;contradiction
| apply yds;rfl
| apply yd;rfl
| intro _
| refine nv ?_
| apply wct rfl
| apply wcf rfl
| apply ah rfl
| apply aj;rfl
| apply aH (α:=Instr) (e:=74);rfl
| apply yap;rfl;(((try simp only [lE,lM]);(try dsimp only);omega))
| apply ycp;rfl;exact cg;rfl
| fail)
    all_goals first
     | (rw [← ee];exact jl hp [0,4] rfl rfl rfl rfl rfl rfl)
     | (exfalso;omega)
     | trace_state
   ·
    repeat' (first
| intro h9;exfalso;contradiction
| apply yds;rfl
| apply yd;rfl
| intro _
| refine nv ?_
| apply wct rfl
| apply wcf rfl
| apply ah rfl
| apply aj;rfl
| apply aH (α:=Instr) (e:=74);rfl
| apply yap;rfl;(((try simp only [lE,lM]);(try dsimp only);omega))
| apply ycp;rfl;exact cg;rfl
| fail)
    all_goals first
     | (rw [← ee];exact cD hp [0,6] rfl rfl rfl rfl rfl rfl)
     | (exfalso;omega)
     | trace_state
 ·obtain ⟨h1,h2⟩:=ht rfl
  have hxl:xs.length ≤ 8 + 1:=by rw [h2,dE ⟨by omega,by omega⟩];omega
  clear hf ht
  by_cases hil:i < l.length
  ·
   repeat' (first
| intro h9;exfalso;contradiction
| apply yds;rfl
| apply yd;rfl
| intro _
| refine nv ?_
| apply wct rfl
| apply wcf rfl
| apply aj;rfl
| apply yar;rfl;omega
| apply yix;rfl;omega
| apply yle;rfl;omega
| apply aH (α:=Instr) (e:=74);rfl
| apply yap;rfl;(((try simp only [lE,lM]);(try dsimp only);omega))
| refine zdq (id:=8) rfl (by kernel_rfl) [(.p,0),(.p,1),(.p,2),(.p,3),(.p,4),(.p,5),(.p,6),(.p,8),(.t,7),(.t,9),(.p,10),(.p,11)] [] (by kernel_rfl) rfl ?_
| fail)
   all_goals first
    | exact aB (i + 1,true,xs ++ [rd l i]) [0,1,4] ⟨rfl,rfl,rfl,rfl,rfl,rfl,rfl,rfl⟩ ⟨⟨by dsimp only;omega,by dsimp only;omega⟩,fun h => (by cases h),fun _ => ⟨by dsimp only;omega,by dsimp only;rw [h2,x5 ⟨hK.1,h1⟩ hil]⟩⟩ (by first | omega | (dsimp only;omega))
    | (exfalso;omega)
    | trace_state
  ·
   have ee:xs = eH l ⟨no,ki⟩:=by rw [h2,b8 hil];rfl
   by_cases hp:bA xs
   ·
    repeat' (first
| intro h9;exfalso;contradiction
| apply yds;rfl
| apply yd;rfl
| intro _
| refine nv ?_
| apply wcf rfl
| apply ah rfl
| apply aj;rfl
| apply ycp;rfl;exact cg;rfl
| fail)
    all_goals first
     | (rw [← ee];exact jl hp [0,2] rfl rfl rfl rfl rfl rfl)
     | (exfalso;omega)
     | trace_state
   ·
    repeat' (first
| intro h9;exfalso;contradiction
| apply yds;rfl
| apply yd;rfl
| intro _
| refine nv ?_
| apply wct rfl
| apply wcf rfl
| apply ah rfl
| apply aj;rfl
| apply aH (α:=Instr) (e:=74);rfl
| apply yap;rfl;(((try simp only [lE,lM]);(try dsimp only);omega))
| apply ycp;rfl;exact cg;rfl
| fail)
    all_goals first
     | (rw [← ee];exact cD hp [0,4] rfl rfl rfl rfl rfl rfl)
     | (exfalso;omega)
     | trace_state
end
end Go.Proofs.YtgehbhkfehmdkaaGreat.Sh
