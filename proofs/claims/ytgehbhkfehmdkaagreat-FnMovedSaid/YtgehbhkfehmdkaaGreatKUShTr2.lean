/- Trades of the specification. No condition. -/
import Derived.Test.YtgehbhkfehmdkaaGreatKUShV
import Derived.Test.YtgehbhkfehmdkaaGreatKUShBo
import Derived.Test.YtgehbhkfehmdkaaGreatKUShSo
import Derived.Test.YtgehbhkfehmdkaaGreatKUShDr
set_option maxRecDepth 100000
set_option maxHeartbeats 40000000
set_option linter.unusedSimpArgs false
set_option linter.unusedVariables false
namespace Go.Proofs.YtgehbhkfehmdkaaGreat.Sh
section
open Go.RowKit
theorem x2 {no bu se pa qt ca pr:Int} (h1:aj no) (h2:aj bu) (h3:aj se) (h4:aj pa) (h5:inP qt 1 1000000000000000) (h6:aj ca) (h7:inP pr 0 1000000000000000):fN no bu se pa qt ca pr:=⟨fun x hx => by simp only [List.mem_cons,List.not_mem_nil,or_false] at hx;rcases hx with rfl | rfl | rfl | rfl | rfl <;> assumption,h5,h7⟩
theorem x3 {no bu se pa qt ca pr:Int} (h:fN no bu se pa qt ca pr):aj no ∧ aj bu ∧ aj se ∧ aj pa ∧ inP qt 1 1000000000000000 ∧ aj ca ∧ inP pr 0 1000000000000000:=⟨h.1 _ (by simp),h.1 _ (by simp),h.1 _ (by simp),h.1 _ (by simp),h.2.1,h.1 _ (by simp),h.2.2⟩
theorem BN {l:List Trade} {i k:Int} {x:Trade} (h:0 ≤ k ∧ k < i) (hi:i < l.length):ins (pf l i) k x ++ [rd l i] = ins (pf l (i + 1)) k x:=by
 rw [cg ⟨by omega,hi⟩]
 have h1:k.toNat ≤ (pf l i).length:=by have:=bS (l:=l) (i:=i) ⟨by omega,by omega⟩;omega
 unfold ins
 rw [List.take_append_of_le_length h1,List.drop_append_of_le_length h1]
 simp
theorem Ah {l:List Trade} {i:Int} {x:Trade} (h:0 ≤ i ∧ i < l.length):pf l i ++ [x] ++ [rd l i] = ins (pf l (i + 1)) i x:=by
 rw [cg h]
 have h1:(pf l i).length = i.toNat:=by have:=bS (l:=l) (i:=i) ⟨by omega,by omega⟩;omega
 unfold ins
 rw [← h1,List.take_left,List.drop_left]
 simp
theorem Ai {l:List Trade} {i:Int} {x:Trade} (h:0 ≤ i ∧ ¬ i < l.length):pf l i ++ [x] = ins l l.length x:=by
 rw [b6 h.2,gA rfl]
theorem kD {ba:List Account} {bi:List Instr} {bb:List Bal} {bl:List Lot} {bt:List Trade} {bn:Int} {no bu se pa qt ca pr:Int}:FC Tryz.prog 77 [bkV 0 ⟨ba,bi,bb,bl,bt,bn⟩,I no,I bu,I se,I pa,I qt,I ca,I pr] (bkR ⟨ba,bi,bb,bl,bt,bn⟩) (.tup [bkE 5 (a8 ⟨ba,bi,bb,bl,bt,bn⟩ no bu se pa qt ca pr).1,I (a8 ⟨ba,bi,bb,bl,bt,bn⟩ no bu se pa qt ca pr).2]) (bkR ⟨ba,bi,bb,bl,bt,bn⟩ ++ bkW (a8 ⟨ba,bi,bb,bl,bt,bn⟩ no bu se pa qt ca pr).1):=by
 refine ax tk 182 [.cell 16 _,.tmp 17] Tryz.func77 (by kernel_rfl) rfl rfl rfl rfl rfl rfl rfl ?_
 by_cases hok:BooksOk ⟨ba,bi,bb,bl,bt,bn⟩
 rotate_left
 ·
  repeat' (first
| intro h9;exfalso;contradiction
| apply al (d:=65) 0 42 2;rfl;rfl;rfl;rfl;rfl
| apply al (d:=65) 1 74 2;rfl;rfl;rfl;rfl;rfl
| apply al (d:=65) 2 135 3;rfl;rfl;rfl;rfl;rfl
| apply al (d:=65) 3 137 5;rfl;rfl;rfl;rfl;rfl
| apply al (d:=65) 4 103 8;rfl;rfl;rfl;rfl;rfl
| apply yd;rfl
| intro _
| refine nv ?_
| apply wct rfl
| apply ycp;rfl;exact ap;rfl
| fail)
  all_goals first
   | (rw [rc (b:=⟨ba,bi,bb,bl,bt,bn⟩) (fun h => hok h.1)]
      exact ak [0,1,2,3,4,7,8,9,10,11] rfl rfl rfl rfl rfl rfl)
 by_cases hta:fN no bu se pa qt ca pr
 rotate_left
 ·
  repeat' (first
| intro h9;exfalso;contradiction
| intro h9;exact absurd (x2 (by assumption) (by assumption) (by assumption) (by assumption) (by assumption) (by assumption) h9) hta
| apply al (d:=65) 0 42 2;rfl;rfl;rfl;rfl;rfl
| apply al (d:=65) 1 74 2;rfl;rfl;rfl;rfl;rfl
| apply al (d:=65) 2 135 3;rfl;rfl;rfl;rfl;rfl
| apply al (d:=65) 3 137 5;rfl;rfl;rfl;rfl;rfl
| apply al (d:=65) 4 103 8;rfl;rfl;rfl;rfl;rfl
| apply yd;rfl
| intro _
| refine nv ?_
| apply wct rfl
| apply ycp;rfl;(first | exact ap | exact aQ | exact aJ);rfl
| fail)
  all_goals first
   | (rw [rc (b:=⟨ba,bi,bb,bl,bt,bn⟩) (fun h => hta h.2)]
      exact ak [0,1,2,3,4,7,8,9,10,11] rfl rfl rfl rfl rfl rfl)
 have hA:=hok.acc
 have hI:=hok.ins
 have hl:=hok.trades.2
 dsimp only at hA hI hl
 obtain ⟨k1,k2,k3,k4,k5,k6,k7⟩:=x3 hta
 have hnn:=bY bt (fun t => t.No = no)
 have hbb:BooksOk ⟨ba,bi,bb,bl,bt,bn⟩ ∧ fN no bu se pa qt ca pr:=⟨hok,hta⟩
 repeat' (first
| intro h9;exfalso;first | contradiction | omega
| apply yds;rfl
| apply yd;rfl
| intro _
| refine nv ?_
| apply wct rfl
| apply wcf rfl
| apply ai;rfl
| apply yne;rfl
| apply aH (α:=Trade) (e:=103);rfl
| refine zdq (id:=4) rfl (by kernel_rfl) [(.p,0),(.p,2),(.p,4),(.p,6),(.t,1),(.t,5),(.o,3),(.o,7),(.p,8),(.p,9)] [] (by kernel_rfl) rfl ?_
| refine zdq (id:=5) rfl (by kernel_rfl) [(.p,0),(.p,2),(.p,4),(.p,6),(.t,1),(.t,5),(.o,3),(.o,7),(.p,8),(.p,9)] [] (by kernel_rfl) rfl ?_
| apply ycp;rfl;(first | exact ap | exact aQ | exact aJ);rfl
| apply ycf;rfl;exact aR (by exact BooksOk.midB (by assumption));rfl
| apply ycq;rfl;(first | exact aX | exact b8);rfl
| apply zcs;(iterate 10 rfl);exact fX;exact fun _ => rfl;exact fun _ => rfl;rfl;rfl;rfl;rfl
| fail)
 all_goals first
  | (have hk:∃ t ∈ bt,t.No = no:=by assumption
     rw [zC (b:=⟨ba,bi,bb,bl,bt,bn⟩) hbb hk]
     exact ak [0,1,2,3,4,7,8,9,10,11] rfl rfl rfl rfl rfl rfl)
  | (rw [Bg (b:=⟨ba,bi,bb,bl,bt,bn⟩) hbb (by assumption) (by dsimp only;omega)]
     exact ak [0,1,2,3,4,7,8,9,10,11] rfl rfl rfl rfl rfl rfl)
  | (rw [Bh (b:=⟨ba,bi,bb,bl,bt,bn⟩) hbb (by assumption) (by dsimp only;omega) (by dsimp only;omega)]
     exact ak [0,1,2,3,4,7,8,9,10,11] rfl rfl rfl rfl rfl rfl)
  | (rw [Bi (b:=⟨ba,bi,bb,bl,bt,bn⟩) hbb (by assumption) (by dsimp only;omega) (by dsimp only;omega)]
     exact ak [0,1,2,3,4,7,8,9,10,11] rfl rfl rfl rfl rfl rfl)
  | skip
 all_goals
  have hne:∀ j:Int,0 ≤ j → j < bt.length → (rd bt j).No ≠ no:=fun j h0 h1 e => (by assumption:¬ ∃ t,t ∈ bt ∧ t.No = no) ⟨_,aA ⟨h0,h1⟩,e⟩
  have hK:=l5 bt no
  have hKa:=rZ (l:=bt) (no:=no)
  refine wlp (X:=Int × Bool × List Trade) [1,8,16,18,23] [0,1,2,3,4,5,6,7,8,9,10,11,12,13,14] (fun x => [(26,I x.1),(25,B x.2.1),(24,.c (.row 14 0 x.2.2.length))]) (fun x => [(14,ow 103 x.2.2)]) (fun x => (0 ≤ x.1 ∧ x.1 ≤ bt.length) ∧ (x.2.1 = false → x.1 ≤ dR bt no ∧ x.2.2 = pf bt x.1) ∧ (x.2.1 = true → dR bt no < x.1 ∧ x.2.2 = ins (pf bt x.1) (dR bt no) ⟨no,bu,se,pa,qt,ca,pr,1⟩)) (fun x => (bt.length - x.1).toNat) (0,false,[]) ⟨⟨by dsimp only;omega,by dsimp only;omega⟩,fun _ => ⟨hK.1,rfl⟩,fun h => by cases h⟩ rfl rfl (fun _ => rfl) (fun _ => rfl) ⟨rfl,rfl,rfl,rfl,rfl,rfl,rfl,rfl⟩ (fun x hx => ?_)
  obtain ⟨i,put,xs⟩:=x
  obtain ⟨h0,hf,ht⟩:=hx
  dsimp only at h0 hf ht ⊢
  have hb:=fun h => pM (l:=bt) (no:=no) h0.1 h
  have hnei:=hne i h0.1
  have hpl:=bS h0
  cases put
  ·obtain ⟨h1,h2⟩:=hf rfl
   have hxl:xs.length ≤ 30:=by rw [h2];omega
   clear hf ht
   repeat' (first
| apply yds;rfl
| apply yd;rfl
| intro _
| refine nv ?_
| apply wct rfl
| apply wcf rfl
| apply ah rfl
| apply ai;rfl
| apply yar;rfl;omega
| apply yix;rfl;omega
| apply yle;rfl;omega
| apply aH (α:=Trade) (e:=103);rfl
| apply yap;rfl;(((try simp only [lE,lM]);(try dsimp only);omega))
| fail)
   all_goals first
    | (rename_i hi hgt
       have e:dR bt no = i:=by omega
       exact aB (i + 1,true,xs ++ [⟨no,bu,se,pa,qt,ca,pr,1⟩] ++ [rd bt i]) [0,1,2,3,4,5,6,7,8,9,10,11,12,13,18] ⟨rfl,rfl,rfl,rfl,rfl,rfl,rfl,rfl⟩ ⟨⟨by dsimp only;omega,by dsimp only;omega⟩,fun h => (by cases h),fun _ => ⟨by dsimp only;omega,by dsimp only;rw [h2,Ah ⟨h0.1,hi⟩,e]⟩⟩ (by first | omega | (dsimp only;omega)))
    | (rename_i hi hgt
       have e:i ≠ dR bt no:=fun e => by
        have q1:=hKa (by omega)
        rw [← e] at q1
        have q2:=hnei hi
        omega
       exact aB (i + 1,false,xs ++ [rd bt i]) [0,1,2,3,4,5,6,7,8,9,10,11,12,13,16] ⟨rfl,rfl,rfl,rfl,rfl,rfl,rfl,rfl⟩ ⟨⟨by dsimp only;omega,by dsimp only;omega⟩,fun _ => ⟨by dsimp only;omega,by dsimp only;rw [h2,cg ⟨h0.1,hi⟩]⟩,fun h => (by cases h)⟩ (by first | omega | (dsimp only;omega)))
    | (rename_i hi
       rw [zA (b:=⟨ba,bi,bb,bl,bt,bn⟩) (r:=xs ++ [⟨no,bu,se,pa,qt,ca,pr,1⟩]) hbb (by assumption) (by dsimp only;omega) (by dsimp only;omega) (by rw [h2,Ai ⟨h0.1,hi⟩,← show dR bt no = bt.length from by omega];rfl)]
       exact ak [0,1,2,3,4,7,8,9,10,16] rfl rfl rfl rfl rfl rfl)
  ·obtain ⟨h1,h2⟩:=ht rfl
   have hxl:xs.length ≤ 31:=by rw [h2,cZ ⟨by omega,by omega⟩];omega
   clear hf ht
   repeat' (first
| apply yds;rfl
| apply yd;rfl
| intro _
| refine nv ?_
| apply wct rfl
| apply wcf rfl
| apply ah rfl
| apply ai;rfl
| apply yar;rfl;omega
| apply yix;rfl;omega
| apply yle;rfl;omega
| apply aH (α:=Trade) (e:=103);rfl
| apply yap;rfl;(((try simp only [lE,lM]);(try dsimp only);omega))
| fail)
   all_goals first
    | (rename_i hi
       exact aB (i + 1,true,xs ++ [rd bt i]) [0,1,2,3,4,5,6,7,8,9,10,11,12,13,16] ⟨rfl,rfl,rfl,rfl,rfl,rfl,rfl,rfl⟩ ⟨⟨by dsimp only;omega,by dsimp only;omega⟩,fun h => (by cases h),fun _ => ⟨by dsimp only;omega,by dsimp only;rw [h2,BN ⟨hK.1,h1⟩ hi]⟩⟩ (by first | omega | (dsimp only;omega)))
    | (rename_i hi
       rw [zA (b:=⟨ba,bi,bb,bl,bt,bn⟩) (r:=xs) hbb (by assumption) (by dsimp only;omega) (by dsimp only;omega) (by rw [h2,b6 hi];rfl)]
       exact ak [0,1,2,3,4,7,8,9,10,14] rfl rfl rfl rfl rfl rfl)
end
section
open Go.RowKit
section
variable {α:Type} [Enc α] {l:List α} {i k:Int} {x:α}
theorem AR (h:0 ≤ k ∧ k < i) (hi:i < l.length):ins (pf l i) k x ++ [rd l i] = ins (pf l (i + 1)) k x:=by
 rw [cg ⟨by omega,hi⟩]
 have h1:k.toNat ≤ (pf l i).length:=by have:=bS (l:=l) (i:=i) ⟨by omega,by omega⟩;omega
 unfold ins
 rw [List.take_append_of_le_length h1,List.drop_append_of_le_length h1]
 simp
theorem AP (h:0 ≤ i ∧ i < l.length):pf l i ++ [x] ++ [rd l i] = ins (pf l (i + 1)) i x:=by
 rw [cg h]
 have h1:(pf l i).length = i.toNat:=by have:=bS (l:=l) (i:=i) ⟨by omega,by omega⟩;omega
 unfold ins
 rw [← h1,List.take_left,List.drop_left]
 simp
theorem AQ (h:0 ≤ i ∧ ¬ i < l.length):pf l i ++ [x] = ins l l.length x:=by
 rw [b6 h.2,gA rfl]
end
noncomputable def jf (l:List Account) (no:Int):Int:=fIx l (fun t => ¬ t.No < no)
noncomputable def io (l:List Account) (x:Account):List Account:=ins l (jf l x.No) x
theorem o8 (l:List Account) (no:Int):0 ≤ jf l no ∧ jf l no ≤ l.length:=bY _ _
theorem s9 {l:List Account} {no j:Int} (h0:0 ≤ j) (h:j < jf l no):(rd l j).No < no:=by
 have:=ir h0 h
 omega
theorem v5 {l:List Account} {no:Int} (h:jf l no < l.length):¬ (rd l (jf l no)).No < no:=by
 have hn:=o8 l no
 by_cases hx:∃ t ∈ l,¬ t.No < no
 ·exact kf hx
 ·exfalso
  have h1:=ri (l:=l) (q:=fun t => ¬ t.No < no) (fun x hm k => hx ⟨x,hm,k⟩)
  unfold jf at h
  omega
theorem qu (l:List Account) (x:Account):(io l x).length = l.length + 1:=cZ (o8 l x.No)
theorem ud {l:List Account} {no:Int} (h:aU l):(a9 l no = 0 ∧ ∀ j:Int,0 ≤ j → j < l.length → (rd l j).No ≠ no) ∨ ((1 ≤ a9 l no ∧ a9 l no ≤ 4) ∧ ∃ j:Int,(0 ≤ j ∧ j < l.length) ∧ (rd l j).No = no):=by
 by_cases hx:∃ t ∈ l,t.No = no
 ·right
  have h1:=gf hx
  have h0:=(bY l (fun t => t.No = no)).1
  have h2:(rd l (fIx l (fun t => t.No = no))).No = no:=kf hx
  have h3:∀ j:Int,0 ≤ j → j < fIx l (fun t => t.No = no) → (rd l j).No ≠ no:=fun j j0 j1 => ir (q:=fun t:Account => t.No = no) j0 j1
  rw [jg (i:=fIx l (fun t => t.No = no)) ⟨h0,h1⟩ h3 h2]
  have:=(h.1 _ h0 h1).2.1
  unfold inP at this
  exact ⟨by omega,_,⟨h0,h1⟩,h2⟩
 ·left
  have hn:∀ j:Int,0 ≤ j → j < l.length → (rd l j).No ≠ no:=fun j h0 h1 e => hx ⟨_,aA ⟨h0,h1⟩,e⟩
  exact ⟨lA (i:=l.length) (by omega) hn,hn⟩
theorem xe {l:List Account} {x:Account} (h:aU l) (hn:∀ j:Int,0 ≤ j → j < l.length → (rd l j).No ≠ x.No) (h1:aj x.No) (h2:inP x.Kind 1 4):aU (io l x) ↔ l.length < 20:=by
 have hl:=qu l x
 refine ⟨fun k => by have:=k.2;omega,fun k => ⟨fun i h0 hi => ?_,by omega⟩⟩
 have hk:=o8 l x.No
 have ha:=v5 (l:=l) (no:=x.No)
 have e:∀ p:Int,0 ≤ p → rd (io l x) p = if p < jf l x.No then rd l p else if p = jf l x.No then x else rd l (p - 1):=fun p hp => lV hk hp
 unfold v6
 rw [e i h0]
 by_cases c1:i < jf l x.No
 ·rw [if_pos c1]
  obtain ⟨q1,q2,q3⟩:=h.1 i h0 (by omega)
  refine ⟨q1,q2,fun hp => ?_⟩
  rw [e (i - 1) (by omega),if_pos (by omega)]
  exact q3 hp
 ·rw [if_neg c1]
  by_cases c2:i = jf l x.No
  ·rw [if_pos c2]
   refine ⟨h1,h2,fun hp => ?_⟩
   rw [e (i - 1) (by omega),if_pos (by omega)]
   exact s9 (by omega) (by omega)
  ·rw [if_neg c2]
   obtain ⟨q1,q2,q3⟩:=h.1 (i - 1) (by omega) (by omega)
   refine ⟨q1,q2,fun hp => ?_⟩
   rw [e (i - 1) (by omega),if_neg (by omega)]
   by_cases c3:i - 1 = jf l x.No
   ·rw [if_pos c3]
    have g1:=ha (by omega)
    rw [← c3] at g1
    have g2:=hn (i - 1) (by omega) (by omega)
    omega
   ·rw [if_neg c3]
    exact q3 (by omega)
theorem ig {l:List Account} {no ki:Int} (hok:aU l):FC Tryz.prog 259 [.c (.row 0 0 l.length),.agg [.sc (.int .i64 no),.sc (.int .i64 ki)]] ([ro 42 l]) (sel (aU (io l ⟨no,ki⟩)) (.tup [.c (.row 1 0 (io l ⟨no,ki⟩).length),B true]) (.tup [.c (.row 1 0 l.length),B false])) (sel (aU (io l ⟨no,ki⟩)) [ro 42 l,ow 42 (io l ⟨no,ki⟩)] [ro 42 l,ow 42 l]):=by
 refine ax tk 56 [.tmp 4,.tmp 5] Tryz.func259 (by kernel_rfl) rfl rfl rfl rfl rfl rfl rfl ?_
 have hl:=hok.2
 have hK:=o8 l no
 have hKa:=v5 (l:=l) (no:=no)
 repeat' (first
| intro h9;exfalso;contradiction
| apply yds;rfl
| apply yd;rfl
| intro _
| refine nv ?_
| apply wcf rfl
| apply aH (α:=Account) (e:=42);rfl
| apply ycp;rfl;exact co;rfl
| fail)
 refine wlp (X:=Int × Bool × List Account) [0,3] [0,1,2] (fun x => [(8,I x.1),(7,B x.2.1),(6,.c (.row 2 0 x.2.2.length))]) (fun x => [(2,ow 42 x.2.2)]) (fun x => (0 ≤ x.1 ∧ x.1 ≤ l.length) ∧ (x.2.1 = false → x.1 ≤ jf l no ∧ x.2.2 = pf l x.1) ∧ (x.2.1 = true → jf l no < x.1 ∧ x.2.2 = ins (pf l x.1) (jf l no) ⟨no,ki⟩)) (fun x => (l.length - x.1).toNat) (0,false,[]) ⟨⟨by dsimp only;omega,by dsimp only;omega⟩,fun _ => ⟨by dsimp only;omega,rfl⟩,fun h => (by cases h)⟩ rfl rfl (fun _ => rfl) (fun _ => rfl) ⟨rfl,rfl,rfl,rfl,rfl,rfl,rfl,rfl⟩ (fun x hx => ?_)
 obtain ⟨i,put,xs⟩:=x
 obtain ⟨h0,hf,ht⟩:=hx
 dsimp only at h0 hf ht ⊢
 have hb:=fun h => s9 (l:=l) (no:=no) h0.1 h
 have hpl:=bS h0
 cases put
 ·obtain ⟨h1,h2⟩:=hf rfl
  have hxl:xs.length ≤ 20:=by rw [h2];omega
  clear hf ht
  by_cases hil:i < l.length
  ·
   by_cases hge:(rd l i).No ≥ no
   ·
    have e:jf l no = i:=by
     rcases Int.lt_or_le i (jf l no) with q | q
     ·have:=hb q
      omega
     ·omega
    repeat' (first
| intro h9;exfalso;contradiction
| apply yds;rfl
| apply yd;rfl
| intro _
| refine nv ?_
| apply wct rfl
| apply ai;rfl
| apply yar;rfl;omega
| apply yix;rfl;omega
| apply yle;rfl;omega
| apply aH (α:=Account) (e:=42);rfl
| apply yap;rfl;(((try simp only [lE,lM]);(try dsimp only);omega))
| refine zdq (id:=8) rfl (by kernel_rfl) [(.p,0),(.p,1),(.p,2),(.p,3),(.p,4),(.p,5),(.p,6),(.p,8),(.t,7),(.t,9),(.p,10),(.p,11)] [] (by kernel_rfl) rfl ?_
| fail)
    all_goals first
     | exact aB (i + 1,true,xs ++ [⟨no,ki⟩] ++ [rd l i]) [0,1,6] ⟨rfl,rfl,rfl,rfl,rfl,rfl,rfl,rfl⟩ ⟨⟨by dsimp only;omega,by dsimp only;omega⟩,fun h => (by cases h),fun _ => ⟨by dsimp only;omega,by dsimp only;rw [h2,AP ⟨h0.1,hil⟩,e]⟩⟩ (by first | omega | (dsimp only;omega))
     | (exfalso;omega)
     | trace_state
   ·
    have e:i ≠ jf l no:=fun e => by
     have q1:=hKa (by omega)
     rw [← e] at q1
     omega
    repeat' (first
| intro h9;exfalso;contradiction
| apply yds;rfl
| apply yd;rfl
| intro _
| refine nv ?_
| apply wct rfl
| apply wcf rfl
| apply ai;rfl
| apply yar;rfl;omega
| apply yix;rfl;omega
| apply yle;rfl;omega
| apply aH (α:=Account) (e:=42);rfl
| apply yap;rfl;(((try simp only [lE,lM]);(try dsimp only);omega))
| refine zdq (id:=8) rfl (by kernel_rfl) [(.p,0),(.p,1),(.p,2),(.p,3),(.p,4),(.p,5),(.p,6),(.p,8),(.t,7),(.t,9),(.p,10),(.p,11)] [] (by kernel_rfl) rfl ?_
| fail)
    all_goals first
     | exact aB (i + 1,false,xs ++ [rd l i]) [0,1,4] ⟨rfl,rfl,rfl,rfl,rfl,rfl,rfl,rfl⟩ ⟨⟨by dsimp only;omega,by dsimp only;omega⟩,fun _ => ⟨by dsimp only;omega,by dsimp only;rw [h2,cg ⟨h0.1,hil⟩]⟩,fun h => (by cases h)⟩ (by first | omega | (dsimp only;omega))
     | (exfalso;omega)
     | trace_state
  ·
   have ee:xs ++ [⟨no,ki⟩] = io l ⟨no,ki⟩:=by rw [h2,AQ ⟨h0.1,hil⟩,← show jf l no = l.length from by omega];rfl
   by_cases hp:aU (xs ++ [⟨no,ki⟩])
   ·
    repeat' (first
| intro h9;exfalso;contradiction
| apply yds;rfl
| apply yd;rfl
| intro _
| refine nv ?_
| apply wct rfl
| apply wcf rfl
| apply ah rfl
| apply ai;rfl
| apply aH (α:=Account) (e:=42);rfl
| apply yap;rfl;(((try simp only [lE,lM]);(try dsimp only);omega))
| apply ycp;rfl;exact co;rfl
| fail)
    all_goals first
     | (rw [← ee];exact iH hp [0,4] rfl rfl rfl rfl rfl rfl)
     | (exfalso;omega)
     | trace_state
   ·
    repeat' (first
| intro h9;exfalso;contradiction
| apply yds;rfl
| apply yd;rfl
| intro _
| refine nv ?_
| apply wct rfl
| apply wcf rfl
| apply ah rfl
| apply ai;rfl
| apply aH (α:=Account) (e:=42);rfl
| apply yap;rfl;(((try simp only [lE,lM]);(try dsimp only);omega))
| apply ycp;rfl;exact co;rfl
| fail)
    all_goals first
     | (rw [← ee];exact bQ hp [0,6] rfl rfl rfl rfl rfl rfl)
     | (exfalso;omega)
     | trace_state
 ·obtain ⟨h1,h2⟩:=ht rfl
  have hxl:xs.length ≤ 20 + 1:=by rw [h2,cZ ⟨by omega,by omega⟩];omega
  clear hf ht
  by_cases hil:i < l.length
  ·
   repeat' (first
| intro h9;exfalso;contradiction
| apply yds;rfl
| apply yd;rfl
| intro _
| refine nv ?_
| apply wct rfl
| apply wcf rfl
| apply ai;rfl
| apply yar;rfl;omega
| apply yix;rfl;omega
| apply yle;rfl;omega
| apply aH (α:=Account) (e:=42);rfl
| apply yap;rfl;(((try simp only [lE,lM]);(try dsimp only);omega))
| refine zdq (id:=8) rfl (by kernel_rfl) [(.p,0),(.p,1),(.p,2),(.p,3),(.p,4),(.p,5),(.p,6),(.p,8),(.t,7),(.t,9),(.p,10),(.p,11)] [] (by kernel_rfl) rfl ?_
| fail)
   all_goals first
    | exact aB (i + 1,true,xs ++ [rd l i]) [0,1,4] ⟨rfl,rfl,rfl,rfl,rfl,rfl,rfl,rfl⟩ ⟨⟨by dsimp only;omega,by dsimp only;omega⟩,fun h => (by cases h),fun _ => ⟨by dsimp only;omega,by dsimp only;rw [h2,AR ⟨hK.1,h1⟩ hil]⟩⟩ (by first | omega | (dsimp only;omega))
    | (exfalso;omega)
    | trace_state
  ·
   have ee:xs = io l ⟨no,ki⟩:=by rw [h2,b6 hil];rfl
   by_cases hp:aU xs
   ·
    repeat' (first
| intro h9;exfalso;contradiction
| apply yds;rfl
| apply yd;rfl
| intro _
| refine nv ?_
| apply wcf rfl
| apply ah rfl
| apply ai;rfl
| apply ycp;rfl;exact co;rfl
| fail)
    all_goals first
     | (rw [← ee];exact iH hp [0,2] rfl rfl rfl rfl rfl rfl)
     | (exfalso;omega)
     | trace_state
   ·
    repeat' (first
| intro h9;exfalso;contradiction
| apply yds;rfl
| apply yd;rfl
| intro _
| refine nv ?_
| apply wct rfl
| apply wcf rfl
| apply ah rfl
| apply ai;rfl
| apply aH (α:=Account) (e:=42);rfl
| apply yap;rfl;(((try simp only [lE,lM]);(try dsimp only);omega))
| apply ycp;rfl;exact co;rfl
| fail)
    all_goals first
     | (rw [← ee];exact bQ hp [0,4] rfl rfl rfl rfl rfl rfl)
     | (exfalso;omega)
     | trace_state
noncomputable def jo (l:List Instr) (no:Int):Int:=fIx l (fun t => ¬ t.No < no)
noncomputable def iu (l:List Instr) (x:Instr):List Instr:=ins l (jo l x.No) x
theorem oq (l:List Instr) (no:Int):0 ≤ jo l no ∧ jo l no ≤ l.length:=bY _ _
theorem t0 {l:List Instr} {no j:Int} (h0:0 ≤ j) (h:j < jo l no):(rd l j).No < no:=by
 have:=ir h0 h
 omega
theorem vu {l:List Instr} {no:Int} (h:jo l no < l.length):¬ (rd l (jo l no)).No < no:=by
 have hn:=oq l no
 by_cases hx:∃ t ∈ l,¬ t.No < no
 ·exact kf hx
 ·exfalso
  have h1:=ri (l:=l) (q:=fun t => ¬ t.No < no) (fun x hm k => hx ⟨x,hm,k⟩)
  unfold jo at h
  omega
theorem qI (l:List Instr) (x:Instr):(iu l x).length = l.length + 1:=cZ (oq l x.No)
theorem gZ {l:List Instr} {no:Int} (h:bH l):(aa l no = 0 ∧ ∀ j:Int,0 ≤ j → j < l.length → (rd l j).No ≠ no) ∨ ((1 ≤ aa l no ∧ aa l no ≤ 2) ∧ ∃ j:Int,(0 ≤ j ∧ j < l.length) ∧ (rd l j).No = no):=by
 by_cases hx:∃ t ∈ l,t.No = no
 ·right
  have h1:=gf hx
  have h0:=(bY l (fun t => t.No = no)).1
  have h2:(rd l (fIx l (fun t => t.No = no))).No = no:=kf hx
  have h3:∀ j:Int,0 ≤ j → j < fIx l (fun t => t.No = no) → (rd l j).No ≠ no:=fun j j0 j1 => ir (q:=fun t:Instr => t.No = no) j0 j1
  rw [jp (i:=fIx l (fun t => t.No = no)) ⟨h0,h1⟩ h3 h2]
  have:=(h.1 _ h0 h1).2.1
  unfold inP at this
  exact ⟨by omega,_,⟨h0,h1⟩,h2⟩
 ·left
  have hn:∀ j:Int,0 ≤ j → j < l.length → (rd l j).No ≠ no:=fun j h0 h1 e => hx ⟨_,aA ⟨h0,h1⟩,e⟩
  exact ⟨lP (i:=l.length) (by omega) hn,hn⟩
theorem y1 {l:List Instr} {x:Instr} (h:bH l) (hn:∀ j:Int,0 ≤ j → j < l.length → (rd l j).No ≠ x.No) (h1:aj x.No) (h2:inP x.Kind 1 2):bH (iu l x) ↔ l.length < 8:=by
 have hl:=qI l x
 refine ⟨fun k => by have:=k.2;omega,fun k => ⟨fun i h0 hi => ?_,by omega⟩⟩
 have hk:=oq l x.No
 have ha:=vu (l:=l) (no:=x.No)
 have e:∀ p:Int,0 ≤ p → rd (iu l x) p = if p < jo l x.No then rd l p else if p = jo l x.No then x else rd l (p - 1):=fun p hp => lV hk hp
 unfold vv
 rw [e i h0]
 by_cases c1:i < jo l x.No
 ·rw [if_pos c1]
  obtain ⟨q1,q2,q3⟩:=h.1 i h0 (by omega)
  refine ⟨q1,q2,fun hp => ?_⟩
  rw [e (i - 1) (by omega),if_pos (by omega)]
  exact q3 hp
 ·rw [if_neg c1]
  by_cases c2:i = jo l x.No
  ·rw [if_pos c2]
   refine ⟨h1,h2,fun hp => ?_⟩
   rw [e (i - 1) (by omega),if_pos (by omega)]
   exact t0 (by omega) (by omega)
  ·rw [if_neg c2]
   obtain ⟨q1,q2,q3⟩:=h.1 (i - 1) (by omega) (by omega)
   refine ⟨q1,q2,fun hp => ?_⟩
   rw [e (i - 1) (by omega),if_neg (by omega)]
   by_cases c3:i - 1 = jo l x.No
   ·rw [if_pos c3]
    have g1:=ha (by omega)
    rw [← c3] at g1
    have g2:=hn (i - 1) (by omega) (by omega)
    omega
   ·rw [if_neg c3]
    exact q3 (by omega)
theorem nE {l:List Instr} {no ki:Int} (hok:bH l):FC Tryz.prog 260 [.c (.row 0 0 l.length),.agg [.sc (.int .i64 no),.sc (.int .i64 ki)]] ([ro 74 l]) (sel (bH (iu l ⟨no,ki⟩)) (.tup [.c (.row 1 0 (iu l ⟨no,ki⟩).length),B true]) (.tup [.c (.row 1 0 l.length),B false])) (sel (bH (iu l ⟨no,ki⟩)) [ro 74 l,ow 74 (iu l ⟨no,ki⟩)] [ro 74 l,ow 74 l]):=by
 refine ax tk 56 [.tmp 4,.tmp 5] Tryz.func260 (by kernel_rfl) rfl rfl rfl rfl rfl rfl rfl ?_
 have hl:=hok.2
 have hK:=oq l no
 have hKa:=vu (l:=l) (no:=no)
 repeat' (first
| intro h9;exfalso;contradiction
| apply yds;rfl
| apply yd;rfl
| intro _
| refine nv ?_
| apply wcf rfl
| apply aH (α:=Instr) (e:=74);rfl
| apply ycp;rfl;exact cW;rfl
| fail)
 refine wlp (X:=Int × Bool × List Instr) [0,3] [0,1,2] (fun x => [(8,I x.1),(7,B x.2.1),(6,.c (.row 2 0 x.2.2.length))]) (fun x => [(2,ow 74 x.2.2)]) (fun x => (0 ≤ x.1 ∧ x.1 ≤ l.length) ∧ (x.2.1 = false → x.1 ≤ jo l no ∧ x.2.2 = pf l x.1) ∧ (x.2.1 = true → jo l no < x.1 ∧ x.2.2 = ins (pf l x.1) (jo l no) ⟨no,ki⟩)) (fun x => (l.length - x.1).toNat) (0,false,[]) ⟨⟨by dsimp only;omega,by dsimp only;omega⟩,fun _ => ⟨by dsimp only;omega,rfl⟩,fun h => (by cases h)⟩ rfl rfl (fun _ => rfl) (fun _ => rfl) ⟨rfl,rfl,rfl,rfl,rfl,rfl,rfl,rfl⟩ (fun x hx => ?_)
 obtain ⟨i,put,xs⟩:=x
 obtain ⟨h0,hf,ht⟩:=hx
 dsimp only at h0 hf ht ⊢
 have hb:=fun h => t0 (l:=l) (no:=no) h0.1 h
 have hpl:=bS h0
 cases put
 ·obtain ⟨h1,h2⟩:=hf rfl
  have hxl:xs.length ≤ 8:=by rw [h2];omega
  clear hf ht
  by_cases hil:i < l.length
  ·
   by_cases hge:(rd l i).No ≥ no
   ·
    have e:jo l no = i:=by
     rcases Int.lt_or_le i (jo l no) with q | q
     ·have:=hb q
      omega
     ·omega
    repeat' (first
| intro h9;exfalso;contradiction
| apply yds;rfl
| apply yd;rfl
| intro _
| refine nv ?_
| apply wct rfl
| apply ai;rfl
| apply yar;rfl;omega
| apply yix;rfl;omega
| apply yle;rfl;omega
| apply aH (α:=Instr) (e:=74);rfl
| apply yap;rfl;(((try simp only [lE,lM]);(try dsimp only);omega))
| refine zdq (id:=8) rfl (by kernel_rfl) [(.p,0),(.p,1),(.p,2),(.p,3),(.p,4),(.p,5),(.p,6),(.p,8),(.t,7),(.t,9),(.p,10),(.p,11)] [] (by kernel_rfl) rfl ?_
| fail)
    all_goals first
     | exact aB (i + 1,true,xs ++ [⟨no,ki⟩] ++ [rd l i]) [0,1,6] ⟨rfl,rfl,rfl,rfl,rfl,rfl,rfl,rfl⟩ ⟨⟨by dsimp only;omega,by dsimp only;omega⟩,fun h => (by cases h),fun _ => ⟨by dsimp only;omega,by dsimp only;rw [h2,AP ⟨h0.1,hil⟩,e]⟩⟩ (by first | omega | (dsimp only;omega))
     | (exfalso;omega)
     | trace_state
   ·
    have e:i ≠ jo l no:=fun e => by
     have q1:=hKa (by omega)
     rw [← e] at q1
     omega
    repeat' (first
| intro h9;exfalso;contradiction
| apply yds;rfl
| apply yd;rfl
| intro _
| refine nv ?_
| apply wct rfl
| apply wcf rfl
| apply ai;rfl
| apply yar;rfl;omega
| apply yix;rfl;omega
| apply yle;rfl;omega
| apply aH (α:=Instr) (e:=74);rfl
| apply yap;rfl;(((try simp only [lE,lM]);(try dsimp only);omega))
| refine zdq (id:=8) rfl (by kernel_rfl) [(.p,0),(.p,1),(.p,2),(.p,3),(.p,4),(.p,5),(.p,6),(.p,8),(.t,7),(.t,9),(.p,10),(.p,11)] [] (by kernel_rfl) rfl ?_
| fail)
    all_goals first
     | exact aB (i + 1,false,xs ++ [rd l i]) [0,1,4] ⟨rfl,rfl,rfl,rfl,rfl,rfl,rfl,rfl⟩ ⟨⟨by dsimp only;omega,by dsimp only;omega⟩,fun _ => ⟨by dsimp only;omega,by dsimp only;rw [h2,cg ⟨h0.1,hil⟩]⟩,fun h => (by cases h)⟩ (by first | omega | (dsimp only;omega))
     | (exfalso;omega)
     | trace_state
  ·
   have ee:xs ++ [⟨no,ki⟩] = iu l ⟨no,ki⟩:=by rw [h2,AQ ⟨h0.1,hil⟩,← show jo l no = l.length from by omega];rfl
   by_cases hp:bH (xs ++ [⟨no,ki⟩])
   ·
    repeat' (first
| intro h9;exfalso;contradiction
| apply yds;rfl
| apply yd;rfl
| intro _
| refine nv ?_
| apply wct rfl
| apply wcf rfl
| apply ah rfl
| apply ai;rfl
| apply aH (α:=Instr) (e:=74);rfl
| apply yap;rfl;(((try simp only [lE,lM]);(try dsimp only);omega))
| apply ycp;rfl;exact cW;rfl
| fail)
    all_goals first
     | (rw [← ee];exact iH hp [0,4] rfl rfl rfl rfl rfl rfl)
     | (exfalso;omega)
     | trace_state
   ·
    repeat' (first
| intro h9;exfalso;contradiction
| apply yds;rfl
| apply yd;rfl
| intro _
| refine nv ?_
| apply wct rfl
| apply wcf rfl
| apply ah rfl
| apply ai;rfl
| apply aH (α:=Instr) (e:=74);rfl
| apply yap;rfl;(((try simp only [lE,lM]);(try dsimp only);omega))
| apply ycp;rfl;exact cW;rfl
| fail)
    all_goals first
     | (rw [← ee];exact bQ hp [0,6] rfl rfl rfl rfl rfl rfl)
     | (exfalso;omega)
     | trace_state
 ·obtain ⟨h1,h2⟩:=ht rfl
  have hxl:xs.length ≤ 8 + 1:=by rw [h2,cZ ⟨by omega,by omega⟩];omega
  clear hf ht
  by_cases hil:i < l.length
  ·
   repeat' (first
| intro h9;exfalso;contradiction
| apply yds;rfl
| apply yd;rfl
| intro _
| refine nv ?_
| apply wct rfl
| apply wcf rfl
| apply ai;rfl
| apply yar;rfl;omega
| apply yix;rfl;omega
| apply yle;rfl;omega
| apply aH (α:=Instr) (e:=74);rfl
| apply yap;rfl;(((try simp only [lE,lM]);(try dsimp only);omega))
| refine zdq (id:=8) rfl (by kernel_rfl) [(.p,0),(.p,1),(.p,2),(.p,3),(.p,4),(.p,5),(.p,6),(.p,8),(.t,7),(.t,9),(.p,10),(.p,11)] [] (by kernel_rfl) rfl ?_
| fail)
   all_goals first
    | exact aB (i + 1,true,xs ++ [rd l i]) [0,1,4] ⟨rfl,rfl,rfl,rfl,rfl,rfl,rfl,rfl⟩ ⟨⟨by dsimp only;omega,by dsimp only;omega⟩,fun h => (by cases h),fun _ => ⟨by dsimp only;omega,by dsimp only;rw [h2,AR ⟨hK.1,h1⟩ hil]⟩⟩ (by first | omega | (dsimp only;omega))
    | (exfalso;omega)
    | trace_state
  ·
   have ee:xs = iu l ⟨no,ki⟩:=by rw [h2,b6 hil];rfl
   by_cases hp:bH xs
   ·
    repeat' (first
| intro h9;exfalso;contradiction
| apply yds;rfl
| apply yd;rfl
| intro _
| refine nv ?_
| apply wcf rfl
| apply ah rfl
| apply ai;rfl
| apply ycp;rfl;exact cW;rfl
| fail)
    all_goals first
     | (rw [← ee];exact iH hp [0,2] rfl rfl rfl rfl rfl rfl)
     | (exfalso;omega)
     | trace_state
   ·
    repeat' (first
| intro h9;exfalso;contradiction
| apply yds;rfl
| apply yd;rfl
| intro _
| refine nv ?_
| apply wct rfl
| apply wcf rfl
| apply ah rfl
| apply ai;rfl
| apply aH (α:=Instr) (e:=74);rfl
| apply yap;rfl;(((try simp only [lE,lM]);(try dsimp only);omega))
| apply ycp;rfl;exact cW;rfl
| fail)
    all_goals first
     | (rw [← ee];exact bQ hp [0,4] rfl rfl rfl rfl rfl rfl)
     | (exfalso;omega)
     | trace_state
end
end Go.Proofs.YtgehbhkfehmdkaaGreat.Sh
