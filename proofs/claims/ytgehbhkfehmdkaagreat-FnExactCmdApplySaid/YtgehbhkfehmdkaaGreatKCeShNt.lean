/- Open trades, their legs. No condition. -/
import Derived.Test.YtgehbhkfehmdkaaGreatKCeShV
import Derived.Test.YtgehbhkfehmdkaaGreatKCeShTr
import Derived.Test.YtgehbhkfehmdkaaGreatKCeShPo
set_option maxRecDepth 100000
set_option maxHeartbeats 40000000
set_option linter.unusedSimpArgs false
set_option linter.unusedVariables false
namespace Go.Proofs.YtgehbhkfehmdkaaGreat.Sh
open Go.RowKit
noncomputable def tAt (l:List Trade) (no:Int):Int:=fIx l (fun t => t.No = no)
def j8 (l:List Trade) (no:Int):Prop:=∃ t ∈ l,t.No = no
def di (l:List Trade) (no:Int):Prop:=j8 l no ∧ (rd l (tAt l no)).State = 1
noncomputable def oC (l:List Trade) (no:Int):Int:=pick (j8 l no) 6 3
theorem pY (l:List Trade) (no:Int):oC l no = 6 ∨ oC l no = 3:=by
 unfold oC
 by_cases h:j8 l no
 ·rw [aD h];exact .inl rfl
 ·rw [aB h];exact .inr rfl
theorem gJ {l:List Trade} {no:Int} (h:j8 l no):0 ≤ tAt l no ∧ tAt l no < l.length:=⟨(bW _ _).1,gN h⟩
def bN (a e c n:Int):List Leg:=[⟨a,c,-n⟩,⟨e,c,n⟩]
theorem df (a e c n:Int):(bN a e c n).length = 2:=rfl
def bT (t:Trade):List Leg:=[⟨t.Buyer,t.Cash,-t.Price⟩,⟨t.Seller,t.Cash,t.Price⟩,⟨t.Seller,t.Paper,-t.Qty⟩,⟨t.Buyer,t.Paper,t.Qty⟩]
theorem dq {ba:List Account} {bi:List Instr} {bb:List Bal} {bl:List Lot} {bt:List Trade} {bn:Int} {no:Int}:FC Tryz.prog 110 [bkV 0 ⟨ba,bi,bb,bl,bt,bn⟩,I no] (bkR ⟨ba,bi,bb,bl,bt,bn⟩) (sel (di bt no) (.tup [I (tAt bt no),I 0]) (.tup [I 0,I (oC bt no)])) (sel (di bt no) (bkR ⟨ba,bi,bb,bl,bt,bn⟩) (bkR ⟨ba,bi,bb,bl,bt,bn⟩)):=by
 refine al tk 22 [.tmp 4,.tmp 5] Tryz.func110 (by kernel_rfl) rfl rfl rfl rfl rfl rfl rfl ?_
 refine cj bt 4 rfl (fun hl => ?_)
 have hb:=bW bt (fun t => t.No = no)
 have hb2:=fun h:j8 bt no => gN (l:=bt) (q:=fun t => t.No = no) h
 by_cases hh:j8 bt no
 ·have hb3:=hb2 hh
  have ho:oC bt no = 6:=aD hh
  unfold j8 at hh
  repeat' (first
| intro h9;exfalso;contradiction
| apply yds;rfl
| apply yd;rfl
| intro _
| refine nv ?_
| apply wct rfl
| apply wcf rfl
| apply ag;rfl
| apply yne;rfl
| apply yix;rfl;omega
| apply yle;rfl;omega
| apply zcs;(iterate 10 rfl);exact iC;exact fun _ => rfl;exact fun _ => rfl;rfl;rfl;rfl;rfl
| fail)
  all_goals first
   | (refine gM ⟨hh,by assumption⟩ [0,1,2,3,4] rfl rfl rfl rfl rfl rfl)
   | (rw [ho]
      first | exact bS (fun k => absurd k.2 (by assumption)) [0,1,2,3,4] rfl rfl rfl rfl rfl rfl
            | (rw [aD hh];exact bS (fun k => absurd k.2 (by assumption)) [0,1,2,3,4] rfl rfl rfl rfl rfl rfl)
            | (rw [show pick (j8 bt no) (tAt bt no) (-1) = tAt bt no from aD hh];exact bS (fun k => absurd k.2 (by assumption)) [0,1,2,3,4] rfl rfl rfl rfl rfl rfl))
 ·have ho:oC bt no = 3:=aB hh
  have hh':=hh
  unfold j8 at hh'
  repeat' (first
| intro h9;exfalso;contradiction
| apply yds;rfl
| apply yd;rfl
| intro _
| refine nv ?_
| apply wct rfl
| apply ag;rfl
| apply zcs;(iterate 10 rfl);exact iC;exact fun _ => rfl;exact fun _ => rfl;rfl;rfl;rfl;rfl
| fail)
  all_goals first
   | (rw [ho]
      first | exact bS (fun k => hh k.1) [0,1,2,3,4] rfl rfl rfl rfl rfl rfl
            | (rw [show pick (j8 bt no) (tAt bt no) (-1) = -1 from aB hh];exact bS (fun k => hh k.1) [0,1,2,3,4] rfl rfl rfl rfl rfl rfl))
theorem dw {ba:List Account} {bi:List Instr} {bb:List Bal} {bl:List Lot} {bt:List Trade} {bn:Int} {no:Int}:FC Tryz.prog 166 [bkV 0 ⟨ba,bi,bb,bl,bt,bn⟩,I no] (bkR ⟨ba,bi,bb,bl,bt,bn⟩) (sel (di bt no) (.tup [I (tAt bt no),I 0]) (.tup [I (pick (j8 bt no) (tAt bt no) (-1)),I (oC bt no)])) (sel (di bt no) (bkR ⟨ba,bi,bb,bl,bt,bn⟩) (bkR ⟨ba,bi,bb,bl,bt,bn⟩)):=by
 refine al tk 24 [.tmp 4,.tmp 5] Tryz.func166 (by kernel_rfl) rfl rfl rfl rfl rfl rfl rfl ?_
 refine cj bt 4 rfl (fun hl => ?_)
 have hb:=bW bt (fun t => t.No = no)
 have hb2:=fun h:j8 bt no => gN (l:=bt) (q:=fun t => t.No = no) h
 by_cases hh:j8 bt no
 ·have hb3:=hb2 hh
  have ho:oC bt no = 6:=aD hh
  unfold j8 at hh
  repeat' (first
| intro h9;exfalso;contradiction
| apply yds;rfl
| apply yd;rfl
| intro _
| refine nv ?_
| apply wct rfl
| apply wcf rfl
| apply ag;rfl
| apply yne;rfl
| apply yix;rfl;omega
| apply yle;rfl;omega
| apply zcs;(iterate 10 rfl);exact jy;exact fun _ => rfl;exact fun _ => rfl;rfl;rfl;rfl;rfl
| fail)
  all_goals first
   | (refine gM ⟨hh,by assumption⟩ [0,1,2,3,4] rfl rfl rfl rfl rfl rfl)
   | (rw [ho]
      first | exact bS (fun k => absurd k.2 (by assumption)) [0,1,2,3,4] rfl rfl rfl rfl rfl rfl
            | (rw [aD hh];exact bS (fun k => absurd k.2 (by assumption)) [0,1,2,3,4] rfl rfl rfl rfl rfl rfl)
            | (rw [show pick (j8 bt no) (tAt bt no) (-1) = tAt bt no from aD hh];exact bS (fun k => absurd k.2 (by assumption)) [0,1,2,3,4] rfl rfl rfl rfl rfl rfl))
 ·have ho:oC bt no = 3:=aB hh
  have hh':=hh
  unfold j8 at hh'
  repeat' (first
| intro h9;exfalso;contradiction
| apply yds;rfl
| apply yd;rfl
| intro _
| refine nv ?_
| apply wct rfl
| apply ag;rfl
| apply zcs;(iterate 10 rfl);exact jy;exact fun _ => rfl;exact fun _ => rfl;rfl;rfl;rfl;rfl
| fail)
  all_goals first
   | (rw [ho]
      first | exact bS (fun k => hh k.1) [0,1,2,3,4] rfl rfl rfl rfl rfl rfl
            | (rw [show pick (j8 bt no) (tAt bt no) (-1) = -1 from aB hh];exact bS (fun k => hh k.1) [0,1,2,3,4] rfl rfl rfl rfl rfl rfl))
theorem ji {no bu se pa qt ca pr st:Int} (hq:-1000000000000000 ≤ qt ∧ qt ≤ 1000000000000000) (hp:-1000000000000000 ≤ pr ∧ pr ≤ 1000000000000000):FC Tryz.prog 112 [.agg [.sc (.int .i64 no),.sc (.int .i64 bu),.sc (.int .i64 se),.sc (.int .i64 pa),.sc (.int .i64 qt),.sc (.int .i64 ca),.sc (.int .i64 pr),.sc (.int .i64 st)]] ([]) (.c (.row 0 0 (bT ⟨no,bu,se,pa,qt,ca,pr,st⟩).length)) ([ow 46 (bT ⟨no,bu,se,pa,qt,ca,pr,st⟩)]):=by
 refine al tk 34 [.tmp 2] Tryz.func112 (by kernel_rfl) rfl rfl rfl rfl rfl rfl rfl ?_
 repeat' (first
| apply yds;rfl
| apply yd;rfl
| refine nv ?_
| apply tx;rfl;rfl;omega;rfl;rfl
| apply aG (α:=Leg) (e:=46);rfl
| fail)
 all_goals exact ai [1] rfl rfl rfl rfl rfl rfl
theorem gG {a e c n:Int} (hp:-1000000000000000 ≤ n ∧ n ≤ 1000000000000000):FC Tryz.prog 171 [I a,I e,I c,I n] ([]) (.c (.row 0 0 (bN a e c n).length)) ([ow 46 (bN a e c n)]):=by
 refine al tk 19 [.tmp 8] Tryz.func171 (by kernel_rfl) rfl rfl rfl rfl rfl rfl rfl ?_
 repeat' (first
| apply yds;rfl
| apply yd;rfl
| refine nv ?_
| apply tx;rfl;rfl;omega;rfl;rfl
| apply aG (α:=Leg) (e:=46);rfl
| fail)
 all_goals exact ai [0] rfl rfl rfl rfl rfl rfl
theorem gH {no bu se pa qt ca pr st:Int} (hq:-1000000000000000 ≤ qt ∧ qt ≤ 1000000000000000) (hp:-1000000000000000 ≤ pr ∧ pr ≤ 1000000000000000):FC Tryz.prog 168 [.agg [.sc (.int .i64 no),.sc (.int .i64 bu),.sc (.int .i64 se),.sc (.int .i64 pa),.sc (.int .i64 qt),.sc (.int .i64 ca),.sc (.int .i64 pr),.sc (.int .i64 st)]] ([]) (.c (.row 0 0 (bT ⟨no,bu,se,pa,qt,ca,pr,st⟩).length)) ([ow 46 (bT ⟨no,bu,se,pa,qt,ca,pr,st⟩)]):=by
 refine al tk 22 [.tmp 2] Tryz.func168 (by kernel_rfl) rfl rfl rfl rfl rfl rfl rfl ?_
 have h1:=df bu se ca pr
 have h2:=df se bu pa qt
 repeat' (first
| apply yds;rfl
| apply yd;rfl
| refine nv ?_
| apply yap;rfl;(((try simp only [lE,lM]);(try dsimp only);omega))
| refine zdq (id:=1) rfl (by kernel_rfl) [(.p,0),(.p,2),(.p,4),(.p,6),(.p,9),(.p,11),(.p,13),(.p,15),(.t,1),(.t,3),(.t,5),(.t,7),(.t,10),(.t,12),(.t,14),(.t,16),(.o,8),(.o,17),(.l,18),(.p,19)] [18] (by kernel_rfl) rfl ?_
| apply ycf;rfl;exact gG (by omega);rfl
| fail)
 all_goals exact ai [3] rfl rfl rfl rfl rfl rfl
noncomputable def nIx (L:List Leg) (a c:Int):Int:=fIx L (fun y => ¬ bef y.Account y.Instr a c)
def Bb (L:List Leg) (a c:Int):Prop:=nIx L a c < L.length ∧ (rd L (nIx L a c)).Account = a ∧ (rd L (nIx L a c)).Instr = c
noncomputable def nt (L:List Leg) (x:Leg):List Leg:=sel (Bb L x.Account x.Instr) (upd L (nIx L x.Account x.Instr) ⟨(rd L (nIx L x.Account x.Instr)).Account,(rd L (nIx L x.Account x.Instr)).Instr,(rd L (nIx L x.Account x.Instr)).Amount + x.Amount⟩) (ins L (nIx L x.Account x.Instr) x)
theorem nZ (L:List Leg) (a c:Int):0 ≤ nIx L a c ∧ nIx L a c ≤ L.length:=bW _ _
theorem uY {L:List Leg} {a c j:Int} (h0:0 ≤ j) (h:j < nIx L a c):bef (rd L j).Account (rd L j).Instr a c:=Classical.not_not.1 (iy h0 h)
theorem xW {L:List Leg} {a c:Int} (h:nIx L a c < L.length):¬ bef (rd L (nIx L a c)).Account (rd L (nIx L a c)).Instr a c:=by
 by_cases hx:∃ t ∈ L,¬ bef t.Account t.Instr a c
 ·exact ko hx
 ·exfalso
  have h1:=qy (l:=L) (q:=fun t => ¬ bef t.Account t.Instr a c) (fun x hm k => hx ⟨x,hm,k⟩)
  unfold nIx at h
  omega
theorem y7 {L:List Leg} {a c n i:Int} (e:i = nIx L a c) (h:i < L.length) (h1:(rd L i).Account = a) (h2:(rd L i).Instr = c):nt L ⟨a,c,n⟩ = upd L i ⟨(rd L i).Account,(rd L i).Instr,(rd L i).Amount + n⟩:=by
 subst e
 exact ap ⟨h,h1,h2⟩
theorem u9 {L:List Leg} {a c n i:Int} (e:i = nIx L a c) (h:¬ (i < L.length ∧ (rd L i).Account = a ∧ (rd L i).Instr = c)):nt L ⟨a,c,n⟩ = ins L i ⟨a,c,n⟩:=by
 subst e
 exact a8 h
theorem sw {L:List Leg} {a c n:Int} (hl:L.length ≤ 4000000) (hb:∀ y ∈ L,-4000000000000000000 ≤ y.Amount ∧ y.Amount ≤ 4000000000000000000) (hn:-4000000000000000000 ≤ n ∧ n ≤ 4000000000000000000):FC Tryz.prog 121 [.c (.row 0 0 L.length),.agg [.sc (.int .i64 a),.sc (.int .i64 c),.sc (.int .i64 n)]] ([ow 46 L]) (.c (.row 1 0 (nt L ⟨a,c,n⟩).length)) ([none,ow 46 (nt L ⟨a,c,n⟩)]):=by
 refine al tk 70 [.tmp 4] Tryz.func121 (by kernel_rfl) rfl rfl rfl rfl rfl rfl rfl ?_
 have hK:=nZ L a c
 have hKa:=xW (L:=L) (a:=a) (c:=c)
 repeat' (first
| apply yds;rfl
| apply yd;rfl
| refine nv ?_
| fail)
 refine wlp (X:=Int) [0,3] [0,1] (fun i => [(5,I i)]) (fun _ => []) (fun i => 0 ≤ i ∧ i ≤ nIx L a c) (fun i => (L.length - i).toNat) 0 ⟨by omega,by omega⟩ rfl rfl (fun _ => rfl) (fun _ => rfl) ⟨rfl,rfl,rfl,rfl,rfl,rfl,rfl,rfl⟩ (fun i hi => ?_)
 obtain ⟨h0,hi⟩:=hi
 have hbi:=fun h => uY (L:=L) (a:=a) (c:=c) h0 h
 have hm:=fun h => hb _ (ax (l:=L) (i:=i) ⟨h0,h⟩)
 repeat' (first
| intro h9;exfalso;contradiction
| apply yds;rfl
| apply yd;rfl
| apply yar;rfl;(have h1:=hm (by assumption);omega)
| intro _
| refine nv ?_
| apply wct rfl
| apply wcf rfl
| apply ae rfl
| apply ag;rfl
| apply yix;rfl;omega
| apply yle;rfl;omega
| apply zse;rfl;exact tk;(iterate 6 rfl);omega;rfl;rfl;rfl;rfl;rfl
| apply aG (α:=Leg) (e:=46);rfl
| refine zdq (id:=2) rfl (by kernel_rfl) [(.p,0),(.p,1),(.p,2),(.p,3),(.p,4),(.p,5),(.p,6),(.p,7),(.p,8),(.p,10),(.p,11),(.p,12),(.p,13),(.p,15),(.p,17),(.t,9),(.t,14),(.t,16),(.t,18),(.o,19),(.p,20),(.p,21)] [] (by kernel_rfl) rfl ?_
| refine zdq (id:=4) rfl (by kernel_rfl) [(.p,0),(.p,1),(.p,2),(.p,3),(.p,4),(.p,5),(.p,6),(.p,7),(.p,8),(.p,10),(.t,9),(.t,11),(.p,12),(.p,13),(.p,14),(.p,15),(.p,16),(.p,17),(.p,18),(.p,20),(.t,19),(.t,21),(.p,22),(.p,23)] [] (by kernel_rfl) rfl ?_
| refine zdq (id:=5) rfl (by kernel_rfl) [(.p,0),(.p,1),(.p,2),(.p,3),(.p,5),(.t,4),(.t,6),(.p,7),(.p,8),(.p,9),(.l,10)] [10] (by kernel_rfl) rfl ?_
| apply yc;rfl;exact gq;rfl;exact fun _ => rfl
| apply ycw  [true,true];rfl;exact li (by omega) (by omega);rfl
| fail)
 all_goals first
  | (rename_i h1 h2
     have q:bef (rd L i).Account (rd L i).Instr a c:=byBoth_lt.1 h2
     exact aA (i + 1) [0,1] ⟨rfl,rfl,rfl,rfl,rfl,rfl,rfl,rfl⟩ ⟨by omega,by have e:i ≠ nIx L a c:=fun e => (by have:=hKa (by omega);rw [← e] at this;exact this q);omega⟩ (by first | omega | (dsimp only;omega)))
  | (have q:¬ bef (rd L i).Account (rd L i).Instr a c:=fun k => absurd (byBoth_lt.2 k) (by assumption)
     have e:i = nIx L a c:=by
      by_cases hq:i < nIx L a c
      ·exact absurd (hbi hq) q
      ·omega
     first
     | (rw [y7 e (by assumption) (by assumption) (by assumption)]
        exact cy (X':=.c (.row 1 0 L.length)) (hs':=[none,ow 46 (upd L i ⟨(rd L i).Account,(rd L i).Instr,(rd L i).Amount + n⟩)]) [0,0] rfl rfl rfl rfl rfl rfl (by rw [aF]) rfl)
     | (rw [u9 e (fun k => by first | exact absurd k.2.1 (by assumption) | exact absurd k.2.2 (by assumption))]
        exact ai [0,3] rfl rfl rfl rfl rfl rfl))
  | (have e:i = nIx L a c:=by omega
     rw [u9 e (fun k => absurd k.1 (by assumption))]
     exact ai [0,3] rfl rfl rfl rfl rfl rfl)
end Go.Proofs.YtgehbhkfehmdkaaGreat.Sh
