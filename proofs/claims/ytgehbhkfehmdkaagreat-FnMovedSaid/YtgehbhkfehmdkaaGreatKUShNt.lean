/- Open trades, their legs. No condition. -/
import Derived.Test.YtgehbhkfehmdkaaGreatKUShV
import Derived.Test.YtgehbhkfehmdkaaGreatKUShBo
import Derived.Test.YtgehbhkfehmdkaaGreatKUShPo
set_option maxRecDepth 100000
set_option maxHeartbeats 40000000
set_option linter.unusedSimpArgs false
set_option linter.unusedVariables false
namespace Go.Proofs.YtgehbhkfehmdkaaGreat.Sh
open Go.RowKit
noncomputable def tAt (l:List Trade) (no:Int):Int:=fIx l (fun t => t.No = no)
def d8 (l:List Trade) (no:Int):Prop:=∃ t ∈ l,t.No = no
def d9 (l:List Trade) (no:Int):Prop:=d8 l no ∧ (rd l (tAt l no)).State = 1
noncomputable def oC (l:List Trade) (no:Int):Int:=pick (d8 l no) 6 3
theorem qL (l:List Trade) (no:Int):oC l no = 6 ∨ oC l no = 3:=by
 unfold oC
 by_cases h:d8 l no
 ·rw [aK h];exact .inl rfl
 ·rw [aC h];exact .inr rfl
theorem jw {l:List Trade} {no:Int} (h:d8 l no):0 ≤ tAt l no ∧ tAt l no < l.length:=⟨(bY _ _).1,gf h⟩
def b9 (a e c n:Int):List Leg:=[⟨a,c,-n⟩,⟨e,c,n⟩]
theorem ew (a e c n:Int):(b9 a e c n).length = 2:=rfl
def bE (t:Trade):List Leg:=[⟨t.Buyer,t.Cash,-t.Price⟩,⟨t.Seller,t.Cash,t.Price⟩,⟨t.Seller,t.Paper,-t.Qty⟩,⟨t.Buyer,t.Paper,t.Qty⟩]
theorem gX {ba:List Account} {bi:List Instr} {bb:List Bal} {bl:List Lot} {bt:List Trade} {bn:Int} {no:Int}:FC Tryz.prog 110 [bkV 0 ⟨ba,bi,bb,bl,bt,bn⟩,I no] (bkR ⟨ba,bi,bb,bl,bt,bn⟩) (sel (d9 bt no) (.tup [I (tAt bt no),I 0]) (.tup [I 0,I (oC bt no)])) (sel (d9 bt no) (bkR ⟨ba,bi,bb,bl,bt,bn⟩) (bkR ⟨ba,bi,bb,bl,bt,bn⟩)):=by
 refine ax tk 22 [.tmp 4,.tmp 5] Tryz.func110 (by kernel_rfl) rfl rfl rfl rfl rfl rfl rfl ?_
 refine bX bt 4 rfl (fun hl => ?_)
 have hb:=bY bt (fun t => t.No = no)
 have hb2:=fun h:d8 bt no => gf (l:=bt) (q:=fun t => t.No = no) h
 by_cases hh:d8 bt no
 ·have hb3:=hb2 hh
  have ho:oC bt no = 6:=aK hh
  unfold d8 at hh
  repeat' (first
| intro h9;exfalso;contradiction
| apply yds;rfl
| apply yd;rfl
| intro _
| refine nv ?_
| apply wct rfl
| apply wcf rfl
| apply ai;rfl
| apply yne;rfl
| apply yix;rfl;omega
| apply yle;rfl;omega
| apply zcs;(iterate 10 rfl);exact eF;exact fun _ => rfl;exact fun _ => rfl;rfl;rfl;rfl;rfl
| fail)
  all_goals first
   | (refine iH ⟨hh,by assumption⟩ [0,1,2,3,4] rfl rfl rfl rfl rfl rfl)
   | (rw [ho]
      first | exact bQ (fun k => absurd k.2 (by assumption)) [0,1,2,3,4] rfl rfl rfl rfl rfl rfl
            | (rw [aK hh];exact bQ (fun k => absurd k.2 (by assumption)) [0,1,2,3,4] rfl rfl rfl rfl rfl rfl)
            | (rw [show pick (d8 bt no) (tAt bt no) (-1) = tAt bt no from aK hh];exact bQ (fun k => absurd k.2 (by assumption)) [0,1,2,3,4] rfl rfl rfl rfl rfl rfl))
 ·have ho:oC bt no = 3:=aC hh
  have hh':=hh
  unfold d8 at hh'
  repeat' (first
| intro h9;exfalso;contradiction
| apply yds;rfl
| apply yd;rfl
| intro _
| refine nv ?_
| apply wct rfl
| apply ai;rfl
| apply zcs;(iterate 10 rfl);exact eF;exact fun _ => rfl;exact fun _ => rfl;rfl;rfl;rfl;rfl
| fail)
  all_goals first
   | (rw [ho]
      first | exact bQ (fun k => hh k.1) [0,1,2,3,4] rfl rfl rfl rfl rfl rfl
            | (rw [show pick (d8 bt no) (tAt bt no) (-1) = -1 from aC hh];exact bQ (fun k => hh k.1) [0,1,2,3,4] rfl rfl rfl rfl rfl rfl))
theorem dF {ba:List Account} {bi:List Instr} {bb:List Bal} {bl:List Lot} {bt:List Trade} {bn:Int} {no:Int}:FC Tryz.prog 166 [bkV 0 ⟨ba,bi,bb,bl,bt,bn⟩,I no] (bkR ⟨ba,bi,bb,bl,bt,bn⟩) (sel (d9 bt no) (.tup [I (tAt bt no),I 0]) (.tup [I (pick (d8 bt no) (tAt bt no) (-1)),I (oC bt no)])) (sel (d9 bt no) (bkR ⟨ba,bi,bb,bl,bt,bn⟩) (bkR ⟨ba,bi,bb,bl,bt,bn⟩)):=by
 refine ax tk 24 [.tmp 4,.tmp 5] Tryz.func166 (by kernel_rfl) rfl rfl rfl rfl rfl rfl rfl ?_
 refine bX bt 4 rfl (fun hl => ?_)
 have hb:=bY bt (fun t => t.No = no)
 have hb2:=fun h:d8 bt no => gf (l:=bt) (q:=fun t => t.No = no) h
 by_cases hh:d8 bt no
 ·have hb3:=hb2 hh
  have ho:oC bt no = 6:=aK hh
  unfold d8 at hh
  repeat' (first
| intro h9;exfalso;contradiction
| apply yds;rfl
| apply yd;rfl
| intro _
| refine nv ?_
| apply wct rfl
| apply wcf rfl
| apply ai;rfl
| apply yne;rfl
| apply yix;rfl;omega
| apply yle;rfl;omega
| apply zcs;(iterate 10 rfl);exact fX;exact fun _ => rfl;exact fun _ => rfl;rfl;rfl;rfl;rfl
| fail)
  all_goals first
   | (refine iH ⟨hh,by assumption⟩ [0,1,2,3,4] rfl rfl rfl rfl rfl rfl)
   | (rw [ho]
      first | exact bQ (fun k => absurd k.2 (by assumption)) [0,1,2,3,4] rfl rfl rfl rfl rfl rfl
            | (rw [aK hh];exact bQ (fun k => absurd k.2 (by assumption)) [0,1,2,3,4] rfl rfl rfl rfl rfl rfl)
            | (rw [show pick (d8 bt no) (tAt bt no) (-1) = tAt bt no from aK hh];exact bQ (fun k => absurd k.2 (by assumption)) [0,1,2,3,4] rfl rfl rfl rfl rfl rfl))
 ·have ho:oC bt no = 3:=aC hh
  have hh':=hh
  unfold d8 at hh'
  repeat' (first
| intro h9;exfalso;contradiction
| apply yds;rfl
| apply yd;rfl
| intro _
| refine nv ?_
| apply wct rfl
| apply ai;rfl
| apply zcs;(iterate 10 rfl);exact fX;exact fun _ => rfl;exact fun _ => rfl;rfl;rfl;rfl;rfl
| fail)
  all_goals first
   | (rw [ho]
      first | exact bQ (fun k => hh k.1) [0,1,2,3,4] rfl rfl rfl rfl rfl rfl
            | (rw [show pick (d8 bt no) (tAt bt no) (-1) = -1 from aC hh];exact bQ (fun k => hh k.1) [0,1,2,3,4] rfl rfl rfl rfl rfl rfl))
theorem pb {no bu se pa qt ca pr st:Int} (hq:-1000000000000000 ≤ qt ∧ qt ≤ 1000000000000000) (hp:-1000000000000000 ≤ pr ∧ pr ≤ 1000000000000000):FC Tryz.prog 112 [.agg [.sc (.int .i64 no),.sc (.int .i64 bu),.sc (.int .i64 se),.sc (.int .i64 pa),.sc (.int .i64 qt),.sc (.int .i64 ca),.sc (.int .i64 pr),.sc (.int .i64 st)]] ([]) (.c (.row 0 0 (bE ⟨no,bu,se,pa,qt,ca,pr,st⟩).length)) ([ow 46 (bE ⟨no,bu,se,pa,qt,ca,pr,st⟩)]):=by
 refine ax tk 34 [.tmp 2] Tryz.func112 (by kernel_rfl) rfl rfl rfl rfl rfl rfl rfl ?_
 repeat' (first
| apply yds;rfl
| apply yd;rfl
| refine nv ?_
| apply v4;rfl;rfl;omega;rfl;rfl
| apply aH (α:=Leg) (e:=46);rfl
| fail)
 all_goals exact ak [1] rfl rfl rfl rfl rfl rfl
theorem iF {a e c n:Int} (hp:-1000000000000000 ≤ n ∧ n ≤ 1000000000000000):FC Tryz.prog 171 [I a,I e,I c,I n] ([]) (.c (.row 0 0 (b9 a e c n).length)) ([ow 46 (b9 a e c n)]):=by
 refine ax tk 19 [.tmp 8] Tryz.func171 (by kernel_rfl) rfl rfl rfl rfl rfl rfl rfl ?_
 repeat' (first
| apply yds;rfl
| apply yd;rfl
| refine nv ?_
| apply v4;rfl;rfl;omega;rfl;rfl
| apply aH (α:=Leg) (e:=46);rfl
| fail)
 all_goals exact ak [0] rfl rfl rfl rfl rfl rfl
theorem iG {no bu se pa qt ca pr st:Int} (hq:-1000000000000000 ≤ qt ∧ qt ≤ 1000000000000000) (hp:-1000000000000000 ≤ pr ∧ pr ≤ 1000000000000000):FC Tryz.prog 168 [.agg [.sc (.int .i64 no),.sc (.int .i64 bu),.sc (.int .i64 se),.sc (.int .i64 pa),.sc (.int .i64 qt),.sc (.int .i64 ca),.sc (.int .i64 pr),.sc (.int .i64 st)]] ([]) (.c (.row 0 0 (bE ⟨no,bu,se,pa,qt,ca,pr,st⟩).length)) ([ow 46 (bE ⟨no,bu,se,pa,qt,ca,pr,st⟩)]):=by
 refine ax tk 22 [.tmp 2] Tryz.func168 (by kernel_rfl) rfl rfl rfl rfl rfl rfl rfl ?_
 have h1:=ew bu se ca pr
 have h2:=ew se bu pa qt
 repeat' (first
| apply yds;rfl
| apply yd;rfl
| refine nv ?_
| apply yap;rfl;(((try simp only [lE,lM]);(try dsimp only);omega))
| refine zdq (id:=1) rfl (by kernel_rfl) [(.p,0),(.p,2),(.p,4),(.p,6),(.p,9),(.p,11),(.p,13),(.p,15),(.t,1),(.t,3),(.t,5),(.t,7),(.t,10),(.t,12),(.t,14),(.t,16),(.o,8),(.o,17),(.l,18),(.p,19)] [18] (by kernel_rfl) rfl ?_
| apply ycf;rfl;exact iF (by omega);rfl
| fail)
 all_goals exact ak [3] rfl rfl rfl rfl rfl rfl
noncomputable def nIx (L:List Leg) (a c:Int):Int:=fIx L (fun y => ¬ bef y.Account y.Instr a c)
def D8 (L:List Leg) (a c:Int):Prop:=nIx L a c < L.length ∧ (rd L (nIx L a c)).Account = a ∧ (rd L (nIx L a c)).Instr = c
noncomputable def nt (L:List Leg) (x:Leg):List Leg:=sel (D8 L x.Account x.Instr) (upd L (nIx L x.Account x.Instr) ⟨(rd L (nIx L x.Account x.Instr)).Account,(rd L (nIx L x.Account x.Instr)).Instr,(rd L (nIx L x.Account x.Instr)).Amount + x.Amount⟩) (ins L (nIx L x.Account x.Instr) x)
theorem ym (L:List Leg) (a c:Int):0 ≤ nIx L a c ∧ nIx L a c ≤ L.length:=bY _ _
theorem A4 {L:List Leg} {a c j:Int} (h0:0 ≤ j) (h:j < nIx L a c):bef (rd L j).Account (rd L j).Instr a c:=Classical.not_not.1 (ir h0 h)
theorem BD {L:List Leg} {a c:Int} (h:nIx L a c < L.length):¬ bef (rd L (nIx L a c)).Account (rd L (nIx L a c)).Instr a c:=by
 by_cases hx:∃ t ∈ L,¬ bef t.Account t.Instr a c
 ·exact kf hx
 ·exfalso
  have h1:=ri (l:=L) (q:=fun t => ¬ bef t.Account t.Instr a c) (fun x hm k => hx ⟨x,hm,k⟩)
  unfold nIx at h
  omega
theorem BH {L:List Leg} {a c n i:Int} (e:i = nIx L a c) (h:i < L.length) (h1:(rd L i).Account = a) (h2:(rd L i).Instr = c):nt L ⟨a,c,n⟩ = upd L i ⟨(rd L i).Account,(rd L i).Instr,(rd L i).Amount + n⟩:=by
 subst e
 exact au ⟨h,h1,h2⟩
theorem BG {L:List Leg} {a c n i:Int} (e:i = nIx L a c) (h:¬ (i < L.length ∧ (rd L i).Account = a ∧ (rd L i).Instr = c)):nt L ⟨a,c,n⟩ = ins L i ⟨a,c,n⟩:=by
 subst e
 exact ab h
end Go.Proofs.YtgehbhkfehmdkaaGreat.Sh
