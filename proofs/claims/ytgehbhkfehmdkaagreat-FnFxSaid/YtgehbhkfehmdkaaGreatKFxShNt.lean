/- Open trades, their legs. No condition. -/
import Derived.Test.YtgehbhkfehmdkaaGreatKFxShV
import Derived.Test.YtgehbhkfehmdkaaGreatKFxShBo
import Derived.Test.YtgehbhkfehmdkaaGreatKFxShPo
set_option maxRecDepth 100000
set_option maxHeartbeats 40000000
set_option linter.unusedSimpArgs false
set_option linter.unusedVariables false
namespace Go.Proofs.YtgehbhkfehmdkaaGreat.Sh
open Go.RowKit
noncomputable def tAt (l:List Trade) (no:Int):Int:=fIx l (fun t => t.No = no)
def kc (l:List Trade) (no:Int):Prop:=∃ t ∈ l,t.No = no
def du (l:List Trade) (no:Int):Prop:=kc l no ∧ (rd l (tAt l no)).State = 1
noncomputable def oC (l:List Trade) (no:Int):Int:=pick (kc l no) 6 3
theorem uK (l:List Trade) (no:Int):oC l no = 6 ∨ oC l no = 3:=by
 unfold oC
 by_cases h:kc l no
 ·rw [aJ h];exact .inl rfl
 ·rw [aD h];exact .inr rfl
theorem j9 {l:List Trade} {no:Int} (h:kc l no):0 ≤ tAt l no ∧ tAt l no < l.length:=⟨(cK _ _).1,ij h⟩
def bv (a e c n:Int):List Leg:=[⟨a,c,-n⟩,⟨e,c,n⟩]
theorem dg (a e c n:Int):(bv a e c n).length = 2:=rfl
def cm (t:Trade):List Leg:=[⟨t.Buyer,t.Cash,-t.Price⟩,⟨t.Seller,t.Cash,t.Price⟩,⟨t.Seller,t.Paper,-t.Qty⟩,⟨t.Buyer,t.Paper,t.Qty⟩]
theorem cS {ba:List Account} {bi:List Instr} {bb:List Bal} {bl:List Lot} {bt:List Trade} {bn:Int} {no:Int}:FC Tryz.prog 166 [bkV 0 ⟨ba,bi,bb,bl,bt,bn⟩,I no] (bkR ⟨ba,bi,bb,bl,bt,bn⟩) (sel (du bt no) (.tup [I (tAt bt no),I 0]) (.tup [I (pick (kc bt no) (tAt bt no) (-1)),I (oC bt no)])) (sel (du bt no) (bkR ⟨ba,bi,bb,bl,bt,bn⟩) (bkR ⟨ba,bi,bb,bl,bt,bn⟩)):=by
 refine ay tk 24 [.tmp 4,.tmp 5] Tryz.func166 (by kernel_rfl) rfl rfl rfl rfl rfl rfl rfl ?_
 refine cw bt 4 rfl (fun hl => ?_)
 have hb:=cK bt (fun t => t.No = no)
 have hb2:=fun h:kc bt no => ij (l:=bt) (q:=fun t => t.No = no) h
 by_cases hh:kc bt no
 ·have hb3:=hb2 hh
  have ho:oC bt no = 6:=aJ hh
  unfold kc at hh
  repeat' (first
| intro h9;exfalso;contradiction
| apply yds;rfl
| apply yd;rfl
| intro _
| refine nv ?_
| apply wct rfl
| apply wcf rfl
| apply aj;rfl
| apply yne;rfl
| apply yix;rfl;omega
| apply yle;rfl;omega
| apply zcs;(iterate 10 rfl);exact gH;exact fun _ => rfl;exact fun _ => rfl;rfl;rfl;rfl;rfl
| fail)
  all_goals first
   | (refine jl ⟨hh,by assumption⟩ [0,1,2,3,4] rfl rfl rfl rfl rfl rfl)
   | (rw [ho]
      first | exact cD (fun k => absurd k.2 (by assumption)) [0,1,2,3,4] rfl rfl rfl rfl rfl rfl
            | (rw [aJ hh];exact cD (fun k => absurd k.2 (by assumption)) [0,1,2,3,4] rfl rfl rfl rfl rfl rfl)
            | (rw [show pick (kc bt no) (tAt bt no) (-1) = tAt bt no from aJ hh];exact cD (fun k => absurd k.2 (by assumption)) [0,1,2,3,4] rfl rfl rfl rfl rfl rfl))
 ·have ho:oC bt no = 3:=aD hh
  have hh':=hh
  unfold kc at hh'
  repeat' (first
| intro h9;exfalso;contradiction
| apply yds;rfl
| apply yd;rfl
| intro _
| refine nv ?_
| apply wct rfl
| apply aj;rfl
| apply zcs;(iterate 10 rfl);exact gH;exact fun _ => rfl;exact fun _ => rfl;rfl;rfl;rfl;rfl
| fail)
  all_goals first
   | (rw [ho]
      first | exact cD (fun k => hh k.1) [0,1,2,3,4] rfl rfl rfl rfl rfl rfl
            | (rw [show pick (kc bt no) (tAt bt no) (-1) = -1 from aD hh];exact cD (fun k => hh k.1) [0,1,2,3,4] rfl rfl rfl rfl rfl rfl))
theorem eO {a e c n:Int} (hp:-1000000000000000 ≤ n ∧ n ≤ 1000000000000000):FC Tryz.prog 171 [I a,I e,I c,I n] ([]) (.c (.row 0 0 (bv a e c n).length)) ([ow 46 (bv a e c n)]):=by
 refine ay tk 19 [.tmp 8] Tryz.func171 (by kernel_rfl) rfl rfl rfl rfl rfl rfl rfl ?_
 repeat' (first
| apply yds;rfl
| apply yd;rfl
| refine nv ?_
| apply vu;rfl;rfl;omega;rfl;rfl
| apply aH (α:=Leg) (e:=46);rfl
| fail)
 all_goals exact au [0] rfl rfl rfl rfl rfl rfl
theorem eP {no bu se pa qt ca pr st:Int} (hq:-1000000000000000 ≤ qt ∧ qt ≤ 1000000000000000) (hp:-1000000000000000 ≤ pr ∧ pr ≤ 1000000000000000):FC Tryz.prog 168 [.agg [.sc (.int .i64 no),.sc (.int .i64 bu),.sc (.int .i64 se),.sc (.int .i64 pa),.sc (.int .i64 qt),.sc (.int .i64 ca),.sc (.int .i64 pr),.sc (.int .i64 st)]] ([]) (.c (.row 0 0 (cm ⟨no,bu,se,pa,qt,ca,pr,st⟩).length)) ([ow 46 (cm ⟨no,bu,se,pa,qt,ca,pr,st⟩)]):=by
 refine ay tk 22 [.tmp 2] Tryz.func168 (by kernel_rfl) rfl rfl rfl rfl rfl rfl rfl ?_
 have h1:=dg bu se ca pr
 have h2:=dg se bu pa qt
 repeat' (first
| apply yds;rfl
| apply yd;rfl
| refine nv ?_
| apply yap;rfl;(((try simp only [lE,lM]);(try dsimp only);omega))
| refine zdq (id:=1) rfl (by kernel_rfl) [(.p,0),(.p,2),(.p,4),(.p,6),(.p,9),(.p,11),(.p,13),(.p,15),(.t,1),(.t,3),(.t,5),(.t,7),(.t,10),(.t,12),(.t,14),(.t,16),(.o,8),(.o,17),(.l,18),(.p,19)] [18] (by kernel_rfl) rfl ?_
| apply ycf;rfl;exact eO (by omega);rfl
| fail)
 all_goals exact au [3] rfl rfl rfl rfl rfl rfl
noncomputable def nIx (L:List Leg) (a c:Int):Int:=fIx L (fun y => ¬ bef y.Account y.Instr a c)
def zK (L:List Leg) (a c:Int):Prop:=nIx L a c < L.length ∧ (rd L (nIx L a c)).Account = a ∧ (rd L (nIx L a c)).Instr = c
noncomputable def nt (L:List Leg) (x:Leg):List Leg:=sel (zK L x.Account x.Instr) (upd L (nIx L x.Account x.Instr) ⟨(rd L (nIx L x.Account x.Instr)).Account,(rd L (nIx L x.Account x.Instr)).Instr,(rd L (nIx L x.Account x.Instr)).Amount + x.Amount⟩) (ins L (nIx L x.Account x.Instr) x)
theorem uF (L:List Leg) (a c:Int):0 ≤ nIx L a c ∧ nIx L a c ≤ L.length:=cK _ _
theorem wd {L:List Leg} {a c j:Int} (h0:0 ≤ j) (h:j < nIx L a c):bef (rd L j).Account (rd L j).Instr a c:=Classical.not_not.1 (fw h0 h)
theorem xV {L:List Leg} {a c:Int} (h:nIx L a c < L.length):¬ bef (rd L (nIx L a c)).Account (rd L (nIx L a c)).Instr a c:=by
 by_cases hx:∃ t ∈ L,¬ bef t.Account t.Instr a c
 ·exact ig hx
 ·exfalso
  have h1:=mM (l:=L) (q:=fun t => ¬ bef t.Account t.Instr a c) (fun x hm k => hx ⟨x,hm,k⟩)
  unfold nIx at h
  omega
theorem xZ {L:List Leg} {a c n i:Int} (e:i = nIx L a c) (h:i < L.length) (h1:(rd L i).Account = a) (h2:(rd L i).Instr = c):nt L ⟨a,c,n⟩ = upd L i ⟨(rd L i).Account,(rd L i).Instr,(rd L i).Amount + n⟩:=by
 subst e
 exact al ⟨h,h1,h2⟩
theorem xY {L:List Leg} {a c n i:Int} (e:i = nIx L a c) (h:¬ (i < L.length ∧ (rd L i).Account = a ∧ (rd L i).Instr = c)):nt L ⟨a,c,n⟩ = ins L i ⟨a,c,n⟩:=by
 subst e
 exact a8 h
end Go.Proofs.YtgehbhkfehmdkaaGreat.Sh
