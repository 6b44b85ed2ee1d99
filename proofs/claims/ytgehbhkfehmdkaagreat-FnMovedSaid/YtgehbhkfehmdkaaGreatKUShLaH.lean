/- The lots of an account and an instrument, their quantity and cost, nq lots that are right. No condition. -/
import Derived.Test.YtgehbhkfehmdkaaGreatKUShV
import Derived.Test.YtgehbhkfehmdkaaGreatKUShLo
import Derived.Test.YtgehbhkfehmdkaaGreatKUShM
set_option maxRecDepth 100000
set_option maxHeartbeats 40000000
set_option linter.unusedSimpArgs false
set_option linter.unusedVariables false
namespace Go.Proofs.YtgehbhkfehmdkaaGreat.Sh
open Go.RowKit
theorem oX {l:List Lot} {a c:Int} (hok:LotsOk l):FC Tryz.prog 142 [.c (.row 0 0 l.length),I a,I c] ([ro 137 l]) (.c (.row 1 0 (ae l a c).length)) ([ro 137 l,ow 137 (ae l a c)]):=by
 refine ax tk 14 [.tmp 6] Tryz.func142 (by kernel_rfl) rfl rfl rfl rfl rfl rfl rfl ?_
 have hq:LQ l:=hok.q
 have hll:=hq.len
 repeat' (first
| intro h9;exfalso;contradiction
| apply yds;rfl
| apply yd;rfl
| intro _
| refine nv ?_
| apply wcf rfl
| apply ycp;rfl;exact bZ;rfl
| apply ycf;rfl;exact dx (by omega);rfl
| fail)
 all_goals exact ak [0,1] rfl rfl rfl rfl rfl rfl
theorem fF {l:List Lot} {a c:Int} (hok:LotsOk l):FC Tryz.prog 36 [.c (.row 0 0 l.length),I a,I c] ([ro 137 l]) (I (sC (ae l a c))) ([ro 137 l]):=by
 refine ax tk 18 [.tmp 6] Tryz.func36 (by kernel_rfl) rfl rfl rfl rfl rfl rfl rfl ?_
 have hq:LQ (ae l a c):=LQ.of hok.q
 repeat' (first
| apply yds;rfl
| apply yd;rfl
| refine nv ?_
| apply ycf;rfl;exact oX (by assumption);rfl
| apply yc;rfl;exact cz (by assumption);rfl;exact fun _ => rfl
| fail)
 all_goals exact ak [0] rfl rfl rfl rfl rfl rfl
theorem pG {l:List Lot} {a c:Int} (hok:LotsOk l):FC Tryz.prog 144 [.c (.row 0 0 l.length),I a,I c] ([ro 137 l]) (.c (.row 1 0 (ae l a c).length)) ([ro 137 l,ow 137 (ae l a c)]):=by
 refine ax tk 21 [.tmp 6] Tryz.func144 (by kernel_rfl) rfl rfl rfl rfl rfl rfl rfl ?_
 have hq:LQ l:=hok.q
 have hll:=hq.len
 repeat' (first
| intro h9;exfalso;contradiction
| apply yds;rfl
| apply yd;rfl
| intro _
| refine nv ?_
| apply wcf rfl
| apply ycp;rfl;exact bB;rfl
| apply ycf;rfl;exact bW (by omega);rfl
| fail)
 all_goals exact ak [0,1] rfl rfl rfl rfl rfl rfl
theorem fI {l:List Lot} {a c:Int} (hok:LotsOk l):FC Tryz.prog 37 [.c (.row 0 0 l.length),I a,I c] ([ro 137 l]) (I (sC (ae l a c))) ([ro 137 l]):=by
 refine ax tk 12 [.tmp 6] Tryz.func37 (by kernel_rfl) rfl rfl rfl rfl rfl rfl rfl ?_
 have hq:LQ (ae l a c):=LQ.of hok.q
 repeat' (first
| apply yds;rfl
| apply yd;rfl
| refine nv ?_
| apply ycf;rfl;exact pG (by assumption);rfl
| apply yc;rfl;exact kG (by assumption);rfl;exact fun _ => rfl
| fail)
 all_goals exact ak [0] rfl rfl rfl rfl rfl rfl
end Go.Proofs.YtgehbhkfehmdkaaGreat.Sh
