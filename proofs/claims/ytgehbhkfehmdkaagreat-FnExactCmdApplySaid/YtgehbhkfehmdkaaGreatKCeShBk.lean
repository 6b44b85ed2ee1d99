/- Lots of books are opened and taken: both sides. No condition. -/
import Derived.Test.YtgehbhkfehmdkaaGreatKCeShV
import Derived.Test.YtgehbhkfehmdkaaGreatKCeShTn
import Derived.Test.YtgehbhkfehmdkaaGreatKCeShPo
set_option maxRecDepth 100000
set_option maxHeartbeats 40000000
set_option linter.unusedSimpArgs false
set_option linter.unusedVariables false
namespace Go.Proofs.YtgehbhkfehmdkaaGreat.Sh
open Go.RowKit
def f8 (l:List Lot) (n:Int) (a c q k:Int):Prop:=¬ n ≥ 1000000000 ∧ (d9 l ⟨a,c,n + 1,q,k⟩).2 = 0
noncomputable abbrev opL (l:List Lot) (n a c q k:Int):List Lot:=(d9 l ⟨a,c,n + 1,q,k⟩).1
theorem f6 {ba:List Account} {bi:List Instr} {bb:List Bal} {bl:List Lot} {bt:List Trade} {bn:Int} {a c q k:Int} (hn:0 ≤ bn):FC Tryz.prog 114 [.c (.ptr 0 0 0),I a,I c,I q,I k] ([bkX 1 ⟨ba,bi,bb,bl,bt,bn⟩] ++ bkO ⟨ba,bi,bb,bl,bt,bn⟩) (sel (f8 bl bn a c q k) (I 0) (I 7)) (sel (f8 bl bn a c q k) ([some ⟨true,30,6,.mx [.row 1 0 ba.length,.row 2 0 bi.length,.row 3 0 bb.length,.row 6 0 (opL bl bn a c q k).length,.row 5 0 bt.length,.sc (.int .i64 (bn + 1))]⟩] ++ bkO ⟨ba,bi,bb,bl,bt,bn⟩ ++ [ow 137 (opL bl bn a c q k)]) ([bkX 1 ⟨ba,bi,bb,bl,bt,bn⟩] ++ bkO ⟨ba,bi,bb,bl,bt,bn⟩)):=by
 refine al tk 49 [.tmp 10] Tryz.func114 (by kernel_rfl) rfl rfl rfl rfl rfl rfl rfl ?_
 repeat' (first
| apply yds;rfl
| apply yd;rfl
| intro _
| refine nv ?_
| apply wct rfl
| apply wcf rfl
| apply ag;rfl
| apply yne;rfl
| apply yar;rfl;omega
| refine zdq (id:=3) rfl (by kernel_rfl) [(.p,0),(.p,1),(.p,2),(.p,4),(.p,5),(.p,6),(.p,7),(.p,8),(.p,11),(.p,12),(.t,3),(.t,9),(.p,10),(.p,13),(.o,14),(.p,15),(.p,16),(.p,17),(.p,18),(.p,19)] [] (by kernel_rfl) rfl ?_
| apply ycf;rfl;exact qI;rfl
| fail)
 all_goals first
  | (exact bS (fun h => h.1 (by assumption)) [0,1,2,3,4,5] rfl rfl rfl rfl rfl rfl)
  | (exact bS (fun h => absurd h.2 (by assumption)) [0,1,2,3,4,5] rfl rfl rfl rfl rfl rfl)
  | (exact gM ⟨by assumption,by assumption⟩ [0,1,2,3,4,5,6] rfl rfl rfl rfl rfl rfl)
  | trace_state
noncomputable abbrev tN (l:List Lot) (a c q w:Int):Int:=(cz l a c q w).2.2
noncomputable abbrev tL (l:List Lot) (a c q w:Int):List Lot:=(cz l a c q w).1
noncomputable abbrev tC (l:List Lot) (a c q w:Int):Int:=(cz l a c q w).2.1
theorem iQ {ba:List Account} {bi:List Instr} {bb:List Bal} {bl:List Lot} {bt:List Trade} {bn:Int} {a c q w:Int}:FC Tryz.prog 113 [.c (.ptr 0 0 0),I a,I c,I q,I w] ([bkX 1 ⟨ba,bi,bb,bl,bt,bn⟩] ++ bkO ⟨ba,bi,bb,bl,bt,bn⟩) (sel (tN bl a c q w = 0) (.tup [I (tC bl a c q w),I 0]) (.tup [I 0,I 5])) (sel (tN bl a c q w = 0) ([some ⟨true,30,6,.mx [.row 1 0 ba.length,.row 2 0 bi.length,.row 3 0 bb.length,.row 6 0 (tL bl a c q w).length,.row 5 0 bt.length,.sc (.int .i64 bn)]⟩] ++ bkO ⟨ba,bi,bb,bl,bt,bn⟩ ++ [ow 137 (tL bl a c q w)]) ([bkX 1 ⟨ba,bi,bb,bl,bt,bn⟩] ++ bkO ⟨ba,bi,bb,bl,bt,bn⟩)):=by
 refine al tk 35 [.tmp 10,.tmp 11] Tryz.func113 (by kernel_rfl) rfl rfl rfl rfl rfl rfl rfl ?_
 repeat' (first
| apply yds;rfl
| apply yd;rfl
| intro _
| refine nv ?_
| apply wct rfl
| apply wcf rfl
| apply yne;rfl
| apply ycf;rfl;exact qJ;rfl
| fail)
 all_goals first
  | exact gM (by assumption) [0,1,2,3,4,5,6] rfl rfl rfl rfl rfl rfl
  | exact bS (by assumption) [0,1,2,3,4,5] rfl rfl rfl rfl rfl rfl
  | trace_state
theorem eU {ba:List Account} {bi:List Instr} {bb:List Bal} {bl:List Lot} {bt:List Trade} {bn:Int} {a c q k:Int} (hn:0 ≤ bn ∧ bn ≤ 1000000000):FC Tryz.prog 172 [bkV 0 ⟨ba,bi,bb,bl,bt,bn⟩,I a,I c,I q,I k] (bkO ⟨ba,bi,bb,bl,bt,bn⟩) (sel (f8 bl bn a c q k) (.tup [.agg [.row 0 0 ba.length,.row 1 0 bi.length,.row 2 0 bb.length,.row 5 0 (opL bl bn a c q k).length,.row 4 0 bt.length,.sc (.int .i64 (bn + 1))],I 0]) (.tup [bkV 0 ⟨ba,bi,bb,bl,bt,bn⟩,I 7])) (sel (f8 bl bn a c q k) (bkO ⟨ba,bi,bb,bl,bt,bn⟩ ++ [ow 137 (opL bl bn a c q k)]) (bkO ⟨ba,bi,bb,bl,bt,bn⟩)):=by
 refine al tk 42 [.cell 10 _,.tmp 11] Tryz.func172 (by kernel_rfl) rfl rfl rfl rfl rfl rfl rfl ?_
 repeat' (first
| apply yds;rfl
| apply yd;rfl
| intro _
| refine nv ?_
| apply wct rfl
| apply wcf rfl
| apply yeq;rfl
| apply yne;rfl
| apply yar;rfl;omega
| apply ycf;rfl;exact rK;rfl
| fail)
 all_goals first
  | (exact bS (fun h => by have:=h.1;omega) [0,1,2,3,4] rfl rfl rfl rfl rfl rfl)
  | (exact bS (fun h => absurd h.2 (by assumption)) [0,1,2,3,4] rfl rfl rfl rfl rfl rfl)
  | (exact gM ⟨by omega,by assumption⟩ [0,1,2,3,4,7] rfl rfl rfl rfl rfl rfl)
  | trace_state
theorem jx {ba:List Account} {bi:List Instr} {bb:List Bal} {bl:List Lot} {bt:List Trade} {bn:Int} {fr to c q w pr:Int} (hn:0 ≤ bn ∧ bn ≤ 1000000000) (h1:¬ tN bl fr c q w = 0):FC Tryz.prog 200 [bkV 0 ⟨ba,bi,bb,bl,bt,bn⟩,I fr,I to,I c,I q,I w,I pr] (bkO ⟨ba,bi,bb,bl,bt,bn⟩) (.tup [bkV 0 ⟨ba,bi,bb,bl,bt,bn⟩,I 0,I 5]) (bkO ⟨ba,bi,bb,bl,bt,bn⟩):=by
 refine al tk 53 [.cell 14 _,.tmp 15,.tmp 16] Tryz.func200 (by kernel_rfl) rfl rfl rfl rfl rfl rfl rfl ?_
 repeat' (first
| intro h9;exfalso;contradiction
| apply yds;rfl
| apply yd;rfl
| intro _
| refine nv ?_
| apply wct rfl
| apply yne;rfl
| apply ycf;rfl;exact eu;rfl
| fail)
 all_goals exact ai [0,1,2,3,4] rfl rfl rfl rfl rfl rfl
theorem jw {ba:List Account} {bi:List Instr} {bb:List Bal} {bl:List Lot} {bt:List Trade} {bn:Int} {fr to c q w pr:Int} (hn:0 ≤ bn ∧ bn ≤ 1000000000) (h1:tN bl fr c q w = 0) (h2:¬ f8 (tL bl fr c q w) bn to c q (pick (pr < 0) (tC bl fr c q w) pr)):FC Tryz.prog 200 [bkV 0 ⟨ba,bi,bb,bl,bt,bn⟩,I fr,I to,I c,I q,I w,I pr] (bkO ⟨ba,bi,bb,bl,bt,bn⟩) (.tup [.agg [.row 0 0 ba.length,.row 1 0 bi.length,.row 2 0 bb.length,.row 5 0 (tL bl fr c q w).length,.row 4 0 bt.length,.sc (.int .i64 bn)],I (tC bl fr c q w),I 7]) (bkO ⟨ba,bi,bb,bl,bt,bn⟩ ++ [ow 137 (tL bl fr c q w)]):=by
 refine al tk 53 [.cell 14 _,.tmp 15,.tmp 16] Tryz.func200 (by kernel_rfl) rfl rfl rfl rfl rfl rfl rfl ?_
 by_cases hp:pr < 0
 ·have hp':pick (pr < 0) (tC bl fr c q w) pr = tC bl fr c q w:=aD hp
  rw [hp'] at h2
  repeat' (first
| intro h9;exfalso;contradiction
| apply yds;rfl
| apply yd;rfl
| intro _
| refine nv ?_
| apply wct rfl
| apply wcf rfl
| apply ag;rfl
| apply yne;rfl
| apply ycf;rfl;exact eu;rfl
| apply gc  [true,true,true,true,true];(iterate 10 rfl);exact eU (by omega);(iterate 6 rfl)
| fail)
  all_goals exact ai [0,1,2,3,4,7] rfl rfl rfl rfl rfl rfl
 ·have hp':pick (pr < 0) (tC bl fr c q w) pr = pr:=aB hp
  rw [hp'] at h2
  repeat' (first
| intro h9;exfalso;contradiction
| apply yds;rfl
| apply yd;rfl
| intro _
| refine nv ?_
| apply wcf rfl
| apply ag;rfl
| apply yne;rfl
| apply ycf;rfl;exact eu;rfl
| apply gc  [true,true,true,true,true];(iterate 10 rfl);exact eU (by omega);(iterate 6 rfl)
| fail)
  all_goals exact ai [0,1,2,3,4,7] rfl rfl rfl rfl rfl rfl
theorem jv {ba:List Account} {bi:List Instr} {bb:List Bal} {bl:List Lot} {bt:List Trade} {bn:Int} {fr to c q w pr:Int} (hn:0 ≤ bn ∧ bn ≤ 1000000000) (h1:tN bl fr c q w = 0) (h2:f8 (tL bl fr c q w) bn to c q (pick (pr < 0) (tC bl fr c q w) pr)):FC Tryz.prog 200 [bkV 0 ⟨ba,bi,bb,bl,bt,bn⟩,I fr,I to,I c,I q,I w,I pr] (bkO ⟨ba,bi,bb,bl,bt,bn⟩) (.tup [.agg [.row 0 0 ba.length,.row 1 0 bi.length,.row 2 0 bb.length,.row 5 0 (opL (tL bl fr c q w) bn to c q (pick (pr < 0) (tC bl fr c q w) pr)).length,.row 4 0 bt.length,.sc (.int .i64 (bn + 1))],I (tC bl fr c q w),I 0]) (bkO ⟨ba,bi,bb,bl,bt,bn⟩ ++ [ow 137 (opL (tL bl fr c q w) bn to c q (pick (pr < 0) (tC bl fr c q w) pr))]):=by
 refine al tk 53 [.cell 14 _,.tmp 15,.tmp 16] Tryz.func200 (by kernel_rfl) rfl rfl rfl rfl rfl rfl rfl ?_
 by_cases hp:pr < 0
 ·have hp':pick (pr < 0) (tC bl fr c q w) pr = tC bl fr c q w:=aD hp
  rw [hp'] at h2 ⊢
  repeat' (first
| intro h9;exfalso;contradiction
| apply yds;rfl
| apply yd;rfl
| intro _
| refine nv ?_
| apply wct rfl
| apply wcf rfl
| apply ag;rfl
| apply yne;rfl
| apply ycf;rfl;exact eu;rfl
| apply gc  [true,true,true,true,true];(iterate 10 rfl);exact eU (by omega);(iterate 6 rfl)
| fail)
  all_goals exact ai [0,1,2,3,4,8] rfl rfl rfl rfl rfl rfl
 ·have hp':pick (pr < 0) (tC bl fr c q w) pr = pr:=aB hp
  rw [hp'] at h2 ⊢
  repeat' (first
| intro h9;exfalso;contradiction
| apply yds;rfl
| apply yd;rfl
| intro _
| refine nv ?_
| apply wcf rfl
| apply ag;rfl
| apply yne;rfl
| apply ycf;rfl;exact eu;rfl
| apply gc  [true,true,true,true,true];(iterate 10 rfl);exact eU (by omega);(iterate 6 rfl)
| fail)
  all_goals exact ai [0,1,2,3,4,8] rfl rfl rfl rfl rfl rfl
end Go.Proofs.YtgehbhkfehmdkaaGreat.Sh
