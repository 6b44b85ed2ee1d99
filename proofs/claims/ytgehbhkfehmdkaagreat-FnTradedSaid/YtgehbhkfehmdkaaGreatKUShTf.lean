/- The trade of a number, of books that are right. No condition. -/
import Derived.Test.YtgehbhkfehmdkaaGreatKUShV
import Derived.Test.YtgehbhkfehmdkaaGreatKUShNt
set_option maxRecDepth 100000
set_option maxHeartbeats 40000000
set_option linter.unusedSimpArgs false
set_option linter.unusedVariables false
namespace Go.Proofs.YtgehbhkfehmdkaaGreat.Sh
open Go.RowKit
abbrev trV (t:Trade):AV:=.agg [.sc (.int .i64 t.No),.sc (.int .i64 t.Buyer),.sc (.int .i64 t.Seller),.sc (.int .i64 t.Paper),.sc (.int .i64 t.Qty),.sc (.int .i64 t.Cash),.sc (.int .i64 t.Price),.sc (.int .i64 t.State)]
theorem ml {ba:List Account} {bi:List Instr} {bb:List Bal} {bl:List Lot} {bt:List Trade} {bn:Int} {no:Int}:FC Tryz.prog 74 [bkV 0 ⟨ba,bi,bb,bl,bt,bn⟩,I no] (bkR ⟨ba,bi,bb,bl,bt,bn⟩) (sel (BooksOk ⟨ba,bi,bb,bl,bt,bn⟩ ∧ d8 bt no) (.tup [trV (rd bt (tAt bt no)),B true]) (.tup [trV ⟨0,0,0,0,0,0,0,0⟩,B false])) (sel (BooksOk ⟨ba,bi,bb,bl,bt,bn⟩ ∧ d8 bt no) (bkR ⟨ba,bi,bb,bl,bt,bn⟩) (bkR ⟨ba,bi,bb,bl,bt,bn⟩)):=by
 refine ax tk 23 [.cell 4 _,.tmp 5] Tryz.func74 (by kernel_rfl) rfl rfl rfl rfl rfl rfl rfl ?_
 refine bX bt 4 rfl (fun hl => ?_)
 have hb:=bY bt (fun t => t.No = no)
 have hb2:=fun h:d8 bt no => gf (l:=bt) (q:=fun t => t.No = no) h
 by_cases hh:d8 bt no
 ·have hb3:=hb2 hh
  unfold d8 at hh
  repeat' (first
| intro h9;exfalso;contradiction
| apply yds;rfl
| apply yd;rfl
| intro _
| refine nv ?_
| apply wct rfl
| apply wcf rfl
| apply ai;rfl
| apply yix;rfl;omega
| apply yle;rfl;omega
| apply zcs;(iterate 10 rfl);exact eF;exact fun _ => rfl;exact fun _ => rfl;rfl;rfl;rfl;rfl
| apply ycp;rfl;exact aM;rfl
| fail)
  all_goals first | exact iH ⟨by assumption,hh⟩ [0,1,2,3,4] rfl rfl rfl rfl rfl rfl | exact bQ (fun k => absurd k.1 (by assumption)) [0,1,2,3,4] rfl rfl rfl rfl rfl rfl
 ·have hh':=hh
  unfold d8 at hh'
  repeat' (first
| intro h9;exfalso;contradiction
| apply yds;rfl
| apply yd;rfl
| intro _
| refine nv ?_
| apply wct rfl
| apply ai;rfl
| apply zcs;(iterate 10 rfl);exact eF;exact fun _ => rfl;exact fun _ => rfl;rfl;rfl;rfl;rfl
| fail)
  all_goals exact bQ (fun k => hh k.2) [0,1,2,3,4] rfl rfl rfl rfl rfl rfl
theorem mJ {ba:List Account} {bi:List Instr} {bb:List Bal} {bl:List Lot} {bt:List Trade} {bn:Int} {no:Int}:FC Tryz.prog 72 [bkV 0 ⟨ba,bi,bb,bl,bt,bn⟩,I no] (bkR ⟨ba,bi,bb,bl,bt,bn⟩) (sel (BooksOk ⟨ba,bi,bb,bl,bt,bn⟩ ∧ d8 bt no) (.tup [trV (rd bt (tAt bt no)),B true]) (.tup [trV ⟨0,0,0,0,0,0,0,0⟩,B false])) (sel (BooksOk ⟨ba,bi,bb,bl,bt,bn⟩ ∧ d8 bt no) (bkR ⟨ba,bi,bb,bl,bt,bn⟩) (bkR ⟨ba,bi,bb,bl,bt,bn⟩)):=by
 refine ax tk 23 [.cell 4 _,.tmp 5] Tryz.func72 (by kernel_rfl) rfl rfl rfl rfl rfl rfl rfl ?_
 refine bX bt 4 rfl (fun hl => ?_)
 have hb:=bY bt (fun t => t.No = no)
 have hb2:=fun h:d8 bt no => gf (l:=bt) (q:=fun t => t.No = no) h
 by_cases hh:d8 bt no
 ·have hb3:=hb2 hh
  unfold d8 at hh
  repeat' (first
| intro h9;exfalso;contradiction
| apply yds;rfl
| apply yd;rfl
| intro _
| refine nv ?_
| apply wct rfl
| apply wcf rfl
| apply ai;rfl
| apply yix;rfl;omega
| apply yle;rfl;omega
| apply zcs;(iterate 10 rfl);exact fX;exact fun _ => rfl;exact fun _ => rfl;rfl;rfl;rfl;rfl
| apply ycp;rfl;exact ap;rfl
| fail)
  all_goals first | exact iH ⟨by assumption,hh⟩ [0,1,2,3,4] rfl rfl rfl rfl rfl rfl | exact bQ (fun k => absurd k.1 (by assumption)) [0,1,2,3,4] rfl rfl rfl rfl rfl rfl
 ·have hh':=hh
  unfold d8 at hh'
  repeat' (first
| intro h9;exfalso;contradiction
| apply yds;rfl
| apply yd;rfl
| intro _
| refine nv ?_
| apply wct rfl
| apply ai;rfl
| apply zcs;(iterate 10 rfl);exact fX;exact fun _ => rfl;exact fun _ => rfl;rfl;rfl;rfl;rfl
| fail)
  all_goals exact bQ (fun k => hh k.2) [0,1,2,3,4] rfl rfl rfl rfl rfl rfl
end Go.Proofs.YtgehbhkfehmdkaaGreat.Sh
