/- The draw of a law. No condition. -/
import Derived.Test.YtgehbhkfehmdkaaGreatKUShV
import Derived.Test.YtgehbhkfehmdkaaGreatKUShRu
import Derived.Test.YtgehbhkfehmdkaaGreatKUShDrX
set_option maxRecDepth 100000
set_option maxHeartbeats 40000000
set_option linter.unusedSimpArgs false
set_option linter.unusedVariables false
namespace Go.Proofs.YtgehbhkfehmdkaaGreat.Sh
open Go.RowKit
theorem la {cb:List By} (hl:cb.length ≤ 1048576):FE Tryz.prog 70 [.c (.row 0 0 cb.length)] ([ro 5 cb]) (fun v9 h9 => ∃ (r:Books) (n0 n1:Int),(True) ∧ v9 = .tup [bkE 1 r,I n0,I n1] ∧ h9 = [ro 5 cb] ++ bkW r):=by
 refine dl tk 19 [.cell 2 _,.tmp 3,.tmp 4] Tryz.func70 (by kernel_rfl) rfl rfl rfl rfl rfl rfl rfl ?_
 have hc:=cU 7
 repeat' (first
| apply yds;rfl
| apply yd;rfl
| refine zo (id:=2) rfl (by kernel_rfl) [(.p,1),(.p,2),(.p,4),(.p,5),(.t,0),(.t,3),(.t,6),(.l,7),(.p,8),(.p,9)] 1 (by kernel_rfl) rfl rfl ?_
| apply xp;rfl;exact tk;rfl;rfl;rfl;rfl
| apply xix;rfl;exact tk;(iterate 7 rfl);omega;rfl;rfl
| apply xle;rfl;exact tk;(iterate 6 rfl);omega;rfl;rfl;rfl;rfl
| apply xlv;rfl;exact tk;(iterate 11 rfl)
| apply xst;rfl;exact tk;rfl;rfl;rfl;rfl;rfl
| apply zm
| refine nv ?_
| apply zce false [];(iterate 10 rfl);exact fk (by omega) (by omega);rfl;rfl;rintro _ _ ⟨r,a,hq,rfl,rfl⟩ <;> refine ⟨_,_,rfl,rfl,?_⟩
| fail)
 all_goals exact df [0,2,3,4,5,6] ⟨r,_,_,trivial,rfl,rfl⟩ rfl rfl rfl rfl rfl rfl
end Go.Proofs.YtgehbhkfehmdkaaGreat.Sh
