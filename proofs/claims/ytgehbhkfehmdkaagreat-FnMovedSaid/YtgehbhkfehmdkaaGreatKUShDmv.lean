/- The draw of a law. No condition. -/
import Derived.Test.YtgehbhkfehmdkaaGreatKUShV
import Derived.Test.YtgehbhkfehmdkaaGreatKUShRu
import Derived.Test.YtgehbhkfehmdkaaGreatKUShDrX
set_option maxRecDepth 100000
set_option maxHeartbeats 40000000
set_option linter.unusedSimpArgs false
set_option linter.unusedVariables false
namespace Go.Proofs.YtgehbhkfehmdkaaGreat.Sh
open Go.RowKit
theorem mG {cb:List By} (hl:cb.length ≤ 1048576):FE Tryz.prog 67 [.c (.row 0 0 cb.length)] ([ro 5 cb]) (fun v9 h9 => ∃ (r:Books) (n0 n1 n2 n3 n4:Int),(True) ∧ v9 = .tup [bkE 1 r,I n0,I n1,I n2,I n3,I n4] ∧ h9 = [ro 5 cb] ++ bkW r):=by
 refine dl tk 31 [.cell 2 _,.tmp 3,.tmp 4,.tmp 5,.tmp 6,.tmp 7] Tryz.func67 (by kernel_rfl) rfl rfl rfl rfl rfl rfl rfl ?_
 have hc:=cU 4
 repeat' (first
| (with_reducible apply yds);rfl
| (with_reducible apply yd);rfl
| refine zo (id:=2) rfl (by kernel_rfl) [(.p,1),(.p,2),(.p,4),(.p,5),(.p,7),(.p,8),(.p,10),(.p,11),(.p,13),(.p,14),(.t,0),(.t,3),(.t,6),(.t,9),(.t,12),(.t,15),(.l,16),(.p,17),(.p,18),(.p,19),(.p,20),(.p,21)] 1 (by kernel_rfl) rfl rfl ?_
| (with_reducible apply xp);rfl;exact tk;rfl;rfl;rfl;rfl
| (with_reducible apply xix);rfl;exact tk;(iterate 7 rfl);omega;rfl;rfl
| (with_reducible apply xle);rfl;exact tk;(iterate 6 rfl);omega;rfl;rfl;rfl;rfl
| (with_reducible apply xlv);rfl;exact tk;(iterate 11 rfl)
| (with_reducible apply xst);rfl;exact tk;rfl;rfl;rfl;rfl;rfl
| with_reducible apply zm
| refine nv ?_
| (with_reducible apply zce false []);(iterate 10 rfl);exact fk (by omega) (by omega);rfl;rfl;rintro _ _ ⟨r,a,hq,rfl,rfl⟩ <;> refine ⟨_,_,rfl,rfl,?_⟩
| fail)
 all_goals exact df [0,2,3,4,5,6] ⟨r,_,_,_,_,_,trivial,rfl,rfl⟩ rfl rfl rfl rfl rfl rfl
end Go.Proofs.YtgehbhkfehmdkaaGreat.Sh
