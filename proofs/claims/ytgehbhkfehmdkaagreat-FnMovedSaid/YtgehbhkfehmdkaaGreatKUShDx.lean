/- Draws: what a cursor gives, accounts and instruments of books, the next command. No condition. -/
import Derived.Test.YtgehbhkfehmdkaaGreatKUShV
import Derived.Test.YtgehbhkfehmdkaaGreatKUShTk
import Derived.Test.YtgehbhkfehmdkaaGreatKUShDr
import Derived.Test.YtgehbhkfehmdkaaGreatKUShBo
set_option maxRecDepth 100000
set_option maxHeartbeats 40000000
set_option linter.unusedSimpArgs false
set_option linter.unusedVariables false
namespace Go.Proofs.YtgehbhkfehmdkaaGreat.Sh
section
open Go.RowKit
theorem fJ {ba:List Account} {bi:List Instr} {bb:List Bal} {bl:List Lot} {bt:List Trade} {bn:Int} {cb:List By} {ci ch:Int} (hi:0 ≤ ci) (hm:ba.length ≤ 8589934592 ∧ bi.length ≤ 8589934592 ∧ bb.length ≤ 8589934592 ∧ bl.length ≤ 8589934592 ∧ bt.length ≤ 8589934592):FE Tryz.prog 211 [.c (.ptr 0 0 0),bkV 1 ⟨ba,bi,bb,bl,bt,bn⟩] ([cu 236 6 cb.length ci ch] ++ bkR ⟨ba,bi,bb,bl,bt,bn⟩ ++ [ro 5 cb]) (fun v9 h9 => ∃ (k i h:Int) (a:List Int),(0 ≤ i ∧ a.length ≤ 7) ∧ v9 = .agg [.sc (.int .i64 k),.row 7 0 a.length] ∧ h9 = [cu 236 6 cb.length i h] ++ bkR ⟨ba,bi,bb,bl,bt,bn⟩ ++ [ro 5 cb,ow 3 a]):=by
 refine dl tk 230 [.cell 4 _] Tryz.func211 (by kernel_rfl) rfl rfl rfl rfl rfl rfl rfl ?_
 repeat' (first
| (with_reducible apply yds);rfl
| (with_reducible apply yd);rfl
| intro _
| refine nv ?_
| apply wct rfl
| apply wcf rfl
| (with_reducible apply ai);rfl
| (with_reducible apply yar);rfl;(first | omega | ((try simp only [lE,lM]);(try dsimp only);omega))
| (with_reducible apply aH (α:=Int) (e:=3));rfl
| refine Cl (id:=27) rfl (by kernel_rfl) (.one .p 0 (.one .p 3 (.one .p 4 (.one .p 5 (.one .p 6 (.one .p 8 (.one .p 9 (.one .p 11 (.one .p 12 (.one .p 14 (.one .p 15 (.three .l 1 (.one .p 2 (.two .o 7 (.two .l 10 (.one .o 13 (.one .l 16 (.one .o 17 (.one .p 18 (.one .l 19 .nil))))) .o 13 (.one .l 10 (.one .l 16 (.one .o 17 (.one .p 18 (.one .l 19 .nil)))))) .o 13 (.one .o 7 (.one .l 10 (.one .l 16 (.one .o 17 (.one .p 18 (.one .l 19 .nil)))))))) .o 7 (.two .l 1 (.one .p 2 (.two .l 10 (.one .o 13 (.one .l 16 (.one .o 17 (.one .p 18 (.one .l 19 .nil))))) .o 13 (.one .l 10 (.one .l 16 (.one .o 17 (.one .p 18 (.one .l 19 .nil))))))) .o 13 (.one .l 1 (.one .p 2 (.one .l 10 (.one .l 16 (.one .o 17 (.one .p 18 (.one .l 19 .nil)))))))) .o 13 (.two .l 1 (.one .p 2 (.one .o 7 (.one .l 10 (.one .l 16 (.one .o 17 (.one .p 18 (.one .l 19 .nil))))))) .o 7 (.one .l 1 (.one .p 2 (.one .l 10 (.one .l 16 (.one .o 17 (.one .p 18 (.one .l 19 .nil)))))))))))))))))))) [1,10,16,19] (by kernel_rfl) ?_
| refine Cl (id:=44) rfl (by kernel_rfl) (.one .p 0 (.one .p 1 (.one .p 4 (.one .p 5 (.one .p 8 (.one .p 10 (.one .p 11 (.one .p 13 (.one .p 16 (.one .t 2 (.three .l 3 (.two .o 6 (.two .l 7 (.one .o 9 (.one .l 12 (.one .l 14 (.one .p 15 (.one .l 17 (.one .p 18 (.one .o 19 (.one .p 20 (.one .l 21 .nil))))))))) .o 9 (.one .l 7 (.one .l 12 (.one .l 14 (.one .p 15 (.one .l 17 (.one .p 18 (.one .o 19 (.one .p 20 (.one .l 21 .nil)))))))))) .o 9 (.one .o 6 (.one .l 7 (.one .l 12 (.one .l 14 (.one .p 15 (.one .l 17 (.one .p 18 (.one .o 19 (.one .p 20 (.one .l 21 .nil))))))))))) .o 6 (.two .l 3 (.two .l 7 (.one .o 9 (.one .l 12 (.one .l 14 (.one .p 15 (.one .l 17 (.one .p 18 (.one .o 19 (.one .p 20 (.one .l 21 .nil))))))))) .o 9 (.one .l 7 (.one .l 12 (.one .l 14 (.one .p 15 (.one .l 17 (.one .p 18 (.one .o 19 (.one .p 20 (.one .l 21 .nil)))))))))) .o 9 (.one .l 3 (.one .l 7 (.one .l 12 (.one .l 14 (.one .p 15 (.one .l 17 (.one .p 18 (.one .o 19 (.one .p 20 (.one .l 21 .nil))))))))))) .o 9 (.two .l 3 (.one .o 6 (.one .l 7 (.one .l 12 (.one .l 14 (.one .p 15 (.one .l 17 (.one .p 18 (.one .o 19 (.one .p 20 (.one .l 21 .nil)))))))))) .o 6 (.one .l 3 (.one .l 7 (.one .l 12 (.one .l 14 (.one .p 15 (.one .l 17 (.one .p 18 (.one .o 19 (.one .p 20 (.one .l 21 .nil)))))))))))))))))))))) [3,7,12,14,17,21] (by kernel_rfl) ?_
| refine ua (id:=47) rfl (by kernel_rfl) (.one .p 0 (.one .p 1 (.one .p 4 (.one .p 7 (.two .l 2 (.one .p 3 (.two .l 5 (.one .p 6 (.one .o 8 (.one .l 9 (.one .o 10 (.one .p 11 (.one .l 12 .nil)))))) .o 8 (.one .l 5 (.one .p 6 (.one .l 9 (.one .o 10 (.one .p 11 (.one .l 12 .nil)))))))) .o 8 (.one .l 2 (.one .p 3 (.one .l 5 (.one .p 6 (.one .l 9 (.one .o 10 (.one .p 11 (.one .l 12 .nil))))))))))))) [2,5,9,12] (by kernel_rfl) ?_
| (with_reducible apply zt1);rfl
| (with_reducible apply zt2);rfl;rfl
| (with_reducible apply zt3);rfl;rfl;rfl
| with_reducible apply zt0
| with_reducible apply uC
| (with_reducible apply zce false [true]);(iterate 10 rfl);(first | exact tM (by omega) (by first | assumption | omega) | exact qq (by omega) (by first | assumption | omega) | exact bc (by omega) | exact rW (by omega));rfl;rfl;rintro _ _ ⟨x,i,h,hq,rfl,rfl⟩ <;> refine ⟨_,_,rfl,rfl,?_⟩
| fail)
 all_goals first | exact df [0,1,2,3,4,5,6,9] ⟨_,_,_,_,⟨by omega,Nat.le_of_ble_eq_true rfl⟩,rfl,rfl⟩ rfl rfl rfl rfl rfl rfl | skip
 all_goals
  refine wlp (X:=Int × Int × Int × Int) [0,3,4,9] [0,1,2,3,4,5,6,7,8] (fun p => [(11,I p.1),(10,I p.2.1)]) (fun p => [(0,cu 236 6 cb.length p.2.2.1 p.2.2.2)]) (fun p => 0 ≤ p.1 ∧ p.1 ≤ bt.length ∧ 0 ≤ p.2.2.1) (fun p => (bt.length - p.1).toNat) (0,1 + x,i,h) ⟨by dsimp only;omega,by dsimp only;omega,by dsimp only;omega⟩ rfl rfl (fun _ => rfl) (fun _ => rfl) ⟨rfl,rfl,rfl,rfl,rfl,rfl,rfl,rfl⟩ (fun p hp => ?_)
  obtain ⟨i,no,c1,c2⟩:=p
  obtain ⟨h0,h1,h2⟩:=hp
  dsimp only at h0 h1 h2 ⊢
  repeat' (first
| (with_reducible apply yds);rfl
| (with_reducible apply yd);rfl
| intro _
| refine nv ?_
| apply wct rfl
| apply wcf rfl
| with_reducible apply ah rfl
| (with_reducible apply ai);rfl
| (with_reducible apply yar);rfl;(first | omega | ((try simp only [lE,lM]);(try dsimp only);omega))
| (with_reducible apply yix);rfl;(first | omega | ((try simp only [lE,lM]);(try dsimp only);omega))
| (with_reducible apply yle);rfl;(first | omega | ((try simp only [lE,lM]);(try dsimp only);omega))
| (with_reducible apply aH (α:=Int) (e:=3));rfl
| (with_reducible apply zce false [true]);(iterate 10 rfl);exact cI (by omega);rfl;rfl;rintro _ _ ⟨(_ | _),i,h,hq,rfl,rfl⟩ <;> refine ⟨_,_,rfl,rfl,?_⟩
| fail)
  all_goals first | exact df [0,1,2,3,4,5,6,9] ⟨_,_,_,_,⟨by omega,Nat.le_of_ble_eq_true rfl⟩,rfl,rfl⟩ rfl rfl rfl rfl rfl rfl | exact aB (_,_,_,_) [0,1,2,3,4,5,6,7,8] ⟨rfl,rfl,rfl,rfl,rfl,rfl,rfl,rfl⟩ ⟨by dsimp only;omega,by dsimp only;omega,by dsimp only;omega⟩ (by first | omega | (dsimp only;omega)) | skip
 all_goals trace_state
end
section
open Go.RowKit
theorem qm  : FC Tryz.prog 204 [] ([]) (bkV 0 ⟨[],[],[],[],[],0⟩) (bkO ⟨[],[],[],[],[],0⟩):=by
 refine ax tk 2 [.cell 0 _] Tryz.func204 (by kernel_rfl) rfl rfl rfl rfl rfl rfl rfl ?_
 repeat' (first
| (with_reducible apply al (d:=1) 0 42 2);rfl;rfl;rfl;rfl;rfl
| (with_reducible apply al (d:=1) 1 74 2);rfl;rfl;rfl;rfl;rfl
| (with_reducible apply al (d:=1) 2 135 3);rfl;rfl;rfl;rfl;rfl
| (with_reducible apply al (d:=1) 3 137 5);rfl;rfl;rfl;rfl;rfl
| (with_reducible apply al (d:=1) 4 103 8);rfl;rfl;rfl;rfl;rfl
| (with_reducible apply yd);rfl
| refine nv ?_
| fail)
 all_goals exact ak [1,2,3,4,5] rfl rfl rfl rfl rfl rfl
theorem qp {cb:List By} {ci ch:Int} (hi:0 ≤ ci):FE Tryz.prog 256 [.c (.ptr 0 0 0)] ([cu 236 1 cb.length ci ch,ro 5 cb]) (fun v9 h9 => ∃ (xs:List CmdV) (D:List DF) (i h:Int),(0 ≤ i ∧ Bears xs D ∧ xs.length = 14) ∧ v9 = .c (.row 2 0 xs.length) ∧ h9 = [cu 236 1 cb.length i h,ro 5 cb,ow 70 xs,dpO D]):=by
 refine dl tk 53 [.tmp 2] Tryz.func256 (by kernel_rfl) rfl rfl rfl rfl rfl rfl rfl ?_
 refine wdp rfl ?_
 repeat' (first
| (with_reducible apply yd);rfl
| refine nv ?_
| (with_reducible apply aH (α:=Int) (e:=3));rfl
| (with_reducible apply zfz);(iterate 6 rfl);intro A c;refine ⟨_,_,rfl,rfl,?_⟩
| (with_reducible apply aH (α:=CmdV) (e:=70));rfl
| (with_reducible apply yap);rfl;(((try simp only [lE,lM]);(try dsimp only);omega))
| fail)
 refine wlp (X:=Int × List CmdV × List DF × Int × Int) [0] [0,1,2,13] (fun p => [(4,I p.1),(3,.c (.row 3 0 p.2.1.length))]) (fun p => [(3,ow 70 p.2.1),(2,dpO p.2.2.1),(0,cu 236 1 cb.length p.2.2.2.1 p.2.2.2.2)]) (fun p => (0 ≤ p.1 ∧ p.1 ≤ 3) ∧ Bears p.2.1 p.2.2.1 ∧ (p.2.1.length:Int) = 8 + 2 * p.1 ∧ 0 ≤ p.2.2.2.1) (fun p => (3 - p.1).toNat) (0,_,_,_,_) ⟨by dsimp only;omega,by dsimp only;exact Bears.append (.one (by repeat' (first | exact .head _ | apply List.Mem.tail)) (.one (by repeat' (first | exact .head _ | apply List.Mem.tail)) (.one (by repeat' (first | exact .head _ | apply List.Mem.tail)) (.one (by repeat' (first | exact .head _ | apply List.Mem.tail)) (.one (by repeat' (first | exact .head _ | apply List.Mem.tail)) .nil))))) (.one (by repeat' (first | exact .head _ | apply List.Mem.tail)) (.one (by repeat' (first | exact .head _ | apply List.Mem.tail)) (.one (by repeat' (first | exact .head _ | apply List.Mem.tail)) .nil))),rfl,by dsimp only;omega⟩ rfl rfl (fun _ => rfl) (fun _ => rfl) ⟨rfl,rfl,rfl,rfl,rfl,rfl,rfl,rfl⟩ (fun p hp => ?_)
 obtain ⟨i,xs,D,c1,c2⟩:=p
 obtain ⟨h0,hB,hl,h2⟩:=hp
 dsimp only at h0 hB hl h2 ⊢
 repeat' (first
| (with_reducible apply yds);rfl
| (with_reducible apply yd);rfl
| intro _
| refine nv ?_
| apply wct rfl
| apply wcf rfl
| with_reducible apply ah rfl
| (with_reducible apply ai);rfl
| (with_reducible apply yar);rfl;omega
| (with_reducible apply aH (α:=Int) (e:=3));rfl
| (with_reducible apply zfz);(iterate 6 rfl);intro A c;refine ⟨_,_,rfl,rfl,?_⟩
| (with_reducible apply aH (α:=CmdV) (e:=70));rfl
| (with_reducible apply yap);rfl;(((try simp only [lE,lM]);(try dsimp only);omega))
| (with_reducible apply zce false [true]);(iterate 10 rfl);(first | exact bN (by omega) (by decide) | exact bc (by omega));rfl;rfl;rintro _ _ ⟨x,i,h,hq,rfl,rfl⟩ <;> refine ⟨_,_,rfl,rfl,?_⟩
| fail)
 all_goals first | exact df [0,1,3,2] ⟨_,_,_,_,⟨by omega,hB,by omega⟩,rfl,rfl⟩ rfl rfl rfl rfl rfl rfl | exact aB (_,_,_,_,_) [0,1,2,9] ⟨rfl,rfl,rfl,rfl,rfl,rfl,rfl,rfl⟩ ⟨by dsimp only;omega,Bears.append hB.cons.cons (.one (by repeat' (first | exact .head _ | apply List.Mem.tail)) (.one (by repeat' (exact .head _)) .nil)),by dsimp only;simp only [List.length_append,List.length_cons,List.length_nil];omega,by dsimp only;omega⟩ (by omega)
end
end Go.Proofs.YtgehbhkfehmdkaaGreat.Sh
