/- A row of commands is run by the reference. No condition. -/
import Derived.Test.YtgehbhkfehmdkaaGreatKUShV
import Derived.Test.YtgehbhkfehmdkaaGreatKUShDx
import Derived.Test.YtgehbhkfehmdkaaGreatKUShSp
import Derived.Test.YtgehbhkfehmdkaaGreatKUShDr
import Derived.Test.YtgehbhkfehmdkaaGreatKUShTk
import Derived.Test.YtgehbhkfehmdkaaGreatKUShTr2
import Derived.Test.YtgehbhkfehmdkaaGreatKUShDp
import Derived.Test.YtgehbhkfehmdkaaGreatKUShTn
set_option maxRecDepth 100000
set_option maxHeartbeats 40000000
set_option linter.unusedSimpArgs false
set_option linter.unusedVariables false
namespace Go.Proofs.YtgehbhkfehmdkaaGreat.Sh
section
open Go.RowKit
def bkN (n:Nat) (b:Books):List (Nat × Option AO):=[(n,ow 42 b.Accounts),(n + 1,ow 74 b.Instrs),(n + 2,ow 135 b.Bals),(n + 3,ow 137 b.Lots),(n + 4,ow 103 b.Trades)]
def bkZ (n:Nat) (b:Books):Option AO:=some ⟨true,30,6,.mx [.row n 0 b.Accounts.length,.row (n + 1) 0 b.Instrs.length,.row (n + 2) 0 b.Bals.length,.row (n + 3) 0 b.Lots.length,.row (n + 4) 0 b.Trades.length,.sc (.int .i64 b.Lot)]⟩
noncomputable def wV (s:Books × List Reply) (c:Int × List Int):Books × List Reply:=(sel ((fC s.1 c.1 c.2).2.1 = 0) (fC s.1 c.1 c.2).1 s.1,s.2 ++ [⟨(fC s.1 c.1 c.2).2.1,(fC s.1 c.1 c.2).2.2⟩])
noncomputable def cmG (D:List DF) (x:CmdV):Int × List Int:=(x.k,jW D x)
noncomputable def qj (b:Books) (cs:List (Int × List Int)):Books × List Reply:=cs.foldl wV (b,[])
noncomputable def jZ (b:Books) (cs:List (Int × List Int)):Books × List Reply:=sel (¬ (BooksOk b ∧ cs.length ≤ 300)) (b,[]) (qj b cs)
theorem qP {b:Books} {D:List DF} {xs:List CmdV} {i:Int} (h:0 ≤ i ∧ i < xs.length):qj b ((pf xs (i + 1)).map (cmG D)) = wV (qj b ((pf xs i).map (cmG D))) (cmG D (rd xs i)):=by
 unfold qj
 rw [cg h,List.map_append,List.foldl_append]
 rfl
theorem BV {b:Books} {D:List DF} {xs:List CmdV} {i:Int} {s:Books × List Reply} (h:0 ≤ i ∧ i < xs.length) (hs:s = qj b ((pf xs i).map (cmG D))) (hc:(fC s.1 (rd xs i).k (jW D (rd xs i))).2.1 = 0):((fC s.1 (rd xs i).k (jW D (rd xs i))).1,s.2 ++ [⟨(fC s.1 (rd xs i).k (jW D (rd xs i))).2.1,(fC s.1 (rd xs i).k (jW D (rd xs i))).2.2⟩]) = qj b ((pf xs (i + 1)).map (cmG D)):=by
 rw [qP h,← hs,wV]
 show _ = (sel ((fC s.1 (rd xs i).k (jW D (rd xs i))).2.1 = 0) _ _,_)
 rw [au hc]
 rfl
theorem BU {b:Books} {D:List DF} {xs:List CmdV} {i:Int} {s:Books × List Reply} (h:0 ≤ i ∧ i < xs.length) (hs:s = qj b ((pf xs i).map (cmG D))) (hc:¬ (fC s.1 (rd xs i).k (jW D (rd xs i))).2.1 = 0):(s.1,s.2 ++ [⟨(fC s.1 (rd xs i).k (jW D (rd xs i))).2.1,(fC s.1 (rd xs i).k (jW D (rd xs i))).2.2⟩]) = qj b ((pf xs (i + 1)).map (cmG D)):=by
 rw [qP h,← hs,wV]
 show _ = (sel ((fC s.1 (rd xs i).k (jW D (rd xs i))).2.1 = 0) _ _,_)
 rw [ab hc]
 rfl
theorem tK {ba:List Account} {bi:List Instr} {bb:List Bal} {bl:List Lot} {bt:List Trade} {bn:Int} {xs:List CmdV} {D:List DF} (hm:MidB ⟨ba,bi,bb,bl,bt,bn⟩) (hB:Bears xs D):FC Tryz.prog 80 [bkV 0 ⟨ba,bi,bb,bl,bt,bn⟩,.c (.row 5 0 xs.length)] (bkR ⟨ba,bi,bb,bl,bt,bn⟩ ++ [ro 70 xs,dpO D]) (.tup [bkE 7 (jZ ⟨ba,bi,bb,bl,bt,bn⟩ (xs.map (cmG D))).1,.c (.row 12 0 (jZ ⟨ba,bi,bb,bl,bt,bn⟩ (xs.map (cmG D))).2.length)]) (bkR ⟨ba,bi,bb,bl,bt,bn⟩ ++ [ro 70 xs,dpO D] ++ bkW (jZ ⟨ba,bi,bb,bl,bt,bn⟩ (xs.map (cmG D))).1 ++ [ow 66 (jZ ⟨ba,bi,bb,bl,bt,bn⟩ (xs.map (cmG D))).2]):=by
 refine ax tk 49 [.cell 4 _,.tmp 5] Tryz.func80 (by kernel_rfl) rfl rfl rfl rfl rfl rfl rfl ?_
 refine bX xs 5 rfl (fun hl => ?_)
 by_cases hok:BooksOk ⟨ba,bi,bb,bl,bt,bn⟩ ∧ xs.length ≤ 300
 rotate_left
 ·
  rw [jZ,au (fun h => hok (by rw [List.length_map] at h;exact h))]
  repeat' (first
| (with_reducible apply yds);rfl
| (with_reducible apply yd);rfl
| intro _
| refine nv ?_
| apply wct rfl
| apply wcf rfl
| (with_reducible apply ai);rfl
| (with_reducible apply aH (α:=Reply) (e:=66));rfl
| (with_reducible apply ycf);rfl;(exact aR (by assumption));rfl
| (with_reducible apply ycp);rfl;exact ap;rfl
| fail)
  all_goals first | (exfalso;exact hok ⟨by assumption,by omega⟩) | exact ak [0,1,2,3,4,5,6,10,11,12,13,14,9] rfl rfl rfl rfl rfl rfl
 rw [jZ,ab (fun h => h (by rw [List.length_map];exact hok))]
 obtain ⟨hk,hn⟩:=hok
 repeat' (first
| intro h9;exfalso;first | contradiction | omega
| (with_reducible apply yds);rfl
| (with_reducible apply yd);rfl
| intro _
| refine nv ?_
| apply wcf rfl
| (with_reducible apply ai);rfl
| (with_reducible apply aH (α:=Reply) (e:=66));rfl
| (with_reducible apply ycf);rfl;(exact aR (by assumption));rfl
| (with_reducible apply ycp);rfl;exact ap;rfl
| fail)
 all_goals skip
 refine wlp (X:=Int × Books × List Reply) [1] [0,1,2,3,4,5,6,8,9,10,11,12,13,14,15] (fun p => [(8,I p.1),(4,.c (.ptr 7 0 0)),(6,.c (.row 8 0 p.2.2.length)),(7,.c (.ptr 14 0 0))]) (fun p => (8,ow 66 p.2.2) :: bkN 9 p.2.1 ++ [(14,bkZ 9 p.2.1)]) (fun p => (0 ≤ p.1 ∧ p.1 ≤ xs.length) ∧ p.2 = qj ⟨ba,bi,bb,bl,bt,bn⟩ ((pf xs p.1).map (cmG D)) ∧ (p.2.2.length:Int) ≤ p.1) (fun p => (xs.length - p.1).toNat) (0,⟨ba,bi,bb,bl,bt,bn⟩,[]) ⟨by dsimp only;omega,rfl,by simp⟩ rfl rfl (fun _ => rfl) (fun _ => rfl) ⟨rfl,rfl,rfl,rfl,rfl,rfl,rfl,rfl⟩ (fun p hp => ?_)
 obtain ⟨i,⟨ca,ci,cb,cl,ct,cn⟩,rs⟩:=p
 obtain ⟨h0,hs,hr⟩:=hp
 dsimp only at h0 hs hr ⊢
 repeat' (first
| (with_reducible apply yds);rfl
| (with_reducible apply yd);rfl
| with_reducible apply CP (id:=8)
| (with_reducible apply D2 (ns:=[1,4,6,7,8,9,10]) (m:=[0,1,2,3,4,5,6,7,8,9,10,11,12,13,14,15,16,17,18,19,20,21,22]));rfl;rfl;exact ⟨rfl,rfl,rfl,rfl,rfl,rfl,rfl,rfl⟩
| (with_reducible apply pe (m:=[0,1,2,3,4,5,6,7,8,9,10,11,12,13,14,15,16,17,18,19,20,22,21]));rfl;exact ⟨rfl,rfl,rfl,rfl,rfl,rfl,rfl,rfl⟩
| (with_reducible apply pe (m:=[0,1,2,3,4,5,6,7,8,9,10,11,12,13,14,15,17,18,19,20,21,16,22]));rfl;exact ⟨rfl,rfl,rfl,rfl,rfl,rfl,rfl,rfl⟩
| (with_reducible apply pe (m:=[0,1,2,3,4,5,6,7,8,9,10,11,12,13,14,15,18,19,20,21,22,16,17]));rfl;exact ⟨rfl,rfl,rfl,rfl,rfl,rfl,rfl,rfl⟩
| (with_reducible apply pe (m:=[0,1,2,3,4,5,6,7,8,9,10,11,12,13,14,15,17,18,19,20,21,22,16]));rfl;exact ⟨rfl,rfl,rfl,rfl,rfl,rfl,rfl,rfl⟩
| (with_reducible apply pe (m:=[0,1,2,3,4,5,6,7,8,9,10,11,12,13,14,15,18,19,20,21,22,17,16]));rfl;exact ⟨rfl,rfl,rfl,rfl,rfl,rfl,rfl,rfl⟩
| (with_reducible apply pe (m:=[0,1,2,3,4,5,6,7,8,9,10,11,12,13,14,16,17,18,19,20,21,15,22]));rfl;exact ⟨rfl,rfl,rfl,rfl,rfl,rfl,rfl,rfl⟩
| (with_reducible apply pe (m:=[0,1,2,3,4,5,6,7,8,9,10,11,12,13,14,16,18,19,20,21,22,15,17]));rfl;exact ⟨rfl,rfl,rfl,rfl,rfl,rfl,rfl,rfl⟩
| (with_reducible apply pe (m:=[0,1,2,3,4,5,6,7,8,9,10,11,12,13,14,17,18,19,20,21,22,15,16]));rfl;exact ⟨rfl,rfl,rfl,rfl,rfl,rfl,rfl,rfl⟩
| (with_reducible apply pe (m:=[0,1,2,3,4,5,6,7,8,9,10,11,12,13,14,16,17,18,19,20,21,22,15]));rfl;exact ⟨rfl,rfl,rfl,rfl,rfl,rfl,rfl,rfl⟩
| (with_reducible apply pe (m:=[0,1,2,3,4,5,6,7,8,9,10,11,12,13,14,16,18,19,20,21,22,17,15]));rfl;exact ⟨rfl,rfl,rfl,rfl,rfl,rfl,rfl,rfl⟩
| (with_reducible apply pe (m:=[0,1,2,3,4,5,6,7,8,9,10,11,12,13,14,17,18,19,20,21,22,16,15]));rfl;exact ⟨rfl,rfl,rfl,rfl,rfl,rfl,rfl,rfl⟩
| (with_reducible apply Do 6 3);rfl;exact tk;(iterate 7 rfl);omega;assumption;rfl;rfl;rfl
| intro _
| refine nv ?_
| apply wct rfl
| apply wcf rfl
| with_reducible apply ah rfl
| (with_reducible apply ai);rfl
| (with_reducible apply yar);rfl;omega
| (with_reducible apply yix);rfl;omega
| (with_reducible apply aH (α:=Reply) (e:=66));rfl
| (with_reducible apply yap);rfl;(((try simp only [lE,lM]);(try dsimp only);omega))
| refine Cl (id:=8) rfl (by kernel_rfl) (.one .p 1 (.one .p 2 (.one .p 3 (.one .t 0 (.three .o 4 (.three .o 5 (.one .p 6 (.one .p 7 (.one .p 8 (.two .o 9 (.one .o 10 (.one .l 11 (.one .l 12 .nil))) .o 10 (.one .o 9 (.one .l 11 (.one .l 12 .nil))))))) .o 9 (.two .o 5 (.one .p 6 (.one .p 7 (.one .p 8 (.one .o 10 (.one .l 11 (.one .l 12 .nil)))))) .o 10 (.one .o 5 (.one .p 6 (.one .p 7 (.one .p 8 (.one .l 11 (.one .l 12 .nil))))))) .o 10 (.two .o 5 (.one .p 6 (.one .p 7 (.one .p 8 (.one .o 9 (.one .l 11 (.one .l 12 .nil)))))) .o 9 (.one .o 5 (.one .p 6 (.one .p 7 (.one .p 8 (.one .l 11 (.one .l 12 .nil)))))))) .o 9 (.two .o 4 (.two .o 5 (.one .p 6 (.one .p 7 (.one .p 8 (.one .o 10 (.one .l 11 (.one .l 12 .nil)))))) .o 10 (.one .o 5 (.one .p 6 (.one .p 7 (.one .p 8 (.one .l 11 (.one .l 12 .nil))))))) .o 10 (.one .o 4 (.one .o 5 (.one .p 6 (.one .p 7 (.one .p 8 (.one .l 11 (.one .l 12 .nil)))))))) .o 10 (.two .o 4 (.two .o 5 (.one .p 6 (.one .p 7 (.one .p 8 (.one .o 9 (.one .l 11 (.one .l 12 .nil)))))) .o 9 (.one .o 5 (.one .p 6 (.one .p 7 (.one .p 8 (.one .l 11 (.one .l 12 .nil))))))) .o 9 (.one .o 4 (.one .o 5 (.one .p 6 (.one .p 7 (.one .p 8 (.one .l 11 (.one .l 12 .nil))))))))))))) [11,12] (by kernel_rfl) ?_
| (with_reducible apply zt1);rfl
| (with_reducible apply zt2);rfl;rfl
| (with_reducible apply zt3);rfl;rfl;rfl
| with_reducible apply zt0
| with_reducible apply uC
| (with_reducible apply ycf);rfl;exact lr;rfl
| fail)
 all_goals first
  | exact aB (i + 1,(fC ⟨ca,ci,cb,cl,ct,cn⟩ (rd xs i).k (jW D (rd xs i))).1,_) [0,1,2,3,4,5,6,7,24,16,17,18,19,20,14] ⟨rfl,rfl,rfl,rfl,rfl,rfl,rfl,rfl⟩ ⟨by dsimp only;omega,BV ⟨h0.1,by assumption⟩ hs (by assumption),by dsimp only;simp only [List.length_append,List.length_cons,List.length_nil];omega⟩ (by first | omega | (dsimp only;omega))
  | exact aB (i + 1,⟨ca,ci,cb,cl,ct,cn⟩,_) [0,1,2,3,4,5,6,7,24,9,10,11,12,13,14] ⟨rfl,rfl,rfl,rfl,rfl,rfl,rfl,rfl⟩ ⟨by dsimp only;omega,BU ⟨h0.1,by assumption⟩ hs (by assumption),by dsimp only;simp only [List.length_append,List.length_cons,List.length_nil];omega⟩ (by first | omega | (dsimp only;omega))
  | (rw [show qj ⟨ba,bi,bb,bl,bt,bn⟩ (xs.map (cmG D)) = (⟨ca,ci,cb,cl,ct,cn⟩,rs) from by rw [hs,b6 (by omega)]];exact ak [0,1,2,3,4,5,6,9,10,11,12,13,8] rfl rfl rfl rfl rfl rfl)
  | trace_state
end
section
open Go.RowKit
theorem Aq {s:Books × List Reply} (h:aW s.1) (c:Int × List Int):aW (wV s c).1:=ay (fun _ => vd) (fun _ => h)
theorem vU:∀ (cs:List (Int × List Int)) {s:Books × List Reply},aW s.1 → aW (cs.foldl wV s).1
 | [],_,h => h
 | c :: cs,_,h => vU cs (Aq h c)
theorem qD {b:Books} (h:aW b) (cs:List (Int × List Int)):aW (jZ b cs).1:=by
 unfold jZ
 exact ay (P:=fun x:Books × List Reply => aW x.1) (fun _ => h) (fun _ => vU cs h)
theorem o4 {cb:List By} {ci ch mo:Int} (hi:0 ≤ ci) (hmo:0 ≤ mo ∧ mo ≤ 1000000):FE Tryz.prog 152 [.c (.ptr 0 0 0),I mo] ([cu 236 1 cb.length ci ch,ro 5 cb]) (fun v9 h9 => ∃ (xs:List CmdV) (D:List DF) (r:Books) (i h:Int),(0 ≤ i ∧ Bears xs D ∧ (r.Accounts.length ≤ 4294967296 ∧ r.Instrs.length ≤ 4294967296 ∧ r.Bals.length ≤ 4294967296 ∧ r.Lots.length ≤ 4294967296 ∧ r.Trades.length ≤ 4294967296) ∧ xs.length ≤ 2000000) ∧ v9 = .tup [.c (.row 2 0 xs.length),bkE 4 r] ∧ h9 = [cu 236 1 cb.length i h,ro 5 cb,ow 70 xs,dpO D] ++ bkW r):=by
 refine dl tk 54 [.tmp 4,.cell 5 _] Tryz.func152 (by kernel_rfl) rfl rfl rfl rfl rfl rfl rfl ?_
 refine wdp rfl ?_
 repeat' (first
| (with_reducible apply yds);rfl
| (with_reducible apply yd);rfl
| refine nv ?_
| apply wct rfl
| apply wcf rfl
| (with_reducible apply yar);rfl;omega
| (with_reducible apply aH (α:=CmdV) (e:=70));rfl
| (with_reducible apply zce false [true]);(iterate 10 rfl);exact cI (by omega);rfl;rfl;rintro _ _ ⟨(_ | _),i,h,hq,rfl,rfl⟩ <;> refine ⟨_,_,rfl,rfl,?_⟩
| (with_reducible apply zce false [true]);(iterate 10 rfl);exact qp (by omega);rfl;rfl;rintro _ _ ⟨xs,D,i,h,hq,rfl,rfl⟩ <;> refine ⟨_,_,rfl,rfl,?_⟩
| (with_reducible apply ycf);rfl;exact qm;rfl
| (with_reducible apply Dl);(iterate 10 rfl);exact tK (by exact ⟨by simp,by simp,by simp,by simp,by simp⟩) (by first | exact .nil | exact hq.2.1);rfl;rfl;rfl;rfl;rfl
| (with_reducible apply zce false [true]);(iterate 10 rfl);exact bc (by omega);rfl;rfl;rintro _ _ ⟨x,i,h,hq,rfl,rfl⟩ <;> refine ⟨_,_,rfl,rfl,?_⟩
| fail)
 all_goals
  first
   | refine wlp (X:=Int × List CmdV × List DF × Books × Int × Int) [0,9] [0,1,2,3,4,10,11,12,13,14,16] (fun p => [(10,I p.1),(5,.c (.ptr 3 0 0)),(6,.c (.row 4 0 p.2.1.length)),(7,.c (.ptr 10 0 0))]) (fun p => [(0,cu 236 1 cb.length p.2.2.2.2.1 p.2.2.2.2.2),(2,dpO p.2.2.1),(4,ow 70 p.2.1)] ++ bkN 5 p.2.2.2.1 ++ [(10,bkZ 5 p.2.2.2.1)]) (fun p => (0 ≤ p.1 ∧ p.1 ≤ x) ∧ Bears p.2.1 p.2.2.1 ∧ aW p.2.2.2.1 ∧ (p.2.1.length:Int) ≤ 14 + p.1 ∧ 0 ≤ p.2.2.2.2.1) (fun p => (x - p.1).toNat) (0,[],[],_,_,_) ⟨by dsimp only;omega,.nil,qD lS _,by dsimp only [List.length_nil];omega,by dsimp only;omega⟩ rfl rfl (fun _ => rfl) (fun _ => rfl) ⟨rfl,rfl,rfl,rfl,rfl,rfl,rfl,rfl⟩ (fun p hp => ?_)
   | refine wlp (X:=Int × List CmdV × List DF × Books × Int × Int) [0,9] [0,1,6,3,5,12,13,14,15,16,18] (fun p => [(10,I p.1),(5,.c (.ptr 3 0 0)),(6,.c (.row 4 0 p.2.1.length)),(7,.c (.ptr 10 0 0))]) (fun p => [(0,cu 236 1 cb.length p.2.2.2.2.1 p.2.2.2.2.2),(2,dpO p.2.2.1),(4,ow 70 p.2.1)] ++ bkN 5 p.2.2.2.1 ++ [(10,bkZ 5 p.2.2.2.1)]) (fun p => (0 ≤ p.1 ∧ p.1 ≤ x) ∧ Bears p.2.1 p.2.2.1 ∧ aW p.2.2.2.1 ∧ (p.2.1.length:Int) ≤ 14 + p.1 ∧ 0 ≤ p.2.2.2.2.1) (fun p => (x - p.1).toNat) (0,xs,D,_,_,_) ⟨by dsimp only;omega,by grind,qD lS _,by dsimp only;omega,by dsimp only;omega⟩ rfl rfl (fun _ => rfl) (fun _ => rfl) ⟨rfl,rfl,rfl,rfl,rfl,rfl,rfl,rfl⟩ (fun p hp => ?_)
 all_goals
  obtain ⟨j,ys,E,⟨ba,bi,bb,bl,bt,bn⟩,c1,c2⟩:=p
  obtain ⟨h0,hB,hmr,hl,h2⟩:=hp
  have hm:ba.length ≤ 8589934592 ∧ bi.length ≤ 8589934592 ∧ bb.length ≤ 8589934592 ∧ bl.length ≤ 8589934592 ∧ bt.length ≤ 8589934592:=by
   have k1:=MidL.a1 hmr
   have k2:=MidL.a2 hmr
   have k3:=MidL.a3 hmr
   have k4:=MidL.a4 hmr
   have k5:=MidL.a5 hmr
   dsimp only at k1 k2 k3 k4 k5
   omega
  dsimp only at h0 hB hl h2 ⊢
  repeat' (first
| (with_reducible apply yds);rfl
| (with_reducible apply yd);rfl
| intro _
| refine nv ?_
| apply wct rfl
| apply wcf rfl
| with_reducible apply ah rfl
| (with_reducible apply ai);rfl
| (with_reducible apply yar);rfl;omega
| (with_reducible apply zfz);(iterate 6 rfl);intro A c;refine ⟨_,_,rfl,rfl,?_⟩
| (with_reducible apply aH (α:=CmdV) (e:=70));rfl
| (with_reducible apply yap);rfl;(((try simp only [lE,lM]);(try dsimp only);omega))
| refine zdq (id:=14) rfl (by kernel_rfl) [(.p,0),(.p,2),(.t,1),(.l,3)] [3] (by kernel_rfl) rfl ?_
| (with_reducible apply ycf);rfl;exact lr;rfl
| (with_reducible apply zcg [true]);(iterate 9 rfl);exact fJ (by omega) (by assumption);(rintro _ _ ⟨k,i,h,a,hq,rfl,rfl⟩ <;> exact ⟨rfl,rfl⟩);rfl;rfl;rintro _ _ ⟨k,i,h,a,hq,rfl,rfl⟩ <;> refine ⟨_,_,rfl,rfl,?_⟩
| fail)
  all_goals first
   | exact aB (j + 1,_,_,(fC ⟨ba,bi,bb,bl,bt,bn⟩ k a).1,_,_) [0,1,2,3,14,15,16,17,18,19,10] ⟨rfl,rfl,rfl,rfl,rfl,rfl,rfl,rfl⟩ ⟨by dsimp only;omega,Bears.append hB.cons (.one (by repeat' (first | exact .head _ | apply List.Mem.tail)) .nil),vd,by dsimp only;simp only [List.length_append,List.length_cons,List.length_nil];omega,by dsimp only;omega⟩ (by first | omega | (dsimp only;omega))
   | exact aB (j + 1,_,_,⟨ba,bi,bb,bl,bt,bn⟩,_,_) [0,1,2,3,14,5,6,7,8,9,10] ⟨rfl,rfl,rfl,rfl,rfl,rfl,rfl,rfl⟩ ⟨by dsimp only;omega,Bears.append hB.cons (.one (by repeat' (first | exact .head _ | apply List.Mem.tail)) .nil),hmr,by dsimp only;simp only [List.length_append,List.length_cons,List.length_nil];omega,by dsimp only;omega⟩ (by first | omega | (dsimp only;omega))
   | exact df [0,1,4,2,5,6,7,8,9] ⟨_,_,⟨ba,bi,bb,bl,bt,bn⟩,_,_,⟨by omega,hB,⟨MidL.a1 hmr,MidL.a2 hmr,MidL.a3 hmr,MidL.a4 hmr,MidL.a5 hmr⟩,by omega⟩,rfl,rfl⟩ rfl rfl rfl rfl rfl rfl
   | trace_state
end
section
open Go.RowKit
theorem mL {cb:List By} {ci ch:Int} (hi:0 ≤ ci):FE Tryz.prog 318 [.c (.ptr 0 0 0)] ([cu 236 1 cb.length ci ch,ro 5 cb]) (fun v9 h9 => ∃ x i h:Int,(0 ≤ i) ∧ v9 = I x ∧ h9 = [cu 236 1 cb.length i h,ro 5 cb]):=by
 refine dl tk 26 [.tmp 2] Tryz.func318 (by kernel_rfl) rfl rfl rfl rfl rfl rfl rfl ?_
 repeat' (first
| (with_reducible apply yd);rfl
| intro _
| refine nv ?_
| apply wct rfl
| apply wcf rfl
| (with_reducible apply yeq);rfl
| (with_reducible apply yar);rfl;omega
| (with_reducible apply v4);rfl;rfl;omega;rfl;rfl
| (with_reducible apply aH (α:=Int) (e:=3));rfl
| (with_reducible apply zce false [true]);(iterate 10 rfl);(first | exact bc (by omega) | exact bN (by omega) (by decide));rfl;rfl;rintro _ _ ⟨x,i,h,hq,rfl,rfl⟩ <;> refine ⟨_,_,rfl,rfl,?_⟩
| fail)
 all_goals exact df [0,1] ⟨_,_,_,by omega,rfl,rfl⟩ rfl rfl rfl rfl rfl rfl
def bpP (l:List Bal) (a c n:Int):Prop:=BalsOk l ∧ aj a ∧ aj c ∧ aq n ∧ BalsOk (dL l a c n)
theorem tI {l:List Bal} {a c n:Int}:FC Tryz.prog 317 [.c (.row 0 0 l.length),I a,I c,I n] ([ro 135 l]) (sel (bpP l a c n) (.tup [.c (.row 1 0 (dL l a c n).length),B true]) (.tup [.c (.row 1 0 ([]:List Bal).length),B false])) (sel (bpP l a c n) [ro 135 l,ow 135 (dL l a c n)] [ro 135 l,ow 135 ([]:List Bal)]):=by
 refine ax tk 40 [.tmp 8,.tmp 9] Tryz.func317 (by kernel_rfl) rfl rfl rfl rfl rfl rfl rfl ?_
 by_cases hb:BalsOk l
 rotate_left
 ·
  repeat' (first
| intro h9;exfalso;contradiction
| (with_reducible apply yds);rfl
| (with_reducible apply yd);rfl
| intro _
| refine nv ?_
| apply wct rfl
| (with_reducible apply aH (α:=Bal) (e:=135));rfl
| (with_reducible apply ycp);rfl;exact da;rfl
| fail)
  all_goals exact bQ (fun h:bpP l a c n => hb h.1) [0,1] rfl rfl rfl rfl rfl rfl
 have hs:=hb.sd
 have hl:l.length ≤ 4000000:=by have:=hb.2;omega
 repeat' (first
| intro h9;exfalso;contradiction
| (with_reducible apply yds);rfl
| (with_reducible apply yd);rfl
| intro _
| refine nv ?_
| apply wct rfl
| apply wcf rfl
| (with_reducible apply aH (α:=Bal) (e:=135));rfl
| (with_reducible apply ycp);rfl;(first | exact da | exact aQ | exact bL);rfl
| (with_reducible apply ycf);rfl;exact m7 (by assumption) (by omega);rfl
| fail)
 all_goals first
  | exact iH (p:=bpP l a c n) ⟨hb,by assumption,by assumption,by assumption,by assumption⟩ [0,1] rfl rfl rfl rfl rfl rfl
  | exact bQ (fun h:bpP l a c n => absurd h.2.1 (by assumption)) [0,1] rfl rfl rfl rfl rfl rfl
  | exact bQ (fun h:bpP l a c n => absurd h.2.2.1 (by assumption)) [0,1] rfl rfl rfl rfl rfl rfl
  | exact bQ (fun h:bpP l a c n => absurd h.2.2.2.1 (by assumption)) [0,1] rfl rfl rfl rfl rfl rfl
  | exact bQ (fun h:bpP l a c n => absurd h.2.2.2.2 (by assumption)) [0,2] rfl rfl rfl rfl rfl rfl
  | trace_state
theorem tg {l:List Lot} {x:Lot} (h:(cS l x).2 = 0):(cS l x).1.length ≤ 120:=by
 by_cases h1:LotsOk l ∧ jq x.Account x.Instr x.No x.Qty x.Cost
 rotate_left
 ·rw [yg h1] at h;exact absurd (show (1:Int) = 0 from h) (by decide)
 by_cases h2:LotsOk (mrg l [x])
 rotate_left
 ·rw [yi h1 h2] at h;exact absurd (show (3:Int) = 0 from h) (by decide)
 rw [yf h1 h2]
 exact h2.1.2
theorem lc {cb:List By} {ci ch:Int} (hi:0 ≤ ci):FE Tryz.prog 280 [.c (.ptr 0 0 0)] ([cu 236 1 cb.length ci ch,ro 5 cb]) (fun v9 h9 => ∃ (l:List Account) (i h:Int),(0 ≤ i ∧ l.length ≤ 1000) ∧ v9 = .c (.row 2 0 l.length) ∧ h9 = [cu 236 1 cb.length i h,ro 5 cb,ow 42 l]):=by
 refine dl tk 45 [.tmp 2] Tryz.func280 (by kernel_rfl) rfl rfl rfl rfl rfl rfl rfl ?_
 repeat' (first
| (with_reducible apply yd);rfl
| refine nv ?_
| apply wct rfl
| apply wcf rfl
| (with_reducible apply aH (α:=Account) (e:=42));rfl
| (with_reducible apply zce false [true]);(iterate 10 rfl);(exact bc (by omega));rfl;rfl;rintro _ _ ⟨x,i,h,hq,rfl,rfl⟩ <;> refine ⟨_,_,rfl,rfl,?_⟩
| (with_reducible apply zce false [true]);(iterate 10 rfl);exact cI (by omega);rfl;rfl;rintro _ _ ⟨(_ | _),i,h,hq,rfl,rfl⟩ <;> refine ⟨_,_,rfl,rfl,?_⟩
| fail)
 all_goals
  refine wlp (X:=Int × List Account × Int × Int) [0,4] [0,1,2] (fun p => [(5,I p.1),(3,.c (.row 2 0 p.2.1.length))]) (fun p => [(0,cu 236 1 cb.length p.2.2.1 p.2.2.2),(2,ow 42 p.2.1)]) (fun p => (0 ≤ p.1 ∧ p.1 ≤ 1000) ∧ aU p.2.1 ∧ 0 ≤ p.2.2.1) (fun p => (1000 - p.1).toNat) (0,[],_,_) ⟨by dsimp only;omega,⟨fun i h0 h1 => absurd h1 (by simp;omega),by simp⟩,by dsimp only;omega⟩ rfl rfl (fun _ => rfl) (fun _ => rfl) ⟨rfl,rfl,rfl,rfl,rfl,rfl,rfl,rfl⟩ (fun p hp => ?_)
  obtain ⟨j,l,c1,c2⟩:=p
  obtain ⟨h0,hok,h2⟩:=hp
  dsimp only at h0 hok h2 ⊢
  have hl:l.length ≤ 200:=by have:=hok.2;omega
  repeat' (first
| (with_reducible apply yds);rfl
| (with_reducible apply yd);rfl
| intro _
| refine nv ?_
| apply wct rfl
| apply wcf rfl
| with_reducible apply ah rfl
| (with_reducible apply ai);rfl
| (with_reducible apply yar);rfl;omega
| (with_reducible apply aH (α:=Account) (e:=42));rfl
| (with_reducible apply yap);rfl;(((try simp only [lE,lM]);(try dsimp only);omega))
| (with_reducible apply zce false [true]);(iterate 10 rfl);(first | exact bc (by omega) | exact ea (by omega));rfl;rfl;rintro _ _ ⟨x,i,h,hq,rfl,rfl⟩ <;> refine ⟨_,_,rfl,rfl,?_⟩
| (with_reducible apply zce false [true]);(iterate 10 rfl);exact cI (by omega);rfl;rfl;rintro _ _ ⟨(_ | _),i,h,hq,rfl,rfl⟩ <;> refine ⟨_,_,rfl,rfl,?_⟩
| (with_reducible apply mT);(iterate 10 rfl);exact ig (by assumption);(iterate 8 rfl)
| fail)
  all_goals first
   | exact aB (j + 1,_,_,_) [0,1,3] ⟨rfl,rfl,rfl,rfl,rfl,rfl,rfl,rfl⟩ ⟨by dsimp only;omega,by assumption,by dsimp only;omega⟩ (by first | omega | (dsimp only;omega))
   | exact aB (j + 1,l,_,_) [0,1,2] ⟨rfl,rfl,rfl,rfl,rfl,rfl,rfl,rfl⟩ ⟨by dsimp only;omega,hok,by dsimp only;omega⟩ (by first | omega | (dsimp only;omega))
   | exact df [0,1,2] ⟨_,_,_,⟨by omega,by first | omega | (rw [aG];omega)⟩,rfl,rfl⟩ rfl rfl rfl rfl rfl rfl
   | exact df [0,1,4] ⟨_,_,_,⟨by omega,by simp only [List.length_append,List.length_cons,List.length_nil];omega⟩,rfl,rfl⟩ rfl rfl rfl rfl rfl rfl
   | exact df (X:=.c (.row 2 0 l.length)) [0,1,2] ⟨upd l 0 _,_,_,⟨by omega,by rw [aG];omega⟩,by rw [aG],rfl⟩ rfl rfl rfl rfl rfl rfl
   | (exfalso;omega)
   | trace_state
theorem o5 {cb:List By} {ci ch:Int} (hi:0 ≤ ci):FE Tryz.prog 281 [.c (.ptr 0 0 0)] ([cu 236 1 cb.length ci ch,ro 5 cb]) (fun v9 h9 => ∃ (l:List Bal) (i h:Int),(0 ≤ i ∧ l.length ≤ 1000) ∧ v9 = .c (.row 2 0 l.length) ∧ h9 = [cu 236 1 cb.length i h,ro 5 cb,ow 135 l]):=by
 refine dl tk 66 [.tmp 2] Tryz.func281 (by kernel_rfl) rfl rfl rfl rfl rfl rfl rfl ?_
 repeat' (first
| (with_reducible apply yd);rfl
| refine nv ?_
| apply wct rfl
| apply wcf rfl
| (with_reducible apply aH (α:=Bal) (e:=135));rfl
| (with_reducible apply zce false [true]);(iterate 10 rfl);(exact bc (by omega));rfl;rfl;rintro _ _ ⟨x,i,h,hq,rfl,rfl⟩ <;> refine ⟨_,_,rfl,rfl,?_⟩
| (with_reducible apply zce false [true]);(iterate 10 rfl);exact cI (by omega);rfl;rfl;rintro _ _ ⟨(_ | _),i,h,hq,rfl,rfl⟩ <;> refine ⟨_,_,rfl,rfl,?_⟩
| fail)
 all_goals
  refine wlp (X:=Int × List Bal × Int × Int) [0,4] [0,1,2] (fun p => [(5,I p.1),(3,.c (.row 2 0 p.2.1.length))]) (fun p => [(0,cu 236 1 cb.length p.2.2.1 p.2.2.2),(2,ow 135 p.2.1)]) (fun p => (0 ≤ p.1 ∧ p.1 ≤ 1000) ∧ BalsOk p.2.1 ∧ 0 ≤ p.2.2.1) (fun p => (1000 - p.1).toNat) (0,[],_,_) ⟨by dsimp only;omega,⟨fun i h0 h1 => absurd h1 (by simp;omega),by simp⟩,by dsimp only;omega⟩ rfl rfl (fun _ => rfl) (fun _ => rfl) ⟨rfl,rfl,rfl,rfl,rfl,rfl,rfl,rfl⟩ (fun p hp => ?_)
  obtain ⟨j,l,c1,c2⟩:=p
  obtain ⟨h0,hok,h2⟩:=hp
  dsimp only at h0 hok h2 ⊢
  have hl:l.length ≤ 200:=by have:=hok.2;omega
  repeat' (first
| (with_reducible apply yds);rfl
| (with_reducible apply yd);rfl
| intro _
| refine nv ?_
| apply wct rfl
| apply wcf rfl
| with_reducible apply ah rfl
| (with_reducible apply ai);rfl
| (with_reducible apply yar);rfl;omega
| (with_reducible apply yix);rfl;omega
| (with_reducible apply zse);rfl;exact tk;(iterate 6 rfl);omega;rfl;rfl;rfl;rfl;rfl
| (with_reducible apply aH (α:=Bal) (e:=135));rfl
| (with_reducible apply aH (α:=Int) (e:=3));rfl
| (with_reducible apply yap);rfl;(((try simp only [lE,lM]);(try dsimp only);omega))
| (with_reducible apply zaw);rfl;rfl;rfl;rfl;(first | trivial | (show (_:Int) ≠ _;omega));rfl;rfl
| (with_reducible apply zce false [true]);(iterate 10 rfl);(first | exact bc (by omega) | exact mL (by omega) | exact ea (by omega) | exact bN (by omega) (by decide));rfl;rfl;rintro _ _ ⟨x,i,h,hq,rfl,rfl⟩ <;> refine ⟨_,_,rfl,rfl,?_⟩
| (with_reducible apply mT);(iterate 10 rfl);exact tI;(iterate 8 rfl)
| fail)
  all_goals first
   | exact aB (j + 1,_,_,_) [0,1,3] ⟨rfl,rfl,rfl,rfl,rfl,rfl,rfl,rfl⟩ ⟨by dsimp only;omega,(show bpP _ _ _ _ by assumption).2.2.2.2,by dsimp only;omega⟩ (by first | omega | (dsimp only;omega))
   | exact aB (j + 1,l,_,_) [0,1,2] ⟨rfl,rfl,rfl,rfl,rfl,rfl,rfl,rfl⟩ ⟨by dsimp only;omega,hok,by dsimp only;omega⟩ (by first | omega | (dsimp only;omega))
   | exact df [0,1,2] ⟨_,_,_,⟨by omega,by first | omega | (rw [aG];omega)⟩,rfl,rfl⟩ rfl rfl rfl rfl rfl rfl
   | exact df [0,1,4] ⟨_,_,_,⟨by omega,by simp only [List.length_append,List.length_cons,List.length_nil];omega⟩,rfl,rfl⟩ rfl rfl rfl rfl rfl rfl
   | exact df (X:=.c (.row 2 0 l.length)) [0,1,2] ⟨upd l 0 _,_,_,⟨by omega,by rw [aG];omega⟩,by rw [aG],rfl⟩ rfl rfl rfl rfl rfl rfl
   | (exfalso;omega)
   | trace_state
theorem o6 {cb:List By} {ci ch:Int} (hi:0 ≤ ci):FE Tryz.prog 282 [.c (.ptr 0 0 0)] ([cu 236 1 cb.length ci ch,ro 5 cb]) (fun v9 h9 => ∃ (l:List Lot) (i h:Int),(0 ≤ i ∧ l.length ≤ 1000) ∧ v9 = .c (.row 2 0 l.length) ∧ h9 = [cu 236 1 cb.length i h,ro 5 cb,ow 137 l]):=by
 refine dl tk 70 [.tmp 2] Tryz.func282 (by kernel_rfl) rfl rfl rfl rfl rfl rfl rfl ?_
 repeat' (first
| (with_reducible apply yd);rfl
| refine nv ?_
| apply wct rfl
| apply wcf rfl
| (with_reducible apply aH (α:=Lot) (e:=137));rfl
| (with_reducible apply zce false [true]);(iterate 10 rfl);(exact bc (by omega));rfl;rfl;rintro _ _ ⟨x,i,h,hq,rfl,rfl⟩ <;> refine ⟨_,_,rfl,rfl,?_⟩
| (with_reducible apply zce false [true]);(iterate 10 rfl);exact cI (by omega);rfl;rfl;rintro _ _ ⟨(_ | _),i,h,hq,rfl,rfl⟩ <;> refine ⟨_,_,rfl,rfl,?_⟩
| fail)
 all_goals
  refine wlp (X:=Int × List Lot × Int × Int) [0,4] [0,1,2] (fun p => [(5,I p.1),(3,.c (.row 2 0 p.2.1.length))]) (fun p => [(0,cu 236 1 cb.length p.2.2.1 p.2.2.2),(2,ow 137 p.2.1)]) (fun p => (0 ≤ p.1 ∧ p.1 ≤ 1000) ∧ p.2.1.length ≤ 120 ∧ 0 ≤ p.2.2.1) (fun p => (1000 - p.1).toNat) (0,[],_,_) ⟨by dsimp only;omega,by simp,by dsimp only;omega⟩ rfl rfl (fun _ => rfl) (fun _ => rfl) ⟨rfl,rfl,rfl,rfl,rfl,rfl,rfl,rfl⟩ (fun p hp => ?_)
  obtain ⟨j,l,c1,c2⟩:=p
  obtain ⟨h0,hok,h2⟩:=hp
  dsimp only at h0 hok h2 ⊢
  have hl:l.length ≤ 200:=by omega
  repeat' (first
| (with_reducible apply yds);rfl
| (with_reducible apply yd);rfl
| intro _
| refine nv ?_
| apply wct rfl
| apply wcf rfl
| with_reducible apply ah rfl
| (with_reducible apply ai);rfl
| (with_reducible apply yar);rfl;omega
| (with_reducible apply yix);rfl;omega
| (with_reducible apply zse);rfl;exact tk;(iterate 6 rfl);omega;rfl;rfl;rfl;rfl;rfl
| (with_reducible apply aH (α:=Lot) (e:=137));rfl
| (with_reducible apply aH (α:=Int) (e:=3));rfl
| (with_reducible apply yap);rfl;(((try simp only [lE,lM]);(try dsimp only);omega))
| (with_reducible apply zce false [true]);(iterate 10 rfl);(first | exact bc (by omega) | exact bN (by omega) (by decide) | exact ea (by omega));rfl;rfl;rintro _ _ ⟨x,i,h,hq,rfl,rfl⟩ <;> refine ⟨_,_,rfl,rfl,?_⟩
| (with_reducible apply ycf);rfl;exact mH;rfl
| fail)
  all_goals first
   | exact aB (j + 1,_,_,_) [0,1,4] ⟨rfl,rfl,rfl,rfl,rfl,rfl,rfl,rfl⟩ ⟨by dsimp only;omega,tg (by assumption),by dsimp only;omega⟩ (by first | omega | (dsimp only;omega))
   | exact aB (j + 1,l,_,_) [0,1,2] ⟨rfl,rfl,rfl,rfl,rfl,rfl,rfl,rfl⟩ ⟨by dsimp only;omega,hok,by dsimp only;omega⟩ (by first | omega | (dsimp only;omega))
   | exact df [0,1,2] ⟨_,_,_,⟨by omega,by first | omega | (rw [aG];omega)⟩,rfl,rfl⟩ rfl rfl rfl rfl rfl rfl
   | exact df [0,1,4] ⟨_,_,_,⟨by omega,by simp only [List.length_append,List.length_cons,List.length_nil];omega⟩,rfl,rfl⟩ rfl rfl rfl rfl rfl rfl
   | exact df (X:=.c (.row 2 0 l.length)) [0,1,2] ⟨upd l 0 _,_,_,⟨by omega,by rw [aG];omega⟩,by rw [aG],rfl⟩ rfl rfl rfl rfl rfl rfl
   | (exfalso;omega)
   | trace_state
end
section
open Go.RowKit
theorem mK {cb:List By} {ci ch:Int} (hi:0 ≤ ci) (hl:cb.length ≤ 1048576):FE Tryz.prog 206 [.c (.ptr 0 0 0),.c (.row 1 0 cb.length)] ([cu 236 1 cb.length ci ch,ro 5 cb]) (fun v9 h9 => ∃ (r:Books) (i h:Int),(0 ≤ i ∧ (r.Accounts.length ≤ 8589934592 ∧ r.Instrs.length ≤ 8589934592 ∧ r.Bals.length ≤ 8589934592 ∧ r.Lots.length ≤ 8589934592 ∧ r.Trades.length ≤ 8589934592)) ∧ v9 = bkE 2 r ∧ h9 = [cu 236 1 cb.length i h,ro 5 cb] ++ bkW r):=by
 refine dl tk 72 [.cell 4 _] Tryz.func206 (by kernel_rfl) rfl rfl rfl rfl rfl rfl rfl ?_
 repeat' (first
| (with_reducible apply yds);rfl
| (with_reducible apply yd);rfl
| intro _
| refine nv ?_
| apply wct rfl
| apply wcf rfl
| (with_reducible apply ai);rfl
| (with_reducible apply yix);rfl;omega
| (with_reducible apply yle);rfl;omega
| (with_reducible apply zse);rfl;exact tk;(iterate 6 rfl);omega;rfl;rfl;rfl;rfl;rfl
| (with_reducible apply aH (α:=Trade) (e:=103));rfl
| (with_reducible apply aH (α:=Int) (e:=3));rfl
| (with_reducible apply yap);rfl;(((try simp only [lE,lM]);(try dsimp only);omega))
| refine ua (id:=10) rfl (by kernel_rfl) (.one .p 0 (.one .p 2 (.one .p 4 (.one .p 6 (.one .p 8 (.one .p 10 (.two .o 1 (.one .l 3 (.one .l 5 (.one .l 7 (.one .l 9 (.one .l 11 (.one .p 12 (.one .o 13 (.one .l 14 (.one .p 15 (.one .l 16 .nil)))))))))) .l 3 (.two .o 1 (.one .l 5 (.one .l 7 (.one .l 9 (.one .l 11 (.one .p 12 (.one .o 13 (.one .l 14 (.one .p 15 (.one .l 16 .nil))))))))) .l 5 (.two .o 1 (.one .l 7 (.one .l 9 (.one .l 11 (.one .p 12 (.one .o 13 (.one .l 14 (.one .p 15 (.one .l 16 .nil)))))))) .l 7 (.two .o 1 (.one .l 9 (.one .l 11 (.one .p 12 (.one .o 13 (.one .l 14 (.one .p 15 (.one .l 16 .nil))))))) .l 9 (.two .o 1 (.one .l 11 (.one .p 12 (.one .o 13 (.one .l 14 (.one .p 15 (.one .l 16 .nil)))))) .l 11 (.one .p 12 (.two .o 1 (.one .o 13 (.one .l 14 (.one .p 15 (.one .l 16 .nil)))) .o 13 (.one .o 1 (.one .l 14 (.one .p 15 (.one .l 16 .nil))))))))))))))))) [3,5,7,9,11,14,16] (by kernel_rfl) ?_
| refine zdq (id:=15) rfl (by kernel_rfl) [(.p,0),(.p,2),(.t,1),(.t,3),(.p,4),(.p,5),(.t,6),(.p,7),(.p,8),(.p,9),(.l,10)] [10] (by kernel_rfl) rfl ?_
| (with_reducible apply zt1);rfl
| (with_reducible apply zt2);rfl;rfl
| with_reducible apply zt0
| with_reducible apply uC
| (with_reducible apply zce false []);(iterate 10 rfl);exact tP (by omega) (by omega);rfl;rfl;rintro _ _ ⟨x,hq,rfl,rfl⟩ <;> refine ⟨_,_,rfl,rfl,?_⟩
| (with_reducible apply zce false [true]);(iterate 10 rfl);exact o4 (by omega) (by omega);rfl;rfl;rintro _ _ ⟨xs,D,r,i,h,hq,rfl,rfl⟩ <;> refine ⟨_,_,rfl,rfl,?_⟩
| (with_reducible apply zce false [true]);(iterate 10 rfl);(first | exact bc (by omega) | exact bN (by omega) (by decide));rfl;rfl;rintro _ _ ⟨x,i,h,hq,rfl,rfl⟩ <;> refine ⟨_,_,rfl,rfl,?_⟩
| (with_reducible apply zce false [true]);(iterate 10 rfl);(first | exact lc (by omega) | exact o5 (by omega) | exact o6 (by omega));rfl;rfl;rintro _ _ ⟨l,i,h,hq,rfl,rfl⟩ <;> refine ⟨_,_,rfl,rfl,?_⟩
| (with_reducible apply zaw);rfl;rfl;rfl;rfl;trivial;rfl;rfl
| fail)
 all_goals first
  | exact df [0,1,5,6,7,8,9] ⟨⟨r.Accounts,r.Instrs,r.Bals,r.Lots,r.Trades,x⟩,_,_,⟨by omega,by first | omega | (dsimp only;omega) | (dsimp only;simp only [List.length_append,List.length_cons,List.length_nil,aG];omega)⟩,rfl,rfl⟩ rfl rfl rfl rfl rfl rfl
  | exact df [0,1,5,6,7,8,9] ⟨⟨r.Accounts,r.Instrs,r.Bals,r.Lots,r.Trades,r.Lot⟩,_,_,⟨by omega,by first | omega | (dsimp only;omega) | (dsimp only;simp only [List.length_append,List.length_cons,List.length_nil,aG];omega)⟩,rfl,rfl⟩ rfl rfl rfl rfl rfl rfl
  | exact df [0,1,11,6,7,8,9] ⟨⟨l,r.Instrs,r.Bals,r.Lots,r.Trades,r.Lot⟩,_,_,⟨by omega,by first | omega | (dsimp only;omega) | (dsimp only;simp only [List.length_append,List.length_cons,List.length_nil,aG];omega)⟩,rfl,rfl⟩ rfl rfl rfl rfl rfl rfl
  | exact df [0,1,5,6,11,8,9] ⟨⟨r.Accounts,r.Instrs,l,r.Lots,r.Trades,r.Lot⟩,_,_,⟨by omega,by first | omega | (dsimp only;omega) | (dsimp only;simp only [List.length_append,List.length_cons,List.length_nil,aG];omega)⟩,rfl,rfl⟩ rfl rfl rfl rfl rfl rfl
  | exact df [0,1,5,6,7,11,9] ⟨⟨r.Accounts,r.Instrs,r.Bals,l,r.Trades,r.Lot⟩,_,_,⟨by omega,by first | omega | (dsimp only;omega) | (dsimp only;simp only [List.length_append,List.length_cons,List.length_nil,aG];omega)⟩,rfl,rfl⟩ rfl rfl rfl rfl rfl rfl
  | exact df [0,1,5,6,7,8,12] ⟨⟨r.Accounts,r.Instrs,r.Bals,r.Lots,r.Trades ++ [_],r.Lot⟩,_,_,⟨by omega,by first | omega | (dsimp only;omega) | (dsimp only;simp only [List.length_append,List.length_cons,List.length_nil,aG];omega)⟩,rfl,rfl⟩ rfl rfl rfl rfl rfl rfl
  | exact df (X:=bkE 2 ⟨r.Accounts,r.Instrs,r.Bals,r.Lots,r.Trades,r.Lot⟩) [0,1,5,6,7,8,9] ⟨⟨r.Accounts,r.Instrs,upd r.Bals 0 _,r.Lots,r.Trades,r.Lot⟩,_,_,⟨by omega,by first | omega | (dsimp only;omega) | (dsimp only;simp only [List.length_append,List.length_cons,List.length_nil,aG];omega)⟩,by simp only [bkE,aG],rfl⟩ rfl rfl rfl rfl rfl rfl
  | trace_state
theorem fk {cb:List By} {kd:Int} (hl:cb.length ≤ 1048576) (hk:1 ≤ kd ∧ kd ≤ 11):FE Tryz.prog 93 [.c (.row 0 0 cb.length),I kd] ([ro 5 cb]) (fun v9 h9 => ∃ (r:Books) (a:List Int),(nf kd ≤ a.length ∧ (r.Accounts.length ≤ 8589934592 ∧ r.Instrs.length ≤ 8589934592 ∧ r.Bals.length ≤ 8589934592 ∧ r.Lots.length ≤ 8589934592 ∧ r.Trades.length ≤ 8589934592)) ∧ v9 = .tup [bkE 1 r,.c (.row 6 0 a.length)] ∧ h9 = [ro 5 cb] ++ bkW r ++ [ow 3 a]):=by
 refine dl tk 60 [.cell 4 _,.tmp 5] Tryz.func93 (by kernel_rfl) rfl rfl rfl rfl rfl rfl rfl ?_
 have hc:=cU kd
 repeat' (first
| (with_reducible apply yds);rfl
| (with_reducible apply yd);rfl
| refine nv ?_
| (with_reducible apply zce false []);(iterate 10 rfl);exact uT (by omega);rfl;rfl;rintro _ _ ⟨h,hq,rfl,rfl⟩ <;> refine ⟨_,_,rfl,rfl,?_⟩
| (with_reducible apply zcg [true]);(iterate 9 rfl);exact mK (by omega) (by omega);(rintro _ _ ⟨r,i,h,hq,rfl,rfl⟩ <;> exact ⟨rfl,rfl⟩);rfl;rfl;rintro _ _ ⟨r,i,h,hq,rfl,rfl⟩ <;> refine ⟨_,_,rfl,rfl,?_⟩
| (with_reducible apply zcg [true]);(iterate 9 rfl);exact fJ (by omega) (by omega);(rintro _ _ ⟨k,i,h,a,hq,rfl,rfl⟩ <;> exact ⟨rfl,rfl⟩);rfl;rfl;rintro _ _ ⟨k,i,h,a,hq,rfl,rfl⟩ <;> refine ⟨_,_,rfl,rfl,?_⟩
| fail)
 refine wlp (X:=Int × Int × List Int × Int × Int) [1,4,6,7,8] [0,1,2,3,4,5,6,7,8,9,10] (fun p => [(9,I p.1)]) (fun p => [(2,cu 236 0 cb.length p.2.2.2.1 p.2.2.2.2),(9,ow 3 p.2.2.1),(10,some ⟨true,70,2,.mx [.sc (.int .i64 p.2.1),.row 9 0 p.2.2.1.length]⟩)]) (fun p => (0 ≤ p.1 ∧ p.1 ≤ 60) ∧ 0 ≤ p.2.2.2.1 ∧ p.2.2.1.length ≤ 7) (fun p => (60 - p.1).toNat) (0,k,a,i,h) ⟨by dsimp only;omega,by dsimp only;omega,by dsimp only;omega⟩ rfl rfl (fun _ => rfl) (fun _ => rfl) ⟨rfl,rfl,rfl,rfl,rfl,rfl,rfl,rfl⟩ (fun p hp => ?_)
 obtain ⟨j,ck,ys,c1,c2⟩:=p
 obtain ⟨h0,h1,h2⟩:=hp
 dsimp only at h0 h1 h2 ⊢
 repeat' (first
| (with_reducible apply yds);rfl
| (with_reducible apply yd);rfl
| intro _
| refine nv ?_
| apply wct rfl
| apply wcf rfl
| with_reducible apply ah rfl
| (with_reducible apply ai);rfl
| (with_reducible apply yne);rfl
| (with_reducible apply yar);rfl;omega
| (with_reducible apply aH (α:=Int) (e:=3));rfl
| (with_reducible apply yap);rfl;(((try simp only [lE,lM]);(try dsimp only);omega))
| (with_reducible apply zcg [true]);(iterate 9 rfl);exact fJ (by omega) (by omega);(rintro _ _ ⟨k,i,h,a,hq,rfl,rfl⟩ <;> exact ⟨rfl,rfl⟩);rfl;rfl;rintro _ _ ⟨k,i,h,a,hq,rfl,rfl⟩ <;> refine ⟨_,_,rfl,rfl,?_⟩
| fail)
 all_goals first | exact aB (j + 1,_,_,_,_) [0,1,2,3,4,5,6,7,8,11,10] ⟨rfl,rfl,rfl,rfl,rfl,rfl,rfl,rfl⟩ ⟨by dsimp only;omega,by dsimp only;omega,by dsimp only;omega⟩ (by omega) | skip
 all_goals
  refine wlp (X:=List Int × Int × Int) [1,4,6,7] [0,1,2,3,4,5,6,7,8,9,10,12] (fun p => [(10,.c (.row 11 0 p.1.length))]) (fun p => [(2,cu 236 0 cb.length p.2.1 p.2.2),(11,ow 3 p.1)]) (fun p => p.1.length ≤ 7 ∧ 0 ≤ p.2.1) (fun p => 8 - p.1.length) ([] ++ ys,c1,c2) ⟨by dsimp only;simpa using h2,by dsimp only;omega⟩ rfl rfl (fun _ => rfl) (fun _ => rfl) ⟨rfl,rfl,rfl,rfl,rfl,rfl,rfl,rfl⟩ (fun p hp => ?_)
  obtain ⟨zs,c3,c4⟩:=p
  obtain ⟨h3,h4⟩:=hp
  dsimp only at h3 h4 ⊢
  repeat' (first
| (with_reducible apply yds);rfl
| (with_reducible apply yd);rfl
| intro _
| refine nv ?_
| apply wct rfl
| apply wcf rfl
| with_reducible apply ah rfl
| (with_reducible apply ai);rfl
| (with_reducible apply yar);rfl;omega
| (with_reducible apply yix);rfl;omega
| (with_reducible apply zse);rfl;exact tk;(iterate 6 rfl);omega;rfl;rfl;rfl;rfl;rfl
| (with_reducible apply aH (α:=Int) (e:=3));rfl
| (with_reducible apply yap);rfl;(((try simp only [lE,lM]);(try dsimp only);omega))
| (with_reducible apply yc);rfl;exact jv;rfl;exact fun _ => rfl
| (with_reducible apply zce false [true]);(iterate 10 rfl);(first | exact bc (by omega) | exact bN (by omega) (by decide));rfl;rfl;rintro _ _ ⟨x,i,h,hq,rfl,rfl⟩ <;> refine ⟨_,_,rfl,rfl,?_⟩
| (with_reducible apply zce false [true]);(iterate 10 rfl);exact cI (by omega);rfl;rfl;rintro _ _ ⟨(_ | _),i,h,hq,rfl,rfl⟩ <;> refine ⟨_,_,rfl,rfl,?_⟩
| fail)
  all_goals first
   | exact aB (_,_,_) [0,1,2,3,4,5,6,7,8,9,10,13] ⟨rfl,rfl,rfl,rfl,rfl,rfl,rfl,rfl⟩ ⟨by dsimp only;simp only [List.length_append,List.length_cons,List.length_nil];omega,by dsimp only;omega⟩ (by dsimp only;simp only [List.length_append,List.length_cons,List.length_nil];omega)
   | exact df [0,3,4,5,6,7,11] ⟨r,zs,⟨by omega,by omega⟩,rfl,rfl⟩ rfl rfl rfl rfl rfl rfl
   | exact df (X:=.tup [bkE 1 r,.c (.row 6 0 zs.length)]) [0,3,4,5,6,7,11] ⟨r,upd zs _ _,⟨by rw [aG];omega,by omega⟩,by simp only [aG],rfl⟩ rfl rfl rfl rfl rfl rfl
   | trace_state
end
end Go.Proofs.YtgehbhkfehmdkaaGreat.Sh
