/- The law FnMoved, walked. No condition. -/
import Derived.Test.YtgehbhkfehmdkaaGreatKUShV
import Derived.Test.YtgehbhkfehmdkaaGreatKUShDmv
import Derived.Test.YtgehbhkfehmdkaaGreatKUShTkP
import Derived.Test.YtgehbhkfehmdkaaGreatKUShDrX
import Derived.Test.YtgehbhkfehmdkaaGreatKUShLaH
import Derived.Test.YtgehbhkfehmdkaaGreatKUShR
set_option maxRecDepth 100000
set_option maxHeartbeats 40000000
set_option linter.unusedSimpArgs false
set_option linter.unusedVariables false
namespace Go.Proofs.YtgehbhkfehmdkaaGreat.Sh
open Go.RowKit
theorem rA {cb:List By}:FC Tryz.prog 11 [.c (.row 0 0 cb.length)] ([ro 5 cb]) (B true) ([ro 5 cb]):=by
 refine ax tk 133 [.tmp 2] Tryz.func11 (by kernel_rfl) rfl rfl rfl rfl rfl rfl rfl ?_
 refine bX cb 0 rfl (fun hl0 => ?_)
 repeat' (first
| intro h9;exfalso;contradiction
| (with_reducible apply yds);rfl
| (with_reducible apply yd);rfl
| intro _
| refine nv ?_
| apply wct rfl
| apply wcf rfl
| (with_reducible apply yeq);rfl
| (with_reducible apply yne);rfl
| refine zdq (id:=10) rfl (by kernel_rfl) [(.p,0),(.p,2),(.p,3),(.p,5),(.p,7),(.p,8),(.p,10),(.t,1),(.t,6),(.o,4),(.o,9),(.p,11),(.p,12),(.p,13),(.p,14),(.p,16),(.p,17),(.p,19),(.p,21),(.p,22),(.p,24),(.t,15),(.t,20),(.o,18),(.o,23),(.p,25),(.p,26),(.p,27),(.p,28),(.p,29),(.p,31),(.p,32),(.p,34),(.p,36),(.p,37),(.p,39),(.t,30),(.t,35),(.o,33),(.o,38),(.p,40),(.p,41),(.p,42),(.p,43),(.p,44),(.p,46),(.p,47),(.p,49),(.p,51),(.p,52),(.p,54),(.t,45),(.t,50),(.o,48),(.o,53),(.p,55),(.p,56),(.p,57),(.p,58),(.t,59),(.o,60),(.p,61),(.p,62)] [] (by kernel_rfl) rfl ?_
| (with_reducible apply ycp);rfl;(first | exact ku | exact dv);rfl
| (with_reducible apply zce false []);(iterate 10 rfl);exact mG (by omega);rfl;rfl;rintro _ _ ⟨r,n0,n1,n2,n3,n4,hq,rfl,rfl⟩ <;> refine ⟨_,_,rfl,rfl,?_⟩
| (with_reducible apply ycf);rfl;(first | exact pX | exact lq);rfl
| fail)
 all_goals first | exact ak [0] rfl rfl rfl rfl rfl rfl | skip
 all_goals have hc:=wL (b:=⟨r.Accounts,r.Instrs,r.Bals,r.Lots,r.Trades,r.Lot⟩) (fr:=n0) (c:=n2) (q:=n3) (way:=n4) (r:=(aN ⟨r.Accounts,r.Instrs,r.Bals,r.Lots,r.Trades,r.Lot⟩ n0 n1 n2 n3 n4).1) (cost:=(aN ⟨r.Accounts,r.Instrs,r.Bals,r.Lots,r.Trades,r.Lot⟩ n0 n1 n2 n3 n4).2.1) (how:=(aN ⟨r.Accounts,r.Instrs,r.Bals,r.Lots,r.Trades,r.Lot⟩ n0 n1 n2 n3 n4).2.2) rfl
 all_goals first
  | (exfalso;rename_i hx;rcases hc with ⟨h1,_⟩ | ⟨h1,⟨h2,h3⟩ | h3⟩;omega;(have h4:(aN ⟨r.Accounts,r.Instrs,r.Bals,r.Lots,r.Trades,r.Lot⟩ n0 n1 n2 n3 n4).1.Accounts.length = 0:=(by rw [h3];rfl);omega);exact absurd (by rw [h3]) hx)
  | skip
 obtain hd:MovDone ⟨r.Accounts,r.Instrs,r.Bals,r.Lots,r.Trades,r.Lot⟩ n0 n1 n2 n3 n4 (aN ⟨r.Accounts,r.Instrs,r.Bals,r.Lots,r.Trades,r.Lot⟩ n0 n1 n2 n3 n4).1 (aN ⟨r.Accounts,r.Instrs,r.Bals,r.Lots,r.Trades,r.Lot⟩ n0 n1 n2 n3 n4).2.1:=by rcases hc with ⟨_,h⟩ | ⟨h1,_⟩;exact h;exact absurd (by assumption) h1
 clear hc
 have hB1:BalsOk (aN ⟨r.Accounts,r.Instrs,r.Bals,r.Lots,r.Trades,r.Lot⟩ n0 n1 n2 n3 n4).1.Bals:=hd.posted.ok
 have hB2:BalsOk r.Bals:=hd.ok.bals
 have hN:BooksOk ⟨(aN ⟨r.Accounts,r.Instrs,r.Bals,r.Lots,r.Trades,r.Lot⟩ n0 n1 n2 n3 n4).1.Accounts,(aN ⟨r.Accounts,r.Instrs,r.Bals,r.Lots,r.Trades,r.Lot⟩ n0 n1 n2 n3 n4).1.Instrs,(aN ⟨r.Accounts,r.Instrs,r.Bals,r.Lots,r.Trades,r.Lot⟩ n0 n1 n2 n3 n4).1.Bals,(aN ⟨r.Accounts,r.Instrs,r.Bals,r.Lots,r.Trades,r.Lot⟩ n0 n1 n2 n3 n4).1.Lots,(aN ⟨r.Accounts,r.Instrs,r.Bals,r.Lots,r.Trades,r.Lot⟩ n0 n1 n2 n3 n4).1.Trades,(aN ⟨r.Accounts,r.Instrs,r.Bals,r.Lots,r.Trades,r.Lot⟩ n0 n1 n2 n3 n4).1.Lot⟩:=hd.next
 have hL1:LotsOk (aN ⟨r.Accounts,r.Instrs,r.Bals,r.Lots,r.Trades,r.Lot⟩ n0 n1 n2 n3 n4).1.Lots:=hd.next.lots
 have hL2:LotsOk r.Lots:=hd.ok.lots
 have hb0:=hd.bal
 have hl0:=hd.lots
 have hcb:=hd.cbd
 have hkq:=hd.kq
 unfold inP at hkq
 dsimp only at hb0 hl0
 have ha0:=cP hB2.amt n0 n2
 have ha1:=cP hB2.amt n1 n2
 unfold aq inP at ha0 ha1
 have ho:=(hL2.own n0 n2).2
 have ho1:=(hL2.own n1 n2).2
 repeat' (first
| intro h9;exfalso;first | contradiction | omega
| (with_reducible apply yds);rfl
| intro _
| refine nv ?_
| (with_reducible apply yeq);rfl
| (with_reducible apply yar);rfl;omega
| (with_reducible apply ycp);rfl;exact aM;rfl
| (with_reducible apply yc);rfl;(first | exact dV (by assumption) | exact dZ (by assumption) | exact fF (by assumption) | exact fI (by assumption));rfl;exact fun _ => rfl
| fail)
 all_goals exact ak [0] rfl rfl rfl rfl rfl rfl
 all_goals trace_state
end Go.Proofs.YtgehbhkfehmdkaaGreat.Sh
namespace Go.Proofs.YtgehbhkfehmdkaaGreat.Law
open Go.RowKit Go.Proofs.YtgehbhkfehmdkaaGreatW.PrintWords Go.Proofs.YtgehbhkfehmdkaaGreat.Ty
open Go.Proofs.YtgehbhkfehmdkaaGreat.Sh hiding Account Instr Bal Leg Lot Trade Reply
theorem FnMoved (A0:Option Addr) (c0:Nat) (l0:List Int) (w:World) (hC0:Kd.C (Kd.int .u8) w A0 l0.length l0) (hl0:l0.length ≤ c0) (_:∀ y ∈ l0,(Lit.int .u8 y).wf = true) :
  Calls Tryz.prog 11 #[.slice A0 l0.length c0] w fun e w' => e = .returned (.bool true) ∧ Below w.heap.size w w':=by
 have h:=iX (rA (cb:=l0.map By.mk)) rfl [lO A0 (l0.map By.mk).length 1] (cargs:=[.slice A0 (l0.map By.mk).length c0]) ⟨mm hC0 _ _,trivial⟩ ⟨pd (ρ:=_) (o:=0) rfl (by rw [List.length_map];exact hl0),trivial⟩
 rwa [List.length_map] at h
end Go.Proofs.YtgehbhkfehmdkaaGreat.Law
