/- The law FnSettled, walked. No condition. -/
import Derived.Test.YtgehbhkfehmdkaaGreatKUShV
import Derived.Test.YtgehbhkfehmdkaaGreatKUShDse
import Derived.Test.YtgehbhkfehmdkaaGreatKUShSeP
import Derived.Test.YtgehbhkfehmdkaaGreatKUShTf
import Derived.Test.YtgehbhkfehmdkaaGreatKUShDrX
import Derived.Test.YtgehbhkfehmdkaaGreatKUShLaH
import Derived.Test.YtgehbhkfehmdkaaGreatKUShR
set_option maxRecDepth 100000
set_option maxHeartbeats 40000000
set_option linter.unusedSimpArgs false
set_option linter.unusedVariables false
namespace Go.Proofs.YtgehbhkfehmdkaaGreat.Sh
open Go.RowKit
set_option maxRecDepth 20000
theorem pg {cb:List By}:FC Tryz.prog 12 [.c (.row 0 0 cb.length)] ([ro 5 cb]) (B true) ([ro 5 cb]):=by
 refine ax tk 215 [.tmp 2] Tryz.func12 (by kernel_rfl) rfl rfl rfl rfl rfl rfl rfl ?_
 refine bX cb 0 rfl (fun hl0 => ?_)
 repeat' (first
| apply yds;rfl
| apply yd;rfl
| intro _
| refine nv ?_
| apply wct rfl
| apply wcf rfl
| apply ycp;rfl;exact ku;rfl
| apply zce false [];(iterate 10 rfl);exact la (by omega);rfl;rfl;rintro _ _ ⟨r,n0,n1,hq,rfl,rfl⟩ <;> refine ⟨_,_,rfl,rfl,?_⟩
| apply ycf;rfl;(first | exact gh | exact eo);rfl
| fail)
 all_goals first | exact ak [0] rfl rfl rfl rfl rfl rfl | skip
 rcases wW (b:=⟨r.Accounts,r.Instrs,r.Bals,r.Lots,r.Trades,r.Lot⟩) (no:=n0) (way:=n1) (r:=(ag ⟨r.Accounts,r.Instrs,r.Bals,r.Lots,r.Trades,r.Lot⟩ n0 n1).1) (gain:=(ag ⟨r.Accounts,r.Instrs,r.Bals,r.Lots,r.Trades,r.Lot⟩ n0 n1).2.1) (how:=(ag ⟨r.Accounts,r.Instrs,r.Bals,r.Lots,r.Trades,r.Lot⟩ n0 n1).2.2) rfl with ⟨hh,hd⟩ | ⟨hh,hc⟩
 rotate_left
 ·
  repeat' (first
| intro h9;exfalso;contradiction
| apply yds;rfl
| apply yd;rfl
| intro _
| refine nv ?_
| apply wct rfl
| apply wcf rfl
| apply yeq;rfl
| apply yne;rfl
| apply ycp;rfl;exact dv;rfl
| apply zcs;(iterate 10 rfl);exact mJ;exact fun _ => rfl;exact fun _ => rfl;rfl;rfl;rfl;rfl
| fail)
  all_goals first | exact ak [0] rfl rfl rfl rfl rfl rfl | skip
  all_goals first
   | (exfalso;rename_i hx;rcases hc with ⟨h2,h3⟩ | h3;omega;(have h4:(ag ⟨r.Accounts,r.Instrs,r.Bals,r.Lots,r.Trades,r.Lot⟩ n0 n1).1.Accounts.length = 0:=(by rw [h3];rfl);omega);exact absurd (by rw [h3]) hx)
   | (exfalso;rename_i hx;rcases hc with ⟨h2,h3⟩ | h3;(have h4:(ag ⟨r.Accounts,r.Instrs,r.Bals,r.Lots,r.Trades,r.Lot⟩ n0 n1).1.Accounts.length = 0:=(by rw [h3];rfl);omega);exact absurd (by rw [h3]) hx)
   | trace_state
 have hT:BooksOk ⟨r.Accounts,r.Instrs,r.Bals,r.Lots,r.Trades,r.Lot⟩ ∧ d8 r.Trades n0:=⟨hd.ok,hd.op.1⟩
 have hB1:BalsOk (ag ⟨r.Accounts,r.Instrs,r.Bals,r.Lots,r.Trades,r.Lot⟩ n0 n1).1.Bals:=hd.posted.ok
 have hB2:BalsOk r.Bals:=hd.ok.bals
 have hN:BooksOk ⟨(ag ⟨r.Accounts,r.Instrs,r.Bals,r.Lots,r.Trades,r.Lot⟩ n0 n1).1.Accounts,(ag ⟨r.Accounts,r.Instrs,r.Bals,r.Lots,r.Trades,r.Lot⟩ n0 n1).1.Instrs,(ag ⟨r.Accounts,r.Instrs,r.Bals,r.Lots,r.Trades,r.Lot⟩ n0 n1).1.Bals,(ag ⟨r.Accounts,r.Instrs,r.Bals,r.Lots,r.Trades,r.Lot⟩ n0 n1).1.Lots,(ag ⟨r.Accounts,r.Instrs,r.Bals,r.Lots,r.Trades,r.Lot⟩ n0 n1).1.Trades,(ag ⟨r.Accounts,r.Instrs,r.Bals,r.Lots,r.Trades,r.Lot⟩ n0 n1).1.Lot⟩:=hd.next
 have hL1:LotsOk (ag ⟨r.Accounts,r.Instrs,r.Bals,r.Lots,r.Trades,r.Lot⟩ n0 n1).1.Lots:=hd.next.lots
 have hL2:LotsOk r.Lots:=hd.ok.lots
 have hb0:=hd.bal
 have hl0:=hd.cost
 have hf:=hd.frm.1.2.2.2.2.2
 have hsh:(ag ⟨(ag ⟨r.Accounts,r.Instrs,r.Bals,r.Lots,r.Trades,r.Lot⟩ n0 n1).1.Accounts,(ag ⟨r.Accounts,r.Instrs,r.Bals,r.Lots,r.Trades,r.Lot⟩ n0 n1).1.Instrs,(ag ⟨r.Accounts,r.Instrs,r.Bals,r.Lots,r.Trades,r.Lot⟩ n0 n1).1.Bals,(ag ⟨r.Accounts,r.Instrs,r.Bals,r.Lots,r.Trades,r.Lot⟩ n0 n1).1.Lots,(ag ⟨r.Accounts,r.Instrs,r.Bals,r.Lots,r.Trades,r.Lot⟩ n0 n1).1.Trades,(ag ⟨r.Accounts,r.Instrs,r.Bals,r.Lots,r.Trades,r.Lot⟩ n0 n1).1.Lot⟩ n0 n1).2.2 = 6 ∧ (az ⟨(ag ⟨r.Accounts,r.Instrs,r.Bals,r.Lots,r.Trades,r.Lot⟩ n0 n1).1.Accounts,(ag ⟨r.Accounts,r.Instrs,r.Bals,r.Lots,r.Trades,r.Lot⟩ n0 n1).1.Instrs,(ag ⟨r.Accounts,r.Instrs,r.Bals,r.Lots,r.Trades,r.Lot⟩ n0 n1).1.Bals,(ag ⟨r.Accounts,r.Instrs,r.Bals,r.Lots,r.Trades,r.Lot⟩ n0 n1).1.Lots,(ag ⟨r.Accounts,r.Instrs,r.Bals,r.Lots,r.Trades,r.Lot⟩ n0 n1).1.Trades,(ag ⟨r.Accounts,r.Instrs,r.Bals,r.Lots,r.Trades,r.Lot⟩ n0 n1).1.Lot⟩ n0).2 = 6 ∧ d8 (ag ⟨r.Accounts,r.Instrs,r.Bals,r.Lots,r.Trades,r.Lot⟩ n0 n1).1.Trades n0 ∧ (rd (ag ⟨r.Accounts,r.Instrs,r.Bals,r.Lots,r.Trades,r.Lot⟩ n0 n1).1.Trades (tAt (ag ⟨r.Accounts,r.Instrs,r.Bals,r.Lots,r.Trades,r.Lot⟩ n0 n1).1.Trades n0)).State = 2:=hd.shut
 have hT2:BooksOk ⟨(ag ⟨r.Accounts,r.Instrs,r.Bals,r.Lots,r.Trades,r.Lot⟩ n0 n1).1.Accounts,(ag ⟨r.Accounts,r.Instrs,r.Bals,r.Lots,r.Trades,r.Lot⟩ n0 n1).1.Instrs,(ag ⟨r.Accounts,r.Instrs,r.Bals,r.Lots,r.Trades,r.Lot⟩ n0 n1).1.Bals,(ag ⟨r.Accounts,r.Instrs,r.Bals,r.Lots,r.Trades,r.Lot⟩ n0 n1).1.Lots,(ag ⟨r.Accounts,r.Instrs,r.Bals,r.Lots,r.Trades,r.Lot⟩ n0 n1).1.Trades,(ag ⟨r.Accounts,r.Instrs,r.Bals,r.Lots,r.Trades,r.Lot⟩ n0 n1).1.Lot⟩ ∧ d8 (ag ⟨r.Accounts,r.Instrs,r.Bals,r.Lots,r.Trades,r.Lot⟩ n0 n1).1.Trades n0:=⟨hd.next,hsh.2.2.1⟩
 unfold inP at hf
 dsimp only at hb0 hl0 hf
 have ha0:=cP hB2.amt (rd r.Trades (tAt r.Trades n0)).Buyer (rd r.Trades (tAt r.Trades n0)).Paper
 have ha1:=cP hB2.amt (rd r.Trades (tAt r.Trades n0)).Seller (rd r.Trades (tAt r.Trades n0)).Cash
 have ha2:=cP hB2.amt (rd r.Trades (tAt r.Trades n0)).Seller (rd r.Trades (tAt r.Trades n0)).Paper
 have ha3:=cP hB2.amt (rd r.Trades (tAt r.Trades n0)).Buyer (rd r.Trades (tAt r.Trades n0)).Cash
 unfold aq inP at ha0 ha1 ha2 ha3
 have ho:=(hL2.own (rd r.Trades (tAt r.Trades n0)).Seller (rd r.Trades (tAt r.Trades n0)).Paper).2
 have ho1:=(hL1.own (rd r.Trades (tAt r.Trades n0)).Seller (rd r.Trades (tAt r.Trades n0)).Paper).2
 repeat' (first
| intro h9;exfalso;first | contradiction | omega
| apply yds;rfl
| apply yd;rfl
| intro _
| refine nv ?_
| apply wcf rfl
| apply yeq;rfl
| apply yne;rfl
| apply yar;rfl;omega
| refine zdq (id:=11) rfl (by kernel_rfl) [(.p,0),(.p,1),(.p,2),(.p,3),(.p,5),(.p,7),(.p,10),(.p,12),(.p,14),(.p,17),(.t,4),(.t,6),(.t,8),(.t,11),(.t,13),(.t,15),(.t,18),(.o,9),(.o,16),(.p,19),(.p,20),(.p,21),(.p,22),(.p,23),(.p,25),(.p,27),(.p,30),(.p,32),(.p,34),(.p,37),(.t,24),(.t,26),(.t,28),(.t,31),(.t,33),(.t,35),(.t,38),(.o,29),(.o,36),(.p,39),(.p,40),(.p,41),(.p,42),(.p,43),(.p,45),(.p,47),(.p,50),(.p,52),(.p,54),(.p,57),(.t,44),(.t,46),(.t,48),(.t,51),(.t,53),(.t,55),(.t,58),(.o,49),(.o,56),(.p,59),(.p,60),(.p,61),(.p,62),(.p,63),(.p,65),(.p,67),(.p,70),(.p,72),(.p,74),(.p,77),(.t,64),(.t,66),(.t,68),(.t,71),(.t,73),(.t,75),(.t,78),(.o,69),(.o,76),(.p,79),(.p,80),(.p,81)] [] (by kernel_rfl) rfl ?_
| refine zdq (id:=13) rfl (by kernel_rfl) [(.p,0),(.p,2),(.p,4),(.p,7),(.p,9),(.p,11),(.t,1),(.t,3),(.t,5),(.t,8),(.t,10),(.t,12),(.o,6),(.o,13),(.p,14),(.p,15)] [] (by kernel_rfl) rfl ?_
| apply ycp;rfl;exact aM;rfl
| apply ycf;rfl;(first | exact gh | exact jA);rfl
| apply zcs;(iterate 10 rfl);(first | exact mJ | exact ml);exact fun _ => rfl;exact fun _ => rfl;rfl;rfl;rfl;rfl
| apply yc;rfl;(first | exact dV (by assumption) | exact dZ (by assumption) | exact fI (by assumption) | exact fF (by assumption));rfl;exact fun _ => rfl
| fail)
 all_goals exact ak [0] rfl rfl rfl rfl rfl rfl
 all_goals trace_state
end Go.Proofs.YtgehbhkfehmdkaaGreat.Sh
namespace Go.Proofs.YtgehbhkfehmdkaaGreat.Law
open Go.RowKit Go.Proofs.YtgehbhkfehmdkaaGreatW.PrintWords Go.Proofs.YtgehbhkfehmdkaaGreat.Ty
open Go.Proofs.YtgehbhkfehmdkaaGreat.Sh hiding Account Instr Bal Leg Lot Trade Reply
theorem FnSettled (A0:Option Addr) (c0:Nat) (l0:List Int) (w:World) (hC0:Kd.C (Kd.int .u8) w A0 l0.length l0) (hl0:l0.length ≤ c0) (_:∀ y ∈ l0,(Lit.int .u8 y).wf = true) :
  Calls Tryz.prog 12 #[.slice A0 l0.length c0] w fun e w' => e = .returned (.bool true) ∧ Below w.heap.size w w':=by
 have h:=iX (pg (cb:=l0.map By.mk)) rfl [lO A0 (l0.map By.mk).length 1] (cargs:=[.slice A0 (l0.map By.mk).length c0]) ⟨mm hC0 _ _,trivial⟩ ⟨pd (ρ:=_) (o:=0) rfl (by rw [List.length_map];exact hl0),trivial⟩
 rwa [List.length_map] at h
end Go.Proofs.YtgehbhkfehmdkaaGreat.Law
