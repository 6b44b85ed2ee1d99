/- The law FnPaid, walked. No condition. -/
import Derived.Test.YtgehbhkfehmdkaaGreatKUShV
import Derived.Test.YtgehbhkfehmdkaaGreatKUShDpy
import Derived.Test.YtgehbhkfehmdkaaGreatKUShPyP
import Derived.Test.YtgehbhkfehmdkaaGreatKUShDrX
import Derived.Test.YtgehbhkfehmdkaaGreatKUShR
set_option maxRecDepth 100000
set_option maxHeartbeats 40000000
set_option linter.unusedSimpArgs false
set_option linter.unusedVariables false
namespace Go.Proofs.YtgehbhkfehmdkaaGreat.Sh
open Go.RowKit
theorem t9 {cb:List By}:FC Tryz.prog 9 [.c (.row 0 0 cb.length)] ([ro 5 cb]) (B true) ([ro 5 cb]):=by
 refine ax tk 173 [.tmp 2] Tryz.func9 (by kernel_rfl) rfl rfl rfl rfl rfl rfl rfl ?_
 refine bX cb 0 rfl (fun hl0 => ?_)
 repeat' (first
| intro h9;exfalso;contradiction
| (with_reducible apply yds);rfl
| (with_reducible apply yd);rfl
| intro _
| refine nv ?_
| apply wct rfl
| apply wcf rfl
| (with_reducible apply ai);rfl
| (with_reducible apply yne);rfl
| (with_reducible apply ycp);rfl;(first | exact ku | exact dv);rfl
| (with_reducible apply zce false []);(iterate 10 rfl);exact nD (by omega);rfl;rfl;rintro _ _ ⟨r,n0,n1,n2,n3,hq,rfl,rfl⟩ <;> refine ⟨_,_,rfl,rfl,?_⟩
| (with_reducible apply ycf);rfl;(first | exact rn | exact mF);rfl
| fail)
 all_goals first | exact ak [0] rfl rfl rfl rfl rfl rfl | skip
 all_goals have hc:=wR (b:=⟨r.Accounts,r.Instrs,r.Bals,r.Lots,r.Trades,r.Lot⟩) (pa:=n0) (ca:=n1) (py:=n2) (t:=n3) (r:=(aS ⟨r.Accounts,r.Instrs,r.Bals,r.Lots,r.Trades,r.Lot⟩ n0 n1 n2 n3).1) (many:=(aS ⟨r.Accounts,r.Instrs,r.Bals,r.Lots,r.Trades,r.Lot⟩ n0 n1 n2 n3).2.1) (how:=(aS ⟨r.Accounts,r.Instrs,r.Bals,r.Lots,r.Trades,r.Lot⟩ n0 n1 n2 n3).2.2) rfl
 all_goals first
  | (exfalso;rename_i hx;rcases hc with ⟨h1,_⟩ | ⟨h1,⟨h2,h3⟩ | h3⟩;omega;(have h4:(aS ⟨r.Accounts,r.Instrs,r.Bals,r.Lots,r.Trades,r.Lot⟩ n0 n1 n2 n3).1.Accounts.length = 0:=(by rw [h3];rfl);omega);exact absurd (by rw [h3]) hx)
  | skip
 obtain hd:PayDone ⟨r.Accounts,r.Instrs,r.Bals,r.Lots,r.Trades,r.Lot⟩ n0 n1 n2 n3 (aS ⟨r.Accounts,r.Instrs,r.Bals,r.Lots,r.Trades,r.Lot⟩ n0 n1 n2 n3).1 (aS ⟨r.Accounts,r.Instrs,r.Bals,r.Lots,r.Trades,r.Lot⟩ n0 n1 n2 n3).2.1:=by rcases hc with ⟨_,h⟩ | ⟨h1,_⟩;exact h;exact absurd (by assumption) h1
 clear hc
 have hB1:BalsOk (aS ⟨r.Accounts,r.Instrs,r.Bals,r.Lots,r.Trades,r.Lot⟩ n0 n1 n2 n3).1.Bals:=hd.posted.ok
 have hB2:BalsOk r.Bals:=hd.ok.bals
 have hN:BooksOk ⟨(aS ⟨r.Accounts,r.Instrs,r.Bals,r.Lots,r.Trades,r.Lot⟩ n0 n1 n2 n3).1.Accounts,(aS ⟨r.Accounts,r.Instrs,r.Bals,r.Lots,r.Trades,r.Lot⟩ n0 n1 n2 n3).1.Instrs,(aS ⟨r.Accounts,r.Instrs,r.Bals,r.Lots,r.Trades,r.Lot⟩ n0 n1 n2 n3).1.Bals,(aS ⟨r.Accounts,r.Instrs,r.Bals,r.Lots,r.Trades,r.Lot⟩ n0 n1 n2 n3).1.Lots,(aS ⟨r.Accounts,r.Instrs,r.Bals,r.Lots,r.Trades,r.Lot⟩ n0 n1 n2 n3).1.Trades,(aS ⟨r.Accounts,r.Instrs,r.Bals,r.Lots,r.Trades,r.Lot⟩ n0 n1 n2 n3).1.Lot⟩:=hd.next
 have hL:(aS ⟨r.Accounts,r.Instrs,r.Bals,r.Lots,r.Trades,r.Lot⟩ n0 n1 n2 n3).1.Lots = r.Lots:=by rw [hd.kr]
 have hH:cy ⟨r.Accounts,r.Instrs,r.Bals,r.Lots,r.Trades,r.Lot⟩ n0:=hd.held
 have hkm:=hd.km
 have hkt:=hd.kt
 unfold inP at hkt
 have hA:r.Accounts.length ≤ 20:=hd.ok.acc.2
 have hb0:=hd.bal n2
 rw [hd.payer,if_pos rfl] at hb0
 dsimp only at hb0 hkm
 have hwm:=fU r.Accounts r.Bals n0
 have ha0:=cP hB2.amt n2 n1
 unfold aq inP at ha0
 repeat' (first
| intro h9;exfalso;first | contradiction | omega
| (with_reducible apply yds);rfl
| (with_reducible apply yd);rfl
| intro _
| refine nv ?_
| apply wcf rfl
| (with_reducible apply yne);rfl
| (with_reducible apply yar);rfl;omega
| refine zdq (id:=11) rfl (by kernel_rfl) [(.p,0),(.p,1),(.p,2),(.p,3),(.p,4),(.p,5),(.p,6),(.p,7),(.p,8),(.p,9),(.p,10),(.p,11),(.p,12),(.p,13),(.p,14),(.p,15),(.p,17),(.p,18),(.p,20),(.p,22),(.p,23),(.p,25),(.t,16),(.t,21),(.o,19),(.o,24),(.p,26),(.p,27),(.p,28)] [] (by kernel_rfl) rfl ?_
| (with_reducible apply mT);(iterate 10 rfl);exact ng;(iterate 8 rfl)
| (with_reducible apply yc);rfl;(first | exact dV (by assumption) | exact dZ (by assumption));rfl;exact fun _ => rfl
| fail)
 all_goals skip
 refine wlp (X:=Int × Int) [3,5,6,7,8,14] [0,1,2,3,4,5,6,7,8,9,10,11,12,13,14,15,16,17,18,19,20] (fun p => [(18,I p.1),(19,I p.2)]) (fun _ => []) (fun p => p.1 = pyS ⟨r.Accounts,r.Instrs,r.Bals,r.Lots,r.Trades,r.Lot⟩ n0 n1 n2 n3 p.2 ∧ 0 ≤ p.2 ∧ p.2 ≤ r.Accounts.length) (fun p => (r.Accounts.length - p.2).toNat) (0,0) ⟨rfl,by dsimp only;omega,by dsimp only;omega⟩ rfl rfl (fun _ => rfl) (fun _ => rfl) ⟨rfl,rfl,rfl,rfl,rfl,rfl,rfl,rfl⟩ (fun p hi => ?_)
 obtain ⟨s,i⟩:=p
 obtain ⟨hs,h0,h1⟩:=hi
 dsimp only at hs h0 h1 ⊢
 have hp:=hd.part (i:=i) ⟨h0,h1⟩
 try dsimp only at hp
 rw [← hs] at hp
 have ht:i = r.Accounts.length → s = n3:=fun e => by rw [hs,e];exact hd.total
 have hq:=hd.nn (rd r.Accounts i).No
 have hW:¬ (rd r.Accounts i).No ∈ who r.Accounts r.Bals n0 → pyT ⟨r.Accounts,r.Instrs,r.Bals,r.Lots,r.Trades,r.Lot⟩ n0 n1 n3 (rd r.Accounts i).No ≤ 0:=fun q => by
  by_cases e:0 < pyT ⟨r.Accounts,r.Instrs,r.Bals,r.Lots,r.Trades,r.Lot⟩ n0 n1 n3 (rd r.Accounts i).No
  ·exact absurd (hq.2 e) q
  ·omega
 have hb:(n2 = (rd r.Accounts i).No ∧ aL (aS ⟨r.Accounts,r.Instrs,r.Bals,r.Lots,r.Trades,r.Lot⟩ n0 n1 n2 n3).1.Bals (rd r.Accounts i).No n1 = aL r.Bals (rd r.Accounts i).No n1 - n3) ∨ (n2 ≠ (rd r.Accounts i).No ∧ aL (aS ⟨r.Accounts,r.Instrs,r.Bals,r.Lots,r.Trades,r.Lot⟩ n0 n1 n2 n3).1.Bals (rd r.Accounts i).No n1 = aL r.Bals (rd r.Accounts i).No n1 + pyT ⟨r.Accounts,r.Instrs,r.Bals,r.Lots,r.Trades,r.Lot⟩ n0 n1 n3 (rd r.Accounts i).No):=by
  have h:=hd.bal (rd r.Accounts i).No
  dsimp only at h
  by_cases e:n2 = (rd r.Accounts i).No
  ·rw [if_pos e,← e,hd.payer] at h
   refine Or.inl ⟨e,?_⟩
   rw [← e]
   omega
  ·rw [if_neg e] at h
   exact Or.inr ⟨e,by omega⟩
 have hS:i < r.Accounts.length → 0 ≤ pyS ⟨r.Accounts,r.Instrs,r.Bals,r.Lots,r.Trades,r.Lot⟩ n0 n1 n2 n3 (i + 1) ∧ pyS ⟨r.Accounts,r.Instrs,r.Bals,r.Lots,r.Trades,r.Lot⟩ n0 n1 n2 n3 (i + 1) ≤ n3 ∧ ((n2 = (rd r.Accounts i).No ∧ pyS ⟨r.Accounts,r.Instrs,r.Bals,r.Lots,r.Trades,r.Lot⟩ n0 n1 n2 n3 (i + 1) = s) ∨ (n2 ≠ (rd r.Accounts i).No ∧ pyS ⟨r.Accounts,r.Instrs,r.Bals,r.Lots,r.Trades,r.Lot⟩ n0 n1 n2 n3 (i + 1) = s + pyT ⟨r.Accounts,r.Instrs,r.Bals,r.Lots,r.Trades,r.Lot⟩ n0 n1 n3 (rd r.Accounts i).No)):=fun h => by
  have h2:=hd.part (i:=i + 1) ⟨by omega,by dsimp only;omega⟩
  have h3:=yL (b:=⟨r.Accounts,r.Instrs,r.Bals,r.Lots,r.Trades,r.Lot⟩) (pa:=n0) (ca:=n1) (py:=n2) (t:=n3) (i:=i) ⟨h0,h⟩
  rw [← hs] at h3
  refine ⟨h2.1,h2.2,?_⟩
  by_cases e:n2 = (rd r.Accounts i).No
  ·rw [if_pos (show (rd r.Accounts i).No = n2 from e.symm)] at h3
   exact Or.inl ⟨e,by omega⟩
  ·rw [if_neg (show ¬ (rd r.Accounts i).No = n2 from fun q => e q.symm)] at h3
   exact Or.inr ⟨e,h3⟩
 have ha:=cP hB2.amt (rd r.Accounts i).No n1
 unfold aq inP at ha
 repeat' (first
| intro h9;exfalso;first | contradiction | omega
| (with_reducible apply yds);rfl
| (with_reducible apply yd);rfl
| intro _
| refine nv ?_
| apply wct rfl
| apply wcf rfl
| with_reducible apply ah rfl
| (with_reducible apply ai);rfl
| (with_reducible apply yne);rfl
| (with_reducible apply yar);rfl;omega
| (with_reducible apply yix);rfl;omega
| (with_reducible apply yle);rfl;omega
| refine zdq (id:=18) rfl (by kernel_rfl) [(.p,0),(.p,2),(.p,3),(.p,5),(.p,7),(.p,8),(.t,1),(.t,6),(.o,4),(.o,9),(.p,10),(.p,11)] [] (by kernel_rfl) rfl ?_
| (with_reducible apply ycp);rfl;(first | exact ta | exact ll | exact aM);rfl
| (with_reducible apply yc);rfl;(first | exact dV (by assumption) | exact dZ (by assumption));rfl;exact fun _ => rfl
| fail)
 all_goals first | exact ak [0] rfl rfl rfl rfl rfl rfl | skip
 all_goals (have hT:=hS (by assumption))
 all_goals first
  | exact aB (_,i + 1) [0,1,2,3,4,5,6,7,8,9,10,11,12,13,14,15,16,17,18,19,20] ⟨rfl,rfl,rfl,rfl,rfl,rfl,rfl,rfl⟩ ⟨by dsimp only;omega,by dsimp only;omega,by dsimp only;omega⟩ (by first | omega | (dsimp only;omega))
  | (exfalso;have h8:=hW (by assumption);omega)
  | skip
 all_goals trace_state
end Go.Proofs.YtgehbhkfehmdkaaGreat.Sh
namespace Go.Proofs.YtgehbhkfehmdkaaGreat.Law
open Go.RowKit Go.Proofs.YtgehbhkfehmdkaaGreatW.PrintWords Go.Proofs.YtgehbhkfehmdkaaGreat.Ty
open Go.Proofs.YtgehbhkfehmdkaaGreat.Sh hiding Account Instr Bal Leg Lot Trade Reply
theorem FnPaid (A0:Option Addr) (c0:Nat) (l0:List Int) (w:World) (hC0:Kd.C (Kd.int .u8) w A0 l0.length l0) (hl0:l0.length ≤ c0) (_:∀ y ∈ l0,(Lit.int .u8 y).wf = true) :
  Calls Tryz.prog 9 #[.slice A0 l0.length c0] w fun e w' => e = .returned (.bool true) ∧ Below w.heap.size w w':=by
 have h:=iX (t9 (cb:=l0.map By.mk)) rfl [lO A0 (l0.map By.mk).length 1] (cargs:=[.slice A0 (l0.map By.mk).length c0]) ⟨mm hC0 _ _,trivial⟩ ⟨pd (ρ:=_) (o:=0) rfl (by rw [List.length_map];exact hl0),trivial⟩
 rwa [List.length_map] at h
end Go.Proofs.YtgehbhkfehmdkaaGreat.Law
