/- The law FnFx, walked. No condition. -/
import Derived.Test.YtgehbhkfehmdkaaGreatKFxShV
import Derived.Test.YtgehbhkfehmdkaaGreatKFxShDfx
import Derived.Test.YtgehbhkfehmdkaaGreatKFxShFxP
import Derived.Test.YtgehbhkfehmdkaaGreatKFxShEq
set_option maxRecDepth 100000
set_option maxHeartbeats 40000000
set_option linter.unusedSimpArgs false
set_option linter.unusedVariables false
namespace Go.Proofs.YtgehbhkfehmdkaaGreat.Sh
open Go.RowKit
theorem sH {cb:List By}:FC Tryz.prog 8 [.c (.row 0 0 cb.length)] ([ro 5 cb]) (B true) ([ro 5 cb]):=by
 refine ay tk 193 [.tmp 2] Tryz.func8 (by kernel_rfl) rfl rfl rfl rfl rfl rfl rfl ?_
 refine cw cb 0 rfl (fun hl0 => ?_)
 repeat' (first
| intro h9;exfalso;contradiction
| (with_reducible apply yds);rfl
| (with_reducible apply yd);rfl
| intro _
| refine nv ?_
| apply wct rfl
| apply wcf rfl
| (with_reducible apply aj);rfl
| (with_reducible apply yne);rfl
| (with_reducible apply ycp);rfl;(first | exact uv | exact kR);rfl
| (with_reducible apply zce false []);(iterate 10 rfl);exact jX (by omega);rfl;rfl;rintro _ _ ⟨r,n0,n1,n2,n3,n4,n5,n6,hq,rfl,rfl⟩ <;> refine ⟨_,_,rfl,rfl,?_⟩
| (with_reducible apply ycf);rfl;(first | exact oI | exact jK);rfl
| fail)
 all_goals first | exact au [0] rfl rfl rfl rfl rfl rfl | skip
 all_goals have hc:=tS (b:=⟨r.Accounts,r.Instrs,r.Bals,r.Lots,r.Trades,r.Lot⟩) (ho:=n0) (de:=n1) (fr:=n2) (to:=n3) (am:=n4) (nu:=n5) (dn:=n6) (r:=(aZ ⟨r.Accounts,r.Instrs,r.Bals,r.Lots,r.Trades,r.Lot⟩ n0 n1 n2 n3 n4 n5 n6).1) (got:=(aZ ⟨r.Accounts,r.Instrs,r.Bals,r.Lots,r.Trades,r.Lot⟩ n0 n1 n2 n3 n4 n5 n6).2.1) (how:=(aZ ⟨r.Accounts,r.Instrs,r.Bals,r.Lots,r.Trades,r.Lot⟩ n0 n1 n2 n3 n4 n5 n6).2.2) rfl
 all_goals first
  | (exfalso;rename_i hx;rcases hc with ⟨h1,_⟩ | ⟨h1,⟨h2,h3⟩ | h3⟩;omega;(have h4:(aZ ⟨r.Accounts,r.Instrs,r.Bals,r.Lots,r.Trades,r.Lot⟩ n0 n1 n2 n3 n4 n5 n6).1.Accounts.length = 0:=(by rw [h3];rfl);omega);exact absurd (by rw [h3]) hx)
  | skip
 obtain hd:FxDone ⟨r.Accounts,r.Instrs,r.Bals,r.Lots,r.Trades,r.Lot⟩ n0 n1 n2 n3 n4 n5 n6 (aZ ⟨r.Accounts,r.Instrs,r.Bals,r.Lots,r.Trades,r.Lot⟩ n0 n1 n2 n3 n4 n5 n6).1 (aZ ⟨r.Accounts,r.Instrs,r.Bals,r.Lots,r.Trades,r.Lot⟩ n0 n1 n2 n3 n4 n5 n6).2.1:=by rcases hc with ⟨_,h⟩ | ⟨h1,_⟩;exact h;exact absurd (by assumption) h1
 clear hc
 have hB1:BalsOk (aZ ⟨r.Accounts,r.Instrs,r.Bals,r.Lots,r.Trades,r.Lot⟩ n0 n1 n2 n3 n4 n5 n6).1.Bals:=hd.posted.ok
 have hB2:BalsOk r.Bals:=hd.ok.bals
 have hN:BooksOk ⟨(aZ ⟨r.Accounts,r.Instrs,r.Bals,r.Lots,r.Trades,r.Lot⟩ n0 n1 n2 n3 n4 n5 n6).1.Accounts,(aZ ⟨r.Accounts,r.Instrs,r.Bals,r.Lots,r.Trades,r.Lot⟩ n0 n1 n2 n3 n4 n5 n6).1.Instrs,(aZ ⟨r.Accounts,r.Instrs,r.Bals,r.Lots,r.Trades,r.Lot⟩ n0 n1 n2 n3 n4 n5 n6).1.Bals,(aZ ⟨r.Accounts,r.Instrs,r.Bals,r.Lots,r.Trades,r.Lot⟩ n0 n1 n2 n3 n4 n5 n6).1.Lots,(aZ ⟨r.Accounts,r.Instrs,r.Bals,r.Lots,r.Trades,r.Lot⟩ n0 n1 n2 n3 n4 n5 n6).1.Trades,(aZ ⟨r.Accounts,r.Instrs,r.Bals,r.Lots,r.Trades,r.Lot⟩ n0 n1 n2 n3 n4 n5 n6).1.Lot⟩:=hd.next
 have hL:(aZ ⟨r.Accounts,r.Instrs,r.Bals,r.Lots,r.Trades,r.Lot⟩ n0 n1 n2 n3 n4 n5 n6).1.Lots = r.Lots:=by rw [hd.kr]
 have hmd:cO n4 n5 n6:=hd.md
 have hgot:=hd.kg
 have har:=hd.ar.2
 have hA:r.Accounts.length ≤ 20:=hd.ok.acc.2
 have hI:r.Instrs.length ≤ 8:=hd.ok.ins.2
 have hmd2:=hd.md
 unfold cO inP at hmd2
 unfold inP at har
 have hg0:0 ≤ n4 * n5 / n6:=Int.ediv_nonneg (Int.mul_nonneg (by omega) (by omega)) (by omega)
 refine wlp (X:=Int) [3,4,5,6,7,8,9,10,11,12] [0,1,2,3,4,5,6,7,8,9,10,11,12] (fun i => [(17,I i)]) (fun _ => []) (fun i => 0 ≤ i ∧ i ≤ r.Accounts.length) (fun i => (r.Accounts.length - i).toNat) 0 ⟨by omega,by omega⟩ rfl rfl (fun _ => rfl) (fun _ => rfl) ⟨rfl,rfl,rfl,rfl,rfl,rfl,rfl,rfl⟩ (fun i hi => ?_)
 obtain ⟨h0,h1⟩:=hi
 repeat' (first
| intro h9;exfalso;first | contradiction | omega
| (with_reducible apply yds);rfl
| (with_reducible apply yd);rfl
| intro _
| refine nv ?_
| apply wct rfl
| apply wcf rfl
| with_reducible apply ah rfl
| (with_reducible apply aj);rfl
| (with_reducible apply ycp);rfl;(first | exact lN | exact dQ);rfl
| (with_reducible apply yc);rfl;(exact b5 (by assumption));rfl;exact fun _ => rfl
| fail)
 all_goals first | exact au [0] rfl rfl rfl rfl rfl rfl | skip
 refine wlp (X:=Int) [3,4,5,6,7,8,9,10,11,12,17] [0,1,2,3,4,5,6,7,8,9,10,11,12] (fun k => [(18,I k)]) (fun _ => []) (fun k => 0 ≤ k ∧ k ≤ r.Instrs.length) (fun k => (r.Instrs.length - k).toNat) 0 ⟨by omega,by omega⟩ rfl rfl (fun _ => rfl) (fun _ => rfl) ⟨rfl,rfl,rfl,rfl,rfl,rfl,rfl,rfl⟩ (fun k hk => ?_)
 obtain ⟨k0,k1⟩:=hk
 have hb:=hd.bal (rd r.Accounts i).No (rd r.Instrs k).No
 have ha:=je hB2.amt (rd r.Accounts i).No (rd r.Instrs k).No
 unfold ai inP at ha
 unfold fxT at hb
 dsimp only at hb
 repeat' (first
| intro h9;exfalso;first | contradiction | omega
| (with_reducible apply yds);rfl
| (with_reducible apply yd);rfl
| intro _
| refine nv ?_
| apply wct rfl
| apply wcf rfl
| with_reducible apply ah rfl
| (with_reducible apply aj);rfl
| (with_reducible apply yne);rfl
| (with_reducible apply yar);rfl;omega
| (with_reducible apply vu);rfl;rfl;omega;rfl;rfl
| (with_reducible apply yix);rfl;omega
| (with_reducible apply yle);rfl;omega
| refine zdq (id:=16) rfl (by kernel_rfl) [(.p,0),(.p,2),(.p,6),(.p,8),(.t,1),(.p,3),(.p,4),(.t,5),(.p,12),(.t,7),(.p,9),(.p,10),(.t,11),(.p,13)] [] (by kernel_rfl) rfl ?_
| refine zdq (id:=26) rfl (by kernel_rfl) [(.p,0),(.p,2),(.p,3),(.p,5),(.p,7),(.p,8),(.p,10),(.t,1),(.t,6),(.o,4),(.o,9),(.p,11),(.p,12)] [] (by kernel_rfl) rfl ?_
| (with_reducible apply yc);rfl;(first | exact lG (by assumption) | exact lT (by assumption));rfl;exact fun _ => rfl
| fail)
 all_goals first
  | exact aB (k + 1) [0,1,2,3,4,5,6,7,8,9,10,11,12] ⟨rfl,rfl,rfl,rfl,rfl,rfl,rfl,rfl⟩ ⟨by omega,by omega⟩ (by first | omega | (dsimp only;omega))
  | exact aB (i + 1) [0,1,2,3,4,5,6,7,8,9,10,11,12] ⟨rfl,rfl,rfl,rfl,rfl,rfl,rfl,rfl⟩ ⟨by omega,by omega⟩ (by first | omega | (dsimp only;omega))
  | (exfalso;split at hb <;> first | omega | (split at hb <;> first | omega | (split at hb <;> first | omega | (split at hb <;> omega))))
  | skip
 all_goals trace_state
end Go.Proofs.YtgehbhkfehmdkaaGreat.Sh
