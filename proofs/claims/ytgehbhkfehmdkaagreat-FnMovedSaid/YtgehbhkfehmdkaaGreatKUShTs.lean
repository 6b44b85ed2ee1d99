/- The open trades' numbers. No condition. -/
import Derived.Test.YtgehbhkfehmdkaaGreatKUShV
import Derived.Test.YtgehbhkfehmdkaaGreatKUShSe
set_option maxRecDepth 100000
set_option maxHeartbeats 40000000
set_option linter.unusedSimpArgs false
set_option linter.unusedVariables false
namespace Go.Proofs.YtgehbhkfehmdkaaGreat.Sh
open Go.RowKit
noncomputable def tOs (l:List Trade) (fr to:Int):List Int:=(flt (fun t => t.State = 1 ∧ inP t.No fr to) l).map (fun t => t.No)
theorem B4 {l:List Trade} {i fr to:Int} (h:0 ≤ i ∧ i < l.length) (e:(rd l i).State = 1 ∧ inP (rd l i).No fr to):tOs (pf l i) fr to ++ [(rd l i).No] = tOs (pf l (i + 1)) fr to:=by
 unfold tOs
 rw [bz h,dN (p:=fun t:Trade => t.State = 1 ∧ inP t.No fr to) e,List.map_append]
 rfl
theorem B3 {l:List Trade} {i fr to:Int} (h:0 ≤ i ∧ i < l.length) (e:¬ ((rd l i).State = 1 ∧ inP (rd l i).No fr to)):tOs (pf l i) fr to = tOs (pf l (i + 1)) fr to:=by
 unfold tOs
 rw [bz h,dm (p:=fun t:Trade => t.State = 1 ∧ inP t.No fr to) e,List.append_nil]
theorem nV {ba:List Account} {bi:List Instr} {bb:List Bal} {bl:List Lot} {bt:List Trade} {bn:Int} {fr to:Int} (hok:BooksOk ⟨ba,bi,bb,bl,bt,bn⟩):FC Tryz.prog 22 [bkV 0 ⟨ba,bi,bb,bl,bt,bn⟩,I fr,I to] (bkR ⟨ba,bi,bb,bl,bt,bn⟩) (.c (.row 5 0 (tOs bt fr to).length)) (bkR ⟨ba,bi,bb,bl,bt,bn⟩ ++ [ow 3 (tOs bt fr to)]):=by
 refine ax tk 38 [.tmp 6] Tryz.func22 (by kernel_rfl) rfl rfl rfl rfl rfl rfl rfl ?_
 have hto:=hok.trades
 dsimp only at hto
 have htl:=hto.2
 repeat' (first
| apply yds;rfl
| apply yd;rfl
| intro _
| refine nv ?_
| apply wct rfl
| apply wcf rfl
| apply aH (α:=Int) (e:=3);rfl
| apply ycp;rfl;exact aM;rfl
| fail)
 all_goals first | (exfalso;contradiction) | skip
 refine wlp (X:=Int × List Int) [1,2,15,16] [0,1,2,3,4,5,6] (fun x => [(17,I x.1),(7,.c (.row 6 0 x.2.length))]) (fun x => [(6,ow 3 x.2)]) (fun x => (0 ≤ x.1 ∧ x.1 ≤ bt.length) ∧ x.2 = tOs (pf bt x.1) fr to) (fun x => (bt.length - x.1).toNat) (0,[]) ⟨by dsimp only;omega,rfl⟩ rfl rfl (fun _ => rfl) (fun _ => rfl) ⟨rfl,rfl,rfl,rfl,rfl,rfl,rfl,rfl⟩ (fun x hx => ?_)
 obtain ⟨i,u⟩:=x
 obtain ⟨h0,hu⟩:=hx
 dsimp only at h0 hu ⊢
 have hul:u.length ≤ 1000000:=by rw [hu,tOs,List.length_map];have:=cV (fun t:Trade => t.State = 1 ∧ inP t.No fr to) (pf bt i);have:=bS h0;omega
 have hy:=fun (h:i < bt.length) (e:(rd bt i).State = 1 ∧ inP (rd bt i).No fr to) => (by rw [hu,B4 ⟨h0.1,h⟩ e]:u ++ [(rd bt i).No] = tOs (pf bt (i + 1)) fr to)
 have hn:=fun (h:i < bt.length) (e:¬ ((rd bt i).State = 1 ∧ inP (rd bt i).No fr to)) => (by rw [hu,B3 ⟨h0.1,h⟩ e]:u = tOs (pf bt (i + 1)) fr to)
 repeat' (first
| apply yds;rfl
| apply yd;rfl
| intro _
| refine nv ?_
| apply wct rfl
| apply wcf rfl
| apply ah rfl
| apply ai;rfl
| apply yar;rfl;omega
| apply yix;rfl;omega
| apply yle;rfl;omega
| apply aH (α:=Int) (e:=3);rfl
| apply yap;rfl;(((try simp only [lE,lM]);(try dsimp only);omega))
| apply ycp;rfl;exact bm;rfl
| fail)
 all_goals first
  | exact aB (i + 1,u ++ [(rd bt i).No]) [0,1,2,3,4,5,9] ⟨rfl,rfl,rfl,rfl,rfl,rfl,rfl,rfl⟩ ⟨by dsimp only;omega,hy (by assumption) ⟨by assumption,by assumption⟩⟩ (by first | omega | (dsimp only;omega))
  | exact aB (i + 1,u ++ [(rd bt i).No]) [0,1,2,3,4,5,7] ⟨rfl,rfl,rfl,rfl,rfl,rfl,rfl,rfl⟩ ⟨by dsimp only;omega,hy (by assumption) ⟨by assumption,by assumption⟩⟩ (by first | omega | (dsimp only;omega))
  | exact aB (i + 1,u) [0,1,2,3,4,5,6] ⟨rfl,rfl,rfl,rfl,rfl,rfl,rfl,rfl⟩ ⟨by dsimp only;omega,hn (by assumption) (fun e => by first | exact absurd e.1 (by assumption) | exact absurd e.2 (by assumption))⟩ (by first | omega | (dsimp only;omega))
  | (exfalso;contradiction)
  | (rename_i h
     rw [b6 (by assumption)] at hu
     subst hu
     exact ak [0,1,2,3,4,6] rfl rfl rfl rfl rfl rfl)
  | trace_state
theorem jH {ba:List Account} {bi:List Instr} {bb:List Bal} {bl:List Lot} {bt:List Trade} {bn:Int} {fr to:Int} (hok:BooksOk ⟨ba,bi,bb,bl,bt,bn⟩):FC Tryz.prog 101 [bkV 0 ⟨ba,bi,bb,bl,bt,bn⟩,I fr,I to] (bkR ⟨ba,bi,bb,bl,bt,bn⟩) (.c (.row 5 0 (tOs bt fr to).length)) (bkR ⟨ba,bi,bb,bl,bt,bn⟩ ++ [ow 3 (tOs bt fr to)]):=by
 refine ax tk 43 [.tmp 6] Tryz.func101 (by kernel_rfl) rfl rfl rfl rfl rfl rfl rfl ?_
 have hto:=hok.trades
 dsimp only at hto
 have htl:=hto.2
 repeat' (first
| apply yds;rfl
| apply yd;rfl
| refine nv ?_
| apply aH (α:=Int) (e:=3);rfl
| fail)
 all_goals skip
 refine wlp (X:=Int × List Int) [1,2,3] [0,1,2,3,4,5,6] (fun x => [(8,I x.1),(7,.c (.row 6 0 x.2.length))]) (fun x => [(6,ow 3 x.2)]) (fun x => (0 ≤ x.1 ∧ x.1 ≤ bt.length) ∧ x.2 = tOs (pf bt x.1) fr to) (fun x => (bt.length - x.1).toNat) (0,[]) ⟨by dsimp only;omega,rfl⟩ rfl rfl (fun _ => rfl) (fun _ => rfl) ⟨rfl,rfl,rfl,rfl,rfl,rfl,rfl,rfl⟩ (fun x hx => ?_)
 obtain ⟨i,u⟩:=x
 obtain ⟨h0,hu⟩:=hx
 dsimp only at h0 hu ⊢
 have hul:u.length ≤ 1000000:=by rw [hu,tOs,List.length_map];have:=cV (fun t:Trade => t.State = 1 ∧ inP t.No fr to) (pf bt i);have:=bS h0;omega
 have hy:=fun (h:i < bt.length) (e:(rd bt i).State = 1 ∧ inP (rd bt i).No fr to) => (by rw [hu,B4 ⟨h0.1,h⟩ e]:u ++ [(rd bt i).No] = tOs (pf bt (i + 1)) fr to)
 have hn:=fun (h:i < bt.length) (e:¬ ((rd bt i).State = 1 ∧ inP (rd bt i).No fr to)) => (by rw [hu,B3 ⟨h0.1,h⟩ e]:u = tOs (pf bt (i + 1)) fr to)
 repeat' (first
| apply yds;rfl
| apply yd;rfl
| intro _
| refine nv ?_
| apply wct rfl
| apply wcf rfl
| apply ah rfl
| apply ai;rfl
| apply yar;rfl;omega
| apply yix;rfl;omega
| apply yle;rfl;omega
| apply aH (α:=Int) (e:=3);rfl
| apply yap;rfl;(((try simp only [lE,lM]);(try dsimp only);omega))
| apply ycp;rfl;(first | exact ap | exact aO);rfl
| fail)
 all_goals first
  | exact aB (i + 1,u ++ [(rd bt i).No]) [0,1,2,3,4,5,9] ⟨rfl,rfl,rfl,rfl,rfl,rfl,rfl,rfl⟩ ⟨by dsimp only;omega,hy (by assumption) ⟨by assumption,by assumption⟩⟩ (by first | omega | (dsimp only;omega))
  | exact aB (i + 1,u ++ [(rd bt i).No]) [0,1,2,3,4,5,7] ⟨rfl,rfl,rfl,rfl,rfl,rfl,rfl,rfl⟩ ⟨by dsimp only;omega,hy (by assumption) ⟨by assumption,by assumption⟩⟩ (by first | omega | (dsimp only;omega))
  | exact aB (i + 1,u) [0,1,2,3,4,5,6] ⟨rfl,rfl,rfl,rfl,rfl,rfl,rfl,rfl⟩ ⟨by dsimp only;omega,hn (by assumption) (fun e => by first | exact absurd e.1 (by assumption) | exact absurd e.2 (by assumption))⟩ (by first | omega | (dsimp only;omega))
  | (exfalso;contradiction)
  | (rename_i h
     rw [b6 (by assumption)] at hu
     subst hu
     exact ak [0,1,2,3,4,6] rfl rfl rfl rfl rfl rfl)
  | trace_state
end Go.Proofs.YtgehbhkfehmdkaaGreat.Sh
