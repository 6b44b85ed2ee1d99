/- slices.Equal at the program's things. No condition. -/
import Derived.Test.YtgehbhkfehmdkaaGreatKFxShV
import Derived.Test.YtgehbhkfehmdkaaGreatKFxShLo
import Derived.Test.YtgehbhkfehmdkaaGreatKFxShM
import Derived.Test.YtgehbhkfehmdkaaGreatKFxShPa
set_option maxRecDepth 100000
set_option maxHeartbeats 40000000
set_option linter.unusedSimpArgs false
set_option linter.unusedVariables false
namespace Go.Proofs.YtgehbhkfehmdkaaGreat.Sh
section
open Go.RowKit
theorem gA {l m:List Account}:FC Tryz.prog 104 [.c (.row 0 0 l.length),.c (.row 1 0 m.length)] ([ro 42 l,ro 42 m]) (B (dB (l = m))) ([ro 42 l,ro 42 m]):=by
 refine ay tk 26 [.tmp 4] Tryz.func104 (by kernel_rfl) rfl rfl rfl rfl rfl rfl rfl ?_
 refine cw l 0 rfl (fun hl => ?_)
 repeat' (first
| apply yds;rfl
| apply yd;rfl
| intro _
| refine nv ?_
| apply wct rfl
| apply wcf rfl
| apply yne;rfl
| fail)
 ·rename_i hne
  exact aV [0,1] rfl rfl rfl rfl rfl rfl (fun e => hne (by rw [e]))
 ·rename_i hlen
  refine lx (X:=Int) (fun i => 0 ≤ i ∧ i ≤ l.length ∧ ∀ j:Int,0 ≤ j → j < i → rd l j = rd m j) (fun i => ⟨26,2,[(0,.c (.row 0 0 l.length)),(1,.c (.row 1 0 m.length)),(12,I l.length),(13,I i)],[ro 42 l,ro 42 m]⟩) (fun i => (l.length - i).toNat) 0 [0,1] ⟨by omega,by omega,fun j h0 h1 => by omega⟩ ⟨rfl,rfl,rfl,rfl,rfl,rfl,rfl,rfl⟩ (fun i hi => ?_)
  obtain ⟨h0,hi,hall⟩:=hi
  repeat' (first
| apply yds;rfl
| apply yd;rfl
| apply zsn;exact nK;rfl;rfl;rfl;rfl;rfl
| intro _
| refine nv ?_
| apply wct rfl
| apply wcf rfl
| apply ah rfl
| apply aj;rfl
| apply yar;rfl;omega
| apply yix;rfl;omega
| apply yle;rfl;omega
| refine zdq (id:=6) rfl (by kernel_rfl) [(.p,0),(.p,1),(.p,2),(.p,4),(.p,5),(.p,6),(.t,3),(.t,7),(.p,8)] [] (by kernel_rfl) rfl ?_
| fail)
  all_goals first
   | exact bG [0,1] rfl rfl rfl rfl rfl rfl (gm (by omega) (fun j h1 h2 => hall j h1 (by omega)))
   | exact aV [0,1] rfl rfl rfl rfl rfl rfl (fun e => by subst e;simp_all)
   | exact ⟨i + 1,[0,1],⟨by omega,by omega,ax hall (by assumption)⟩,by dsimp only;omega,rfl,rfl,rfl,rfl,rfl,rfl,rfl,rfl⟩
theorem ix {l m:List Instr}:FC Tryz.prog 105 [.c (.row 0 0 l.length),.c (.row 1 0 m.length)] ([ro 74 l,ro 74 m]) (B (dB (l = m))) ([ro 74 l,ro 74 m]):=by
 refine ay tk 26 [.tmp 4] Tryz.func105 (by kernel_rfl) rfl rfl rfl rfl rfl rfl rfl ?_
 refine cw l 0 rfl (fun hl => ?_)
 repeat' (first
| apply yds;rfl
| apply yd;rfl
| intro _
| refine nv ?_
| apply wct rfl
| apply wcf rfl
| apply yne;rfl
| fail)
 ·rename_i hne
  exact aV [0,1] rfl rfl rfl rfl rfl rfl (fun e => hne (by rw [e]))
 ·rename_i hlen
  refine lx (X:=Int) (fun i => 0 ≤ i ∧ i ≤ l.length ∧ ∀ j:Int,0 ≤ j → j < i → rd l j = rd m j) (fun i => ⟨26,2,[(0,.c (.row 0 0 l.length)),(1,.c (.row 1 0 m.length)),(12,I l.length),(13,I i)],[ro 74 l,ro 74 m]⟩) (fun i => (l.length - i).toNat) 0 [0,1] ⟨by omega,by omega,fun j h0 h1 => by omega⟩ ⟨rfl,rfl,rfl,rfl,rfl,rfl,rfl,rfl⟩ (fun i hi => ?_)
  obtain ⟨h0,hi,hall⟩:=hi
  repeat' (first
| apply yds;rfl
| apply yd;rfl
| apply zsn;exact s4;rfl;rfl;rfl;rfl;rfl
| intro _
| refine nv ?_
| apply wct rfl
| apply wcf rfl
| apply ah rfl
| apply aj;rfl
| apply yar;rfl;omega
| apply yix;rfl;omega
| apply yle;rfl;omega
| refine zdq (id:=6) rfl (by kernel_rfl) [(.p,0),(.p,1),(.p,2),(.p,4),(.p,5),(.p,6),(.t,3),(.t,7),(.p,8)] [] (by kernel_rfl) rfl ?_
| fail)
  all_goals first
   | exact bG [0,1] rfl rfl rfl rfl rfl rfl (gm (by omega) (fun j h1 h2 => hall j h1 (by omega)))
   | exact aV [0,1] rfl rfl rfl rfl rfl rfl (fun e => by subst e;simp_all)
   | exact ⟨i + 1,[0,1],⟨by omega,by omega,ax hall (by assumption)⟩,by dsimp only;omega,rfl,rfl,rfl,rfl,rfl,rfl,rfl,rfl⟩
theorem ju {l m:List Bal}:FC Tryz.prog 106 [.c (.row 0 0 l.length),.c (.row 1 0 m.length)] ([ro 135 l,ro 135 m]) (B (dB (l = m))) ([ro 135 l,ro 135 m]):=by
 refine ay tk 26 [.tmp 4] Tryz.func106 (by kernel_rfl) rfl rfl rfl rfl rfl rfl rfl ?_
 refine cw l 0 rfl (fun hl => ?_)
 repeat' (first
| apply yds;rfl
| apply yd;rfl
| intro _
| refine nv ?_
| apply wct rfl
| apply wcf rfl
| apply yne;rfl
| fail)
 ·rename_i hne
  exact aV [0,1] rfl rfl rfl rfl rfl rfl (fun e => hne (by rw [e]))
 ·rename_i hlen
  refine lx (X:=Int) (fun i => 0 ≤ i ∧ i ≤ l.length ∧ ∀ j:Int,0 ≤ j → j < i → rd l j = rd m j) (fun i => ⟨26,2,[(0,.c (.row 0 0 l.length)),(1,.c (.row 1 0 m.length)),(12,I l.length),(13,I i)],[ro 135 l,ro 135 m]⟩) (fun i => (l.length - i).toNat) 0 [0,1] ⟨by omega,by omega,fun j h0 h1 => by omega⟩ ⟨rfl,rfl,rfl,rfl,rfl,rfl,rfl,rfl⟩ (fun i hi => ?_)
  obtain ⟨h0,hi,hall⟩:=hi
  repeat' (first
| apply yds;rfl
| apply yd;rfl
| apply zsn;exact vz;rfl;rfl;rfl;rfl;rfl
| intro _
| refine nv ?_
| apply wct rfl
| apply wcf rfl
| apply ah rfl
| apply aj;rfl
| apply yar;rfl;omega
| apply yix;rfl;omega
| apply yle;rfl;omega
| refine zdq (id:=6) rfl (by kernel_rfl) [(.p,0),(.p,1),(.p,2),(.p,4),(.p,5),(.p,6),(.t,3),(.t,7),(.p,8)] [] (by kernel_rfl) rfl ?_
| fail)
  all_goals first
   | exact bG [0,1] rfl rfl rfl rfl rfl rfl (gm (by omega) (fun j h1 h2 => hall j h1 (by omega)))
   | exact aV [0,1] rfl rfl rfl rfl rfl rfl (fun e => by subst e;simp_all)
   | exact ⟨i + 1,[0,1],⟨by omega,by omega,ax hall (by assumption)⟩,by dsimp only;omega,rfl,rfl,rfl,rfl,rfl,rfl,rfl,rfl⟩
theorem jv {l m:List Lot}:FC Tryz.prog 107 [.c (.row 0 0 l.length),.c (.row 1 0 m.length)] ([ro 137 l,ro 137 m]) (B (dB (l = m))) ([ro 137 l,ro 137 m]):=by
 refine ay tk 26 [.tmp 4] Tryz.func107 (by kernel_rfl) rfl rfl rfl rfl rfl rfl rfl ?_
 refine cw l 0 rfl (fun hl => ?_)
 repeat' (first
| apply yds;rfl
| apply yd;rfl
| intro _
| refine nv ?_
| apply wct rfl
| apply wcf rfl
| apply yne;rfl
| fail)
 ·rename_i hne
  exact aV [0,1] rfl rfl rfl rfl rfl rfl (fun e => hne (by rw [e]))
 ·rename_i hlen
  refine lx (X:=Int) (fun i => 0 ≤ i ∧ i ≤ l.length ∧ ∀ j:Int,0 ≤ j → j < i → rd l j = rd m j) (fun i => ⟨26,2,[(0,.c (.row 0 0 l.length)),(1,.c (.row 1 0 m.length)),(12,I l.length),(13,I i)],[ro 137 l,ro 137 m]⟩) (fun i => (l.length - i).toNat) 0 [0,1] ⟨by omega,by omega,fun j h0 h1 => by omega⟩ ⟨rfl,rfl,rfl,rfl,rfl,rfl,rfl,rfl⟩ (fun i hi => ?_)
  obtain ⟨h0,hi,hall⟩:=hi
  repeat' (first
| apply yds;rfl
| apply yd;rfl
| apply zsn;exact qN;rfl;rfl;rfl;rfl;rfl
| intro _
| refine nv ?_
| apply wct rfl
| apply wcf rfl
| apply ah rfl
| apply aj;rfl
| apply yar;rfl;omega
| apply yix;rfl;omega
| apply yle;rfl;omega
| refine zdq (id:=6) rfl (by kernel_rfl) [(.p,0),(.p,1),(.p,2),(.p,4),(.p,5),(.p,6),(.t,3),(.t,7),(.p,8)] [] (by kernel_rfl) rfl ?_
| fail)
  all_goals first
   | exact bG [0,1] rfl rfl rfl rfl rfl rfl (gm (by omega) (fun j h1 h2 => hall j h1 (by omega)))
   | exact aV [0,1] rfl rfl rfl rfl rfl rfl (fun e => by subst e;simp_all)
   | exact ⟨i + 1,[0,1],⟨by omega,by omega,ax hall (by assumption)⟩,by dsimp only;omega,rfl,rfl,rfl,rfl,rfl,rfl,rfl,rfl⟩
theorem iy {l m:List Trade}:FC Tryz.prog 108 [.c (.row 0 0 l.length),.c (.row 1 0 m.length)] ([ro 103 l,ro 103 m]) (B (dB (l = m))) ([ro 103 l,ro 103 m]):=by
 refine ay tk 26 [.tmp 4] Tryz.func108 (by kernel_rfl) rfl rfl rfl rfl rfl rfl rfl ?_
 refine cw l 0 rfl (fun hl => ?_)
 repeat' (first
| apply yds;rfl
| apply yd;rfl
| intro _
| refine nv ?_
| apply wct rfl
| apply wcf rfl
| apply yne;rfl
| fail)
 ·rename_i hne
  exact aV [0,1] rfl rfl rfl rfl rfl rfl (fun e => hne (by rw [e]))
 ·rename_i hlen
  refine lx (X:=Int) (fun i => 0 ≤ i ∧ i ≤ l.length ∧ ∀ j:Int,0 ≤ j → j < i → rd l j = rd m j) (fun i => ⟨26,2,[(0,.c (.row 0 0 l.length)),(1,.c (.row 1 0 m.length)),(12,I l.length),(13,I i)],[ro 103 l,ro 103 m]⟩) (fun i => (l.length - i).toNat) 0 [0,1] ⟨by omega,by omega,fun j h0 h1 => by omega⟩ ⟨rfl,rfl,rfl,rfl,rfl,rfl,rfl,rfl⟩ (fun i hi => ?_)
  obtain ⟨h0,hi,hall⟩:=hi
  repeat' (first
| apply yds;rfl
| apply yd;rfl
| apply zsn;exact s5;rfl;rfl;rfl;rfl;rfl
| intro _
| refine nv ?_
| apply wct rfl
| apply wcf rfl
| apply ah rfl
| apply aj;rfl
| apply yar;rfl;omega
| apply yix;rfl;omega
| apply yle;rfl;omega
| refine zdq (id:=6) rfl (by kernel_rfl) [(.p,0),(.p,1),(.p,2),(.p,4),(.p,5),(.p,6),(.t,3),(.t,7),(.p,8)] [] (by kernel_rfl) rfl ?_
| fail)
  all_goals first
   | exact bG [0,1] rfl rfl rfl rfl rfl rfl (gm (by omega) (fun j h1 h2 => hall j h1 (by omega)))
   | exact aV [0,1] rfl rfl rfl rfl rfl rfl (fun e => by subst e;simp_all)
   | exact ⟨i + 1,[0,1],⟨by omega,by omega,ax hall (by assumption)⟩,by dsimp only;omega,rfl,rfl,rfl,rfl,rfl,rfl,rfl,rfl⟩
end
section
open Go.RowKit
theorem uv {cb:List By}:FC Tryz.prog 17 [.c (.row 0 0 cb.length)] ([ro 5 cb]) (B (dB ((cb.length:Int) > 1048576))) ([ro 5 cb]):=by
 refine ay tk 6 [.tmp 2] Tryz.func17 (by kernel_rfl) rfl rfl rfl rfl rfl rfl rfl ?_
 repeat' (first
| apply yds;rfl
| apply yd;rfl
| intro _
| refine nv ?_
| apply aj;rfl
| fail)
 all_goals first | exact bG [0] rfl rfl rfl rfl rfl rfl (by assumption) | exact aV [0] rfl rfl rfl rfl rfl rfl (by assumption)
theorem lN {l m:List Lot}:FC Tryz.prog 57 [.c (.row 0 0 l.length),.c (.row 1 0 m.length)] ([ro 137 l,ro 137 m]) (B (dB (l = m))) ([ro 137 l,ro 137 m]):=by
 refine ay tk 26 [.tmp 4] Tryz.func57 (by kernel_rfl) rfl rfl rfl rfl rfl rfl rfl ?_
 refine cw l 0 rfl (fun hl => ?_)
 repeat' (first
| apply yds;rfl
| apply yd;rfl
| intro _
| refine nv ?_
| apply wct rfl
| apply wcf rfl
| apply yne;rfl
| fail)
 all_goals first | exact aV [0,1] rfl rfl rfl rfl rfl rfl (fun e => by subst e;contradiction) | skip
 refine wlp (X:=Int) [0,1] [0,1] (fun i => [(5,I i)]) (fun _ => []) (fun i => 0 ≤ i ∧ i ≤ l.length ∧ ∀ j:Int,0 ≤ j → j < i → rd l j = rd m j) (fun i => (l.length - i).toNat) 0 ⟨by omega,by omega,fun j h0 h1 => by omega⟩ rfl rfl (fun _ => rfl) (fun _ => rfl) ⟨rfl,rfl,rfl,rfl,rfl,rfl,rfl,rfl⟩ (fun i hi => ?_)
 obtain ⟨h0,h1,hall⟩:=hi
 repeat' (first
| apply yds;rfl
| apply yd;rfl
| apply zsn;exact qN;rfl;rfl;rfl;rfl;rfl
| intro _
| refine nv ?_
| apply wct rfl
| apply wcf rfl
| apply ah rfl
| apply aj;rfl
| apply yar;rfl;omega
| apply yix;rfl;omega
| apply yle;rfl;omega
| refine zdq (id:=6) rfl (by kernel_rfl) [(.p,0),(.p,1),(.p,2),(.p,4),(.p,5),(.p,6),(.t,3),(.t,7),(.p,8)] [] (by kernel_rfl) rfl ?_
| fail)
 all_goals first
  | exact aV [0,1] rfl rfl rfl rfl rfl rfl (fun e => by subst e;contradiction)
  | exact aB (i + 1) [0,1] ⟨rfl,rfl,rfl,rfl,rfl,rfl,rfl,rfl⟩ ⟨by omega,by omega,ax hall (by assumption)⟩ (by first | omega | (dsimp only;omega))
  | exact bG [0,1] rfl rfl rfl rfl rfl rfl (gm (by omega) (fun j h2 h3 => hall j h2 (by omega)))
  | trace_state
theorem lG {l:List Bal} {a c:Int} (hb:BalsOk l):FC Tryz.prog 34 [.c (.row 0 0 l.length),I a,I c] ([ro 135 l]) (I (aK l a c)) ([ro 135 l]):=by
 refine ay tk 14 [.tmp 6] Tryz.func34 (by kernel_rfl) rfl rfl rfl rfl rfl rfl rfl ?_
 have hs:=hb.sd
 repeat' (first
| intro h9;exfalso;contradiction
| apply yds;rfl
| apply yd;rfl
| intro _
| refine nv ?_
| apply wcf rfl
| apply ycp;rfl;exact dG;rfl
| apply yc;rfl;exact fx (by assumption);rfl;exact fun _ => rfl
| fail)
 all_goals exact au [0] rfl rfl rfl rfl rfl rfl
theorem lT {l:List Bal} {a c:Int} (hb:BalsOk l):FC Tryz.prog 53 [.c (.row 0 0 l.length),I a,I c] ([ro 135 l]) (I (aK l a c)) ([ro 135 l]):=by
 refine ay tk 14 [.tmp 6] Tryz.func53 (by kernel_rfl) rfl rfl rfl rfl rfl rfl rfl ?_
 have hs:=hb.sd
 repeat' (first
| intro h9;exfalso;contradiction
| apply yds;rfl
| apply yd;rfl
| intro _
| refine nv ?_
| apply wcf rfl
| apply ycp;rfl;exact cx;rfl
| apply yc;rfl;exact dz;rfl;exact fun _ => rfl
| fail)
 all_goals exact au [0] rfl rfl rfl rfl rfl rfl
end
section
open Go.RowKit
theorem kR {ca:List Account} {ci:List Instr} {cb:List Bal} {cl:List Lot} {ct:List Trade} {cn:Int} {ba:List Account} {bi:List Instr} {bb:List Bal} {bl:List Lot} {bt:List Trade} {bn:Int}:FC Tryz.prog 21 [bkV 0 ⟨ba,bi,bb,bl,bt,bn⟩,bkV 5 ⟨ca,ci,cb,cl,ct,cn⟩] (bkR ⟨ba,bi,bb,bl,bt,bn⟩ ++ bkR ⟨ca,ci,cb,cl,ct,cn⟩) (B (dB ((⟨ba,bi,bb,bl,bt,bn⟩:Books) = ⟨ca,ci,cb,cl,ct,cn⟩))) (bkR ⟨ba,bi,bb,bl,bt,bn⟩ ++ bkR ⟨ca,ci,cb,cl,ct,cn⟩):=by
 refine ay tk 45 [.tmp 4] Tryz.func21 (by kernel_rfl) rfl rfl rfl rfl rfl rfl rfl ?_
 repeat' (first
| apply yds;rfl
| intro _
| refine nv ?_
| apply yeq;rfl
| apply ycp;rfl;(first | exact gA | exact ix | exact ju | exact jv | exact iy);rfl
| fail)
 all_goals first | exact bG [0,1,2,3,4,5,6,7,8,9] rfl rfl rfl rfl rfl rfl (by simp_all) | exact aV [0,1,2,3,4,5,6,7,8,9] rfl rfl rfl rfl rfl rfl (by simp_all)
end
end Go.Proofs.YtgehbhkfehmdkaaGreat.Sh
