/- What is right: numbers, lists. No condition. -/
import Derived.Test.YtgehbhkfehmdkaaGreatKFxShV
import Derived.Test.YtgehbhkfehmdkaaGreatKFxShM
import Derived.Test.YtgehbhkfehmdkaaGreatKFxShU
set_option maxRecDepth 100000
set_option maxHeartbeats 40000000
set_option linter.unusedSimpArgs false
set_option linter.unusedVariables false
namespace Go.Proofs.YtgehbhkfehmdkaaGreat.Sh
section
open Go.RowKit
def inP (x lo hi:Int):Prop:=lo ≤ x ∧ x ≤ hi
theorem d5 {x lo hi:Int}:FC Tryz.prog 95 [I x,I lo,I hi] ([]) (B (dB (inP x lo hi))) ([]):=by
 refine ay tk 15 [.tmp 6] Tryz.func95 (by kernel_rfl) rfl rfl rfl rfl rfl rfl rfl ?_
 repeat' (first
| apply yds;rfl
| apply yd;rfl
| intro _
| refine nv ?_
| apply aj;rfl
| fail)
 all_goals first | exact bG [] rfl rfl rfl rfl rfl rfl (by unfold inP;omega) | exact aV [] rfl rfl rfl rfl rfl rfl (by unfold inP;omega)
theorem aF {x lo hi:Int}:FC Tryz.prog 100 [I x,I lo,I hi] ([]) (B (dB (inP x lo hi))) ([]):=by
 refine ay tk 15 [.tmp 6] Tryz.func100 (by kernel_rfl) rfl rfl rfl rfl rfl rfl rfl ?_
 repeat' (first
| apply yds;rfl
| apply yd;rfl
| intro _
| refine nv ?_
| apply aj;rfl
| fail)
 all_goals first | exact bG [] rfl rfl rfl rfl rfl rfl (by unfold inP;omega) | exact aV [] rfl rfl rfl rfl rfl rfl (by unfold inP;omega)
def ag (x:Int):Prop:=inP x 1 1000
theorem dx {x:Int}:FC Tryz.prog 109 [I x] ([]) (B (dB (ag x))) ([]):=by
 refine ay tk 5 [.tmp 2] Tryz.func109 (by kernel_rfl) rfl rfl rfl rfl rfl rfl rfl ?_
 repeat' (first
| apply yd;rfl
| intro _
| refine nv ?_
| apply ycp;rfl;exact d5;rfl
| fail)
 all_goals first | exact bG [] rfl rfl rfl rfl rfl rfl (by assumption) | exact aV [] rfl rfl rfl rfl rfl rfl (by assumption)
theorem aG {x:Int}:FC Tryz.prog 99 [I x] ([]) (B (dB (ag x))) ([]):=by
 refine ay tk 5 [.tmp 2] Tryz.func99 (by kernel_rfl) rfl rfl rfl rfl rfl rfl rfl ?_
 repeat' (first
| apply yd;rfl
| intro _
| refine nv ?_
| apply ycp;rfl;exact aF;rfl
| fail)
 all_goals first | exact bG [] rfl rfl rfl rfl rfl rfl (by assumption) | exact aV [] rfl rfl rfl rfl rfl rfl (by assumption)
def ai (x:Int):Prop:=inP x (-1000000000000000) 1000000000000000
theorem dC {x:Int}:FC Tryz.prog 97 [I x] ([]) (B (dB (ai x))) ([]):=by
 refine ay tk 5 [.tmp 2] Tryz.func97 (by kernel_rfl) rfl rfl rfl rfl rfl rfl rfl ?_
 repeat' (first
| apply yd;rfl
| intro _
| refine nv ?_
| apply ycp;rfl;exact d5;rfl
| fail)
 all_goals first | exact bG [] rfl rfl rfl rfl rfl rfl (by assumption) | exact aV [] rfl rfl rfl rfl rfl rfl (by assumption)
theorem bz {x:Int}:FC Tryz.prog 103 [I x] ([]) (B (dB (ai x))) ([]):=by
 refine ay tk 5 [.tmp 2] Tryz.func103 (by kernel_rfl) rfl rfl rfl rfl rfl rfl rfl ?_
 repeat' (first
| apply yd;rfl
| intro _
| refine nv ?_
| apply ycp;rfl;exact aF;rfl
| fail)
 all_goals first | exact bG [] rfl rfl rfl rfl rfl rfl (by assumption) | exact aV [] rfl rfl rfl rfl rfl rfl (by assumption)
theorem aA {x lo:Int}:FC Tryz.prog 140 [I x,I lo] ([]) (B (dB (inP x lo 1000000000000000))) ([]):=by
 refine ay tk 8 [.tmp 4] Tryz.func140 (by kernel_rfl) rfl rfl rfl rfl rfl rfl rfl ?_
 repeat' (first
| apply yds;rfl
| apply yd;rfl
| intro _
| refine nv ?_
| apply ycp;rfl;exact aF;rfl
| fail)
 all_goals first | exact bG [] rfl rfl rfl rfl rfl rfl (by assumption) | exact aV [] rfl rfl rfl rfl rfl rfl (by assumption)
def bef (a b c d:Int):Prop:=a < c ∨ a = c ∧ b < d
noncomputable def gc (a b c d:Int):Int:=pick (bef a b c d) (-1) (pick (a = c ∧ b = d) 0 1)
theorem byBoth_lt {a b c d:Int}:gc a b c d < 0 ↔ bef a b c d:=by
 unfold gc
 by_cases h:bef a b c d
 ·rw [aJ h];simp [h]
 ·rw [aD h]
  by_cases h2:a = c ∧ b = d
  ·rw [aJ h2];simp [h]
  ·rw [aD h2];simp [h]
theorem gn {a b c d:Int}:FC Tryz.prog 227 [I a,I b,I c,I d] ([]) (I (gc a b c d)) ([]):=by
 refine ay tk 32 [.tmp 8] Tryz.func227 (by kernel_rfl) rfl rfl rfl rfl rfl rfl rfl ?_
 repeat' (first
| apply yds;rfl
| apply yd;rfl
| intro _
| refine nv ?_
| apply wct rfl
| apply wcf rfl
| apply aj;rfl
| fail)
 all_goals exact cW [] rfl rfl rfl rfl rfl rfl (by
  unfold gc
  first
  | exact aJ (by unfold bef;omega)
  | (rw [aD (by unfold bef;omega)];first | exact aJ (by omega) | exact aD (by omega)))
theorem eW {a b c d:Int}:FC Tryz.prog 263 [I a,I b,I c,I d] ([]) (B (dB (bef a b c d))) ([]):=by
 refine ay tk 22 [.tmp 8] Tryz.func263 (by kernel_rfl) rfl rfl rfl rfl rfl rfl rfl ?_
 repeat' (first
| apply yds;rfl
| apply yd;rfl
| intro _
| refine nv ?_
| apply aj;rfl
| fail)
 all_goals first | exact bG [] rfl rfl rfl rfl rfl rfl (by unfold bef;omega) | exact aV [] rfl rfl rfl rfl rfl rfl (by unfold bef;omega)
def qM (l:List Account) (i:Int):Prop:=ag (rd l i).No ∧ inP (rd l i).Kind 1 4 ∧ (0 < i → (rd l (i - 1)).No < (rd l i).No)
def aO (l:List Account):Prop:=(∀ i:Int,0 ≤ i → i < l.length → qM l i) ∧ l.length ≤ 20
theorem jP {l:List Account}:FC Tryz.prog 145 [.c (.row 0 0 l.length)] ([ro 42 l]) (B (dB (aO l))) ([ro 42 l]):=by
 refine ay tk 41 [.tmp 2] Tryz.func145 (by kernel_rfl) rfl rfl rfl rfl rfl rfl rfl ?_
 refine cw l 0 rfl (fun hl => ?_)
 repeat' (first
| apply yds;rfl
| apply yd;rfl
| refine nv ?_
| fail)
 all_goals skip
 refine wlp (X:=Int) [0,5,6] [0] (fun i => [(7,I i)]) (fun _ => []) (fun i => 0 ≤ i ∧ i ≤ l.length ∧ ∀ j,0 ≤ j → j < i → qM l j) (fun i => (l.length - i).toNat) 0 ⟨by omega,by omega,fun j h0 h1 => by omega⟩ rfl rfl (fun _ => rfl) (fun _ => rfl) ⟨rfl,rfl,rfl,rfl,rfl,rfl,rfl,rfl⟩ (fun i hi => ?_)
 obtain ⟨h0,hi,hall⟩:=hi
 repeat' (first
| apply yds;rfl
| apply yd;rfl
| intro _
| refine nv ?_
| apply wct rfl
| apply wcf rfl
| apply ah rfl
| apply aj;rfl
| apply yar;rfl;omega
| apply yix;rfl;omega
| apply yle;rfl;omega
| refine zdq (id:=4) rfl (by kernel_rfl) [(.p,0),(.t,1),(.o,2),(.p,3),(.p,4),(.p,5),(.t,6),(.o,7),(.p,8),(.p,9),(.p,10),(.p,11),(.p,12),(.p,13),(.p,14),(.p,15),(.p,16),(.p,17),(.p,18),(.p,20),(.t,19),(.t,21),(.p,22),(.p,23),(.p,24)] [] (by kernel_rfl) rfl ?_
| apply ycp;rfl;(first | exact dx | exact d5);rfl
| fail)
 all_goals first
  | exact bG [0] rfl rfl rfl rfl rfl rfl ⟨fun j h0 h1 => hall j h0 (by omega),by omega⟩
  | exact aV [0] rfl rfl rfl rfl rfl rfl (fun h => by
     first
     | exact absurd h.2 (by omega)
     | (obtain ⟨g0,g1,g2⟩:=h.1 i (by omega) (by omega)
        first | contradiction | omega))
  | exact aB (i + 1) [0] ⟨rfl,rfl,rfl,rfl,rfl,rfl,rfl,rfl⟩ ⟨by omega,by omega,ax hall ⟨by first | assumption | omega,by first | assumption | omega,fun _ => by first | assumption | omega | exact byBoth_lt.1 (by omega)⟩⟩ (by first | omega | (dsimp only;omega))
theorem bP {l:List Account}:FC Tryz.prog 219 [.c (.row 0 0 l.length)] ([ro 42 l]) (B (dB (aO l))) ([ro 42 l]):=by
 refine ay tk 47 [.tmp 2] Tryz.func219 (by kernel_rfl) rfl rfl rfl rfl rfl rfl rfl ?_
 refine cw l 0 rfl (fun hl => ?_)
 repeat' (first
| apply yds;rfl
| apply yd;rfl
| intro _
| refine nv ?_
| apply wct rfl
| apply wcf rfl
| apply aj;rfl
| fail)
 all_goals first | exact aV [0] rfl rfl rfl rfl rfl rfl (fun h => absurd h.2 (by omega)) | skip
 refine wlp (X:=Int) [0] [0] (fun i => [(3,I i)]) (fun _ => []) (fun i => 0 ≤ i ∧ i ≤ l.length ∧ ∀ j,0 ≤ j → j < i → qM l j) (fun i => (l.length - i).toNat) 0 ⟨by omega,by omega,fun j h0 h1 => by omega⟩ rfl rfl (fun _ => rfl) (fun _ => rfl) ⟨rfl,rfl,rfl,rfl,rfl,rfl,rfl,rfl⟩ (fun i hi => ?_)
 obtain ⟨h0,hi,hall⟩:=hi
 repeat' (first
| apply yds;rfl
| apply yd;rfl
| intro _
| refine nv ?_
| apply wct rfl
| apply wcf rfl
| apply ah rfl
| apply aj;rfl
| apply yar;rfl;omega
| apply yix;rfl;omega
| apply yle;rfl;omega
| refine zdq (id:=6) rfl (by kernel_rfl) [(.p,0),(.p,1),(.p,2),(.p,3),(.t,4),(.o,5),(.p,6),(.p,7),(.p,8),(.p,9),(.p,10),(.p,11),(.t,12),(.o,13),(.p,14),(.p,15),(.p,16),(.p,17),(.p,18),(.p,19),(.p,20),(.p,21),(.p,22),(.p,23),(.p,24),(.p,26),(.p,27),(.p,28),(.p,29),(.t,25),(.t,30),(.p,31),(.p,32),(.p,33)] [] (by kernel_rfl) rfl ?_
| apply ycp;rfl;(first | exact aG | exact aF);rfl
| fail)
 all_goals first
  | exact bG [0] rfl rfl rfl rfl rfl rfl ⟨fun j h0 h1 => hall j h0 (by omega),by omega⟩
  | exact aV [0] rfl rfl rfl rfl rfl rfl (fun h => by
     first
     | exact absurd h.2 (by omega)
     | (obtain ⟨g0,g1,g2⟩:=h.1 i (by omega) (by omega)
        first | contradiction | omega))
  | exact aB (i + 1) [0] ⟨rfl,rfl,rfl,rfl,rfl,rfl,rfl,rfl⟩ ⟨by omega,by omega,ax hall ⟨by first | assumption | omega,by first | assumption | omega,fun _ => by first | assumption | omega | exact byBoth_lt.1 (by omega)⟩⟩ (by first | omega | (dsimp only;omega))
def ri (l:List Instr) (i:Int):Prop:=ag (rd l i).No ∧ inP (rd l i).Kind 1 2 ∧ (0 < i → (rd l (i - 1)).No < (rd l i).No)
def bA (l:List Instr):Prop:=(∀ i:Int,0 ≤ i → i < l.length → ri l i) ∧ l.length ≤ 8
theorem lI {l:List Instr}:FC Tryz.prog 146 [.c (.row 0 0 l.length)] ([ro 74 l]) (B (dB (bA l))) ([ro 74 l]):=by
 refine ay tk 41 [.tmp 2] Tryz.func146 (by kernel_rfl) rfl rfl rfl rfl rfl rfl rfl ?_
 refine cw l 0 rfl (fun hl => ?_)
 repeat' (first
| apply yds;rfl
| apply yd;rfl
| refine nv ?_
| fail)
 all_goals skip
 refine wlp (X:=Int) [0,5,6] [0] (fun i => [(7,I i)]) (fun _ => []) (fun i => 0 ≤ i ∧ i ≤ l.length ∧ ∀ j,0 ≤ j → j < i → ri l j) (fun i => (l.length - i).toNat) 0 ⟨by omega,by omega,fun j h0 h1 => by omega⟩ rfl rfl (fun _ => rfl) (fun _ => rfl) ⟨rfl,rfl,rfl,rfl,rfl,rfl,rfl,rfl⟩ (fun i hi => ?_)
 obtain ⟨h0,hi,hall⟩:=hi
 repeat' (first
| apply yds;rfl
| apply yd;rfl
| intro _
| refine nv ?_
| apply wct rfl
| apply wcf rfl
| apply ah rfl
| apply aj;rfl
| apply yar;rfl;omega
| apply yix;rfl;omega
| apply yle;rfl;omega
| refine zdq (id:=4) rfl (by kernel_rfl) [(.p,0),(.t,1),(.o,2),(.p,3),(.p,4),(.p,5),(.t,6),(.o,7),(.p,8),(.p,9),(.p,10),(.p,11),(.p,12),(.p,13),(.p,14),(.p,15),(.p,16),(.p,17),(.p,18),(.p,20),(.t,19),(.t,21),(.p,22),(.p,23),(.p,24)] [] (by kernel_rfl) rfl ?_
| apply ycp;rfl;(first | exact dx | exact d5);rfl
| fail)
 all_goals first
  | exact bG [0] rfl rfl rfl rfl rfl rfl ⟨fun j h0 h1 => hall j h0 (by omega),by omega⟩
  | exact aV [0] rfl rfl rfl rfl rfl rfl (fun h => by
     first
     | exact absurd h.2 (by omega)
     | (obtain ⟨g0,g1,g2⟩:=h.1 i (by omega) (by omega)
        first | contradiction | omega))
  | exact aB (i + 1) [0] ⟨rfl,rfl,rfl,rfl,rfl,rfl,rfl,rfl⟩ ⟨by omega,by omega,ax hall ⟨by first | assumption | omega,by first | assumption | omega,fun _ => by first | assumption | omega | exact byBoth_lt.1 (by omega)⟩⟩ (by first | omega | (dsimp only;omega))
theorem cg {l:List Instr}:FC Tryz.prog 173 [.c (.row 0 0 l.length)] ([ro 74 l]) (B (dB (bA l))) ([ro 74 l]):=by
 refine ay tk 47 [.tmp 2] Tryz.func173 (by kernel_rfl) rfl rfl rfl rfl rfl rfl rfl ?_
 refine cw l 0 rfl (fun hl => ?_)
 repeat' (first
| apply yds;rfl
| apply yd;rfl
| intro _
| refine nv ?_
| apply wct rfl
| apply wcf rfl
| apply aj;rfl
| fail)
 all_goals first | exact aV [0] rfl rfl rfl rfl rfl rfl (fun h => absurd h.2 (by omega)) | skip
 refine wlp (X:=Int) [0] [0] (fun i => [(3,I i)]) (fun _ => []) (fun i => 0 ≤ i ∧ i ≤ l.length ∧ ∀ j,0 ≤ j → j < i → ri l j) (fun i => (l.length - i).toNat) 0 ⟨by omega,by omega,fun j h0 h1 => by omega⟩ rfl rfl (fun _ => rfl) (fun _ => rfl) ⟨rfl,rfl,rfl,rfl,rfl,rfl,rfl,rfl⟩ (fun i hi => ?_)
 obtain ⟨h0,hi,hall⟩:=hi
 repeat' (first
| apply yds;rfl
| apply yd;rfl
| intro _
| refine nv ?_
| apply wct rfl
| apply wcf rfl
| apply ah rfl
| apply aj;rfl
| apply yar;rfl;omega
| apply yix;rfl;omega
| apply yle;rfl;omega
| refine zdq (id:=6) rfl (by kernel_rfl) [(.p,0),(.p,1),(.p,2),(.p,3),(.t,4),(.o,5),(.p,6),(.p,7),(.p,8),(.p,9),(.p,10),(.p,11),(.t,12),(.o,13),(.p,14),(.p,15),(.p,16),(.p,17),(.p,18),(.p,19),(.p,20),(.p,21),(.p,22),(.p,23),(.p,24),(.p,26),(.p,27),(.p,28),(.p,29),(.t,25),(.t,30),(.p,31),(.p,32),(.p,33)] [] (by kernel_rfl) rfl ?_
| apply ycp;rfl;(first | exact aG | exact aF);rfl
| fail)
 all_goals first
  | exact bG [0] rfl rfl rfl rfl rfl rfl ⟨fun j h0 h1 => hall j h0 (by omega),by omega⟩
  | exact aV [0] rfl rfl rfl rfl rfl rfl (fun h => by
     first
     | exact absurd h.2 (by omega)
     | (obtain ⟨g0,g1,g2⟩:=h.1 i (by omega) (by omega)
        first | contradiction | omega))
  | exact aB (i + 1) [0] ⟨rfl,rfl,rfl,rfl,rfl,rfl,rfl,rfl⟩ ⟨by omega,by omega,ax hall ⟨by first | assumption | omega,by first | assumption | omega,fun _ => by first | assumption | omega | exact byBoth_lt.1 (by omega)⟩⟩ (by first | omega | (dsimp only;omega))
def tg (l:List Bal) (i:Int):Prop:=ag (rd l i).Account ∧ ag (rd l i).Instr ∧ ai (rd l i).Amount ∧ (rd l i).Amount ≠ 0 ∧ (0 < i → bef (rd l (i - 1)).Account (rd l (i - 1)).Instr (rd l i).Account (rd l i).Instr)
def BalsOk (l:List Bal):Prop:=(∀ i:Int,0 ≤ i → i < l.length → tg l i) ∧ l.length ≤ 160
theorem dG {l:List Bal}:FC Tryz.prog 115 [.c (.row 0 0 l.length)] ([ro 135 l]) (B (dB (BalsOk l))) ([ro 135 l]):=by
 refine ay tk 59 [.tmp 2] Tryz.func115 (by kernel_rfl) rfl rfl rfl rfl rfl rfl rfl ?_
 refine cw l 0 rfl (fun hl => ?_)
 repeat' (first
| apply yds;rfl
| apply yd;rfl
| refine nv ?_
| fail)
 all_goals skip
 refine wlp (X:=Int) [0,5,6] [0] (fun i => [(7,I i)]) (fun _ => []) (fun i => 0 ≤ i ∧ i ≤ l.length ∧ ∀ j,0 ≤ j → j < i → tg l j) (fun i => (l.length - i).toNat) 0 ⟨by omega,by omega,fun j h0 h1 => by omega⟩ rfl rfl (fun _ => rfl) (fun _ => rfl) ⟨rfl,rfl,rfl,rfl,rfl,rfl,rfl,rfl⟩ (fun i hi => ?_)
 obtain ⟨h0,hi,hall⟩:=hi
 repeat' (first
| apply yds;rfl
| apply yd;rfl
| intro _
| refine nv ?_
| apply wct rfl
| apply wcf rfl
| apply ah rfl
| apply aj;rfl
| apply yar;rfl;omega
| apply yix;rfl;omega
| apply yle;rfl;omega
| refine zdq (id:=6) rfl (by kernel_rfl) [(.p,0),(.p,1),(.p,2),(.p,3),(.p,4),(.p,5),(.p,6),(.p,7),(.p,9),(.p,10),(.p,11),(.p,12),(.p,13),(.p,15),(.p,17),(.t,8),(.t,14),(.t,16),(.t,18),(.o,19),(.p,20),(.p,21)] [] (by kernel_rfl) rfl ?_
| apply ycp;rfl;(first | exact dx | exact dC);rfl
| apply yc;rfl;exact gn;rfl;exact fun _ => rfl
| fail)
 all_goals first
  | exact bG [0] rfl rfl rfl rfl rfl rfl ⟨fun j h0 h1 => hall j h0 (by omega),by omega⟩
  | exact aV [0] rfl rfl rfl rfl rfl rfl (fun h => by
     first
     | exact absurd h.2 (by omega)
     | (obtain ⟨g0,g1,g2,g3,g4⟩:=h.1 i (by omega) (by omega)
        first | contradiction | (have:=g4 (by omega);(have:=byBoth_lt.2 this;omega))))
  | exact aB (i + 1) [0] ⟨rfl,rfl,rfl,rfl,rfl,rfl,rfl,rfl⟩ ⟨by omega,by omega,ax hall ⟨by first | assumption | omega,by first | assumption | omega,by first | assumption | omega,by first | assumption | omega,fun _ => by first | assumption | omega | exact byBoth_lt.1 (by omega)⟩⟩ (by first | omega | (dsimp only;omega))
theorem cx {l:List Bal}:FC Tryz.prog 174 [.c (.row 0 0 l.length)] ([ro 135 l]) (B (dB (BalsOk l))) ([ro 135 l]):=by
 refine ay tk 63 [.tmp 2] Tryz.func174 (by kernel_rfl) rfl rfl rfl rfl rfl rfl rfl ?_
 refine cw l 0 rfl (fun hl => ?_)
 repeat' (first
| apply yds;rfl
| apply yd;rfl
| intro _
| refine nv ?_
| apply wct rfl
| apply wcf rfl
| apply aj;rfl
| fail)
 all_goals first | exact aV [0] rfl rfl rfl rfl rfl rfl (fun h => absurd h.2 (by omega)) | skip
 refine wlp (X:=Int) [0] [0] (fun i => [(3,I i)]) (fun _ => []) (fun i => 0 ≤ i ∧ i ≤ l.length ∧ ∀ j,0 ≤ j → j < i → tg l j) (fun i => (l.length - i).toNat) 0 ⟨by omega,by omega,fun j h0 h1 => by omega⟩ rfl rfl (fun _ => rfl) (fun _ => rfl) ⟨rfl,rfl,rfl,rfl,rfl,rfl,rfl,rfl⟩ (fun i hi => ?_)
 obtain ⟨h0,hi,hall⟩:=hi
 repeat' (first
| apply yds;rfl
| apply yd;rfl
| intro _
| refine nv ?_
| apply wct rfl
| apply wcf rfl
| apply ah rfl
| apply aj;rfl
| apply yar;rfl;omega
| apply yix;rfl;omega
| apply yle;rfl;omega
| refine zdq (id:=7) rfl (by kernel_rfl) [(.p,0),(.t,1),(.o,2),(.p,3),(.p,4),(.p,5),(.t,6),(.o,7),(.p,8),(.p,9),(.p,10),(.p,11),(.t,12),(.o,13),(.p,14),(.p,15),(.p,16),(.p,17),(.t,18),(.p,19),(.p,20),(.p,21),(.p,22),(.p,23),(.p,24),(.p,25),(.p,26),(.p,27),(.p,28),(.p,29),(.p,31),(.p,32),(.p,33),(.p,34),(.p,35),(.p,37),(.p,39),(.t,30),(.t,36),(.t,38),(.t,40),(.o,41),(.p,42),(.p,43),(.p,44)] [] (by kernel_rfl) rfl ?_
| apply ycp;rfl;(first | exact aG | exact bz | exact eW);rfl
| fail)
 all_goals first
  | exact bG [0] rfl rfl rfl rfl rfl rfl ⟨fun j h0 h1 => hall j h0 (by omega),by omega⟩
  | exact aV [0] rfl rfl rfl rfl rfl rfl (fun h => by
     first
     | exact absurd h.2 (by omega)
     | (obtain ⟨g0,g1,g2,g3,g4⟩:=h.1 i (by omega) (by omega)
        first | contradiction | (have:=g4 (by omega);contradiction)))
  | exact aB (i + 1) [0] ⟨rfl,rfl,rfl,rfl,rfl,rfl,rfl,rfl⟩ ⟨by omega,by omega,ax hall ⟨by first | assumption | omega,by first | assumption | omega,by first | assumption | omega,by first | assumption | omega,fun _ => by first | assumption | omega | exact byBoth_lt.1 (by omega)⟩⟩ (by first | omega | (dsimp only;omega))
def yv (l:List Trade) (i:Int):Prop:=ag (rd l i).No ∧ ag (rd l i).Buyer ∧ ag (rd l i).Seller ∧ ag (rd l i).Paper ∧ ag (rd l i).Cash ∧ (rd l i).Buyer ≠ (rd l i).Seller ∧ inP (rd l i).Qty 1 1000000000000000 ∧ inP (rd l i).Price 0 1000000000000000 ∧ inP (rd l i).State 1 3 ∧ (0 < i → (rd l (i - 1)).No < (rd l i).No)
def fX (l:List Trade):Prop:=(∀ i:Int,0 ≤ i → i < l.length → yv l i) ∧ l.length ≤ 30
theorem lK {l:List Trade}:FC Tryz.prog 148 [.c (.row 0 0 l.length)] ([ro 103 l]) (B (dB (fX l))) ([ro 103 l]):=by
 refine ay tk 82 [.tmp 2] Tryz.func148 (by kernel_rfl) rfl rfl rfl rfl rfl rfl rfl ?_
 refine cw l 0 rfl (fun hl => ?_)
 repeat' (first
| apply yds;rfl
| apply yd;rfl
| refine nv ?_
| fail)
 all_goals skip
 refine wlp (X:=Int) [0,5,6] [0] (fun i => [(7,I i)]) (fun _ => []) (fun i => 0 ≤ i ∧ i ≤ l.length ∧ ∀ j,0 ≤ j → j < i → yv l j) (fun i => (l.length - i).toNat) 0 ⟨by omega,by omega,fun j h0 h1 => by omega⟩ rfl rfl (fun _ => rfl) (fun _ => rfl) ⟨rfl,rfl,rfl,rfl,rfl,rfl,rfl,rfl⟩ (fun i hi => ?_)
 obtain ⟨h0,hi,hall⟩:=hi
 repeat' (first
| apply yds;rfl
| apply yd;rfl
| intro _
| refine nv ?_
| apply wct rfl
| apply wcf rfl
| apply ah rfl
| apply aj;rfl
| apply yar;rfl;omega
| apply yix;rfl;omega
| apply yle;rfl;omega
| refine zdq (id:=6) rfl (by kernel_rfl) [(.p,0),(.t,1),(.o,2),(.p,3),(.p,4),(.p,5),(.t,6),(.o,7),(.p,8),(.p,9),(.p,10),(.p,11),(.t,12),(.o,13),(.p,14),(.p,15),(.p,16),(.p,17),(.p,18),(.p,19),(.p,20),(.p,21),(.p,22),(.p,23),(.p,24),(.p,26),(.t,25),(.t,27),(.p,28),(.p,29),(.p,30)] [] (by kernel_rfl) rfl ?_
| apply ycp;rfl;(first | exact dx | exact d5);rfl
| fail)
 all_goals first
  | exact bG [0] rfl rfl rfl rfl rfl rfl ⟨fun j h0 h1 => hall j h0 (by omega),by omega⟩
  | exact aV [0] rfl rfl rfl rfl rfl rfl (fun h => by
     first
     | exact absurd h.2 (by omega)
     | (obtain ⟨g0,g1,g2,g3,g4,g5,g6,g7,g8,g9⟩:=h.1 i (by omega) (by omega)
        first | contradiction | omega))
  | exact aB (i + 1) [0] ⟨rfl,rfl,rfl,rfl,rfl,rfl,rfl,rfl⟩ ⟨by omega,by omega,ax hall ⟨by first | assumption | omega,by first | assumption | omega,by first | assumption | omega,by first | assumption | omega,by first | assumption | omega,by first | assumption | omega,by first | assumption | omega,by first | assumption | omega,by first | assumption | omega,fun _ => by first | assumption | omega | exact byBoth_lt.1 (by omega)⟩⟩ (by first | omega | (dsimp only;omega))
theorem lX {l:List Trade}:FC Tryz.prog 221 [.c (.row 0 0 l.length)] ([ro 103 l]) (B (dB (fX l))) ([ro 103 l]):=by
 refine ay tk 86 [.tmp 2] Tryz.func221 (by kernel_rfl) rfl rfl rfl rfl rfl rfl rfl ?_
 refine cw l 0 rfl (fun hl => ?_)
 repeat' (first
| apply yds;rfl
| apply yd;rfl
| intro _
| refine nv ?_
| apply wct rfl
| apply wcf rfl
| apply aj;rfl
| fail)
 all_goals first | exact aV [0] rfl rfl rfl rfl rfl rfl (fun h => absurd h.2 (by omega)) | skip
 refine wlp (X:=Int) [0] [0] (fun i => [(3,I i)]) (fun _ => []) (fun i => 0 ≤ i ∧ i ≤ l.length ∧ ∀ j,0 ≤ j → j < i → yv l j) (fun i => (l.length - i).toNat) 0 ⟨by omega,by omega,fun j h0 h1 => by omega⟩ rfl rfl (fun _ => rfl) (fun _ => rfl) ⟨rfl,rfl,rfl,rfl,rfl,rfl,rfl,rfl⟩ (fun i hi => ?_)
 obtain ⟨h0,hi,hall⟩:=hi
 repeat' (first
| apply yds;rfl
| apply yd;rfl
| intro _
| refine nv ?_
| apply wct rfl
| apply wcf rfl
| apply ah rfl
| apply aj;rfl
| apply yar;rfl;omega
| apply yix;rfl;omega
| apply yle;rfl;omega
| refine zdq (id:=7) rfl (by kernel_rfl) [(.p,0),(.t,1),(.o,2),(.p,3),(.p,4),(.p,5),(.t,6),(.o,7),(.p,8),(.p,9),(.p,10),(.p,11),(.t,12),(.o,13),(.p,14),(.p,15),(.p,16),(.p,17),(.t,18),(.o,19),(.p,20),(.p,21),(.p,22),(.p,23),(.t,24),(.o,25),(.p,26),(.p,27),(.p,28),(.p,29),(.p,31),(.t,30),(.t,32),(.p,33),(.p,34),(.p,35),(.p,36),(.t,37),(.o,38),(.p,39),(.p,40),(.p,41),(.p,42),(.t,43),(.o,44),(.p,45),(.p,46),(.p,47),(.p,48),(.t,49),(.o,50),(.p,51),(.p,52),(.p,53),(.p,54),(.p,55),(.p,56),(.p,57),(.p,58),(.p,59),(.p,60),(.p,61),(.p,63),(.t,62),(.t,64),(.p,65),(.p,66),(.p,67)] [] (by kernel_rfl) rfl ?_
| apply ycp;rfl;(first | exact aG | exact aA | exact aF);rfl
| fail)
 all_goals first
  | exact bG [0] rfl rfl rfl rfl rfl rfl ⟨fun j h0 h1 => hall j h0 (by omega),by omega⟩
  | exact aV [0] rfl rfl rfl rfl rfl rfl (fun h => by
     first
     | exact absurd h.2 (by omega)
     | (obtain ⟨g0,g1,g2,g3,g4,g5,g6,g7,g8,g9⟩:=h.1 i (by omega) (by omega)
        first | contradiction | omega))
  | exact aB (i + 1) [0] ⟨rfl,rfl,rfl,rfl,rfl,rfl,rfl,rfl⟩ ⟨by omega,by omega,ax hall ⟨by first | assumption | omega,by first | assumption | omega,by first | assumption | omega,by first | assumption | omega,by first | assumption | omega,by first | assumption | omega,by first | assumption | omega,by first | assumption | omega,by first | assumption | omega,fun _ => by first | assumption | omega | exact byBoth_lt.1 (by omega)⟩⟩ (by first | omega | (dsimp only;omega))
end
section
open Go.RowKit
def ins {α:Type} (l:List α) (i:Int) (x:α):List α:=l.take i.toNat ++ x :: l.drop i.toNat
def del {α:Type} (l:List α) (i:Int):List α:=l.take i.toNat ++ l.drop (i.toNat + 1)
theorem dE {α:Type} {l:List α} {i:Int} {x:α} (h:0 ≤ i ∧ i ≤ l.length):(ins l i x).length = l.length + 1:=by
 simp only [ins,List.length_append,List.length_cons,List.length_take,List.length_drop]
 omega
theorem qW {α:Type} {l:List α} {i:Int} (h:0 ≤ i ∧ i < l.length):(del l i).length = l.length - 1:=by
 simp only [del,List.length_append,List.length_take,List.length_drop]
 omega
theorem iQ {α:Type} {l:List α} {i:Int} {x:α} (h:i = l.length):ins l i x = l ++ [x]:=by
 subst h
 simp [ins]
theorem xL {α:Type} {l:List α} {i:Int} {x:α} (h:0 ≤ i ∧ i < l.length):l.take (i + 1).toNat ++ (l.drop i.toNat).take (l.length - i.toNat) ++ l.drop ((i + 1).toNat + (l.length - i.toNat)) = l.take (i.toNat + 1) ++ l.drop i.toNat:=by
 have e1:(l.drop i.toNat).take (l.length - i.toNat) = l.drop i.toNat:=List.take_of_length_le (by rw [List.length_drop];omega)
 have e2:l.drop ((i + 1).toNat + (l.length - i.toNat)) = []:=List.drop_eq_nil_of_le (by omega)
 rw [e1,e2,List.append_nil,show (i + 1).toNat = i.toNat + 1 from by omega]
theorem xM {α:Type} {l:List α} {i:Int} {x:α} (h:0 ≤ i ∧ i < l.length):(l.take (i.toNat + 1) ++ l.drop i.toNat).take i.toNat ++ ([x].drop 0).take 1 ++ (l.take (i.toNat + 1) ++ l.drop i.toNat).drop (i.toNat + 1) = ins l i x:=by
 have h1:(l.take (i.toNat + 1)).length = i.toNat + 1:=by rw [List.length_take];omega
 have e1:(l.take (i.toNat + 1) ++ l.drop i.toNat).take i.toNat = l.take i.toNat:=by
  rw [List.take_append_of_le_length (by omega),List.take_take,Nat.min_eq_left (by omega)]
 have e2:(l.take (i.toNat + 1) ++ l.drop i.toNat).drop (i.toNat + 1) = l.drop i.toNat:=by
  have:=List.drop_left (l₁:=l.take (i.toNat + 1)) (l₂:=l.drop i.toNat)
  rwa [h1] at this
 rw [e1,e2]
 simp [ins]
theorem xN {α:Type} {l:List α} {i:Int} {x z:α} {m:Nat} (h:0 ≤ i ∧ i < l.length) (hm:m = l.length + 1 - i.toNat):(l.take i.toNat ++ List.replicate m z).take i.toNat ++ ([x].drop 0).take 1 ++ (l.take i.toNat ++ List.replicate m z).drop (i.toNat + 1) = l.take i.toNat ++ x :: List.replicate (l.length - i.toNat) z:=by
 have h1:(l.take i.toNat).length = i.toNat:=by rw [List.length_take];omega
 have h2:(l.take i.toNat ++ List.replicate m z).take i.toNat = l.take i.toNat:=by
  have:=List.take_left (l₁:=l.take i.toNat) (l₂:=List.replicate m z)
  rwa [h1] at this
 have h3:(l.take i.toNat ++ List.replicate m z).drop (i.toNat + 1) = List.replicate (l.length - i.toNat) z:=by
  rw [← List.drop_drop,show (l.take i.toNat ++ List.replicate m z).drop i.toNat = List.replicate m z from by
   have:=List.drop_left (l₁:=l.take i.toNat) (l₂:=List.replicate m z)
   rwa [h1] at this,List.drop_replicate]
  congr 1
  omega
 rw [h2,h3]
 simp
theorem xO {α:Type} {l:List α} {i:Int} {x z:α} (h:0 ≤ i ∧ i < l.length):(l.take i.toNat ++ x :: List.replicate (l.length - i.toNat) z).take (i + 1).toNat ++ (l.drop i.toNat).take (l.length - i.toNat) ++ (l.take i.toNat ++ x :: List.replicate (l.length - i.toNat) z).drop ((i + 1).toNat + (l.length - i.toNat)) = ins l i x:=by
 have h1:(l.take i.toNat).length = i.toNat:=by rw [List.length_take];omega
 have h2:(l.take i.toNat ++ x :: List.replicate (l.length - i.toNat) z).take (i + 1).toNat = l.take i.toNat ++ [x]:=by
  have:=List.take_left (l₁:=l.take i.toNat ++ [x]) (l₂:=List.replicate (l.length - i.toNat) z)
  rw [List.length_append,h1] at this
  rw [show (i + 1).toNat = i.toNat + [x].length from by show _ = i.toNat + 1;omega]
  rw [← this]
  simp
 have e1:(l.drop i.toNat).take (l.length - i.toNat) = l.drop i.toNat:=List.take_of_length_le (by rw [List.length_drop];omega)
 have e2:(l.take i.toNat ++ x :: List.replicate (l.length - i.toNat) z).drop ((i + 1).toNat + (l.length - i.toNat)) = []:=List.drop_eq_nil_of_le (by simp only [List.length_append,List.length_cons,List.length_replicate,h1];omega)
 rw [h2,e1,e2,List.append_nil]
 simp [ins]
theorem yM {α:Type} {l:List α} {i:Int} (h:0 ≤ i ∧ i < l.length):(l.take i.toNat ++ (l.drop (i + 1).toNat).take (l.length - (i + 1).toNat) ++ l.drop (i.toNat + (l.length - (i + 1).toNat))).take (i.toNat + (l.length - (i + 1).toNat)) = del l i:=by
 have h1:(l.take i.toNat).length = i.toNat:=by rw [List.length_take];omega
 have h2:(l.drop (i + 1).toNat).take (l.length - (i + 1).toNat) = l.drop (i.toNat + 1):=by
  rw [show (i + 1).toNat = i.toNat + 1 from by omega,List.take_of_length_le (by rw [List.length_drop];omega)]
 have h3:(l.take i.toNat ++ l.drop (i.toNat + 1)).length = i.toNat + (l.length - (i + 1).toNat):=by
  rw [List.length_append,h1,List.length_drop]
  omega
 rw [h2,← h3,List.take_left]
 rfl
theorem gz {l:List Account} (hl:l.length ≤ 4194304):FC Tryz.prog 215 [.c (.row 0 0 l.length)] ([ro 42 l]) (.c (.row 1 0 l.length)) ([ro 42 l,ow 42 l]):=by
 refine ay tk 8 [.tmp 2] Tryz.func215 (by kernel_rfl) rfl rfl rfl rfl rfl rfl rfl ?_
 repeat' (first
| apply yd;rfl
| apply zen;rfl;exact tk;(iterate 7 rfl)
| apply ia (d:=2) 42 2;rfl;rfl;rfl
| intro _
| refine nv ?_
| apply wct rfl
| apply wcf rfl
| apply aH (α:=Account) (e:=42);rfl
| apply yap;rfl;(((try simp only [lE,lM]);(try dsimp only);omega))
| fail)
 ·rename_i hn
  obtain rfl:l = []:=List.length_eq_zero_iff.1 hn
  exact au [0,2] rfl rfl rfl rfl rfl rfl
 ·exact au [0,3] rfl rfl rfl rfl rfl rfl
theorem iv {l:List Instr} (hl:l.length ≤ 4194304):FC Tryz.prog 216 [.c (.row 0 0 l.length)] ([ro 74 l]) (.c (.row 1 0 l.length)) ([ro 74 l,ow 74 l]):=by
 refine ay tk 8 [.tmp 2] Tryz.func216 (by kernel_rfl) rfl rfl rfl rfl rfl rfl rfl ?_
 repeat' (first
| apply yd;rfl
| apply zen;rfl;exact tk;(iterate 7 rfl)
| apply ia (d:=2) 74 2;rfl;rfl;rfl
| intro _
| refine nv ?_
| apply wct rfl
| apply wcf rfl
| apply aH (α:=Instr) (e:=74);rfl
| apply yap;rfl;(((try simp only [lE,lM]);(try dsimp only);omega))
| fail)
 ·rename_i hn
  obtain rfl:l = []:=List.length_eq_zero_iff.1 hn
  exact au [0,2] rfl rfl rfl rfl rfl rfl
 ·exact au [0,3] rfl rfl rfl rfl rfl rfl
theorem bI {l:List Bal} (hl:l.length ≤ 4194304):FC Tryz.prog 117 [.c (.row 0 0 l.length)] ([ro 135 l]) (.c (.row 1 0 l.length)) ([ro 135 l,ow 135 l]):=by
 refine ay tk 8 [.tmp 2] Tryz.func117 (by kernel_rfl) rfl rfl rfl rfl rfl rfl rfl ?_
 repeat' (first
| apply yd;rfl
| apply zen;rfl;exact tk;(iterate 7 rfl)
| apply ia (d:=2) 135 3;rfl;rfl;rfl
| intro _
| refine nv ?_
| apply wct rfl
| apply wcf rfl
| apply aH (α:=Bal) (e:=135);rfl
| apply yap;rfl;(((try simp only [lE,lM]);(try dsimp only);omega))
| fail)
 ·rename_i hn
  obtain rfl:l = []:=List.length_eq_zero_iff.1 hn
  exact au [0,2] rfl rfl rfl rfl rfl rfl
 ·exact au [0,3] rfl rfl rfl rfl rfl rfl
theorem fb {l:List Lot} (hl:l.length ≤ 4194304):FC Tryz.prog 217 [.c (.row 0 0 l.length)] ([ro 137 l]) (.c (.row 1 0 l.length)) ([ro 137 l,ow 137 l]):=by
 refine ay tk 8 [.tmp 2] Tryz.func217 (by kernel_rfl) rfl rfl rfl rfl rfl rfl rfl ?_
 repeat' (first
| apply yd;rfl
| apply zen;rfl;exact tk;(iterate 7 rfl)
| apply ia (d:=2) 137 5;rfl;rfl;rfl
| intro _
| refine nv ?_
| apply wct rfl
| apply wcf rfl
| apply aH (α:=Lot) (e:=137);rfl
| apply yap;rfl;(((try simp only [lE,lM]);(try dsimp only);omega))
| fail)
 ·rename_i hn
  obtain rfl:l = []:=List.length_eq_zero_iff.1 hn
  exact au [0,2] rfl rfl rfl rfl rfl rfl
 ·exact au [0,3] rfl rfl rfl rfl rfl rfl
theorem iw {l:List Trade} (hl:l.length ≤ 4194304):FC Tryz.prog 218 [.c (.row 0 0 l.length)] ([ro 103 l]) (.c (.row 1 0 l.length)) ([ro 103 l,ow 103 l]):=by
 refine ay tk 8 [.tmp 2] Tryz.func218 (by kernel_rfl) rfl rfl rfl rfl rfl rfl rfl ?_
 repeat' (first
| apply yd;rfl
| apply zen;rfl;exact tk;(iterate 7 rfl)
| apply ia (d:=2) 103 8;rfl;rfl;rfl
| intro _
| refine nv ?_
| apply wct rfl
| apply wcf rfl
| apply aH (α:=Trade) (e:=103);rfl
| apply yap;rfl;(((try simp only [lE,lM]);(try dsimp only);omega))
| fail)
 ·rename_i hn
  obtain rfl:l = []:=List.length_eq_zero_iff.1 hn
  exact au [0,2] rfl rfl rfl rfl rfl rfl
 ·exact au [0,3] rfl rfl rfl rfl rfl rfl
theorem eN {l:List Bal} {i:Int} {x:Bal} (hi:0 ≤ i ∧ i ≤ l.length) (hl:l.length ≤ 4194304):FC Tryz.prog 231 [.c (.row 0 0 l.length),I i,.c (.row 1 0 [x].length)] ([ow 135 l,ow 135 [x]]) (.c (.row 2 0 (ins l i x).length)) ([none,none,ow 135 (ins l i x)]):=by
 refine ay tk 95 [.tmp 6] Tryz.func231 (by kernel_rfl) rfl rfl rfl rfl rfl rfl rfl ?_
 have h1:[x].length = 1:=rfl
 repeat' (first
| apply yds;rfl
| apply yd;rfl
| apply A8 (t:=26) (tR:=4);rfl;exact tk;rfl;exact fun args w => run_callFunc_extern Tryz.func295 (by kernel_rfl) (by kernel_rfl) (by kernel_rfl) (e:=Extern.SlicesOverlaps.overlaps #[26,26] #[4]) (by kernel_rfl) args w;(iterate 8 rfl);(refine ⟨by decide,by omega,by omega⟩);rfl;rfl
| apply zr (α:=Bal) 30;rfl;exact tk;(iterate 13 rfl);(refine ⟨by omega,by omega,by dsimp only;omega,by omega⟩);rfl;rfl;rfl
| apply Ab 30;rfl;exact tk;(iterate 7 rfl);omega;rfl;rfl
| intro _
| refine nv ?_
| apply wct rfl
| apply wcf rfl
| apply aj;rfl
| apply yar;rfl;omega
| apply yap;rfl;(((try simp only [lE,lM]);(try dsimp only);omega))
| apply zY;rfl;exact tk;(iterate 7 rfl)
| apply A2;rfl;rfl;rfl;rfl;rfl
| refine zdq (id:=15) rfl (by kernel_rfl) [(.p,0),(.p,1),(.p,2),(.p,3),(.p,4),(.p,5),(.p,6),(.p,7),(.l,8)] [8] (by kernel_rfl) rfl ?_
| apply t5;rfl;exact tk;(iterate 8 rfl);omega;rfl;rfl
| fail)
 all_goals first | (exfalso;simp only [List.length_cons,List.length_nil] at *;omega) | skip
 ·exact fv (X':=.c (.row 2 0 (l ++ [x]).length)) (hs':=[none,none,ow 135 (l ++ [x])]) [0,1,2] rfl rfl rfl rfl rfl rfl (by rw [iQ (by assumption)]) (by rw [iQ (by assumption)])
 ·refine wS _ 1 rfl tk rfl rfl rfl rfl rfl rfl rfl rfl rfl rfl ⟨by show min [x].length _ = 1;have:Int.toNat 0 = 0:=rfl;omega,by omega,by simp only [List.length_append,List.length_take,List.length_replicate];have:Int.toNat 0 = 0:=rfl;omega,by omega⟩ (xN ⟨by omega,by omega⟩ (by omega)) rfl rfl rfl ?_
  repeat' (first
| apply yds;rfl
| refine nv ?_
| apply yar;rfl;omega
| refine zdq (id:=11) rfl (by kernel_rfl) [(.p,0),(.p,1),(.p,2),(.p,3),(.p,4),(.p,5),(.p,6),(.p,7),(.l,8)] [8] (by kernel_rfl) rfl ?_
| apply t5;rfl;exact tk;(iterate 8 rfl);omega;rfl;rfl
| fail)
  refine wS (ins l i x) (l.length - i.toNat) rfl tk rfl rfl rfl rfl rfl rfl rfl rfl rfl rfl ⟨by show min _ _ = _;have:Int.toNat 0 = 0:=rfl;omega,by omega,by simp only [List.length_append,List.length_take,List.length_cons,List.length_nil,List.length_replicate];omega,by omega⟩ (xO ⟨by omega,by omega⟩) rfl rfl rfl ?_
  repeat' (first
| apply yds;rfl
| refine nv ?_
| fail)
  exact fv (X':=.c (.row 2 0 (i.toNat - Int.toNat 0 + (↑l.length + ↑[x].length - i).toNat))) (hs':=[none,none,ow 135 (ins l i x)]) [0,1,2] rfl rfl rfl rfl rfl rfl (by rw [show i.toNat - Int.toNat 0 + (↑l.length + ↑[x].length - i).toNat = (ins l i x).length from by rw [dE (by omega)];have:Int.toNat 0 = 0:=rfl;omega]) rfl
 ·refine wS _ (l.length - i.toNat) rfl tk rfl rfl rfl rfl rfl rfl rfl rfl rfl rfl ⟨by show min _ _ = _;omega,by omega,by omega,by omega⟩ (xL (x:=x) ⟨by omega,by omega⟩) rfl rfl rfl ?_
  repeat' (first
| apply yds;rfl
| apply yd;rfl
| refine nv ?_
| apply t5;rfl;exact tk;(iterate 8 rfl);omega;rfl;rfl
| fail)
  refine wS (ins l i x) 1 rfl tk rfl rfl rfl rfl rfl rfl rfl rfl rfl rfl ⟨by show min [x].length _ = 1;omega,by omega,by simp only [List.length_append,List.length_take,List.length_drop];omega,by omega⟩ (xM ⟨by omega,by omega⟩) rfl rfl rfl ?_
  repeat' (first
| apply yds;rfl
| refine nv ?_
| fail)
  exact fv (X':=.c (.row 2 0 (↑l.length + ↑[x].length:Int).toNat)) (hs':=[none,none,ow 135 (ins l i x)]) [0,1,0] rfl rfl rfl rfl rfl rfl (by rw [show (↑l.length + ↑[x].length:Int).toNat = (ins l i x).length from by rw [dE (by omega)];omega]) rfl
theorem eM {l:List Bal} {i:Int} (hi:0 ≤ i ∧ i < l.length) (hl:l.length ≤ 4194304):FC Tryz.prog 230 [.c (.row 0 0 l.length),I i,I (i + 1)] ([ow 135 l]) (.c (.row 0 0 (del l i).length)) ([ow 135 (del l i)]):=by
 refine ay tk 33 [.tmp 6] Tryz.func230 (by kernel_rfl) rfl rfl rfl rfl rfl rfl rfl ?_
 repeat' (first
| apply yds;rfl
| apply yd;rfl
| intro _
| refine nv ?_
| apply wct rfl
| apply wcf rfl
| apply yeq;rfl
| apply Aa;rfl;exact tk;(iterate 7 rfl);omega;rfl;rfl
| refine zdq (id:=5) rfl (by kernel_rfl) [(.p,0),(.p,1),(.p,2),(.p,3),(.p,4),(.p,5),(.l,6),(.p,7)] [6] (by kernel_rfl) rfl ?_
| apply t5;rfl;exact tk;(iterate 8 rfl);omega;rfl;rfl
| fail)
 all_goals first | (exfalso;omega) | skip
 obtain ⟨zs,hz⟩:∃ zs,l.take i.toNat ++ (l.drop (i + 1).toNat).take (l.length - (i + 1).toNat) ++ l.drop (i.toNat + (l.length - (i + 1).toNat)) = zs:=⟨_,rfl⟩
 have hzl:zs.length = l.length:=by rw [← hz];simp only [List.length_append,List.length_take,List.length_drop];omega
 have h0:Int.toNat 0 = 0:=rfl
 refine zX zs rfl tk rfl rfl rfl rfl rfl rfl rfl rfl ⟨by omega,by omega⟩ hz rfl rfl rfl ?_
 repeat' (first
| apply yds;rfl
| apply yd;rfl
| refine nv ?_
| apply Ac;rfl;exact tk;(iterate 8 rfl);(simp only [List.length_map] at *;omega);rfl;rfl
| fail)
 refine zt rfl tk rfl rfl rfl rfl rfl rfl rfl (by omega) rfl rfl ?_
 repeat' (first
| apply yds;rfl
| refine nv ?_
| fail)
 exact fv (X':=.c (.row 0 0 (i.toNat - Int.toNat 0 + ((↑l.length:Int).toNat - (i + 1).toNat)))) (hs':=[ow 135 (zs.take (i.toNat + (l.length - (i + 1).toNat)))]) [0] rfl rfl rfl rfl rfl rfl (by rw [show i.toNat - Int.toNat 0 + ((↑l.length:Int).toNat - (i + 1).toNat) = (del l i).length from by rw [qW (by omega)];omega]) (by rw [← hz,yM (by omega)])
end
end Go.Proofs.YtgehbhkfehmdkaaGreat.Sh
