/- What is right: numbers, lists. No condition. -/
import Derived.Test.YtgehbhkfehmdkaaGreatKCeShV
import Derived.Test.YtgehbhkfehmdkaaGreatKCeShN
set_option maxRecDepth 100000
set_option maxHeartbeats 40000000
set_option linter.unusedVariables false
namespace Go.Proofs.YtgehbhkfehmdkaaGreat.Sh
open Go.RowKit
def inP (x lo hi:Int):Prop:=lo ≤ x ∧ x ≤ hi
theorem aJ {x lo hi:Int}:FC Tryz.prog 95 [I x,I lo,I hi] ([]) (B (dB (inP x lo hi))) ([]):=by
 refine al tk 15 [.tmp 6] Tryz.func95 (by kernel_rfl) rfl rfl rfl rfl rfl rfl rfl ?_
 repeat' (first
| apply yds;rfl
| apply yd;rfl
| intro _
| refine nv ?_
| apply ag;rfl
| fail)
 all_goals first | exact bp [] rfl rfl rfl rfl rfl rfl (by unfold inP;omega) | exact aQ [] rfl rfl rfl rfl rfl rfl (by unfold inP;omega)
theorem aI {x lo hi:Int}:FC Tryz.prog 100 [I x,I lo,I hi] ([]) (B (dB (inP x lo hi))) ([]):=by
 refine al tk 15 [.tmp 6] Tryz.func100 (by kernel_rfl) rfl rfl rfl rfl rfl rfl rfl ?_
 repeat' (first
| apply yds;rfl
| apply yd;rfl
| intro _
| refine nv ?_
| apply ag;rfl
| fail)
 all_goals first | exact bp [] rfl rfl rfl rfl rfl rfl (by unfold inP;omega) | exact aQ [] rfl rfl rfl rfl rfl rfl (by unfold inP;omega)
def aj (x:Int):Prop:=inP x 1 1000
theorem bQ {x:Int}:FC Tryz.prog 109 [I x] ([]) (B (dB (aj x))) ([]):=by
 refine al tk 5 [.tmp 2] Tryz.func109 (by kernel_rfl) rfl rfl rfl rfl rfl rfl rfl ?_
 repeat' (first
| apply yd;rfl
| intro _
| refine nv ?_
| apply ycp;rfl;exact aJ;rfl
| fail)
 all_goals first | exact bp [] rfl rfl rfl rfl rfl rfl (by assumption) | exact aQ [] rfl rfl rfl rfl rfl rfl (by assumption)
theorem aK {x:Int}:FC Tryz.prog 99 [I x] ([]) (B (dB (aj x))) ([]):=by
 refine al tk 5 [.tmp 2] Tryz.func99 (by kernel_rfl) rfl rfl rfl rfl rfl rfl rfl ?_
 repeat' (first
| apply yd;rfl
| intro _
| refine nv ?_
| apply ycp;rfl;exact aI;rfl
| fail)
 all_goals first | exact bp [] rfl rfl rfl rfl rfl rfl (by assumption) | exact aQ [] rfl rfl rfl rfl rfl rfl (by assumption)
def ak (x:Int):Prop:=inP x (-1000000000000000) 1000000000000000
theorem cI {x:Int}:FC Tryz.prog 97 [I x] ([]) (B (dB (ak x))) ([]):=by
 refine al tk 5 [.tmp 2] Tryz.func97 (by kernel_rfl) rfl rfl rfl rfl rfl rfl rfl ?_
 repeat' (first
| apply yd;rfl
| intro _
| refine nv ?_
| apply ycp;rfl;exact aJ;rfl
| fail)
 all_goals first | exact bp [] rfl rfl rfl rfl rfl rfl (by assumption) | exact aQ [] rfl rfl rfl rfl rfl rfl (by assumption)
theorem cg {x:Int}:FC Tryz.prog 103 [I x] ([]) (B (dB (ak x))) ([]):=by
 refine al tk 5 [.tmp 2] Tryz.func103 (by kernel_rfl) rfl rfl rfl rfl rfl rfl rfl ?_
 repeat' (first
| apply yd;rfl
| intro _
| refine nv ?_
| apply ycp;rfl;exact aI;rfl
| fail)
 all_goals first | exact bp [] rfl rfl rfl rfl rfl rfl (by assumption) | exact aQ [] rfl rfl rfl rfl rfl rfl (by assumption)
theorem aC {x lo:Int}:FC Tryz.prog 140 [I x,I lo] ([]) (B (dB (inP x lo 1000000000000000))) ([]):=by
 refine al tk 8 [.tmp 4] Tryz.func140 (by kernel_rfl) rfl rfl rfl rfl rfl rfl rfl ?_
 repeat' (first
| apply yds;rfl
| apply yd;rfl
| intro _
| refine nv ?_
| apply ycp;rfl;exact aI;rfl
| fail)
 all_goals first | exact bp [] rfl rfl rfl rfl rfl rfl (by assumption) | exact aQ [] rfl rfl rfl rfl rfl rfl (by assumption)
def bef (a b c d:Int):Prop:=a < c ∨ a = c ∧ b < d
noncomputable def dC (a b c d:Int):Int:=pick (bef a b c d) (-1) (pick (a = c ∧ b = d) 0 1)
theorem byBoth_lt {a b c d:Int}:dC a b c d < 0 ↔ bef a b c d:=by
 unfold dC
 by_cases h:bef a b c d
 ·rw [aD h];simp [h]
 ·rw [aB h]
  by_cases h2:a = c ∧ b = d
  ·rw [aD h2];simp [h]
  ·rw [aB h2];simp [h]
theorem gq {a b c d:Int}:FC Tryz.prog 227 [I a,I b,I c,I d] ([]) (I (dC a b c d)) ([]):=by
 refine al tk 32 [.tmp 8] Tryz.func227 (by kernel_rfl) rfl rfl rfl rfl rfl rfl rfl ?_
 repeat' (first
| apply yds;rfl
| apply yd;rfl
| intro _
| refine nv ?_
| apply wct rfl
| apply wcf rfl
| apply ag;rfl
| fail)
 all_goals exact bO [] rfl rfl rfl rfl rfl rfl (by
  unfold dC
  first
  | exact aD (by unfold bef;omega)
  | (rw [aB (by unfold bef;omega)];first | exact aD (by omega) | exact aB (by omega)))
theorem gW {a b c d:Int}:FC Tryz.prog 263 [I a,I b,I c,I d] ([]) (B (dB (bef a b c d))) ([]):=by
 refine al tk 22 [.tmp 8] Tryz.func263 (by kernel_rfl) rfl rfl rfl rfl rfl rfl rfl ?_
 repeat' (first
| apply yds;rfl
| apply yd;rfl
| intro _
| refine nv ?_
| apply ag;rfl
| fail)
 all_goals first | exact bp [] rfl rfl rfl rfl rfl rfl (by unfold bef;omega) | exact aQ [] rfl rfl rfl rfl rfl rfl (by unfold bef;omega)
def ut (l:List Account) (i:Int):Prop:=aj (rd l i).No ∧ inP (rd l i).Kind 1 4 ∧ (0 < i → (rd l (i - 1)).No < (rd l i).No)
def aL (l:List Account):Prop:=(∀ i:Int,0 ≤ i → i < l.length → ut l i) ∧ l.length ≤ 20
theorem dJ {l:List Account}:FC Tryz.prog 145 [.c (.row 0 0 l.length)] ([ro 42 l]) (B (dB (aL l))) ([ro 42 l]):=by
 refine al tk 41 [.tmp 2] Tryz.func145 (by kernel_rfl) rfl rfl rfl rfl rfl rfl rfl ?_
 refine cj l 0 rfl (fun hl => ?_)
 repeat' (first
| apply yds;rfl
| apply yd;rfl
| refine nv ?_
| fail)
 all_goals skip
 refine wlp (X:=Int) [0,5,6] [0] (fun i => [(7,I i)]) (fun _ => []) (fun i => 0 ≤ i ∧ i ≤ l.length ∧ ∀ j,0 ≤ j → j < i → ut l j) (fun i => (l.length - i).toNat) 0 ⟨by omega,by omega,fun j h0 h1 => by omega⟩ rfl rfl (fun _ => rfl) (fun _ => rfl) ⟨rfl,rfl,rfl,rfl,rfl,rfl,rfl,rfl⟩ (fun i hi => ?_)
 obtain ⟨h0,hi,hall⟩:=hi
 repeat' (first
| apply yds;rfl
| apply yd;rfl
| intro _
| refine nv ?_
| apply wct rfl
| apply wcf rfl
| apply ae rfl
| apply ag;rfl
| apply yar;rfl;omega
| apply yix;rfl;omega
| apply yle;rfl;omega
| refine zdq (id:=4) rfl (by kernel_rfl) [(.p,0),(.t,1),(.o,2),(.p,3),(.p,4),(.p,5),(.t,6),(.o,7),(.p,8),(.p,9),(.p,10),(.p,11),(.p,12),(.p,13),(.p,14),(.p,15),(.p,16),(.p,17),(.p,18),(.p,20),(.t,19),(.t,21),(.p,22),(.p,23),(.p,24)] [] (by kernel_rfl) rfl ?_
| apply ycp;rfl;(first | exact bQ | exact aJ);rfl
| fail)
 all_goals first
  | exact bp [0] rfl rfl rfl rfl rfl rfl ⟨fun j h0 h1 => hall j h0 (by omega),by omega⟩
  | exact aQ [0] rfl rfl rfl rfl rfl rfl (fun h => by
     first
     | exact absurd h.2 (by omega)
     | (obtain ⟨g0,g1,g2⟩:=h.1 i (by omega) (by omega)
        first | contradiction | omega))
  | exact aA (i + 1) [0] ⟨rfl,rfl,rfl,rfl,rfl,rfl,rfl,rfl⟩ ⟨by omega,by omega,ay hall ⟨by first | assumption | omega,by first | assumption | omega,fun _ => by first | assumption | omega | exact byBoth_lt.1 (by omega)⟩⟩ (by first | omega | (dsimp only;omega))
theorem cq {l:List Account}:FC Tryz.prog 219 [.c (.row 0 0 l.length)] ([ro 42 l]) (B (dB (aL l))) ([ro 42 l]):=by
 refine al tk 47 [.tmp 2] Tryz.func219 (by kernel_rfl) rfl rfl rfl rfl rfl rfl rfl ?_
 refine cj l 0 rfl (fun hl => ?_)
 repeat' (first
| apply yds;rfl
| apply yd;rfl
| intro _
| refine nv ?_
| apply wct rfl
| apply wcf rfl
| apply ag;rfl
| fail)
 all_goals first | exact aQ [0] rfl rfl rfl rfl rfl rfl (fun h => absurd h.2 (by omega)) | skip
 refine wlp (X:=Int) [0] [0] (fun i => [(3,I i)]) (fun _ => []) (fun i => 0 ≤ i ∧ i ≤ l.length ∧ ∀ j,0 ≤ j → j < i → ut l j) (fun i => (l.length - i).toNat) 0 ⟨by omega,by omega,fun j h0 h1 => by omega⟩ rfl rfl (fun _ => rfl) (fun _ => rfl) ⟨rfl,rfl,rfl,rfl,rfl,rfl,rfl,rfl⟩ (fun i hi => ?_)
 obtain ⟨h0,hi,hall⟩:=hi
 repeat' (first
| apply yds;rfl
| apply yd;rfl
| intro _
| refine nv ?_
| apply wct rfl
| apply wcf rfl
| apply ae rfl
| apply ag;rfl
| apply yar;rfl;omega
| apply yix;rfl;omega
| apply yle;rfl;omega
| refine zdq (id:=6) rfl (by kernel_rfl) [(.p,0),(.p,1),(.p,2),(.p,3),(.t,4),(.o,5),(.p,6),(.p,7),(.p,8),(.p,9),(.p,10),(.p,11),(.t,12),(.o,13),(.p,14),(.p,15),(.p,16),(.p,17),(.p,18),(.p,19),(.p,20),(.p,21),(.p,22),(.p,23),(.p,24),(.p,26),(.p,27),(.p,28),(.p,29),(.t,25),(.t,30),(.p,31),(.p,32),(.p,33)] [] (by kernel_rfl) rfl ?_
| apply ycp;rfl;(first | exact aK | exact aI);rfl
| fail)
 all_goals first
  | exact bp [0] rfl rfl rfl rfl rfl rfl ⟨fun j h0 h1 => hall j h0 (by omega),by omega⟩
  | exact aQ [0] rfl rfl rfl rfl rfl rfl (fun h => by
     first
     | exact absurd h.2 (by omega)
     | (obtain ⟨g0,g1,g2⟩:=h.1 i (by omega) (by omega)
        first | contradiction | omega))
  | exact aA (i + 1) [0] ⟨rfl,rfl,rfl,rfl,rfl,rfl,rfl,rfl⟩ ⟨by omega,by omega,ay hall ⟨by first | assumption | omega,by first | assumption | omega,fun _ => by first | assumption | omega | exact byBoth_lt.1 (by omega)⟩⟩ (by first | omega | (dsimp only;omega))
def uN (l:List Instr) (i:Int):Prop:=aj (rd l i).No ∧ inP (rd l i).Kind 1 2 ∧ (0 < i → (rd l (i - 1)).No < (rd l i).No)
def bq (l:List Instr):Prop:=(∀ i:Int,0 ≤ i → i < l.length → uN l i) ∧ l.length ≤ 8
theorem eI {l:List Instr}:FC Tryz.prog 146 [.c (.row 0 0 l.length)] ([ro 74 l]) (B (dB (bq l))) ([ro 74 l]):=by
 refine al tk 41 [.tmp 2] Tryz.func146 (by kernel_rfl) rfl rfl rfl rfl rfl rfl rfl ?_
 refine cj l 0 rfl (fun hl => ?_)
 repeat' (first
| apply yds;rfl
| apply yd;rfl
| refine nv ?_
| fail)
 all_goals skip
 refine wlp (X:=Int) [0,5,6] [0] (fun i => [(7,I i)]) (fun _ => []) (fun i => 0 ≤ i ∧ i ≤ l.length ∧ ∀ j,0 ≤ j → j < i → uN l j) (fun i => (l.length - i).toNat) 0 ⟨by omega,by omega,fun j h0 h1 => by omega⟩ rfl rfl (fun _ => rfl) (fun _ => rfl) ⟨rfl,rfl,rfl,rfl,rfl,rfl,rfl,rfl⟩ (fun i hi => ?_)
 obtain ⟨h0,hi,hall⟩:=hi
 repeat' (first
| apply yds;rfl
| apply yd;rfl
| intro _
| refine nv ?_
| apply wct rfl
| apply wcf rfl
| apply ae rfl
| apply ag;rfl
| apply yar;rfl;omega
| apply yix;rfl;omega
| apply yle;rfl;omega
| refine zdq (id:=4) rfl (by kernel_rfl) [(.p,0),(.t,1),(.o,2),(.p,3),(.p,4),(.p,5),(.t,6),(.o,7),(.p,8),(.p,9),(.p,10),(.p,11),(.p,12),(.p,13),(.p,14),(.p,15),(.p,16),(.p,17),(.p,18),(.p,20),(.t,19),(.t,21),(.p,22),(.p,23),(.p,24)] [] (by kernel_rfl) rfl ?_
| apply ycp;rfl;(first | exact bQ | exact aJ);rfl
| fail)
 all_goals first
  | exact bp [0] rfl rfl rfl rfl rfl rfl ⟨fun j h0 h1 => hall j h0 (by omega),by omega⟩
  | exact aQ [0] rfl rfl rfl rfl rfl rfl (fun h => by
     first
     | exact absurd h.2 (by omega)
     | (obtain ⟨g0,g1,g2⟩:=h.1 i (by omega) (by omega)
        first | contradiction | omega))
  | exact aA (i + 1) [0] ⟨rfl,rfl,rfl,rfl,rfl,rfl,rfl,rfl⟩ ⟨by omega,by omega,ay hall ⟨by first | assumption | omega,by first | assumption | omega,fun _ => by first | assumption | omega | exact byBoth_lt.1 (by omega)⟩⟩ (by first | omega | (dsimp only;omega))
theorem cW {l:List Instr}:FC Tryz.prog 173 [.c (.row 0 0 l.length)] ([ro 74 l]) (B (dB (bq l))) ([ro 74 l]):=by
 refine al tk 47 [.tmp 2] Tryz.func173 (by kernel_rfl) rfl rfl rfl rfl rfl rfl rfl ?_
 refine cj l 0 rfl (fun hl => ?_)
 repeat' (first
| apply yds;rfl
| apply yd;rfl
| intro _
| refine nv ?_
| apply wct rfl
| apply wcf rfl
| apply ag;rfl
| fail)
 all_goals first | exact aQ [0] rfl rfl rfl rfl rfl rfl (fun h => absurd h.2 (by omega)) | skip
 refine wlp (X:=Int) [0] [0] (fun i => [(3,I i)]) (fun _ => []) (fun i => 0 ≤ i ∧ i ≤ l.length ∧ ∀ j,0 ≤ j → j < i → uN l j) (fun i => (l.length - i).toNat) 0 ⟨by omega,by omega,fun j h0 h1 => by omega⟩ rfl rfl (fun _ => rfl) (fun _ => rfl) ⟨rfl,rfl,rfl,rfl,rfl,rfl,rfl,rfl⟩ (fun i hi => ?_)
 obtain ⟨h0,hi,hall⟩:=hi
 repeat' (first
| apply yds;rfl
| apply yd;rfl
| intro _
| refine nv ?_
| apply wct rfl
| apply wcf rfl
| apply ae rfl
| apply ag;rfl
| apply yar;rfl;omega
| apply yix;rfl;omega
| apply yle;rfl;omega
| refine zdq (id:=6) rfl (by kernel_rfl) [(.p,0),(.p,1),(.p,2),(.p,3),(.t,4),(.o,5),(.p,6),(.p,7),(.p,8),(.p,9),(.p,10),(.p,11),(.t,12),(.o,13),(.p,14),(.p,15),(.p,16),(.p,17),(.p,18),(.p,19),(.p,20),(.p,21),(.p,22),(.p,23),(.p,24),(.p,26),(.p,27),(.p,28),(.p,29),(.t,25),(.t,30),(.p,31),(.p,32),(.p,33)] [] (by kernel_rfl) rfl ?_
| apply ycp;rfl;(first | exact aK | exact aI);rfl
| fail)
 all_goals first
  | exact bp [0] rfl rfl rfl rfl rfl rfl ⟨fun j h0 h1 => hall j h0 (by omega),by omega⟩
  | exact aQ [0] rfl rfl rfl rfl rfl rfl (fun h => by
     first
     | exact absurd h.2 (by omega)
     | (obtain ⟨g0,g1,g2⟩:=h.1 i (by omega) (by omega)
        first | contradiction | omega))
  | exact aA (i + 1) [0] ⟨rfl,rfl,rfl,rfl,rfl,rfl,rfl,rfl⟩ ⟨by omega,by omega,ay hall ⟨by first | assumption | omega,by first | assumption | omega,fun _ => by first | assumption | omega | exact byBoth_lt.1 (by omega)⟩⟩ (by first | omega | (dsimp only;omega))
def wC (l:List Bal) (i:Int):Prop:=aj (rd l i).Account ∧ aj (rd l i).Instr ∧ ak (rd l i).Amount ∧ (rd l i).Amount ≠ 0 ∧ (0 < i → bef (rd l (i - 1)).Account (rd l (i - 1)).Instr (rd l i).Account (rd l i).Instr)
def BalsOk (l:List Bal):Prop:=(∀ i:Int,0 ≤ i → i < l.length → wC l i) ∧ l.length ≤ 160
theorem gp {l:List Bal}:FC Tryz.prog 115 [.c (.row 0 0 l.length)] ([ro 135 l]) (B (dB (BalsOk l))) ([ro 135 l]):=by
 refine al tk 59 [.tmp 2] Tryz.func115 (by kernel_rfl) rfl rfl rfl rfl rfl rfl rfl ?_
 refine cj l 0 rfl (fun hl => ?_)
 repeat' (first
| apply yds;rfl
| apply yd;rfl
| refine nv ?_
| fail)
 all_goals skip
 refine wlp (X:=Int) [0,5,6] [0] (fun i => [(7,I i)]) (fun _ => []) (fun i => 0 ≤ i ∧ i ≤ l.length ∧ ∀ j,0 ≤ j → j < i → wC l j) (fun i => (l.length - i).toNat) 0 ⟨by omega,by omega,fun j h0 h1 => by omega⟩ rfl rfl (fun _ => rfl) (fun _ => rfl) ⟨rfl,rfl,rfl,rfl,rfl,rfl,rfl,rfl⟩ (fun i hi => ?_)
 obtain ⟨h0,hi,hall⟩:=hi
 repeat' (first
| apply yds;rfl
| apply yd;rfl
| intro _
| refine nv ?_
| apply wct rfl
| apply wcf rfl
| apply ae rfl
| apply ag;rfl
| apply yar;rfl;omega
| apply yix;rfl;omega
| apply yle;rfl;omega
| refine zdq (id:=6) rfl (by kernel_rfl) [(.p,0),(.p,1),(.p,2),(.p,3),(.p,4),(.p,5),(.p,6),(.p,7),(.p,9),(.p,10),(.p,11),(.p,12),(.p,13),(.p,15),(.p,17),(.t,8),(.t,14),(.t,16),(.t,18),(.o,19),(.p,20),(.p,21)] [] (by kernel_rfl) rfl ?_
| apply ycp;rfl;(first | exact bQ | exact cI);rfl
| apply yc;rfl;exact gq;rfl;exact fun _ => rfl
| fail)
 all_goals first
  | exact bp [0] rfl rfl rfl rfl rfl rfl ⟨fun j h0 h1 => hall j h0 (by omega),by omega⟩
  | exact aQ [0] rfl rfl rfl rfl rfl rfl (fun h => by
     first
     | exact absurd h.2 (by omega)
     | (obtain ⟨g0,g1,g2,g3,g4⟩:=h.1 i (by omega) (by omega)
        first | contradiction | (have:=g4 (by omega);(have:=byBoth_lt.2 this;omega))))
  | exact aA (i + 1) [0] ⟨rfl,rfl,rfl,rfl,rfl,rfl,rfl,rfl⟩ ⟨by omega,by omega,ay hall ⟨by first | assumption | omega,by first | assumption | omega,by first | assumption | omega,by first | assumption | omega,fun _ => by first | assumption | omega | exact byBoth_lt.1 (by omega)⟩⟩ (by first | omega | (dsimp only;omega))
theorem eT {l:List Bal}:FC Tryz.prog 174 [.c (.row 0 0 l.length)] ([ro 135 l]) (B (dB (BalsOk l))) ([ro 135 l]):=by
 refine al tk 63 [.tmp 2] Tryz.func174 (by kernel_rfl) rfl rfl rfl rfl rfl rfl rfl ?_
 refine cj l 0 rfl (fun hl => ?_)
 repeat' (first
| apply yds;rfl
| apply yd;rfl
| intro _
| refine nv ?_
| apply wct rfl
| apply wcf rfl
| apply ag;rfl
| fail)
 all_goals first | exact aQ [0] rfl rfl rfl rfl rfl rfl (fun h => absurd h.2 (by omega)) | skip
 refine wlp (X:=Int) [0] [0] (fun i => [(3,I i)]) (fun _ => []) (fun i => 0 ≤ i ∧ i ≤ l.length ∧ ∀ j,0 ≤ j → j < i → wC l j) (fun i => (l.length - i).toNat) 0 ⟨by omega,by omega,fun j h0 h1 => by omega⟩ rfl rfl (fun _ => rfl) (fun _ => rfl) ⟨rfl,rfl,rfl,rfl,rfl,rfl,rfl,rfl⟩ (fun i hi => ?_)
 obtain ⟨h0,hi,hall⟩:=hi
 repeat' (first
| apply yds;rfl
| apply yd;rfl
| intro _
| refine nv ?_
| apply wct rfl
| apply wcf rfl
| apply ae rfl
| apply ag;rfl
| apply yar;rfl;omega
| apply yix;rfl;omega
| apply yle;rfl;omega
| refine zdq (id:=7) rfl (by kernel_rfl) [(.p,0),(.t,1),(.o,2),(.p,3),(.p,4),(.p,5),(.t,6),(.o,7),(.p,8),(.p,9),(.p,10),(.p,11),(.t,12),(.o,13),(.p,14),(.p,15),(.p,16),(.p,17),(.t,18),(.p,19),(.p,20),(.p,21),(.p,22),(.p,23),(.p,24),(.p,25),(.p,26),(.p,27),(.p,28),(.p,29),(.p,31),(.p,32),(.p,33),(.p,34),(.p,35),(.p,37),(.p,39),(.t,30),(.t,36),(.t,38),(.t,40),(.o,41),(.p,42),(.p,43),(.p,44)] [] (by kernel_rfl) rfl ?_
| apply ycp;rfl;(first | exact aK | exact cg | exact gW);rfl
| fail)
 all_goals first
  | exact bp [0] rfl rfl rfl rfl rfl rfl ⟨fun j h0 h1 => hall j h0 (by omega),by omega⟩
  | exact aQ [0] rfl rfl rfl rfl rfl rfl (fun h => by
     first
     | exact absurd h.2 (by omega)
     | (obtain ⟨g0,g1,g2,g3,g4⟩:=h.1 i (by omega) (by omega)
        first | contradiction | (have:=g4 (by omega);contradiction)))
  | exact aA (i + 1) [0] ⟨rfl,rfl,rfl,rfl,rfl,rfl,rfl,rfl⟩ ⟨by omega,by omega,ay hall ⟨by first | assumption | omega,by first | assumption | omega,by first | assumption | omega,by first | assumption | omega,fun _ => by first | assumption | omega | exact byBoth_lt.1 (by omega)⟩⟩ (by first | omega | (dsimp only;omega))
def BB (l:List Trade) (i:Int):Prop:=aj (rd l i).No ∧ aj (rd l i).Buyer ∧ aj (rd l i).Seller ∧ aj (rd l i).Paper ∧ aj (rd l i).Cash ∧ (rd l i).Buyer ≠ (rd l i).Seller ∧ inP (rd l i).Qty 1 1000000000000000 ∧ inP (rd l i).Price 0 1000000000000000 ∧ inP (rd l i).State 1 3 ∧ (0 < i → (rd l (i - 1)).No < (rd l i).No)
def kF (l:List Trade):Prop:=(∀ i:Int,0 ≤ i → i < l.length → BB l i) ∧ l.length ≤ 30
theorem oT {l:List Trade}:FC Tryz.prog 148 [.c (.row 0 0 l.length)] ([ro 103 l]) (B (dB (kF l))) ([ro 103 l]):=by
 refine al tk 82 [.tmp 2] Tryz.func148 (by kernel_rfl) rfl rfl rfl rfl rfl rfl rfl ?_
 refine cj l 0 rfl (fun hl => ?_)
 repeat' (first
| apply yds;rfl
| apply yd;rfl
| refine nv ?_
| fail)
 all_goals skip
 refine wlp (X:=Int) [0,5,6] [0] (fun i => [(7,I i)]) (fun _ => []) (fun i => 0 ≤ i ∧ i ≤ l.length ∧ ∀ j,0 ≤ j → j < i → BB l j) (fun i => (l.length - i).toNat) 0 ⟨by omega,by omega,fun j h0 h1 => by omega⟩ rfl rfl (fun _ => rfl) (fun _ => rfl) ⟨rfl,rfl,rfl,rfl,rfl,rfl,rfl,rfl⟩ (fun i hi => ?_)
 obtain ⟨h0,hi,hall⟩:=hi
 repeat' (first
| apply yds;rfl
| apply yd;rfl
| intro _
| refine nv ?_
| apply wct rfl
| apply wcf rfl
| apply ae rfl
| apply ag;rfl
| apply yar;rfl;omega
| apply yix;rfl;omega
| apply yle;rfl;omega
| refine zdq (id:=6) rfl (by kernel_rfl) [(.p,0),(.t,1),(.o,2),(.p,3),(.p,4),(.p,5),(.t,6),(.o,7),(.p,8),(.p,9),(.p,10),(.p,11),(.t,12),(.o,13),(.p,14),(.p,15),(.p,16),(.p,17),(.p,18),(.p,19),(.p,20),(.p,21),(.p,22),(.p,23),(.p,24),(.p,26),(.t,25),(.t,27),(.p,28),(.p,29),(.p,30)] [] (by kernel_rfl) rfl ?_
| apply ycp;rfl;(first | exact bQ | exact aJ);rfl
| fail)
 all_goals first
  | exact bp [0] rfl rfl rfl rfl rfl rfl ⟨fun j h0 h1 => hall j h0 (by omega),by omega⟩
  | exact aQ [0] rfl rfl rfl rfl rfl rfl (fun h => by
     first
     | exact absurd h.2 (by omega)
     | (obtain ⟨g0,g1,g2,g3,g4,g5,g6,g7,g8,g9⟩:=h.1 i (by omega) (by omega)
        first | contradiction | omega))
  | exact aA (i + 1) [0] ⟨rfl,rfl,rfl,rfl,rfl,rfl,rfl,rfl⟩ ⟨by omega,by omega,ay hall ⟨by first | assumption | omega,by first | assumption | omega,by first | assumption | omega,by first | assumption | omega,by first | assumption | omega,by first | assumption | omega,by first | assumption | omega,by first | assumption | omega,by first | assumption | omega,fun _ => by first | assumption | omega | exact byBoth_lt.1 (by omega)⟩⟩ (by first | omega | (dsimp only;omega))
theorem pm {l:List Trade}:FC Tryz.prog 221 [.c (.row 0 0 l.length)] ([ro 103 l]) (B (dB (kF l))) ([ro 103 l]):=by
 refine al tk 86 [.tmp 2] Tryz.func221 (by kernel_rfl) rfl rfl rfl rfl rfl rfl rfl ?_
 refine cj l 0 rfl (fun hl => ?_)
 repeat' (first
| apply yds;rfl
| apply yd;rfl
| intro _
| refine nv ?_
| apply wct rfl
| apply wcf rfl
| apply ag;rfl
| fail)
 all_goals first | exact aQ [0] rfl rfl rfl rfl rfl rfl (fun h => absurd h.2 (by omega)) | skip
 refine wlp (X:=Int) [0] [0] (fun i => [(3,I i)]) (fun _ => []) (fun i => 0 ≤ i ∧ i ≤ l.length ∧ ∀ j,0 ≤ j → j < i → BB l j) (fun i => (l.length - i).toNat) 0 ⟨by omega,by omega,fun j h0 h1 => by omega⟩ rfl rfl (fun _ => rfl) (fun _ => rfl) ⟨rfl,rfl,rfl,rfl,rfl,rfl,rfl,rfl⟩ (fun i hi => ?_)
 obtain ⟨h0,hi,hall⟩:=hi
 repeat' (first
| apply yds;rfl
| apply yd;rfl
| intro _
| refine nv ?_
| apply wct rfl
| apply wcf rfl
| apply ae rfl
| apply ag;rfl
| apply yar;rfl;omega
| apply yix;rfl;omega
| apply yle;rfl;omega
| refine zdq (id:=7) rfl (by kernel_rfl) [(.p,0),(.t,1),(.o,2),(.p,3),(.p,4),(.p,5),(.t,6),(.o,7),(.p,8),(.p,9),(.p,10),(.p,11),(.t,12),(.o,13),(.p,14),(.p,15),(.p,16),(.p,17),(.t,18),(.o,19),(.p,20),(.p,21),(.p,22),(.p,23),(.t,24),(.o,25),(.p,26),(.p,27),(.p,28),(.p,29),(.p,31),(.t,30),(.t,32),(.p,33),(.p,34),(.p,35),(.p,36),(.t,37),(.o,38),(.p,39),(.p,40),(.p,41),(.p,42),(.t,43),(.o,44),(.p,45),(.p,46),(.p,47),(.p,48),(.t,49),(.o,50),(.p,51),(.p,52),(.p,53),(.p,54),(.p,55),(.p,56),(.p,57),(.p,58),(.p,59),(.p,60),(.p,61),(.p,63),(.t,62),(.t,64),(.p,65),(.p,66),(.p,67)] [] (by kernel_rfl) rfl ?_
| apply ycp;rfl;(first | exact aK | exact aC | exact aI);rfl
| fail)
 all_goals first
  | exact bp [0] rfl rfl rfl rfl rfl rfl ⟨fun j h0 h1 => hall j h0 (by omega),by omega⟩
  | exact aQ [0] rfl rfl rfl rfl rfl rfl (fun h => by
     first
     | exact absurd h.2 (by omega)
     | (obtain ⟨g0,g1,g2,g3,g4,g5,g6,g7,g8,g9⟩:=h.1 i (by omega) (by omega)
        first | contradiction | omega))
  | exact aA (i + 1) [0] ⟨rfl,rfl,rfl,rfl,rfl,rfl,rfl,rfl⟩ ⟨by omega,by omega,ay hall ⟨by first | assumption | omega,by first | assumption | omega,by first | assumption | omega,by first | assumption | omega,by first | assumption | omega,by first | assumption | omega,by first | assumption | omega,by first | assumption | omega,by first | assumption | omega,fun _ => by first | assumption | omega | exact byBoth_lt.1 (by omega)⟩⟩ (by first | omega | (dsimp only;omega))
end Go.Proofs.YtgehbhkfehmdkaaGreat.Sh
