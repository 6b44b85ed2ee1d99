/- Changes wu a desk: both sides. No condition. -/
import Derived.Test.YtgehbhkfehmdkaaGreatKFxShV
import Derived.Test.YtgehbhkfehmdkaaGreatKFxShPo
import Derived.Test.YtgehbhkfehmdkaaGreatKFxShMu
import Derived.Test.YtgehbhkfehmdkaaGreatKFxShNt
set_option maxRecDepth 100000
set_option maxHeartbeats 40000000
set_option linter.unusedSimpArgs false
set_option linter.unusedVariables false
namespace Go.Proofs.YtgehbhkfehmdkaaGreat.Sh
open Go.RowKit
abbrev bY (ho de fr to am got:Int):List Leg:=[⟨ho,fr,-am⟩,⟨de,fr,am⟩,⟨de,to,-got⟩,⟨ho,to,got⟩]
def d8 (ho de fr to am nu dn:Int):Prop:=(∀ x ∈ [ho,de,fr,to],ag x) ∧ inP am 1 1000000000000000 ∧ inP nu 1 1000000000000000 ∧ inP dn 1 1000000000000000
theorem su {ho de fr to am nu dn:Int} (h1:ag ho) (h2:ag de) (h3:ag fr) (h4:ag to) (h5:inP am 1 1000000000000000) (h6:inP nu 1 1000000000000000) (h7:inP dn 1 1000000000000000):d8 ho de fr to am nu dn:=⟨fun x hx => by simp only [List.mem_cons,List.not_mem_nil,or_false] at hx;rcases hx with rfl | rfl | rfl | rfl <;> assumption,h5,h6,h7⟩
theorem mg {ho de fr to am nu dn:Int} (h:d8 ho de fr to am nu dn):ag ho ∧ ag de ∧ ag fr ∧ ag to ∧ inP am 1 1000000000000000 ∧ inP nu 1 1000000000000000 ∧ inP dn 1 1000000000000000:=⟨h.1 _ (by simp),h.1 _ (by simp),h.1 _ (by simp),h.1 _ (by simp),h.2⟩
noncomputable def aZ (b:Books) (ho de fr to am nu dn:Int):Books × Int × Int :=
 sel (¬ (BooksOk b ∧ d8 ho de fr to am nu dn)) (⟨[],[],[],[],[],0⟩,0,1)
 (sel (a9 b.Accounts ho = 0 ∨ a9 b.Accounts de = 0 ∨ aa b.Instrs fr = 0 ∨ aa b.Instrs to = 0) (b,0,3)
 (sel (a9 b.Accounts ho ≠ 1 ∨ a9 b.Accounts de ≠ 3 ∨ aa b.Instrs fr ≠ 1 ∨ aa b.Instrs to ≠ 1 ∨ fr = to) (b,0,4)
 (sel (¬ cO am nu dn) (b,0,8)
 (sel (¬ (poR b (bY ho de fr to am (am * nu / dn))).2 = 0) (b,0,cj (poR b (bY ho de fr to am (am * nu / dn))).2)
 (⟨b.Accounts,b.Instrs,(poR b (bY ho de fr to am (am * nu / dn))).1,b.Lots,b.Trades,b.Lot⟩,am * nu / dn,0)))))
theorem fY {b:Books} {ho de fr to am nu dn:Int}  (c0:¬ (BooksOk b ∧ d8 ho de fr to am nu dn)):aZ b ho de fr to am nu dn = (⟨[],[],[],[],[],0⟩,0,1):=by
 rw [aZ,al c0]
theorem kG {b:Books} {ho de fr to am nu dn:Int} (c0:¬ (¬ (BooksOk b ∧ d8 ho de fr to am nu dn))) (c1:a9 b.Accounts ho = 0 ∨ a9 b.Accounts de = 0 ∨ aa b.Instrs fr = 0 ∨ aa b.Instrs to = 0):aZ b ho de fr to am nu dn = (b,0,3):=by
 rw [aZ,a8 c0,al c1]
theorem kH {b:Books} {ho de fr to am nu dn:Int} (c0:¬ (¬ (BooksOk b ∧ d8 ho de fr to am nu dn))) (c1:¬ (a9 b.Accounts ho = 0 ∨ a9 b.Accounts de = 0 ∨ aa b.Instrs fr = 0 ∨ aa b.Instrs to = 0)) (c2:a9 b.Accounts ho ≠ 1 ∨ a9 b.Accounts de ≠ 3 ∨ aa b.Instrs fr ≠ 1 ∨ aa b.Instrs to ≠ 1 ∨ fr = to):aZ b ho de fr to am nu dn = (b,0,4):=by
 rw [aZ,a8 c0,a8 c1,al c2]
theorem kI {b:Books} {ho de fr to am nu dn:Int} (c0:¬ (¬ (BooksOk b ∧ d8 ho de fr to am nu dn))) (c1:¬ (a9 b.Accounts ho = 0 ∨ a9 b.Accounts de = 0 ∨ aa b.Instrs fr = 0 ∨ aa b.Instrs to = 0)) (c2:¬ (a9 b.Accounts ho ≠ 1 ∨ a9 b.Accounts de ≠ 3 ∨ aa b.Instrs fr ≠ 1 ∨ aa b.Instrs to ≠ 1 ∨ fr = to)) (c3:¬ cO am nu dn):aZ b ho de fr to am nu dn = (b,0,8):=by
 rw [aZ,a8 c0,a8 c1,a8 c2,al c3]
theorem kJ {b:Books} {ho de fr to am nu dn:Int} (c0:¬ (¬ (BooksOk b ∧ d8 ho de fr to am nu dn))) (c1:¬ (a9 b.Accounts ho = 0 ∨ a9 b.Accounts de = 0 ∨ aa b.Instrs fr = 0 ∨ aa b.Instrs to = 0)) (c2:¬ (a9 b.Accounts ho ≠ 1 ∨ a9 b.Accounts de ≠ 3 ∨ aa b.Instrs fr ≠ 1 ∨ aa b.Instrs to ≠ 1 ∨ fr = to)) (c3:¬ (¬ cO am nu dn)) (c4:¬ (poR b (bY ho de fr to am (am * nu / dn))).2 = 0):aZ b ho de fr to am nu dn = (b,0,cj (poR b (bY ho de fr to am (am * nu / dn))).2):=by
 rw [aZ,a8 c0,a8 c1,a8 c2,a8 c3,al c4]
theorem kK {b:Books} {ho de fr to am nu dn:Int} (c0:¬ (¬ (BooksOk b ∧ d8 ho de fr to am nu dn))) (c1:¬ (a9 b.Accounts ho = 0 ∨ a9 b.Accounts de = 0 ∨ aa b.Instrs fr = 0 ∨ aa b.Instrs to = 0)) (c2:¬ (a9 b.Accounts ho ≠ 1 ∨ a9 b.Accounts de ≠ 3 ∨ aa b.Instrs fr ≠ 1 ∨ aa b.Instrs to ≠ 1 ∨ fr = to)) (c3:¬ (¬ cO am nu dn)) (c4:¬ (¬ (poR b (bY ho de fr to am (am * nu / dn))).2 = 0)):aZ b ho de fr to am nu dn = (⟨b.Accounts,b.Instrs,(poR b (bY ho de fr to am (am * nu / dn))).1,b.Lots,b.Trades,b.Lot⟩,am * nu / dn,0):=by
 rw [aZ,a8 c0,a8 c1,a8 c2,a8 c3,a8 c4]
theorem mh {ho de fr to am got:Int} (h1:ag ho) (h2:ag de) (h3:ag fr) (h4:ag to) (h5:0 ≤ am ∧ am ≤ 1000000000000000) (h6:0 ≤ got ∧ got ≤ 1000000000000000) (hne:fr ≠ to):co (bY ho de fr to am got):=by
 refine ⟨⟨by show 4 ≤ 160;omega,fun x hx => ?_⟩,fun x hx => ?_⟩
 ·simp only [bY,List.mem_cons,List.not_mem_nil,or_false] at hx
  rcases hx with rfl | rfl | rfl | rfl <;> (refine ⟨by assumption,by assumption,?_⟩;show -1000000000000000 ≤ _ ∧ _ ≤ 1000000000000000;dsimp only;omega)
 ·have e:∀ c:Int,bf (bY ho de fr to am got) c = (if fr = c then -am else 0) + ((if fr = c then am else 0) + ((if to = c then -got else 0) + ((if to = c then got else 0) + 0))):=fun c => by
   simp only [bf,ak,bY,List.map_cons,List.map_nil,List.sum_cons,List.sum_nil,eR]
  rw [e]
  split <;> split <;> omega
theorem oI {ba:List Account} {bi:List Instr} {bb:List Bal} {bl:List Lot} {bt:List Trade} {bn:Int} {ho de fr to am nu dn:Int}:FC Tryz.prog 55 [bkV 0 ⟨ba,bi,bb,bl,bt,bn⟩,I ho,I de,I fr,I to,I am,I nu,I dn] (bkR ⟨ba,bi,bb,bl,bt,bn⟩) (.tup [bkE 5 (aZ ⟨ba,bi,bb,bl,bt,bn⟩ ho de fr to am nu dn).1,I (aZ ⟨ba,bi,bb,bl,bt,bn⟩ ho de fr to am nu dn).2.1,I (aZ ⟨ba,bi,bb,bl,bt,bn⟩ ho de fr to am nu dn).2.2]) (bkR ⟨ba,bi,bb,bl,bt,bn⟩ ++ bkW (aZ ⟨ba,bi,bb,bl,bt,bn⟩ ho de fr to am nu dn).1):=by
 refine ay tk 137 [.cell 16 _,.tmp 17,.tmp 18] Tryz.func55 (by kernel_rfl) rfl rfl rfl rfl rfl rfl rfl ?_
 by_cases hok:BooksOk ⟨ba,bi,bb,bl,bt,bn⟩
 rotate_left
 ·
  rw [fY (b:=⟨ba,bi,bb,bl,bt,bn⟩) (fun h => hok h.1)]
  repeat' (first
| intro h9;exfalso;contradiction
| apply ap (d:=51) 0 42 2;rfl;rfl;rfl;rfl;rfl
| apply ap (d:=51) 1 74 2;rfl;rfl;rfl;rfl;rfl
| apply ap (d:=51) 2 135 3;rfl;rfl;rfl;rfl;rfl
| apply ap (d:=51) 3 137 5;rfl;rfl;rfl;rfl;rfl
| apply ap (d:=51) 4 103 8;rfl;rfl;rfl;rfl;rfl
| apply yd;rfl
| intro _
| refine nv ?_
| apply wct rfl
| apply ycp;rfl;exact dQ;rfl
| fail)
  all_goals exact au [0,1,2,3,4,7,8,9,10,11] rfl rfl rfl rfl rfl rfl
 by_cases hta:d8 ho de fr to am nu dn
 rotate_left
 ·
  rw [fY (b:=⟨ba,bi,bb,bl,bt,bn⟩) (fun h => hta h.2)]
  repeat' (first
| intro h9;exfalso;contradiction
| intro h9;exact absurd ⟨by assumption,by assumption,by assumption,by assumption⟩ hta
| apply ap (d:=51) 0 42 2;rfl;rfl;rfl;rfl;rfl
| apply ap (d:=51) 1 74 2;rfl;rfl;rfl;rfl;rfl
| apply ap (d:=51) 2 135 3;rfl;rfl;rfl;rfl;rfl
| apply ap (d:=51) 3 137 5;rfl;rfl;rfl;rfl;rfl
| apply ap (d:=51) 4 103 8;rfl;rfl;rfl;rfl;rfl
| apply yd;rfl
| intro _
| refine nv ?_
| apply wct rfl
| apply aH (α:=Int) (e:=3);rfl
| apply ycp;rfl;(first | exact dQ | exact kX | exact d5);rfl
| fail)
  all_goals exact au [0,1,2,3,4,8,9,10,11,12] rfl rfl rfl rfl rfl rfl
 have hA:=hok.acc
 have hI:=hok.ins
 have hal:=hA.2
 have hno:=hta.1
 dsimp only at hA hI hal
 obtain ⟨k1,k2,k3,k4,k5,k6,k7⟩:=mg hta
 have c0:¬ ¬ (BooksOk ⟨ba,bi,bb,bl,bt,bn⟩ ∧ d8 ho de fr to am nu dn):=fun k => k ⟨hok,hta⟩
 have hpn:=jI (pN ba bb [⟨ho,fr,-am⟩,⟨de,fr,am⟩,⟨de,to,-(am * nu / dn)⟩,⟨ho,to,am * nu / dn⟩])
 have hsn:=ll (pN ba bb (bv ho de fr am ++ bv de ho to (am * nu / dn)))
 have hl1:=dg ho de fr am
 have hl2:=dg de ho to (am * nu / dn)
 have hq:cO am nu dn → 0 ≤ am * nu / dn:=fun c3 => Int.ediv_nonneg (oY (lO c3).1 (lO c3).2.1).1 (by have:=(lO c3).2.2;omega)
 have hq2:cO am nu dn → am * nu / dn ≤ 1000000000000000:=fun c3 => c3.2.2.2
 have k5':=k5
 unfold inP at k5'
 repeat' (first
| intro h9;exfalso;first | contradiction | omega
| apply yds;rfl
| apply yd;rfl
| apply vu;rfl;rfl;(have h1:=hq (by assumption);have h2:=hq2 (by assumption);omega);rfl;rfl
| intro _
| refine nv ?_
| apply wct rfl
| apply wcf rfl
| apply yeq;rfl
| apply yne;rfl
| apply aH (α:=Int) (e:=3);rfl
| apply aH (α:=Leg) (e:=46);rfl
| apply ycp;rfl;(first | exact dQ | exact kX | exact d5 | exact il);rfl
| apply ycf;rfl;exact jT (by exact BooksOk.midB (by assumption));rfl
| apply yc;rfl;(first | exact jR | exact jm);rfl;exact fun _ => rfl
| apply zcs;(iterate 10 rfl);exact oK;exact fun _ => rfl;exact fun _ => rfl;rfl;rfl;rfl;rfl
| apply jb  [true,true,true,true,true,true,true];(iterate 10 rfl);exact jS (by omega);(iterate 6 rfl)
| fail)
 all_goals first
  | (rw [kG (b:=⟨ba,bi,bb,bl,bt,bn⟩) c0 (by dsimp only;omega)]
     exact au [0,1,2,3,4,8,9,10,11,12] rfl rfl rfl rfl rfl rfl)
  | (rw [kH (b:=⟨ba,bi,bb,bl,bt,bn⟩) c0 (by dsimp only;omega) (by dsimp only;omega)]
     exact au [0,1,2,3,4,8,9,10,11,12] rfl rfl rfl rfl rfl rfl)
  | (rw [kI (b:=⟨ba,bi,bb,bl,bt,bn⟩) c0 (by dsimp only;omega) (by dsimp only;omega) (by assumption)]
     exact au [0,1,2,3,4,8,9,10,11,12] rfl rfl rfl rfl rfl rfl)
  | skip
 all_goals
  have c3:cO am nu dn:=by assumption
  have c1:¬ (a9 (⟨ba,bi,bb,bl,bt,bn⟩:Books).Accounts ho = 0 ∨ a9 (⟨ba,bi,bb,bl,bt,bn⟩:Books).Accounts de = 0 ∨ aa (⟨ba,bi,bb,bl,bt,bn⟩:Books).Instrs fr = 0 ∨ aa (⟨ba,bi,bb,bl,bt,bn⟩:Books).Instrs to = 0):=by dsimp only;omega
  have c2:¬ (a9 (⟨ba,bi,bb,bl,bt,bn⟩:Books).Accounts ho ≠ 1 ∨ a9 (⟨ba,bi,bb,bl,bt,bn⟩:Books).Accounts de ≠ 3 ∨ aa (⟨ba,bi,bb,bl,bt,bn⟩:Books).Instrs fr ≠ 1 ∨ aa (⟨ba,bi,bb,bl,bt,bn⟩:Books).Instrs to ≠ 1 ∨ fr = to):=by dsimp only;omega
  have hlg:=mh k1 k2 k3 k4 (am:=am) (got:=am * nu / dn) (by omega) ⟨hq c3,hq2 c3⟩ (by omega)
  have hpc:=eh hok hlg
  first
  | (have c4:pN ba bb (bY ho de fr to am (am * nu / dn)) = 0:=by assumption
     rw [kK (b:=⟨ba,bi,bb,bl,bt,bn⟩) c0 c1 c2 (fun k => k c3) (fun k => k c4)]
     exact au [0,1,2,3,4,8,9,15,11,12] rfl rfl rfl rfl rfl rfl)
  | (have c4:¬ pN ba bb (bY ho de fr to am (am * nu / dn)) = 0:=by assumption
     rw [kJ (b:=⟨ba,bi,bb,bl,bt,bn⟩) c0 c1 c2 (fun k => k c3) c4]
     exact au [0,1,2,3,4,15,16,17,18,19] rfl rfl rfl rfl rfl rfl)
theorem jK {ba:List Account} {bi:List Instr} {bb:List Bal} {bl:List Lot} {bt:List Trade} {bn:Int} {ho de fr to am nu dn:Int}:FC Tryz.prog 56 [bkV 0 ⟨ba,bi,bb,bl,bt,bn⟩,I ho,I de,I fr,I to,I am,I nu,I dn] (bkR ⟨ba,bi,bb,bl,bt,bn⟩) (.tup [bkE 5 (aZ ⟨ba,bi,bb,bl,bt,bn⟩ ho de fr to am nu dn).1,I (aZ ⟨ba,bi,bb,bl,bt,bn⟩ ho de fr to am nu dn).2.1,I (aZ ⟨ba,bi,bb,bl,bt,bn⟩ ho de fr to am nu dn).2.2]) (bkR ⟨ba,bi,bb,bl,bt,bn⟩ ++ bkW (aZ ⟨ba,bi,bb,bl,bt,bn⟩ ho de fr to am nu dn).1):=by
 refine ay tk 158 [.cell 16 _,.tmp 17,.tmp 18] Tryz.func56 (by kernel_rfl) rfl rfl rfl rfl rfl rfl rfl ?_
 by_cases hok:BooksOk ⟨ba,bi,bb,bl,bt,bn⟩
 rotate_left
 ·
  rw [fY (b:=⟨ba,bi,bb,bl,bt,bn⟩) (fun h => hok h.1)]
  repeat' (first
| intro h9;exfalso;contradiction
| apply ap (d:=66) 0 42 2;rfl;rfl;rfl;rfl;rfl
| apply ap (d:=66) 1 74 2;rfl;rfl;rfl;rfl;rfl
| apply ap (d:=66) 2 135 3;rfl;rfl;rfl;rfl;rfl
| apply ap (d:=66) 3 137 5;rfl;rfl;rfl;rfl;rfl
| apply ap (d:=66) 4 103 8;rfl;rfl;rfl;rfl;rfl
| apply yd;rfl
| intro _
| refine nv ?_
| apply wct rfl
| apply ycp;rfl;exact ae;rfl
| fail)
  all_goals exact au [0,1,2,3,4,7,8,9,10,11] rfl rfl rfl rfl rfl rfl
 by_cases hta:d8 ho de fr to am nu dn
 rotate_left
 ·
  rw [fY (b:=⟨ba,bi,bb,bl,bt,bn⟩) (fun h => hta h.2)]
  repeat' (first
| intro h9;exfalso;contradiction
| intro h9;exact absurd (su (by assumption) (by assumption) (by assumption) (by assumption) (by assumption) (by assumption) (by assumption)) hta
| apply ap (d:=66) 0 42 2;rfl;rfl;rfl;rfl;rfl
| apply ap (d:=66) 1 74 2;rfl;rfl;rfl;rfl;rfl
| apply ap (d:=66) 2 135 3;rfl;rfl;rfl;rfl;rfl
| apply ap (d:=66) 3 137 5;rfl;rfl;rfl;rfl;rfl
| apply ap (d:=66) 4 103 8;rfl;rfl;rfl;rfl;rfl
| apply yd;rfl
| intro _
| refine nv ?_
| apply wct rfl
| apply ycp;rfl;(first | exact ae | exact aG | exact aA);rfl
| fail)
  all_goals exact au [0,1,2,3,4,7,8,9,10,11] rfl rfl rfl rfl rfl rfl
 have hA:=hok.acc
 have hI:=hok.ins
 have hal:=hA.2
 have hno:=hta.1
 dsimp only at hA hI hal
 obtain ⟨k1,k2,k3,k4,k5,k6,k7⟩:=mg hta
 have c0:¬ ¬ (BooksOk ⟨ba,bi,bb,bl,bt,bn⟩ ∧ d8 ho de fr to am nu dn):=fun k => k ⟨hok,hta⟩
 have hpn:=jI (pN ba bb [⟨ho,fr,-am⟩,⟨de,fr,am⟩,⟨de,to,-(am * nu / dn)⟩,⟨ho,to,am * nu / dn⟩])
 have hsn:=ll (pN ba bb (bv ho de fr am ++ bv de ho to (am * nu / dn)))
 have hl1:=dg ho de fr am
 have hl2:=dg de ho to (am * nu / dn)
 have hq:cO am nu dn → 0 ≤ am * nu / dn:=fun c3 => Int.ediv_nonneg (oY (lO c3).1 (lO c3).2.1).1 (by have:=(lO c3).2.2;omega)
 have hq2:cO am nu dn → am * nu / dn ≤ 1000000000000000:=fun c3 => c3.2.2.2
 have k5':=k5
 unfold inP at k5'
 repeat' (first
| intro h9;exfalso;first | contradiction | omega
| apply yds;rfl
| apply yd;rfl
| apply ycf;rfl;(exact eO (by have h1:=hq (by assumption);have h2:=hq2 (by assumption);omega));rfl
| intro _
| refine nv ?_
| apply wct rfl
| apply wcf rfl
| apply yeq;rfl
| apply yne;rfl
| apply yap;rfl;(((try simp only [lE,lM]);(try dsimp only);omega))
| refine zdq (id:=3) rfl (by kernel_rfl) [(.p,0),(.p,2),(.p,4),(.p,6),(.t,1),(.t,5),(.o,3),(.o,7),(.p,8),(.p,9)] [] (by kernel_rfl) rfl ?_
| refine zdq (id:=4) rfl (by kernel_rfl) [(.p,0),(.p,2),(.p,4),(.p,6),(.t,1),(.t,5),(.o,3),(.o,7),(.p,8),(.p,9)] [] (by kernel_rfl) rfl ?_
| apply ycp;rfl;(first | exact ae | exact aG | exact aA);rfl
| apply ycq;rfl;(first | exact aM | exact aU);rfl
| apply ycf;rfl;(exact aI (by exact BooksOk.midB (by assumption)));rfl
| apply zcs;(iterate 10 rfl);exact jM;exact fun _ => rfl;exact fun _ => rfl;rfl;rfl;rfl;rfl
| apply jb  [true,true,true,true,true,false];(iterate 10 rfl);exact cy (by omega);(iterate 6 rfl)
| fail)
 all_goals first
  | (rw [kG (b:=⟨ba,bi,bb,bl,bt,bn⟩) c0 (by dsimp only;omega)]
     exact au [0,1,2,3,4,7,8,9,10,11] rfl rfl rfl rfl rfl rfl)
  | (rw [kH (b:=⟨ba,bi,bb,bl,bt,bn⟩) c0 (by dsimp only;omega) (by dsimp only;omega)]
     exact au [0,1,2,3,4,7,8,9,10,11] rfl rfl rfl rfl rfl rfl)
  | (rw [kI (b:=⟨ba,bi,bb,bl,bt,bn⟩) c0 (by dsimp only;omega) (by dsimp only;omega) (by assumption)]
     exact au [0,1,2,3,4,7,8,9,10,11] rfl rfl rfl rfl rfl rfl)
  | skip
 all_goals
  have c3:cO am nu dn:=by assumption
  have c1:¬ (a9 (⟨ba,bi,bb,bl,bt,bn⟩:Books).Accounts ho = 0 ∨ a9 (⟨ba,bi,bb,bl,bt,bn⟩:Books).Accounts de = 0 ∨ aa (⟨ba,bi,bb,bl,bt,bn⟩:Books).Instrs fr = 0 ∨ aa (⟨ba,bi,bb,bl,bt,bn⟩:Books).Instrs to = 0):=by dsimp only;omega
  have c2:¬ (a9 (⟨ba,bi,bb,bl,bt,bn⟩:Books).Accounts ho ≠ 1 ∨ a9 (⟨ba,bi,bb,bl,bt,bn⟩:Books).Accounts de ≠ 3 ∨ aa (⟨ba,bi,bb,bl,bt,bn⟩:Books).Instrs fr ≠ 1 ∨ aa (⟨ba,bi,bb,bl,bt,bn⟩:Books).Instrs to ≠ 1 ∨ fr = to):=by dsimp only;omega
  have hlg:=mh k1 k2 k3 k4 (am:=am) (got:=am * nu / dn) (by omega) ⟨hq c3,hq2 c3⟩ (by omega)
  have hpc:=eh hok hlg
  first
  | (have c4:pN ba bb (bY ho de fr to am (am * nu / dn)) = 0:=by assumption
     rw [kK (b:=⟨ba,bi,bb,bl,bt,bn⟩) c0 c1 c2 (fun k => k c3) (fun k => k c4)]
     exact au [0,1,2,3,4,7,8,15,10,11] rfl rfl rfl rfl rfl rfl)
  | (have c4:¬ pN ba bb (bY ho de fr to am (am * nu / dn)) = 0:=by assumption
     rw [kJ (b:=⟨ba,bi,bb,bl,bt,bn⟩) c0 c1 c2 (fun k => k c3) c4,← jJ hpc]
     exact au [0,1,2,3,4,16,17,18,19,20] rfl rfl rfl rfl rfl rfl)
end Go.Proofs.YtgehbhkfehmdkaaGreat.Sh
