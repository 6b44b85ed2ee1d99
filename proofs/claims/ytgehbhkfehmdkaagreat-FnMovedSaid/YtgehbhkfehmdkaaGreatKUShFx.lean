/- Changes nq a desk: both sides. No condition. -/
import Derived.Test.YtgehbhkfehmdkaaGreatKUShV
import Derived.Test.YtgehbhkfehmdkaaGreatKUShPo
import Derived.Test.YtgehbhkfehmdkaaGreatKUShMu
import Derived.Test.YtgehbhkfehmdkaaGreatKUShNt
set_option maxRecDepth 100000
set_option maxHeartbeats 40000000
set_option linter.unusedSimpArgs false
set_option linter.unusedVariables false
namespace Go.Proofs.YtgehbhkfehmdkaaGreat.Sh
open Go.RowKit
abbrev fE (ho de fr to am got:Int):List Leg:=[⟨ho,fr,-am⟩,⟨de,fr,am⟩,⟨de,to,-got⟩,⟨ho,to,got⟩]
def gV (ho de fr to am nu dn:Int):Prop:=(∀ x ∈ [ho,de,fr,to],aj x) ∧ inP am 1 1000000000000000 ∧ inP nu 1 1000000000000000 ∧ inP dn 1 1000000000000000
theorem wy {ho de fr to am nu dn:Int} (h1:aj ho) (h2:aj de) (h3:aj fr) (h4:aj to) (h5:inP am 1 1000000000000000) (h6:inP nu 1 1000000000000000) (h7:inP dn 1 1000000000000000):gV ho de fr to am nu dn:=⟨fun x hx => by simp only [List.mem_cons,List.not_mem_nil,or_false] at hx;rcases hx with rfl | rfl | rfl | rfl <;> assumption,h5,h6,h7⟩
theorem wz {ho de fr to am nu dn:Int} (h:gV ho de fr to am nu dn):aj ho ∧ aj de ∧ aj fr ∧ aj to ∧ inP am 1 1000000000000000 ∧ inP nu 1 1000000000000000 ∧ inP dn 1 1000000000000000:=⟨h.1 _ (by simp),h.1 _ (by simp),h.1 _ (by simp),h.1 _ (by simp),h.2⟩
noncomputable def d5 (b:Books) (ho de fr to am nu dn:Int):Books × Int × Int :=
 sel (¬ (BooksOk b ∧ gV ho de fr to am nu dn)) (⟨[],[],[],[],[],0⟩,0,1)
 (sel (a9 b.Accounts ho = 0 ∨ a9 b.Accounts de = 0 ∨ aa b.Instrs fr = 0 ∨ aa b.Instrs to = 0) (b,0,3)
 (sel (a9 b.Accounts ho ≠ 1 ∨ a9 b.Accounts de ≠ 3 ∨ aa b.Instrs fr ≠ 1 ∨ aa b.Instrs to ≠ 1 ∨ fr = to) (b,0,4)
 (sel (¬ fw am nu dn) (b,0,8)
 (sel (¬ (poR b (fE ho de fr to am (am * nu / dn))).2 = 0) (b,0,cX (poR b (fE ho de fr to am (am * nu / dn))).2)
 (⟨b.Accounts,b.Instrs,(poR b (fE ho de fr to am (am * nu / dn))).1,b.Lots,b.Trades,b.Lot⟩,am * nu / dn,0)))))
theorem sp {b:Books} {ho de fr to am nu dn:Int}  (c0:¬ (BooksOk b ∧ gV ho de fr to am nu dn)):d5 b ho de fr to am nu dn = (⟨[],[],[],[],[],0⟩,0,1):=by
 rw [d5,au c0]
theorem xt {b:Books} {ho de fr to am nu dn:Int} (c0:¬ (¬ (BooksOk b ∧ gV ho de fr to am nu dn))) (c1:a9 b.Accounts ho = 0 ∨ a9 b.Accounts de = 0 ∨ aa b.Instrs fr = 0 ∨ aa b.Instrs to = 0):d5 b ho de fr to am nu dn = (b,0,3):=by
 rw [d5,ab c0,au c1]
theorem xu {b:Books} {ho de fr to am nu dn:Int} (c0:¬ (¬ (BooksOk b ∧ gV ho de fr to am nu dn))) (c1:¬ (a9 b.Accounts ho = 0 ∨ a9 b.Accounts de = 0 ∨ aa b.Instrs fr = 0 ∨ aa b.Instrs to = 0)) (c2:a9 b.Accounts ho ≠ 1 ∨ a9 b.Accounts de ≠ 3 ∨ aa b.Instrs fr ≠ 1 ∨ aa b.Instrs to ≠ 1 ∨ fr = to):d5 b ho de fr to am nu dn = (b,0,4):=by
 rw [d5,ab c0,ab c1,au c2]
theorem xv {b:Books} {ho de fr to am nu dn:Int} (c0:¬ (¬ (BooksOk b ∧ gV ho de fr to am nu dn))) (c1:¬ (a9 b.Accounts ho = 0 ∨ a9 b.Accounts de = 0 ∨ aa b.Instrs fr = 0 ∨ aa b.Instrs to = 0)) (c2:¬ (a9 b.Accounts ho ≠ 1 ∨ a9 b.Accounts de ≠ 3 ∨ aa b.Instrs fr ≠ 1 ∨ aa b.Instrs to ≠ 1 ∨ fr = to)) (c3:¬ fw am nu dn):d5 b ho de fr to am nu dn = (b,0,8):=by
 rw [d5,ab c0,ab c1,ab c2,au c3]
theorem xw {b:Books} {ho de fr to am nu dn:Int} (c0:¬ (¬ (BooksOk b ∧ gV ho de fr to am nu dn))) (c1:¬ (a9 b.Accounts ho = 0 ∨ a9 b.Accounts de = 0 ∨ aa b.Instrs fr = 0 ∨ aa b.Instrs to = 0)) (c2:¬ (a9 b.Accounts ho ≠ 1 ∨ a9 b.Accounts de ≠ 3 ∨ aa b.Instrs fr ≠ 1 ∨ aa b.Instrs to ≠ 1 ∨ fr = to)) (c3:¬ (¬ fw am nu dn)) (c4:¬ (poR b (fE ho de fr to am (am * nu / dn))).2 = 0):d5 b ho de fr to am nu dn = (b,0,cX (poR b (fE ho de fr to am (am * nu / dn))).2):=by
 rw [d5,ab c0,ab c1,ab c2,ab c3,au c4]
theorem xy {b:Books} {ho de fr to am nu dn:Int} (c0:¬ (¬ (BooksOk b ∧ gV ho de fr to am nu dn))) (c1:¬ (a9 b.Accounts ho = 0 ∨ a9 b.Accounts de = 0 ∨ aa b.Instrs fr = 0 ∨ aa b.Instrs to = 0)) (c2:¬ (a9 b.Accounts ho ≠ 1 ∨ a9 b.Accounts de ≠ 3 ∨ aa b.Instrs fr ≠ 1 ∨ aa b.Instrs to ≠ 1 ∨ fr = to)) (c3:¬ (¬ fw am nu dn)) (c4:¬ (¬ (poR b (fE ho de fr to am (am * nu / dn))).2 = 0)):d5 b ho de fr to am nu dn = (⟨b.Accounts,b.Instrs,(poR b (fE ho de fr to am (am * nu / dn))).1,b.Lots,b.Trades,b.Lot⟩,am * nu / dn,0):=by
 rw [d5,ab c0,ab c1,ab c2,ab c3,ab c4]
theorem wA {ho de fr to am got:Int} (h1:aj ho) (h2:aj de) (h3:aj fr) (h4:aj to) (h5:0 ≤ am ∧ am ≤ 1000000000000000) (h6:0 ≤ got ∧ got ≤ 1000000000000000) (hne:fr ≠ to):d4 (fE ho de fr to am got):=by
 refine ⟨⟨by show 4 ≤ 160;omega,fun x hx => ?_⟩,fun x hx => ?_⟩
 ·simp only [fE,List.mem_cons,List.not_mem_nil,or_false] at hx
  rcases hx with rfl | rfl | rfl | rfl <;> (refine ⟨by assumption,by assumption,?_⟩;show -1000000000000000 ≤ _ ∧ _ ≤ 1000000000000000;dsimp only;omega)
 ·have e:∀ c:Int,bD (fE ho de fr to am got) c = (if fr = c then -am else 0) + ((if fr = c then am else 0) + ((if to = c then -got else 0) + ((if to = c then got else 0) + 0))):=fun c => by
   simp only [bD,ao,fE,List.map_cons,List.map_nil,List.sum_cons,List.sum_nil,iJ]
  rw [e]
  split <;> split <;> omega
theorem tJ {ba:List Account} {bi:List Instr} {bb:List Bal} {bl:List Lot} {bt:List Trade} {bn:Int} {ho de fr to am nu dn:Int}:FC Tryz.prog 56 [bkV 0 ⟨ba,bi,bb,bl,bt,bn⟩,I ho,I de,I fr,I to,I am,I nu,I dn] (bkR ⟨ba,bi,bb,bl,bt,bn⟩) (.tup [bkE 5 (d5 ⟨ba,bi,bb,bl,bt,bn⟩ ho de fr to am nu dn).1,I (d5 ⟨ba,bi,bb,bl,bt,bn⟩ ho de fr to am nu dn).2.1,I (d5 ⟨ba,bi,bb,bl,bt,bn⟩ ho de fr to am nu dn).2.2]) (bkR ⟨ba,bi,bb,bl,bt,bn⟩ ++ bkW (d5 ⟨ba,bi,bb,bl,bt,bn⟩ ho de fr to am nu dn).1):=by
 refine ax tk 158 [.cell 16 _,.tmp 17,.tmp 18] Tryz.func56 (by kernel_rfl) rfl rfl rfl rfl rfl rfl rfl ?_
 by_cases hok:BooksOk ⟨ba,bi,bb,bl,bt,bn⟩
 rotate_left
 ·
  rw [sp (b:=⟨ba,bi,bb,bl,bt,bn⟩) (fun h => hok h.1)]
  repeat' (first
| intro h9;exfalso;contradiction
| apply al (d:=66) 0 42 2;rfl;rfl;rfl;rfl;rfl
| apply al (d:=66) 1 74 2;rfl;rfl;rfl;rfl;rfl
| apply al (d:=66) 2 135 3;rfl;rfl;rfl;rfl;rfl
| apply al (d:=66) 3 137 5;rfl;rfl;rfl;rfl;rfl
| apply al (d:=66) 4 103 8;rfl;rfl;rfl;rfl;rfl
| apply yd;rfl
| intro _
| refine nv ?_
| apply wct rfl
| apply ycp;rfl;exact ap;rfl
| fail)
  all_goals exact ak [0,1,2,3,4,7,8,9,10,11] rfl rfl rfl rfl rfl rfl
 by_cases hta:gV ho de fr to am nu dn
 rotate_left
 ·
  rw [sp (b:=⟨ba,bi,bb,bl,bt,bn⟩) (fun h => hta h.2)]
  repeat' (first
| intro h9;exfalso;contradiction
| intro h9;exact absurd (wy (by assumption) (by assumption) (by assumption) (by assumption) (by assumption) (by assumption) (by assumption)) hta
| apply al (d:=66) 0 42 2;rfl;rfl;rfl;rfl;rfl
| apply al (d:=66) 1 74 2;rfl;rfl;rfl;rfl;rfl
| apply al (d:=66) 2 135 3;rfl;rfl;rfl;rfl;rfl
| apply al (d:=66) 3 137 5;rfl;rfl;rfl;rfl;rfl
| apply al (d:=66) 4 103 8;rfl;rfl;rfl;rfl;rfl
| apply yd;rfl
| intro _
| refine nv ?_
| apply wct rfl
| apply ycp;rfl;(first | exact ap | exact aQ | exact aJ);rfl
| fail)
  all_goals exact ak [0,1,2,3,4,7,8,9,10,11] rfl rfl rfl rfl rfl rfl
 have hA:=hok.acc
 have hI:=hok.ins
 have hal:=hA.2
 have hno:=hta.1
 dsimp only at hA hI hal
 obtain ⟨k1,k2,k3,k4,k5,k6,k7⟩:=wz hta
 have c0:¬ ¬ (BooksOk ⟨ba,bi,bb,bl,bt,bn⟩ ∧ gV ho de fr to am nu dn):=fun k => k ⟨hok,hta⟩
 have hpn:=ix (pN ba bb [⟨ho,fr,-am⟩,⟨de,fr,am⟩,⟨de,to,-(am * nu / dn)⟩,⟨ho,to,am * nu / dn⟩])
 have hsn:=lp (pN ba bb (b9 ho de fr am ++ b9 de ho to (am * nu / dn)))
 have hl1:=ew ho de fr am
 have hl2:=ew de ho to (am * nu / dn)
 have hq:fw am nu dn → 0 ≤ am * nu / dn:=fun c3 => Int.ediv_nonneg (vC (uA c3).1 (uA c3).2.1).1 (by have:=(uA c3).2.2;omega)
 have hq2:fw am nu dn → am * nu / dn ≤ 1000000000000000:=fun c3 => c3.2.2.2
 have k5':=k5
 unfold inP at k5'
 repeat' (first
| intro h9;exfalso;first | contradiction | omega
| apply yds;rfl
| apply yd;rfl
| apply ycf;rfl;(exact iF (by have h1:=hq (by assumption);have h2:=hq2 (by assumption);omega));rfl
| intro _
| refine nv ?_
| apply wct rfl
| apply wcf rfl
| apply yeq;rfl
| apply yne;rfl
| apply yap;rfl;(((try simp only [lE,lM]);(try dsimp only);omega))
| refine zdq (id:=3) rfl (by kernel_rfl) [(.p,0),(.p,2),(.p,4),(.p,6),(.t,1),(.t,5),(.o,3),(.o,7),(.p,8),(.p,9)] [] (by kernel_rfl) rfl ?_
| refine zdq (id:=4) rfl (by kernel_rfl) [(.p,0),(.p,2),(.p,4),(.p,6),(.t,1),(.t,5),(.o,3),(.o,7),(.p,8),(.p,9)] [] (by kernel_rfl) rfl ?_
| apply ycp;rfl;(first | exact ap | exact aQ | exact aJ);rfl
| apply ycq;rfl;(first | exact aX | exact b8);rfl
| apply ycf;rfl;(exact aR (by exact BooksOk.midB (by assumption)));rfl
| apply zcs;(iterate 10 rfl);exact nO;exact fun _ => rfl;exact fun _ => rfl;rfl;rfl;rfl;rfl
| apply jd  [true,true,true,true,true,false];(iterate 10 rfl);exact db (by omega);(iterate 6 rfl)
| fail)
 all_goals first
  | (rw [xt (b:=⟨ba,bi,bb,bl,bt,bn⟩) c0 (by dsimp only;omega)]
     exact ak [0,1,2,3,4,7,8,9,10,11] rfl rfl rfl rfl rfl rfl)
  | (rw [xu (b:=⟨ba,bi,bb,bl,bt,bn⟩) c0 (by dsimp only;omega) (by dsimp only;omega)]
     exact ak [0,1,2,3,4,7,8,9,10,11] rfl rfl rfl rfl rfl rfl)
  | (rw [xv (b:=⟨ba,bi,bb,bl,bt,bn⟩) c0 (by dsimp only;omega) (by dsimp only;omega) (by assumption)]
     exact ak [0,1,2,3,4,7,8,9,10,11] rfl rfl rfl rfl rfl rfl)
  | skip
 all_goals
  have c3:fw am nu dn:=by assumption
  have c1:¬ (a9 (⟨ba,bi,bb,bl,bt,bn⟩:Books).Accounts ho = 0 ∨ a9 (⟨ba,bi,bb,bl,bt,bn⟩:Books).Accounts de = 0 ∨ aa (⟨ba,bi,bb,bl,bt,bn⟩:Books).Instrs fr = 0 ∨ aa (⟨ba,bi,bb,bl,bt,bn⟩:Books).Instrs to = 0):=by dsimp only;omega
  have c2:¬ (a9 (⟨ba,bi,bb,bl,bt,bn⟩:Books).Accounts ho ≠ 1 ∨ a9 (⟨ba,bi,bb,bl,bt,bn⟩:Books).Accounts de ≠ 3 ∨ aa (⟨ba,bi,bb,bl,bt,bn⟩:Books).Instrs fr ≠ 1 ∨ aa (⟨ba,bi,bb,bl,bt,bn⟩:Books).Instrs to ≠ 1 ∨ fr = to):=by dsimp only;omega
  have hlg:=wA k1 k2 k3 k4 (am:=am) (got:=am * nu / dn) (by omega) ⟨hq c3,hq2 c3⟩ (by omega)
  have hpc:=dX hok hlg
  first
  | (have c4:pN ba bb (fE ho de fr to am (am * nu / dn)) = 0:=by assumption
     rw [xy (b:=⟨ba,bi,bb,bl,bt,bn⟩) c0 c1 c2 (fun k => k c3) (fun k => k c4)]
     exact ak [0,1,2,3,4,7,8,15,10,11] rfl rfl rfl rfl rfl rfl)
  | (have c4:¬ pN ba bb (fE ho de fr to am (am * nu / dn)) = 0:=by assumption
     rw [xw (b:=⟨ba,bi,bb,bl,bt,bn⟩) c0 c1 c2 (fun k => k c3) c4,← nM hpc]
     exact ak [0,1,2,3,4,16,17,18,19,20] rfl rfl rfl rfl rfl rfl)
end Go.Proofs.YtgehbhkfehmdkaaGreat.Sh
