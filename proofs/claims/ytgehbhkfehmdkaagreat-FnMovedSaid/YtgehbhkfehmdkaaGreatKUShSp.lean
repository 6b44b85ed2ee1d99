/- The legs of a split. No condition. -/
import Derived.Test.YtgehbhkfehmdkaaGreatKUShV
import Derived.Test.YtgehbhkfehmdkaaGreatKUShPv
import Derived.Test.YtgehbhkfehmdkaaGreatKUShLz
import Derived.Test.YtgehbhkfehmdkaaGreatKUShMu
import Derived.Test.YtgehbhkfehmdkaaGreatKUShSe
import Derived.Test.YtgehbhkfehmdkaaGreatKUShIm
import Derived.Test.YtgehbhkfehmdkaaGreatKUShFx
import Derived.Test.YtgehbhkfehmdkaaGreatKUShNe
import Derived.Test.YtgehbhkfehmdkaaGreatKUShPo
import Derived.Test.YtgehbhkfehmdkaaGreatKUShBo
set_option maxRecDepth 100000
set_option maxHeartbeats 40000000
set_option linter.unusedSimpArgs false
set_option linter.unusedVariables false
namespace Go.Proofs.YtgehbhkfehmdkaaGreat.Sh
section
open Go.RowKit
def spL (pa:Int) (who was is:List Int) (i:Int):List Leg:=mkl i.toNat (fun k => ⟨rd who k,pa,rd is k - rd was k⟩)
def spG (was is:List Int) (i:Int):Int:=ao id (pf is i) - ao id (pf was i)
theorem rT {pa i:Int} {who was is:List Int} (h:0 ≤ i):((spL pa who was is i).length:Int) = i:=by rw [spL,ce];omega
theorem tH {pa i:Int} {who was is:List Int} (h:0 ≤ i):spL pa who was is (i + 1) = spL pa who was is i ++ [⟨rd who i,pa,rd is i - rd was i⟩]:=iY h
theorem z3 {was is:List Int} {i:Int} (h:0 ≤ i ∧ i < was.length) (h2:i < is.length):spG was is (i + 1) = spG was is i + (rd is i - rd was i):=by
 unfold spG
 rw [bU ⟨h.1,h2⟩,bU h]
 simp only [id]
 omega
abbrev jL (pa iss:Int) (who was is:List Int):List Leg:=spL pa who was is who.length ++ [⟨iss,pa,-spG was is who.length⟩]
end
section
open Go.RowKit
theorem w6 {was is:List Int} {n:Int} (h1:was.length = n) (h2:is.length = n):spG was is n = ao id is - ao id was:=by
 unfold spG
 rw [b6 (by omega),b6 (by omega)]
theorem w7 {pa c:Int} {who was is:List Int}:∀ k:Nat,(k:Int) ≤ was.length → (k:Int) ≤ is.length → ao (iJ c) (spL pa who was is k) = if pa = c then spG was is k else 0
 | 0,_,_ => by show (0:Int) = if pa = c then (0:Int) else 0;split <;> rfl
 | k + 1,hk,hk2 => by
   have ih:=w7 (pa:=pa) (c:=c) (who:=who) (was:=was) (is:=is) k (by omega) (by omega)
   have e:((k + 1:Nat):Int) = (k:Int) + 1:=by omega
   rw [e,tH (by omega),bk,cT,ih,z3 ⟨by omega,by omega⟩ (by omega)]
   unfold iJ
   dsimp only
   split <;> omega
theorem zZ {pa i:Int} {who was is:List Int} {x:Leg} (h0:0 ≤ i) (h:x ∈ spL pa who was is i):∃ k:Int,(0 ≤ k ∧ k < i) ∧ x = ⟨rd who k,pa,rd is k - rd was k⟩:=by
 obtain ⟨k,hk,rfl⟩:=bw h
 rw [rT h0] at hk
 exact ⟨k,hk,dC (by omega)⟩
theorem Au {pa iss:Int} {who was is:List Int} (hp:aj pa) (hc:aj iss) (hw:∀ x ∈ who,aj x) (hl:was.length = who.length ∧ is.length = who.length) (h40:who.length ≤ 40) (h1:∀ x ∈ was,inP x 0 1000000000000000) (h2:∀ x ∈ is,inP x 0 1000000000000000) (s1:0 ≤ ao id was ∧ ao id was ≤ 1000000000000000) (s2:0 ≤ ao id is ∧ ao id is ≤ 1000000000000000):d4 (jL pa iss who was is):=by
 have hlen:=rT (pa:=pa) (who:=who) (was:=was) (is:=is) (i:=who.length) (by omega)
 have hg:=w6 (was:=was) (is:=is) (n:=who.length) (by omega) (by omega)
 refine ⟨⟨by show (spL pa who was is who.length ++ [_]).length ≤ 160;rw [List.length_append,List.length_cons,List.length_nil];omega,fun x hx => ?_⟩,fun x hx => ?_⟩
 ·rcases List.mem_append.1 hx with hx | hx
  ·obtain ⟨k,hk,rfl⟩:=zZ (by omega) hx
   have b1:0 ≤ rd was k ∧ rd was k ≤ 1000000000000000:=h1 _ (aA (l:=was) (i:=k) (by omega))
   have b2:0 ≤ rd is k ∧ rd is k ≤ 1000000000000000:=h2 _ (aA (l:=is) (i:=k) (by omega))
   exact ⟨hw _ (aA hk),hp,by show -1000000000000000 ≤ rd is k - rd was k ∧ rd is k - rd was k ≤ 1000000000000000;omega⟩
  ·rcases List.mem_singleton.1 hx with rfl
   exact ⟨hc,hp,by show -1000000000000000 ≤ -spG was is who.length ∧ -spG was is who.length ≤ 1000000000000000;omega⟩
 ·have e:=w7 (pa:=pa) (c:=x.Instr) (who:=who) (was:=was) (is:=is) who.length (by omega) (by omega)
  rw [bD,bk,cT,e]
  unfold iJ
  dsimp only
  split <;> omega
noncomputable def aZ (b:Books) (pa n d iss:Int):Books × Int × Int :=
 sel (¬ (BooksOk b ∧ aj pa ∧ aj iss ∧ inP n 1 1000000 ∧ inP d 1 1000000)) (⟨[],[],[],[],[],0⟩,0,1)
 (sel (aa b.Instrs pa = 0 ∨ a9 b.Accounts iss = 0) (b,0,3)
 (sel (aa b.Instrs pa ≠ 2 ∨ a9 b.Accounts iss ≠ 2) (b,0,4)
 (sel (¬ cy b pa) (b,0,8)
 (sel (¬ 0 < ((who b.Accounts b.Bals pa).length:Int)) (b,0,5)
 (sel (¬ fw (ao id (aw b.Accounts b.Bals pa)) n d) (b,0,8)
 (sel (¬ (poR b (jL pa iss (who b.Accounts b.Bals pa) (aw b.Accounts b.Bals pa) (shs (ao id (aw b.Accounts b.Bals pa) * n / d) (aw b.Accounts b.Bals pa)))).2 = 0) (b,0,cX (poR b (jL pa iss (who b.Accounts b.Bals pa) (aw b.Accounts b.Bals pa) (shs (ao id (aw b.Accounts b.Bals pa) * n / d) (aw b.Accounts b.Bals pa)))).2)
 (sel (¬ (scN b.Lots pa (who b.Accounts b.Bals pa) (shs (ao id (aw b.Accounts b.Bals pa) * n / d) (aw b.Accounts b.Bals pa)) ((who b.Accounts b.Bals pa).length:Int).toNat).2 = 0) (b,0,7)
 (⟨b.Accounts,b.Instrs,(poR b (jL pa iss (who b.Accounts b.Bals pa) (aw b.Accounts b.Bals pa) (shs (ao id (aw b.Accounts b.Bals pa) * n / d) (aw b.Accounts b.Bals pa)))).1,(scN b.Lots pa (who b.Accounts b.Bals pa) (shs (ao id (aw b.Accounts b.Bals pa) * n / d) (aw b.Accounts b.Bals pa)) ((who b.Accounts b.Bals pa).length:Int).toNat).1,b.Trades,b.Lot⟩,(ao id (aw b.Accounts b.Bals pa) * n / d),0))))))))
theorem nJ {b:Books} {pa n d iss:Int}  (c0:¬ (BooksOk b ∧ aj pa ∧ aj iss ∧ inP n 1 1000000 ∧ inP d 1 1000000)):aZ b pa n d iss = (⟨[],[],[],[],[],0⟩,0,1):=by
 rw [aZ,au c0]
theorem jU {b:Books} {pa n d iss:Int} (c0:¬ (¬ (BooksOk b ∧ aj pa ∧ aj iss ∧ inP n 1 1000000 ∧ inP d 1 1000000))) (c1:aa b.Instrs pa = 0 ∨ a9 b.Accounts iss = 0):aZ b pa n d iss = (b,0,3):=by
 rw [aZ,ab c0,au c1]
theorem jV {b:Books} {pa n d iss:Int} (c0:¬ (¬ (BooksOk b ∧ aj pa ∧ aj iss ∧ inP n 1 1000000 ∧ inP d 1 1000000))) (c1:¬ (aa b.Instrs pa = 0 ∨ a9 b.Accounts iss = 0)) (c2:aa b.Instrs pa ≠ 2 ∨ a9 b.Accounts iss ≠ 2):aZ b pa n d iss = (b,0,4):=by
 rw [aZ,ab c0,ab c1,au c2]
theorem sA {b:Books} {pa n d iss:Int} (c0:¬ (¬ (BooksOk b ∧ aj pa ∧ aj iss ∧ inP n 1 1000000 ∧ inP d 1 1000000))) (c1:¬ (aa b.Instrs pa = 0 ∨ a9 b.Accounts iss = 0)) (c2:¬ (aa b.Instrs pa ≠ 2 ∨ a9 b.Accounts iss ≠ 2)) (c3:¬ cy b pa):aZ b pa n d iss = (b,0,8):=by
 rw [aZ,ab c0,ab c1,ab c2,au c3]
theorem sB {b:Books} {pa n d iss:Int} (c0:¬ (¬ (BooksOk b ∧ aj pa ∧ aj iss ∧ inP n 1 1000000 ∧ inP d 1 1000000))) (c1:¬ (aa b.Instrs pa = 0 ∨ a9 b.Accounts iss = 0)) (c2:¬ (aa b.Instrs pa ≠ 2 ∨ a9 b.Accounts iss ≠ 2)) (c3:¬ (¬ cy b pa)) (c4:¬ 0 < ((who b.Accounts b.Bals pa).length:Int)):aZ b pa n d iss = (b,0,5):=by
 rw [aZ,ab c0,ab c1,ab c2,ab c3,au c4]
theorem sD {b:Books} {pa n d iss:Int} (c0:¬ (¬ (BooksOk b ∧ aj pa ∧ aj iss ∧ inP n 1 1000000 ∧ inP d 1 1000000))) (c1:¬ (aa b.Instrs pa = 0 ∨ a9 b.Accounts iss = 0)) (c2:¬ (aa b.Instrs pa ≠ 2 ∨ a9 b.Accounts iss ≠ 2)) (c3:¬ (¬ cy b pa)) (c4:¬ (¬ 0 < ((who b.Accounts b.Bals pa).length:Int))) (c5:¬ fw (ao id (aw b.Accounts b.Bals pa)) n d):aZ b pa n d iss = (b,0,8):=by
 rw [aZ,ab c0,ab c1,ab c2,ab c3,ab c4,au c5]
theorem sE {b:Books} {pa n d iss:Int} (c0:¬ (¬ (BooksOk b ∧ aj pa ∧ aj iss ∧ inP n 1 1000000 ∧ inP d 1 1000000))) (c1:¬ (aa b.Instrs pa = 0 ∨ a9 b.Accounts iss = 0)) (c2:¬ (aa b.Instrs pa ≠ 2 ∨ a9 b.Accounts iss ≠ 2)) (c3:¬ (¬ cy b pa)) (c4:¬ (¬ 0 < ((who b.Accounts b.Bals pa).length:Int))) (c5:¬ (¬ fw (ao id (aw b.Accounts b.Bals pa)) n d)) (c6:¬ (poR b (jL pa iss (who b.Accounts b.Bals pa) (aw b.Accounts b.Bals pa) (shs (ao id (aw b.Accounts b.Bals pa) * n / d) (aw b.Accounts b.Bals pa)))).2 = 0):aZ b pa n d iss = (b,0,cX (poR b (jL pa iss (who b.Accounts b.Bals pa) (aw b.Accounts b.Bals pa) (shs (ao id (aw b.Accounts b.Bals pa) * n / d) (aw b.Accounts b.Bals pa)))).2):=by
 rw [aZ,ab c0,ab c1,ab c2,ab c3,ab c4,ab c5,au c6]
theorem sF {b:Books} {pa n d iss:Int} (c0:¬ (¬ (BooksOk b ∧ aj pa ∧ aj iss ∧ inP n 1 1000000 ∧ inP d 1 1000000))) (c1:¬ (aa b.Instrs pa = 0 ∨ a9 b.Accounts iss = 0)) (c2:¬ (aa b.Instrs pa ≠ 2 ∨ a9 b.Accounts iss ≠ 2)) (c3:¬ (¬ cy b pa)) (c4:¬ (¬ 0 < ((who b.Accounts b.Bals pa).length:Int))) (c5:¬ (¬ fw (ao id (aw b.Accounts b.Bals pa)) n d)) (c6:¬ (¬ (poR b (jL pa iss (who b.Accounts b.Bals pa) (aw b.Accounts b.Bals pa) (shs (ao id (aw b.Accounts b.Bals pa) * n / d) (aw b.Accounts b.Bals pa)))).2 = 0)) (c7:¬ (scN b.Lots pa (who b.Accounts b.Bals pa) (shs (ao id (aw b.Accounts b.Bals pa) * n / d) (aw b.Accounts b.Bals pa)) ((who b.Accounts b.Bals pa).length:Int).toNat).2 = 0):aZ b pa n d iss = (b,0,7):=by
 rw [aZ,ab c0,ab c1,ab c2,ab c3,ab c4,ab c5,ab c6,au c7]
theorem sG {b:Books} {pa n d iss:Int} (c0:¬ (¬ (BooksOk b ∧ aj pa ∧ aj iss ∧ inP n 1 1000000 ∧ inP d 1 1000000))) (c1:¬ (aa b.Instrs pa = 0 ∨ a9 b.Accounts iss = 0)) (c2:¬ (aa b.Instrs pa ≠ 2 ∨ a9 b.Accounts iss ≠ 2)) (c3:¬ (¬ cy b pa)) (c4:¬ (¬ 0 < ((who b.Accounts b.Bals pa).length:Int))) (c5:¬ (¬ fw (ao id (aw b.Accounts b.Bals pa)) n d)) (c6:¬ (¬ (poR b (jL pa iss (who b.Accounts b.Bals pa) (aw b.Accounts b.Bals pa) (shs (ao id (aw b.Accounts b.Bals pa) * n / d) (aw b.Accounts b.Bals pa)))).2 = 0)) (c7:¬ (¬ (scN b.Lots pa (who b.Accounts b.Bals pa) (shs (ao id (aw b.Accounts b.Bals pa) * n / d) (aw b.Accounts b.Bals pa)) ((who b.Accounts b.Bals pa).length:Int).toNat).2 = 0)):aZ b pa n d iss = (⟨b.Accounts,b.Instrs,(poR b (jL pa iss (who b.Accounts b.Bals pa) (aw b.Accounts b.Bals pa) (shs (ao id (aw b.Accounts b.Bals pa) * n / d) (aw b.Accounts b.Bals pa)))).1,(scN b.Lots pa (who b.Accounts b.Bals pa) (shs (ao id (aw b.Accounts b.Bals pa) * n / d) (aw b.Accounts b.Bals pa)) ((who b.Accounts b.Bals pa).length:Int).toNat).1,b.Trades,b.Lot⟩,(ao id (aw b.Accounts b.Bals pa) * n / d),0):=by
 rw [aZ,ab c0,ab c1,ab c2,ab c3,ab c4,ab c5,ab c6,ab c7]
theorem pE {ba:List Account} {bi:List Instr} {bb:List Bal} {bl:List Lot} {bt:List Trade} {bn:Int} {pa n d iss:Int}:FC Tryz.prog 31 [bkV 0 ⟨ba,bi,bb,bl,bt,bn⟩,I pa,I n,I d,I iss] (bkR ⟨ba,bi,bb,bl,bt,bn⟩) (.tup [bkE 5 (aZ ⟨ba,bi,bb,bl,bt,bn⟩ pa n d iss).1,I (aZ ⟨ba,bi,bb,bl,bt,bn⟩ pa n d iss).2.1,I (aZ ⟨ba,bi,bb,bl,bt,bn⟩ pa n d iss).2.2]) (bkR ⟨ba,bi,bb,bl,bt,bn⟩ ++ bkW (aZ ⟨ba,bi,bb,bl,bt,bn⟩ pa n d iss).1):=by
 refine ax tk 195 [.cell 10 _,.tmp 11,.tmp 12] Tryz.func31 (by kernel_rfl) rfl rfl rfl rfl rfl rfl rfl ?_
 by_cases hok:BooksOk ⟨ba,bi,bb,bl,bt,bn⟩
 rotate_left
 ·
  rw [nJ (b:=⟨ba,bi,bb,bl,bt,bn⟩) (fun h => hok h.1)]
  repeat' (first
| intro h9;exfalso;contradiction
| apply al (d:=54) 0 42 2;rfl;rfl;rfl;rfl;rfl
| apply al (d:=54) 1 74 2;rfl;rfl;rfl;rfl;rfl
| apply al (d:=54) 2 135 3;rfl;rfl;rfl;rfl;rfl
| apply al (d:=54) 3 137 5;rfl;rfl;rfl;rfl;rfl
| apply al (d:=54) 4 103 8;rfl;rfl;rfl;rfl;rfl
| apply yd;rfl
| intro _
| refine nv ?_
| apply wct rfl
| apply ycp;rfl;exact ap;rfl
| fail)
  all_goals exact ak [0,1,2,3,4,7,8,9,10,11] rfl rfl rfl rfl rfl rfl
 by_cases hta:aj pa ∧ aj iss ∧ inP n 1 1000000 ∧ inP d 1 1000000
 rotate_left
 ·
  rw [nJ (b:=⟨ba,bi,bb,bl,bt,bn⟩) (fun h => hta h.2)]
  repeat' (first
| intro h9;exfalso;contradiction
| intro h9;exact absurd ⟨by assumption,by assumption,by assumption,by assumption⟩ hta
| apply al (d:=54) 0 42 2;rfl;rfl;rfl;rfl;rfl
| apply al (d:=54) 1 74 2;rfl;rfl;rfl;rfl;rfl
| apply al (d:=54) 2 135 3;rfl;rfl;rfl;rfl;rfl
| apply al (d:=54) 3 137 5;rfl;rfl;rfl;rfl;rfl
| apply al (d:=54) 4 103 8;rfl;rfl;rfl;rfl;rfl
| apply yd;rfl
| intro _
| refine nv ?_
| apply wct rfl
| apply ycp;rfl;(first | exact ap | exact aQ | exact aO);rfl
| fail)
  all_goals exact ak [0,1,2,3,4,7,8,9,10,11] rfl rfl rfl rfl rfl rfl
 have hA:=hok.acc
 have hI:=hok.ins
 have hal:=hA.2
 obtain ⟨k1,k2,k3,k4⟩:=id hta
 have hno:∀ x ∈ [pa,iss],aj x:=fun x hx => by simp only [List.mem_cons,List.not_mem_nil,or_false] at hx;rcases hx with rfl | rfl <;> assumption
 dsimp only at hA hI hal
 have c0:¬ ¬ (BooksOk ⟨ba,bi,bb,bl,bt,bn⟩ ∧ aj pa ∧ aj iss ∧ inP n 1 1000000 ∧ inP d 1 1000000):=fun k => k ⟨hok,hta⟩
 by_cases hh:cy ⟨ba,bi,bb,bl,bt,bn⟩ pa ∧ 0 < ((who ba bb pa).length:Int)
 rotate_left
 ·
  have hnn:([]:List Int).length = 0:=rfl
  repeat' (first
| intro h9;exfalso;contradiction
| apply yds;rfl
| apply yd;rfl
| intro _
| refine nv ?_
| apply wct rfl
| apply wcf rfl
| apply ai;rfl
| apply yne;rfl
| refine zdq (id:=3) rfl (by kernel_rfl) [(.p,0),(.p,2),(.p,4),(.p,6),(.t,1),(.t,5),(.o,3),(.o,7),(.p,8),(.p,9)] [] (by kernel_rfl) rfl ?_
| apply ycp;rfl;(first | exact ap | exact aQ | exact aO);rfl
| apply ycq;rfl;(first | exact aX | exact b8);rfl
| apply mT;(iterate 10 rfl);exact jb;(iterate 8 rfl)
| apply ycf;rfl;(exact aR (by exact BooksOk.midB (by assumption)));rfl
| apply zcs;(iterate 10 rfl);exact nO;exact fun _ => rfl;exact fun _ => rfl;rfl;rfl;rfl;rfl
| fail)
  all_goals first | (exfalso;exact hh ⟨by assumption,by omega⟩) | skip
  all_goals first
   | (rw [jU (b:=⟨ba,bi,bb,bl,bt,bn⟩) c0 (by dsimp only;omega)]
      exact ak [0,1,2,3,4,9,10,11,12,13] rfl rfl rfl rfl rfl rfl)
   | (rw [jV (b:=⟨ba,bi,bb,bl,bt,bn⟩) c0 (by dsimp only;omega) (by dsimp only;omega)]
      exact ak [0,1,2,3,4,9,10,11,12,13] rfl rfl rfl rfl rfl rfl)
   | (rw [sA (b:=⟨ba,bi,bb,bl,bt,bn⟩) c0 (by dsimp only;omega) (by dsimp only;omega) (by assumption)]
      exact ak [0,1,2,3,4,9,10,11,12,13] rfl rfl rfl rfl rfl rfl)
   | (rw [sB (b:=⟨ba,bi,bb,bl,bt,bn⟩) c0 (by dsimp only;omega) (by dsimp only;omega) (fun k => k (by assumption)) (by dsimp only;omega)]
      exact ak [0,1,2,3,4,9,10,11,12,13] rfl rfl rfl rfl rfl rfl)
   | trace_state
 obtain ⟨hhe,hwl⟩:=hh
 by_cases hmd:fw (ao id (aw ba bb pa)) n d
 rotate_left
 ·
  repeat' (first
| intro h9;exfalso;first | contradiction | omega
| apply yds;rfl
| apply yd;rfl
| intro _
| refine nv ?_
| apply wct rfl
| apply wcf rfl
| apply ai;rfl
| apply yne;rfl
| refine zdq (id:=3) rfl (by kernel_rfl) [(.p,0),(.p,2),(.p,4),(.p,6),(.t,1),(.t,5),(.o,3),(.o,7),(.p,8),(.p,9)] [] (by kernel_rfl) rfl ?_
| apply ycp;rfl;(first | exact ap | exact aQ | exact aO);rfl
| apply ycq;rfl;(first | exact aX | exact b8);rfl
| apply yc;rfl;(exact kE (by assumption));rfl;exact fun _ => rfl
| apply mT;(iterate 10 rfl);exact jb;(iterate 8 rfl)
| apply ycf;rfl;(exact aR (by exact BooksOk.midB (by assumption)));rfl
| fail)
  all_goals first
   | (rw [jU (b:=⟨ba,bi,bb,bl,bt,bn⟩) c0 (by dsimp only;omega)]
      exact ak [0,1,2,3,4,9,10,11,12,13] rfl rfl rfl rfl rfl rfl)
   | (rw [jV (b:=⟨ba,bi,bb,bl,bt,bn⟩) c0 (by dsimp only;omega) (by dsimp only;omega)]
      exact ak [0,1,2,3,4,9,10,11,12,13] rfl rfl rfl rfl rfl rfl)
   | (rw [sD (b:=⟨ba,bi,bb,bl,bt,bn⟩) c0 (by dsimp only;omega) (by dsimp only;omega) (fun k => k hhe) (fun k => k hwl) hmd]
      exact ak [0,1,2,3,4,9,10,11,12,13] rfl rfl rfl rfl rfl rfl)
   | (exfalso;omega)
   | trace_state
 have hall:0 ≤ ao id (aw ba bb pa) * n / d ∧ ao id (aw ba bb pa) * n / d ≤ 1000000000000000:=⟨Int.ediv_nonneg (vC (uA hmd).1 (uA hmd).2.1).1 (by have:=(uA hmd).2.2;omega),hmd.2.2.2⟩
 have hsh:=om (t:=ao id (aw ba bb pa) * n / d) hhe hwl hall
 dsimp only at hsh
 have hwn:=v3 (bb:=bb) (p:=pa) hA
 have hwm:=fU ba bb pa
 have hsl:=iB (ao id (aw ba bb pa) * n / d) (aw ba bb pa)
 have hwb:=l6 ba bb pa
 have hsb:=uM hsh
 have hwx:∀ x ∈ aw ba bb pa,inP x 0 1000000000000000:=hsh.1.2.1
 have hix:∀ x ∈ shs (ao id (aw ba bb pa) * n / d) (aw ba bb pa),inP x 0 1000000000000000:=fun x hx => ⟨(hsb x hx).1,Int.le_trans (hsb x hx).2 hall.2⟩
 have hpn:=ix (pN ba bb (jL pa iss (who ba bb pa) (aw ba bb pa) (shs (ao id (aw ba bb pa) * n / d) (aw ba bb pa))))
 have hlx:(shs (ao id (aw ba bb pa) * n / d) (aw ba bb pa)).length = (who ba bb pa).length ∧ 0 < (who ba bb pa).length ∧ (who ba bb pa).length ≤ 100:=by omega
 have hs1:ao id (shs (ao id (aw ba bb pa) * n / d) (aw ba bb pa)) = (ao id (aw ba bb pa) * n / d):=mE hsh
 have ham:=hhe.2
 unfold aq inP at ham
 dsimp only at ham
 have hmn:0 ≤ ao id (aw ba bb pa):=(uA hmd).1.1
 have hlg:=Au (pa:=pa) (iss:=iss) (who:=(who ba bb pa)) (was:=(aw ba bb pa)) (is:=(shs (ao id (aw ba bb pa) * n / d) (aw ba bb pa))) k1 k2 hwn (by omega) (by omega) hwx hix ⟨hmn,ham.2⟩ (by rw [hs1];exact hall)
 have hpc:=dX hok hlg
 have hge:=w6 (was:=(aw ba bb pa)) (is:=(shs (ao id (aw ba bb pa) * n / d) (aw ba bb pa))) (n:=(who ba bb pa).length) (by omega) (by omega)
 rw [hs1] at hge
 have c4:¬ ¬ cy (⟨ba,bi,bb,bl,bt,bn⟩:Books) pa:=fun k => k hhe
 have c5:¬ ¬ 0 < ((who (⟨ba,bi,bb,bl,bt,bn⟩:Books).Accounts (⟨ba,bi,bb,bl,bt,bn⟩:Books).Bals pa).length:Int):=fun k => k hwl
 have c6:¬ ¬ fw (ao id (aw (⟨ba,bi,bb,bl,bt,bn⟩:Books).Accounts (⟨ba,bi,bb,bl,bt,bn⟩:Books).Bals pa)) n d:=fun k => k hmd
 repeat' (first
| intro h9;exfalso;first | contradiction | omega
| apply yds;rfl
| apply yd;rfl
| intro _
| refine nv ?_
| apply wct rfl
| apply wcf rfl
| apply ai;rfl
| apply yne;rfl
| apply aH (α:=Leg) (e:=46);rfl
| refine zdq (id:=3) rfl (by kernel_rfl) [(.p,0),(.p,2),(.p,4),(.p,6),(.t,1),(.t,5),(.o,3),(.o,7),(.p,8),(.p,9)] [] (by kernel_rfl) rfl ?_
| apply ycp;rfl;(first | exact ap | exact aQ | exact aO);rfl
| apply ycq;rfl;(first | exact aX | exact b8);rfl
| apply yc;rfl;(exact bC (by assumption));rfl;exact fun _ => rfl
| apply mT;(iterate 10 rfl);exact jb;(iterate 8 rfl)
| apply ycf;rfl;(first | exact aR (by exact BooksOk.midB (by assumption)) | exact kF (by assumption));rfl
| fail)
 all_goals first
  | (rw [jU (b:=⟨ba,bi,bb,bl,bt,bn⟩) c0 (by dsimp only;omega)]
     exact ak [0,1,2,3,4,9,10,11,12,13] rfl rfl rfl rfl rfl rfl)
  | (rw [jV (b:=⟨ba,bi,bb,bl,bt,bn⟩) c0 (by dsimp only;omega) (by dsimp only;omega)]
     exact ak [0,1,2,3,4,9,10,11,12,13] rfl rfl rfl rfl rfl rfl)
  | (exfalso;first | contradiction | omega)
  | skip
 have c1:¬ (aa (⟨ba,bi,bb,bl,bt,bn⟩:Books).Instrs pa = 0 ∨ a9 (⟨ba,bi,bb,bl,bt,bn⟩:Books).Accounts iss = 0):=by dsimp only;omega
 have c2:¬ (aa (⟨ba,bi,bb,bl,bt,bn⟩:Books).Instrs pa ≠ 2 ∨ a9 (⟨ba,bi,bb,bl,bt,bn⟩:Books).Accounts iss ≠ 2):=by dsimp only;omega
 refine wlp (X:=Int × List Leg) [1,4,5,10,15,16,17,19,22] [0,1,2,3,4,5,6,7,8,9,10] (fun x => [(25,I x.1),(24,.c (.row 10 0 x.2.length))]) (fun x => [(10,ow 46 x.2)]) (fun x => (0 ≤ x.1 ∧ x.1 ≤ (who ba bb pa).length) ∧ x.2 = spL pa (who ba bb pa) (aw ba bb pa) (shs (ao id (aw ba bb pa) * n / d) (aw ba bb pa)) x.1) (fun x => ((who ba bb pa).length - x.1).toNat) (0,[]) ⟨by dsimp only;omega,rfl⟩ rfl rfl (fun _ => rfl) (fun _ => rfl) ⟨rfl,rfl,rfl,rfl,rfl,rfl,rfl,rfl⟩ (fun x hx => ?_)
 obtain ⟨i,u⟩:=x
 obtain ⟨h0,hu⟩:=hx
 dsimp only at h0 hu ⊢
 have hpl:=rT (pa:=pa) (who:=(who ba bb pa)) (was:=(aw ba bb pa)) (is:=(shs (ao id (aw ba bb pa) * n / d) (aw ba bb pa))) h0.1
 have hul:(u.length:Int) = i:=by rw [hu];exact hpl
 by_cases hil:i < (who ba bb pa).length
 ·
  have b1:0 ≤ rd (aw ba bb pa) i ∧ rd (aw ba bb pa) i ≤ 1000000000000000:=hwx _ (aA ⟨h0.1,by omega⟩)
  have b2:0 ≤ rd (shs (ao id (aw ba bb pa) * n / d) (aw ba bb pa)) i ∧ rd (shs (ao id (aw ba bb pa) * n / d) (aw ba bb pa)) i ≤ 1000000000000000:=hix _ (aA ⟨h0.1,by omega⟩)
  have hu2:u ++ [⟨rd (who ba bb pa) i,pa,rd (shs (ao id (aw ba bb pa) * n / d) (aw ba bb pa)) i - rd (aw ba bb pa) i⟩] = spL pa (who ba bb pa) (aw ba bb pa) (shs (ao id (aw ba bb pa) * n / d) (aw ba bb pa)) (i + 1):=by rw [tH h0.1,hu]
  repeat' (first
| intro h9;exfalso;contradiction
| apply yds;rfl
| apply yd;rfl
| intro _
| refine nv ?_
| apply wct rfl
| apply ai;rfl
| apply yar;rfl;omega
| apply yix;rfl;omega
| apply yle;rfl;omega
| apply aH (α:=Leg) (e:=46);rfl
| apply yap;rfl;(((try simp only [lE,lM]);(try dsimp only);omega))
| refine zdq (id:=21) rfl (by kernel_rfl) [(.p,0),(.p,1),(.p,2),(.p,3),(.p,5),(.p,6),(.p,7),(.p,8),(.p,10),(.p,11),(.p,12),(.t,4),(.t,9),(.t,13),(.p,14),(.p,15),(.o,16),(.l,17),(.p,18)] [17] (by kernel_rfl) rfl ?_
| fail)
  all_goals first
   | exact aB (i + 1,u ++ [⟨rd (who ba bb pa) i,pa,rd (shs (ao id (aw ba bb pa) * n / d) (aw ba bb pa)) i - rd (aw ba bb pa) i⟩]) [0,1,2,3,4,5,6,7,8,9,12] ⟨rfl,rfl,rfl,rfl,rfl,rfl,rfl,rfl⟩ ⟨by dsimp only;omega,hu2⟩ (by first | omega | (dsimp only;omega))
   | (exfalso;omega)
   | trace_state
 have hug:u ++ [⟨iss,pa,ao id (aw ba bb pa) - (ao id (aw ba bb pa) * n / d)⟩] = (jL pa iss (who ba bb pa) (aw ba bb pa) (shs (ao id (aw ba bb pa) * n / d) (aw ba bb pa))):=by
  rw [hu,show i = ((who ba bb pa).length:Int) from by omega,show ao id (aw ba bb pa) - (ao id (aw ba bb pa) * n / d) = -spG (aw ba bb pa) (shs (ao id (aw ba bb pa) * n / d) (aw ba bb pa)) (who ba bb pa).length from by omega]
 have hll:(u ++ [(⟨iss,pa,ao id (aw ba bb pa) - (ao id (aw ba bb pa) * n / d)⟩:Leg)]).length ≤ 160:=by rw [hug];exact hlg.1.1
 have hsn:=lp (pN ba bb (jL pa iss (who ba bb pa) (aw ba bb pa) (shs (ao id (aw ba bb pa) * n / d) (aw ba bb pa))))
 rw [show (pN ba bb (jL pa iss (who ba bb pa) (aw ba bb pa) (shs (ao id (aw ba bb pa) * n / d) (aw ba bb pa)))) = pN ba bb (u ++ [⟨iss,pa,ao id (aw ba bb pa) - (ao id (aw ba bb pa) * n / d)⟩]) from by rw [hug]] at hsn
 repeat' (first
| intro h9;exfalso;contradiction
| apply yds;rfl
| apply yd;rfl
| intro _
| refine nv ?_
| apply wcf rfl
| apply ah rfl
| apply ai;rfl
| apply yar;rfl;omega
| apply aH (α:=Leg) (e:=46);rfl
| apply yap;rfl;(((try simp only [lE,lM]);(try dsimp only);omega))
| apply ycf;rfl;(exact aR (by exact BooksOk.midB (by assumption)));rfl
| apply jd  [true,true,true,true,true,false];(iterate 10 rfl);exact db (by omega);(iterate 6 rfl)
| fail)
 rotate_left
 ·
  have hne:¬ pN ba bb (u ++ [⟨iss,pa,ao id (aw ba bb pa) - (ao id (aw ba bb pa) * n / d)⟩]) = 0:=by assumption
  refine wlp (X:=Unit) [1,5,10,15,19,22,26,27,28] [0,1,2,3,4,5,6,7,8,9,10,11,12,13,14,15,16,17,18] (fun _ => []) (fun _ => []) (fun _ => True) (fun _ => 0) () trivial rfl rfl (fun _ => rfl) (fun _ => rfl) ⟨rfl,rfl,rfl,rfl,rfl,rfl,rfl,rfl⟩ (fun x hx => ?_)
  repeat' (first
| intro h9;exfalso;first | contradiction | omega
| apply yds;rfl
| apply yd;rfl
| intro _
| refine nv ?_
| apply wct rfl
| apply wcf rfl
| apply ah rfl
| apply ai;rfl
| apply yne;rfl
| apply ycf;rfl;(exact aR (by exact BooksOk.midB (by assumption)));rfl
| fail)
  all_goals first
   | (exfalso;omega)
   | (rw [hug] at hne ⊢
      rw [sE (b:=⟨ba,bi,bb,bl,bt,bn⟩) c0 c1 c2 c4 c5 c6 hne,← nM hpc]
      exact ak [0,1,2,3,4,19,20,21,22,23] rfl rfl rfl rfl rfl rfl)
   | trace_state
 have hze:pN ba bb (u ++ [⟨iss,pa,ao id (aw ba bb pa) - (ao id (aw ba bb pa) * n / d)⟩]) = 0:=by assumption
 rw [hug] at hze ⊢
 have c7:¬ ¬ pN ba bb (jL pa iss (who ba bb pa) (aw ba bb pa) (shs (ao id (aw ba bb pa) * n / d) (aw ba bb pa))) = 0:=fun k => k hze
 refine pQ (X:=Option (Int × List Lot × Int)) (fun x => match x with | none => True | some y => (1 ≤ y.1 ∧ y.1 ≤ (who ba bb pa).length) ∧ ((y.2.2 = 0 ∧ scN bl pa (who ba bb pa) (shs (ao id (aw ba bb pa) * n / d) (aw ba bb pa)) y.1.toNat = (y.2.1,0)) ∨ (y.2.2 = 7 ∧ ¬ (scN bl pa (who ba bb pa) (shs (ao id (aw ba bb pa) * n / d) (aw ba bb pa)) ((who ba bb pa).length:Int).toNat).2 = 0))) (fun x => match x with | none => ⟨195,5,[(1,I pa),(5,.c (.ptr 5 0 0)),(10,.c (.ptr 6 0 0)),(15,.c (.row 7 0 (who ba bb pa).length)),(19,I (ao id (aw ba bb pa) * n / d)),(22,.c (.row 8 0 (shs (ao id (aw ba bb pa) * n / d) (aw ba bb pa)).length)),(26,.c (.ptr 14 0 0)),(27,I 0),(28,I 0)],[ro 42 ba,ro 74 bi,ro 135 bb,ro 137 bl,ro 103 bt,some ⟨true,30,6,.mx [.row 0 0 ba.length,.row 1 0 bi.length,.row 2 0 bb.length,.row 3 0 bl.length,.row 4 0 bt.length,.sc (.int .i64 bn)]⟩,some ⟨true,30,6,.mx [.sc (.slice none 0 0),.sc (.slice none 0 0),.sc (.slice none 0 0),.sc (.slice none 0 0),.sc (.slice none 0 0),.sc (.int .i64 0)]⟩,ow 3 (who ba bb pa),ow 3 (shs (ao id (aw ba bb pa) * n / d) (aw ba bb pa)),ow 42 ba,ow 74 bi,ow 135 (pL ba bb (jL pa iss (who ba bb pa) (aw ba bb pa) (shs (ao id (aw ba bb pa) * n / d) (aw ba bb pa)))),ow 137 bl,ow 103 bt,some ⟨true,30,6,.mx [.row 9 0 ba.length,.row 10 0 bi.length,.row 11 0 (pL ba bb (jL pa iss (who ba bb pa) (aw ba bb pa) (shs (ao id (aw ba bb pa) * n / d) (aw ba bb pa)))).length,.row 12 0 bl.length,.row 13 0 bt.length,.sc (.int .i64 bn)]⟩]⟩ | some y => ⟨195,5,[(1,I pa),(5,.c (.ptr 5 0 0)),(10,.c (.ptr 6 0 0)),(15,.c (.row 7 0 (who ba bb pa).length)),(19,I (ao id (aw ba bb pa) * n / d)),(22,.c (.row 8 0 (shs (ao id (aw ba bb pa) * n / d) (aw ba bb pa)).length)),(26,.c (.ptr 14 0 0)),(27,I y.2.2),(28,I y.1)],[ro 42 ba,ro 74 bi,ro 135 bb,ro 137 bl,ro 103 bt,some ⟨true,30,6,.mx [.row 0 0 ba.length,.row 1 0 bi.length,.row 2 0 bb.length,.row 3 0 bl.length,.row 4 0 bt.length,.sc (.int .i64 bn)]⟩,some ⟨true,30,6,.mx [.sc (.slice none 0 0),.sc (.slice none 0 0),.sc (.slice none 0 0),.sc (.slice none 0 0),.sc (.slice none 0 0),.sc (.int .i64 0)]⟩,ow 3 (who ba bb pa),ow 3 (shs (ao id (aw ba bb pa) * n / d) (aw ba bb pa)),ow 42 ba,ow 74 bi,ow 135 (pL ba bb (jL pa iss (who ba bb pa) (aw ba bb pa) (shs (ao id (aw ba bb pa) * n / d) (aw ba bb pa)))),ow 137 bl,ow 103 bt,some ⟨true,30,6,.mx [.row 9 0 ba.length,.row 10 0 bi.length,.row 11 0 (pL ba bb (jL pa iss (who ba bb pa) (aw ba bb pa) (shs (ao id (aw ba bb pa) * n / d) (aw ba bb pa)))).length,.row 15 0 y.2.1.length,.row 13 0 bt.length,.sc (.int .i64 bn)]⟩,ow 137 y.2.1]⟩) (fun x => match x with | none => (who ba bb pa).length + 1 | some y => ((who ba bb pa).length - y.1).toNat) none [0,1,2,3,4,5,6,7,9,13,14,18,16,17,19] trivial ⟨rfl,rfl,rfl,rfl,rfl,rfl,rfl,rfl⟩ (fun x hx => ?_)
 cases x with
 | none =>
   dsimp only
   have hS:scN bl pa (who ba bb pa) (shs (ao id (aw ba bb pa) * n / d) (aw ba bb pa)) (0:Int).toNat = (bl,0):=rfl
   by_cases hc:(bj bl (rd (who ba bb pa) 0) pa (rd (shs (ao id (aw ba bb pa) * n / d) (aw ba bb pa)) 0)).2 = 0
   ·
    have hS2:=AZ (Int.le_refl 0) hS hc
    repeat' (first
| intro h9;exfalso;contradiction
| apply yds;rfl
| apply yd;rfl
| intro _
| refine nv ?_
| apply wct rfl
| apply wcf rfl
| apply ai;rfl
| apply yne;rfl
| apply yar;rfl;omega
| apply yix;rfl;omega
| apply yle;rfl;omega
| refine zdq (id:=27) rfl (by kernel_rfl) [(.p,0),(.p,2),(.p,3),(.p,4),(.p,6),(.p,7),(.p,8),(.p,9),(.t,1),(.t,5),(.t,10),(.o,11),(.p,12),(.p,13),(.p,14),(.p,15),(.p,16)] [] (by kernel_rfl) rfl ?_
| apply ycf;rfl;exact fj;rfl
| fail)
    all_goals first
     | exact aB (some (0 + 1,(bj bl (rd (who ba bb pa) 0) pa (rd (shs (ao id (aw ba bb pa) * n / d) (aw ba bb pa)) 0)).1,0)) [0,1,2,3,4,5,6,7,8,9,10,11,12,13,14,15] ⟨rfl,rfl,rfl,rfl,rfl,rfl,rfl,rfl⟩ ⟨by dsimp only;omega,.inl ⟨rfl,hS2⟩⟩ (by first | omega | (dsimp only;omega))
     | (exfalso;omega)
     | trace_state
   ·
    have hS2:=AY (n:=(who ba bb pa).length) ⟨Int.le_refl 0,by omega⟩ hS hc
    repeat' (first
| intro h9;exfalso;contradiction
| apply yds;rfl
| apply yd;rfl
| intro _
| refine nv ?_
| apply wct rfl
| apply ai;rfl
| apply yne;rfl
| apply yar;rfl;omega
| apply yix;rfl;omega
| apply yle;rfl;omega
| refine zdq (id:=27) rfl (by kernel_rfl) [(.p,0),(.p,2),(.p,3),(.p,4),(.p,6),(.p,7),(.p,8),(.p,9),(.t,1),(.t,5),(.t,10),(.o,11),(.p,12),(.p,13),(.p,14),(.p,15),(.p,16)] [] (by kernel_rfl) rfl ?_
| apply ycf;rfl;exact fj;rfl
| fail)
    all_goals first
     | exact aB (some (0 + 1,(bj bl (rd (who ba bb pa) 0) pa (rd (shs (ao id (aw ba bb pa) * n / d) (aw ba bb pa)) 0)).1,7)) [0,1,2,3,4,5,6,7,8,9,10,11,12,13,14,15] ⟨rfl,rfl,rfl,rfl,rfl,rfl,rfl,rfl⟩ ⟨by dsimp only;omega,.inr ⟨rfl,hS2⟩⟩ (by first | omega | (dsimp only;omega))
     | (exfalso;omega)
     | trace_state
 | some y =>
   obtain ⟨j,L,cc⟩:=y
   obtain ⟨j0,hj⟩:=hx
   dsimp only at j0 hj ⊢
   rcases hj with ⟨rfl,hS⟩ | ⟨rfl,hbad⟩
   ·
    by_cases hjl:j < (who ba bb pa).length
    ·
     by_cases hc:(bj L (rd (who ba bb pa) j) pa (rd (shs (ao id (aw ba bb pa) * n / d) (aw ba bb pa)) j)).2 = 0
     ·
      have hS2:=AZ (by omega) hS hc
      repeat' (first
| intro h9;exfalso;contradiction
| apply yds;rfl
| apply yd;rfl
| intro _
| refine nv ?_
| apply wct rfl
| apply wcf rfl
| apply ai;rfl
| apply yne;rfl
| apply yar;rfl;omega
| apply yix;rfl;omega
| apply yle;rfl;omega
| refine zdq (id:=27) rfl (by kernel_rfl) [(.p,0),(.p,2),(.p,3),(.p,4),(.p,6),(.p,7),(.p,8),(.p,9),(.t,1),(.t,5),(.t,10),(.o,11),(.p,12),(.p,13),(.p,14),(.p,15),(.p,16)] [] (by kernel_rfl) rfl ?_
| apply ycf;rfl;exact fj;rfl
| fail)
      all_goals first
       | exact aB (some (j + 1,(bj L (rd (who ba bb pa) j) pa (rd (shs (ao id (aw ba bb pa) * n / d) (aw ba bb pa)) j)).1,0)) [0,1,2,3,4,5,6,7,8,9,10,11,12,13,14,16] ⟨rfl,rfl,rfl,rfl,rfl,rfl,rfl,rfl⟩ ⟨by dsimp only;omega,.inl ⟨rfl,hS2⟩⟩ (by first | omega | (dsimp only;omega))
       | (exfalso;omega)
       | trace_state
     ·
      have hS2:=AY (n:=(who ba bb pa).length) ⟨by omega,hjl⟩ hS hc
      repeat' (first
| intro h9;exfalso;contradiction
| apply yds;rfl
| apply yd;rfl
| intro _
| refine nv ?_
| apply wct rfl
| apply ai;rfl
| apply yne;rfl
| apply yar;rfl;omega
| apply yix;rfl;omega
| apply yle;rfl;omega
| refine zdq (id:=27) rfl (by kernel_rfl) [(.p,0),(.p,2),(.p,3),(.p,4),(.p,6),(.p,7),(.p,8),(.p,9),(.t,1),(.t,5),(.t,10),(.o,11),(.p,12),(.p,13),(.p,14),(.p,15),(.p,16)] [] (by kernel_rfl) rfl ?_
| apply ycf;rfl;exact fj;rfl
| fail)
      all_goals first
       | exact aB (some (j + 1,(bj L (rd (who ba bb pa) j) pa (rd (shs (ao id (aw ba bb pa) * n / d) (aw ba bb pa)) j)).1,7)) [0,1,2,3,4,5,6,7,8,9,10,11,12,13,14,16] ⟨rfl,rfl,rfl,rfl,rfl,rfl,rfl,rfl⟩ ⟨by dsimp only;omega,.inr ⟨rfl,hS2⟩⟩ (by first | omega | (dsimp only;omega))
       | (exfalso;omega)
       | trace_state
    ·
     have ej:j = ((who ba bb pa).length:Int):=by omega
     subst ej
     have hz:(scN bl pa (who ba bb pa) (shs (ao id (aw ba bb pa) * n / d) (aw ba bb pa)) ((who ba bb pa).length:Int).toNat).2 = 0:=by rw [hS]
     rw [sG (b:=⟨ba,bi,bb,bl,bt,bn⟩) c0 c1 c2 c4 c5 c6 c7 (fun k => k hz)]
     repeat' (first
| intro h9;exfalso;contradiction
| apply yds;rfl
| apply yd;rfl
| intro _
| refine nv ?_
| apply wcf rfl
| apply ah rfl
| apply ai;rfl
| apply yne;rfl
| fail)
     all_goals first
      | (rw [show L = (scN bl pa (who ba bb pa) (shs (ao id (aw ba bb pa) * n / d) (aw ba bb pa)) ((who ba bb pa).length:Int).toNat).1 from by rw [hS]]
         exact ak [0,1,2,3,4,9,10,11,15,13] rfl rfl rfl rfl rfl rfl)
      | (exfalso;omega)
      | trace_state
   ·
    rw [sF (b:=⟨ba,bi,bb,bl,bt,bn⟩) c0 c1 c2 c4 c5 c6 c7 hbad]
    repeat' (first
| intro h9;exfalso;contradiction
| apply yds;rfl
| apply yd;rfl
| intro _
| refine nv ?_
| apply wct rfl
| apply wcf rfl
| apply ah rfl
| apply ai;rfl
| apply yne;rfl
| apply ycf;rfl;(exact aR (by exact BooksOk.midB (by assumption)));rfl
| fail)
    all_goals first
     | exact ak [0,1,2,3,4,16,17,18,19,20] rfl rfl rfl rfl rfl rfl
     | (exfalso;omega)
     | trace_state
end
section
open Go.RowKit
theorem BooksOk.midR {b:Books} (h:BooksOk b):aW b:=⟨by have:=h.acc.2;omega,by have:=h.ins.2;omega,by have:=h.bals.2;omega,by have:=h.lots.1.2;omega,by have:=h.trades.2;omega⟩
theorem Ag {l:List Lot} {n a c q k:Int} (h:dW l n a c q k):(opL l n a c q k).length ≤ 120:=by
 have h2:=h.2
 show (cS l ⟨a,c,n + 1,q,k⟩).1.length ≤ 120
 by_cases c1:LotsOk l ∧ jq a c (n + 1) q k
 rotate_left
 ·rw [yg c1] at h2;exact absurd (show (1:Int) = 0 from h2) (by decide)
 by_cases c2:LotsOk (mrg l [⟨a,c,n + 1,q,k⟩])
 rotate_left
 ·rw [yi c1 c2] at h2;exact absurd (show (3:Int) = 0 from h2) (by decide)
 rw [yf c1 c2]
 exact c2.1.2
theorem iv {b:Books} (m:aW b) {g:List Leg} (h:¬ ¬ (poR b g).2 = 0):(poR b g).1.length ≤ 4294967296:=Nat.le_trans (tt (Classical.not_not.1 h)) (by decide)
theorem rE {l:List Lot} {n a c q k:Int} (h:¬ ¬ dW l n a c q k):(opL l n a c q k).length ≤ 4294967296:=Nat.le_trans (Ag (Classical.not_not.1 h)) (by decide)
theorem A1 {b:Books} (m:aW b) {r:List Bal} {n:Int} (h:r.length ≤ 4294967296):aW ⟨b.Accounts,b.Instrs,r,b.Lots,b.Trades,n⟩:=⟨m.a1,m.a2,h,m.a4,m.a5⟩
theorem yk {b:Books} (m:aW b) {r:List Bal} {l:List Lot} {n:Int} (h:r.length ≤ 4294967296) (h2:l.length ≤ 4294967296):aW ⟨b.Accounts,b.Instrs,r,l,b.Trades,n⟩:=⟨m.a1,m.a2,h,h2,m.a5⟩
theorem oP {b:Books} {no ki:Int}:aW (bh b no ki).1:=by
 unfold bh
 refine ay (P:=fun R:Books × Int => aW R.1) (fun _ => lS) fun c0 => ?_
 have m:=(Classical.not_not.1 c0).1.midR
 exact ay (P:=fun R:Books × Int => aW R.1) (fun _ => m) fun c1 => ay (P:=fun R:Books × Int => aW R.1) (fun _ => m) fun c2 => ⟨by show (io b.Accounts ⟨no,ki⟩).length ≤ _;rw [qu];omega,m.a2,m.a3,m.a4,m.a5⟩
theorem qX {b:Books} {no ki:Int}:aW (bI b no ki).1:=by
 unfold bI
 refine ay (P:=fun R:Books × Int => aW R.1) (fun _ => lS) fun c0 => ?_
 have m:=(Classical.not_not.1 c0).1.midR
 exact ay (P:=fun R:Books × Int => aW R.1) (fun _ => m) fun c1 => ay (P:=fun R:Books × Int => aW R.1) (fun _ => m) fun c2 => ⟨m.a1,by show (iu b.Instrs ⟨no,ki⟩).length ≤ _;rw [qI];omega,m.a3,m.a4,m.a5⟩
theorem qY {b:Books} {is ho c q k:Int}:aW (aF b is ho c q k).1:=by
 unfold aF
 refine ay (P:=fun R:Books × Int => aW R.1) (fun _ => lS) fun c0 => ?_
 have m:=(Classical.not_not.1 c0).1.midR
 exact ay (P:=fun R:Books × Int => aW R.1) (fun _ => m) fun c1 => ay (P:=fun R:Books × Int => aW R.1) (fun _ => m) fun c2 => ay (P:=fun R:Books × Int => aW R.1) (fun _ => m) fun c3 => ay (P:=fun R:Books × Int => aW R.1) (fun _ => A1 m (iv m c3)) fun c4 => ay (P:=fun R:Books × Int => aW R.1) (fun _ => m) fun c5 => yk m (iv m c3) (rE c5)
theorem sy {b:Books} {fr to c q way:Int}:aW (aN b fr to c q way).1:=by
 unfold aN
 refine ay (P:=fun R:Books × Int × Int => aW R.1) (fun _ => lS) fun c0 => ?_
 have m:=(Classical.not_not.1 c0).1.midR
 exact ay (P:=fun R:Books × Int × Int => aW R.1) (fun _ => m) fun c1 => ay (P:=fun R:Books × Int × Int => aW R.1) (fun _ => m) fun c2 => ay (P:=fun R:Books × Int × Int => aW R.1) (fun _ => m) fun c3 => ay (P:=fun R:Books × Int × Int => aW R.1) (fun _ => A1 m (iv m c3)) fun c4 => ay (P:=fun R:Books × Int × Int => aW R.1) (fun _ => m) fun c5 => ay (P:=fun R:Books × Int × Int => aW R.1) (fun _ => m) fun c6 => yk m (iv m c3) (rE c6)
theorem ra {b:Books} {no bu se pa qt ca pr:Int}:aW (a8 b no bu se pa qt ca pr).1:=by
 unfold a8
 refine ay (P:=fun R:Books × Int => aW R.1) (fun _ => lS) fun c0 => ?_
 have m:=(Classical.not_not.1 c0).1.midR
 exact ay (P:=fun R:Books × Int => aW R.1) (fun _ => m) fun c1 => ay (P:=fun R:Books × Int => aW R.1) (fun _ => m) fun c2 => ay (P:=fun R:Books × Int => aW R.1) (fun _ => m) fun c3 => ay (P:=fun R:Books × Int => aW R.1) (fun _ => m) fun c4 => ⟨m.a1,m.a2,m.a3,m.a4,by show (fv b.Trades _).length ≤ _;rw [fv,cZ (l5 _ _)];omega⟩
theorem pV {b:Books} {no:Int}:aW (az b no).1:=by
 unfold az
 refine ay (P:=fun R:Books × Int => aW R.1) (fun _ => lS) fun c0 => ?_
 have m:=(Classical.not_not.1 c0).1.midR
 exact ay (P:=fun R:Books × Int => aW R.1) (fun _ => m) fun c1 => ⟨m.a1,m.a2,m.a3,m.a4,by show (upd b.Trades _ _).length ≤ _;rw [aG];exact m.a5⟩
theorem lf {b:Books} {no way:Int}:aW (ag b no way).1:=by
 unfold ag
 refine ay (P:=fun R:Books × Int × Int => aW R.1) (fun _ => lS) fun c0 => ?_
 have m:=(Classical.not_not.1 c0).1.midR
 exact ay (P:=fun R:Books × Int × Int => aW R.1) (fun _ => m) fun c1 => ay (P:=fun R:Books × Int × Int => aW R.1) (fun _ => m) fun c2 => ay (P:=fun R:Books × Int × Int => aW R.1) (fun _ => m) fun c3 => ay (P:=fun R:Books × Int × Int => aW R.1) (fun _ => m) fun c4 => ⟨m.a1,m.a2,iv m c2,rE c4,by show (upd b.Trades _ _).length ≤ _;rw [aG];exact m.a5⟩
theorem wr {b:Books} {ho de fr to am nu dn:Int}:aW (d5 b ho de fr to am nu dn).1:=by
 unfold d5
 refine ay (P:=fun R:Books × Int × Int => aW R.1) (fun _ => lS) fun c0 => ?_
 have m:=(Classical.not_not.1 c0).1.midR
 exact ay (P:=fun R:Books × Int × Int => aW R.1) (fun _ => m) fun c1 => ay (P:=fun R:Books × Int × Int => aW R.1) (fun _ => m) fun c2 => ay (P:=fun R:Books × Int × Int => aW R.1) (fun _ => m) fun c3 => ay (P:=fun R:Books × Int × Int => aW R.1) (fun _ => m) fun c4 => A1 m (iv m c4)
theorem uh {b:Books} {pa ca py t:Int}:aW (aS b pa ca py t).1:=by
 unfold aS
 refine ay (P:=fun R:Books × Int × Int => aW R.1) (fun _ => lS) fun c0 => ?_
 have m:=(Classical.not_not.1 c0).1.midR
 exact ay (P:=fun R:Books × Int × Int => aW R.1) (fun _ => m) fun c1 => ay (P:=fun R:Books × Int × Int => aW R.1) (fun _ => m) fun c2 => ay (P:=fun R:Books × Int × Int => aW R.1) (fun _ => m) fun c3 => ay (P:=fun R:Books × Int × Int => aW R.1) (fun _ => m) fun c4 => ay (P:=fun R:Books × Int × Int => aW R.1) (fun _ => m) fun c5 => A1 m (iv m c5)
theorem yq {way:Int}:∀ (L:List Int) {s:Books × Int × Int},aW s.1 → aW (L.foldl (stN way) s).1
 | [],_,h => h
 | x :: L,s,h => by
   rw [List.foldl_cons]
   refine yq L ?_
   unfold stN
   exact ay (P:=fun R:Books × Int × Int => aW R.1) (fun _ => ay (P:=fun R:Books × Int × Int => aW R.1) (fun _ => lf) fun _ => h) fun _ => h
theorem ug {b:Books} {fr to way:Int}:aW (bJ b fr to way).1:=by
 unfold bJ
 refine ay (P:=fun R:Books × List Leg × Int × Int => aW R.1) (fun _ => lS) fun c0 => ?_
 have m:=(Classical.not_not.1 c0).1.midR
 exact ay (P:=fun R:Books × List Leg × Int × Int => aW R.1) (fun _ => m) fun _ => ay (P:=fun R:Books × List Leg × Int × Int => aW R.1) (fun _ => m) fun _ => ay (P:=fun R:Books × List Leg × Int × Int => aW R.1) (fun _ => m) fun _ => yq _ m
theorem At {own:List Lot} {sh:List Int}:(scF own sh).length ≤ own.length:=by
 have h:=vV (own:=own) (sh:=sh) (i:=own.length) (by omega)
 unfold scF
 exact ay (P:=fun R:List Lot => R.length ≤ own.length) (fun _ => by rw [aG];omega) fun _ => by omega
theorem rC {l:List Lot} {a c q:Int}:(bj l a c q).1.length ≤ l.length + 40:=by
 unfold bj
 refine ay (P:=fun R:List Lot × Int => R.1.length ≤ l.length + 40) (fun _ => Nat.zero_le _) fun _ => ay (P:=fun R:List Lot × Int => R.1.length ≤ l.length + 40) (fun _ => Nat.le_add_right _ _) fun _ => ay (P:=fun R:List Lot × Int => R.1.length ≤ l.length + 40) (fun _ => Nat.le_add_right _ _) fun _ => ay (P:=fun R:List Lot × Int => R.1.length ≤ l.length + 40) (fun _ => Nat.le_add_right _ _) fun h => ?_
 have h1:=At (own:=ae l a c) (sh:=shs q ((ae l a c).map Lot.Qty))
 have h2:=cV (fun x:Lot => ¬ (x.Account = a ∧ x.Instr = c)) l
 show (mrg (aY l a c) (scF (ae l a c) (shs q ((ae l a c).map Lot.Qty)))).length ≤ _
 rw [oy]
 unfold aY
 omega
theorem vW {l:List Lot} {pa:Int} {who is:List Int}:∀ k:Nat,(scN l pa who is k).1.length ≤ l.length + 40 * k
 | 0 => Nat.le_refl _
 | k + 1 => by
   have ih:=vW (l:=l) (pa:=pa) (who:=who) (is:=is) k
   have h1:=rC (l:=(scN l pa who is k).1) (a:=rd who k) (c:=pa) (q:=rd is k)
   unfold scN
   exact ay (P:=fun R:List Lot × Int => R.1.length ≤ l.length + 40 * (k + 1)) (fun _ => ay (P:=fun R:List Lot × Int => R.1.length ≤ l.length + 40 * (k + 1)) (fun _ => by dsimp only;omega) fun _ => by dsimp only;omega) fun _ => by omega
theorem BC {b:Books} {pa:Int} (c0:BooksOk b) {is:List Int}:(scN b.Lots pa (who b.Accounts b.Bals pa) is ((who b.Accounts b.Bals pa).length:Int).toNat).1.length ≤ 4294967296:=by
 have h1:=l6 b.Accounts b.Bals pa
 have h2:=c0.acc.2
 have h3:=c0.lots.1.2
 have h4:=vW (l:=b.Lots) (pa:=pa) (who:=who b.Accounts b.Bals pa) (is:=is) ((who b.Accounts b.Bals pa).length:Int).toNat
 omega
theorem qZ {b:Books} {pa n d iss:Int}:aW (aZ b pa n d iss).1:=by
 unfold aZ
 refine ay (P:=fun R:Books × Int × Int => aW R.1) (fun _ => lS) fun c0 => ?_
 have m:=(Classical.not_not.1 c0).1.midR
 exact ay (P:=fun R:Books × Int × Int => aW R.1) (fun _ => m) fun c1 => ay (P:=fun R:Books × Int × Int => aW R.1) (fun _ => m) fun c2 => ay (P:=fun R:Books × Int × Int => aW R.1) (fun _ => m) fun c3 => ay (P:=fun R:Books × Int × Int => aW R.1) (fun _ => m) fun c4 => ay (P:=fun R:Books × Int × Int => aW R.1) (fun _ => m) fun c5 => ay (P:=fun R:Books × Int × Int => aW R.1) (fun _ => m) fun c6 => ay (P:=fun R:Books × Int × Int => aW R.1) (fun _ => m) fun c7 => yk m (iv m c6) (BC (Classical.not_not.1 c0).1)
end
section
open Go.RowKit
noncomputable def nf (k:Int):Int:=pick (k = 1 ∨ k = 2 ∨ k = 7) 2 (pick (k = 6) 1 (pick (k = 8) 3 (pick (k = 10 ∨ k = 11) 4 (pick (k = 3 ∨ k = 4) 5 (pick (k = 5 ∨ k = 9) 7 (-1))))))
theorem cU (k:Int):((k = 1 ∨ k = 2 ∨ k = 7) ∧ nf k = 2) ∨ (k = 6 ∧ nf k = 1) ∨ (k = 8 ∧ nf k = 3) ∨ ((k = 10 ∨ k = 11) ∧ nf k = 4) ∨ ((k = 3 ∨ k = 4) ∧ nf k = 5) ∨ ((k = 5 ∨ k = 9) ∧ nf k = 7) ∨ ((k < 1 ∨ 11 < k) ∧ nf k = -1):=by
 unfold nf
 by_cases h1:k = 1 ∨ k = 2 ∨ k = 7
 ·rw [aK h1];exact .inl ⟨h1,rfl⟩
 rw [aC h1]
 by_cases h2:k = 6
 ·rw [aK h2];exact .inr (.inl ⟨h2,rfl⟩)
 rw [aC h2]
 by_cases h3:k = 8
 ·rw [aK h3];exact .inr (.inr (.inl ⟨h3,rfl⟩))
 rw [aC h3]
 by_cases h4:k = 10 ∨ k = 11
 ·rw [aK h4];exact .inr (.inr (.inr (.inl ⟨h4,rfl⟩)))
 rw [aC h4]
 by_cases h5:k = 3 ∨ k = 4
 ·rw [aK h5];exact .inr (.inr (.inr (.inr (.inl ⟨h5,rfl⟩))))
 rw [aC h5]
 by_cases h6:k = 5 ∨ k = 9
 ·rw [aK h6];exact .inr (.inr (.inr (.inr (.inr (.inl ⟨h6,rfl⟩)))))
 rw [aC h6]
 exact .inr (.inr (.inr (.inr (.inr (.inr ⟨by omega,rfl⟩)))))
theorem xF {k:Int} (h:inP k 1 11):nf k = rd [0,2,2,5,5,7,1,2,3,7,4,4] k:=by
 have:=cU k
 unfold inP at h
 obtain rfl | rfl | rfl | rfl | rfl | rfl | rfl | rfl | rfl | rfl | rfl:k = 1 ∨ k = 2 ∨ k = 3 ∨ k = 4 ∨ k = 5 ∨ k = 6 ∨ k = 7 ∨ k = 8 ∨ k = 9 ∨ k = 10 ∨ k = 11:=by omega
 all_goals simp [rd];omega
def qC (k:Int) (a:List Int):Prop:=(a.length:Int) = nf k ∧ ∀ x ∈ a,inP x 0 1000000000000000
theorem jv {k:Int}:FC Tryz.prog 212 [I k] ([]) (I (nf k)) ([]):=by
 refine ax tk 10 [.tmp 2] Tryz.func212 (by kernel_rfl) rfl rfl rfl rfl rfl rfl rfl ?_
 have h:=cU k
 by_cases hk:inP k 1 11
 ·
  have q:1 ≤ k ∧ k ≤ 11:=hk
  have hl:[(0:Int),2,2,5,5,7,1,2,3,7,4,4].length = 12:=rfl
  repeat' (first
| intro h9;exfalso;contradiction
| apply yd;rfl
| intro _
| refine nv ?_
| apply wcf rfl
| apply yix;rfl;omega
| apply yle;rfl;omega
| apply aH (α:=Int) (e:=3);rfl
| apply ycp;rfl;exact aO;rfl
| fail)
  all_goals exact du [] rfl rfl rfl rfl rfl rfl (xF hk)
 ·
  have q:¬ (1 ≤ k ∧ k ≤ 11):=hk
  repeat' (first
| intro h9;exfalso;contradiction
| apply yd;rfl
| intro _
| refine nv ?_
| apply wct rfl
| apply ycp;rfl;exact aO;rfl
| fail)
  all_goals exact du [] rfl rfl rfl rfl rfl rfl (by omega)
theorem all_of' {a:List Int} {i:Int} {q:Int → Prop} (h:¬ i < a.length) (hall:∀ j:Int,0 ≤ j → j < i → q (rd a j)):∀ x ∈ a,q x:=fun x hx => by
 obtain ⟨n,hn,rfl⟩:=List.getElem_of_mem hx
 have:=hall n (by omega) (by omega)
 simpa [rd,List.getD_eq_getElem?_getD,hn] using this
theorem pF {k:Int} {a:List Int}:FC Tryz.prog 156 [.agg [.sc (.int .i64 k),.row 0 0 a.length]] ([ro 3 a]) (B (dB (qC k a))) ([ro 3 a]):=by
 refine ax tk 31 [.tmp 2] Tryz.func156 (by kernel_rfl) rfl rfl rfl rfl rfl rfl rfl ?_
 refine bX a 0 rfl (fun hl => ?_)
 have hcn:=cU k
 by_cases hn:(a.length:Int) = nf k
 rotate_left
 ·
  repeat' (first
| intro h9;exfalso;contradiction
| apply yds;rfl
| apply yd;rfl
| intro _
| refine nv ?_
| apply wct rfl
| apply ai;rfl
| apply yne;rfl
| refine zdq (id:=1) rfl (by kernel_rfl) [(.p,0),(.t,1),(.o,2),(.p,3),(.p,4),(.p,5),(.p,8),(.t,6),(.p,7),(.t,9),(.o,10),(.p,11),(.p,12)] [] (by kernel_rfl) rfl ?_
| apply yc;rfl;exact jv;rfl;exact fun _ => rfl
| fail)
  all_goals exact b5 [0] rfl rfl rfl rfl rfl rfl (fun h => hn h.1)
 repeat' (first
| intro h9;exfalso;first | contradiction | omega
| apply yds;rfl
| apply yd;rfl
| intro _
| refine nv ?_
| apply wcf rfl
| apply ai;rfl
| apply yne;rfl
| refine zdq (id:=1) rfl (by kernel_rfl) [(.p,0),(.t,1),(.o,2),(.p,3),(.p,4),(.p,5),(.p,8),(.t,6),(.p,7),(.t,9),(.o,10),(.p,11),(.p,12)] [] (by kernel_rfl) rfl ?_
| apply yc;rfl;exact jv;rfl;exact fun _ => rfl
| fail)
 all_goals skip
 refine wlp (X:=Int) [1] [0,1] (fun i => [(3,I i)]) (fun _ => []) (fun i => 0 ≤ i ∧ i ≤ a.length ∧ ∀ j:Int,0 ≤ j → j < i → inP (rd a j) 0 1000000000000000) (fun i => (a.length - i).toNat) 0 ⟨by omega,by omega,fun j h0 h1 => by omega⟩ rfl rfl (fun _ => rfl) (fun _ => rfl) ⟨rfl,rfl,rfl,rfl,rfl,rfl,rfl,rfl⟩ (fun i hi => ?_)
 obtain ⟨h0,hi,hall⟩:=hi
 repeat' (first
| apply yds;rfl
| apply yd;rfl
| intro _
| refine nv ?_
| apply wct rfl
| apply wcf rfl
| apply ah rfl
| apply ai;rfl
| apply yar;rfl;omega
| apply yix;rfl;omega
| apply yle;rfl;omega
| apply ycp;rfl;exact aJ;rfl
| fail)
 all_goals first
  | exact bF [0] rfl rfl rfl rfl rfl rfl ⟨hn,all_of' (by assumption) hall⟩
  | exact b5 [0] rfl rfl rfl rfl rfl rfl (fun h => by have q:=h.2 _ (aA (l:=a) (i:=i) ⟨h0,by assumption⟩);contradiction)
  | exact aB (i + 1) [0,1] ⟨rfl,rfl,rfl,rfl,rfl,rfl,rfl,rfl⟩ ⟨by omega,by omega,aD hall (by assumption)⟩ (by first | omega | (dsimp only;omega))
  | (exfalso;omega)
  | trace_state
end
section
open Go.RowKit
noncomputable def cJ (b:Books) (k:Int) (a:List Int):Books × Int × Int :=
 sel (k = 1) ((bh b (rd a 0) (rd a 1)).1,0,(bh b (rd a 0) (rd a 1)).2)
 (sel (k = 2) ((bI b (rd a 0) (rd a 1)).1,0,(bI b (rd a 0) (rd a 1)).2)
 (sel (k = 3) ((aF b (rd a 0) (rd a 1) (rd a 2) (rd a 3) (rd a 4)).1,0,(aF b (rd a 0) (rd a 1) (rd a 2) (rd a 3) (rd a 4)).2)
 (sel (k = 4) (aN b (rd a 0) (rd a 1) (rd a 2) (rd a 3) (rd a 4))
 (sel (k = 5) ((a8 b (rd a 0) (rd a 1) (rd a 2) (rd a 3) (rd a 4) (rd a 5) (rd a 6)).1,0,(a8 b (rd a 0) (rd a 1) (rd a 2) (rd a 3) (rd a 4) (rd a 5) (rd a 6)).2)
 (sel (k = 6) ((az b (rd a 0)).1,0,(az b (rd a 0)).2)
 (sel (k = 7) (ag b (rd a 0) (rd a 1))
 (sel (k = 8) ((bJ b (rd a 0) (rd a 1) (rd a 2)).1,(bJ b (rd a 0) (rd a 1) (rd a 2)).2.2.1,(bJ b (rd a 0) (rd a 1) (rd a 2)).2.2.2)
 (sel (k = 9) (d5 b (rd a 0) (rd a 1) (rd a 2) (rd a 3) (rd a 4) (rd a 5) (rd a 6))
 (sel (k = 10) (aZ b (rd a 0) (rd a 1) (rd a 2) (rd a 3))
 (sel (k = 11) (aS b (rd a 0) (rd a 1) (rd a 2) (rd a 3))
 (⟨[],[],[],[],[],0⟩,0,1)))))))))))
theorem Bm {b:Books} {k:Int} {a:List Int}  (c0:k = 1):cJ b k a = ((bh b (rd a 0) (rd a 1)).1,0,(bh b (rd a 0) (rd a 1)).2):=by
 rw [cJ,au c0]
theorem Bn {b:Books} {k:Int} {a:List Int} (c0:¬ (k = 1)) (c1:k = 2):cJ b k a = ((bI b (rd a 0) (rd a 1)).1,0,(bI b (rd a 0) (rd a 1)).2):=by
 rw [cJ,ab c0,au c1]
theorem Bo {b:Books} {k:Int} {a:List Int} (c0:¬ (k = 1)) (c1:¬ (k = 2)) (c2:k = 3):cJ b k a = ((aF b (rd a 0) (rd a 1) (rd a 2) (rd a 3) (rd a 4)).1,0,(aF b (rd a 0) (rd a 1) (rd a 2) (rd a 3) (rd a 4)).2):=by
 rw [cJ,ab c0,ab c1,au c2]
theorem Bp {b:Books} {k:Int} {a:List Int} (c0:¬ (k = 1)) (c1:¬ (k = 2)) (c2:¬ (k = 3)) (c3:k = 4):cJ b k a = (aN b (rd a 0) (rd a 1) (rd a 2) (rd a 3) (rd a 4)):=by
 rw [cJ,ab c0,ab c1,ab c2,au c3]
theorem Bq {b:Books} {k:Int} {a:List Int} (c0:¬ (k = 1)) (c1:¬ (k = 2)) (c2:¬ (k = 3)) (c3:¬ (k = 4)) (c4:k = 5):cJ b k a = ((a8 b (rd a 0) (rd a 1) (rd a 2) (rd a 3) (rd a 4) (rd a 5) (rd a 6)).1,0,(a8 b (rd a 0) (rd a 1) (rd a 2) (rd a 3) (rd a 4) (rd a 5) (rd a 6)).2):=by
 rw [cJ,ab c0,ab c1,ab c2,ab c3,au c4]
theorem Br {b:Books} {k:Int} {a:List Int} (c0:¬ (k = 1)) (c1:¬ (k = 2)) (c2:¬ (k = 3)) (c3:¬ (k = 4)) (c4:¬ (k = 5)) (c5:k = 6):cJ b k a = ((az b (rd a 0)).1,0,(az b (rd a 0)).2):=by
 rw [cJ,ab c0,ab c1,ab c2,ab c3,ab c4,au c5]
theorem Bs {b:Books} {k:Int} {a:List Int} (c0:¬ (k = 1)) (c1:¬ (k = 2)) (c2:¬ (k = 3)) (c3:¬ (k = 4)) (c4:¬ (k = 5)) (c5:¬ (k = 6)) (c6:k = 7):cJ b k a = (ag b (rd a 0) (rd a 1)):=by
 rw [cJ,ab c0,ab c1,ab c2,ab c3,ab c4,ab c5,au c6]
theorem Bt {b:Books} {k:Int} {a:List Int} (c0:¬ (k = 1)) (c1:¬ (k = 2)) (c2:¬ (k = 3)) (c3:¬ (k = 4)) (c4:¬ (k = 5)) (c5:¬ (k = 6)) (c6:¬ (k = 7)) (c7:k = 8):cJ b k a = ((bJ b (rd a 0) (rd a 1) (rd a 2)).1,(bJ b (rd a 0) (rd a 1) (rd a 2)).2.2.1,(bJ b (rd a 0) (rd a 1) (rd a 2)).2.2.2):=by
 rw [cJ,ab c0,ab c1,ab c2,ab c3,ab c4,ab c5,ab c6,au c7]
theorem Bu {b:Books} {k:Int} {a:List Int} (c0:¬ (k = 1)) (c1:¬ (k = 2)) (c2:¬ (k = 3)) (c3:¬ (k = 4)) (c4:¬ (k = 5)) (c5:¬ (k = 6)) (c6:¬ (k = 7)) (c7:¬ (k = 8)) (c8:k = 9):cJ b k a = (d5 b (rd a 0) (rd a 1) (rd a 2) (rd a 3) (rd a 4) (rd a 5) (rd a 6)):=by
 rw [cJ,ab c0,ab c1,ab c2,ab c3,ab c4,ab c5,ab c6,ab c7,au c8]
theorem Bv {b:Books} {k:Int} {a:List Int} (c0:¬ (k = 1)) (c1:¬ (k = 2)) (c2:¬ (k = 3)) (c3:¬ (k = 4)) (c4:¬ (k = 5)) (c5:¬ (k = 6)) (c6:¬ (k = 7)) (c7:¬ (k = 8)) (c8:¬ (k = 9)) (c9:k = 10):cJ b k a = (aZ b (rd a 0) (rd a 1) (rd a 2) (rd a 3)):=by
 rw [cJ,ab c0,ab c1,ab c2,ab c3,ab c4,ab c5,ab c6,ab c7,ab c8,au c9]
theorem zK {b:Books} {k:Int} {a:List Int} (c0:¬ (k = 1)) (c1:¬ (k = 2)) (c2:¬ (k = 3)) (c3:¬ (k = 4)) (c4:¬ (k = 5)) (c5:¬ (k = 6)) (c6:¬ (k = 7)) (c7:¬ (k = 8)) (c8:¬ (k = 9)) (c9:¬ (k = 10)) (c10:k = 11):cJ b k a = (aS b (rd a 0) (rd a 1) (rd a 2) (rd a 3)):=by
 rw [cJ,ab c0,ab c1,ab c2,ab c3,ab c4,ab c5,ab c6,ab c7,ab c8,ab c9,au c10]
noncomputable def fC (b:Books) (k:Int) (a:List Int):Books × Int × Int :=
 sel (¬ (BooksOk b ∧ qC k a)) (⟨[],[],[],[],[],0⟩,1,0)
 (sel (¬ (cJ b k a).2.2 = 0) ((cJ b k a).1,(cJ b k a).2.2,0)
 ((cJ b k a).1,(cJ b k a).2.2,(cJ b k a).2.1))
theorem Bl {b:Books} {k:Int} {a:List Int}  (c0:¬ (BooksOk b ∧ qC k a)):fC b k a = (⟨[],[],[],[],[],0⟩,1,0):=by
 rw [fC,au c0]
theorem gR {b:Books} {k:Int} {a:List Int} (c0:¬ (¬ (BooksOk b ∧ qC k a))) (c1:¬ (cJ b k a).2.2 = 0):fC b k a = ((cJ b k a).1,(cJ b k a).2.2,0):=by
 rw [fC,ab c0,au c1]
theorem gS {b:Books} {k:Int} {a:List Int} (c0:¬ (¬ (BooksOk b ∧ qC k a))) (c1:¬ (¬ (cJ b k a).2.2 = 0)):fC b k a = ((cJ b k a).1,(cJ b k a).2.2,(cJ b k a).2.1):=by
 rw [fC,ab c0,ab c1]
theorem lr {ba:List Account} {bi:List Instr} {bb:List Bal} {bl:List Lot} {bt:List Trade} {bn:Int} {k:Int} {a:List Int}:FC Tryz.prog 42 [bkV 0 ⟨ba,bi,bb,bl,bt,bn⟩,.agg [.sc (.int .i64 k),.row 5 0 a.length]] (bkR ⟨ba,bi,bb,bl,bt,bn⟩ ++ [ro 3 a]) (.tup [bkE 6 (fC ⟨ba,bi,bb,bl,bt,bn⟩ k a).1,.agg [.sc (.int .i64 (fC ⟨ba,bi,bb,bl,bt,bn⟩ k a).2.1),.sc (.int .i64 (fC ⟨ba,bi,bb,bl,bt,bn⟩ k a).2.2)]]) (bkR ⟨ba,bi,bb,bl,bt,bn⟩ ++ [ro 3 a] ++ bkW (fC ⟨ba,bi,bb,bl,bt,bn⟩ k a).1):=by
 refine ax tk 242 [.cell 4 _,.cell 5 _] Tryz.func42 (by kernel_rfl) rfl rfl rfl rfl rfl rfl rfl ?_
 by_cases c0:¬ (BooksOk ⟨ba,bi,bb,bl,bt,bn⟩ ∧ qC k a)
 ·
  rw [Bl (b:=⟨ba,bi,bb,bl,bt,bn⟩) c0]
  repeat' (first
| intro h9;exfalso;contradiction
| apply al (d:=10) 0 42 2;rfl;rfl;rfl;rfl;rfl
| apply al (d:=10) 1 74 2;rfl;rfl;rfl;rfl;rfl
| apply al (d:=10) 2 135 3;rfl;rfl;rfl;rfl;rfl
| apply al (d:=10) 3 137 5;rfl;rfl;rfl;rfl;rfl
| apply al (d:=10) 4 103 8;rfl;rfl;rfl;rfl;rfl
| apply yd;rfl
| intro _
| refine nv ?_
| apply wct rfl
| apply wcf rfl
| apply yeq;rfl
| apply yne;rfl
| refine zdq (id:=7) rfl (by kernel_rfl) [(.p,1),(.p,2),(.p,4),(.p,5),(.t,0),(.t,3),(.t,6),(.o,7),(.p,8),(.p,9),(.p,10),(.l,11),(.p,12)] [11] (by kernel_rfl) rfl ?_
| refine zdq (id:=9) rfl (by kernel_rfl) [(.p,1),(.p,2),(.p,4),(.p,5),(.t,0),(.t,3),(.t,6),(.o,7),(.p,8),(.p,9),(.p,10),(.l,11),(.p,12)] [11] (by kernel_rfl) rfl ?_
| refine zdq (id:=11) rfl (by kernel_rfl) [(.p,1),(.p,2),(.p,4),(.p,5),(.p,7),(.p,8),(.p,10),(.p,11),(.p,13),(.p,14),(.t,0),(.t,3),(.t,6),(.t,9),(.t,12),(.t,15),(.o,16),(.p,17),(.p,18),(.p,19),(.l,20),(.p,21)] [20] (by kernel_rfl) rfl ?_
| refine zdq (id:=13) rfl (by kernel_rfl) [(.p,1),(.p,2),(.p,4),(.p,5),(.p,7),(.p,8),(.p,10),(.p,11),(.p,13),(.p,14),(.t,0),(.t,3),(.t,6),(.t,9),(.t,12),(.t,15),(.o,16),(.p,17),(.p,18),(.p,19),(.p,20),(.l,21),(.p,22),(.p,23)] [21] (by kernel_rfl) rfl ?_
| refine zdq (id:=15) rfl (by kernel_rfl) [(.p,1),(.p,2),(.p,4),(.p,5),(.p,7),(.p,8),(.p,10),(.p,11),(.p,13),(.p,14),(.p,16),(.p,17),(.p,19),(.p,20),(.t,0),(.t,3),(.t,6),(.t,9),(.t,12),(.t,15),(.t,18),(.t,21),(.o,22),(.p,23),(.p,24),(.p,25),(.l,26),(.p,27)] [26] (by kernel_rfl) rfl ?_
| refine zdq (id:=17) rfl (by kernel_rfl) [(.p,1),(.p,2),(.t,0),(.t,3),(.o,4),(.p,5),(.p,6),(.p,7),(.l,8),(.p,9)] [8] (by kernel_rfl) rfl ?_
| refine zdq (id:=19) rfl (by kernel_rfl) [(.p,1),(.p,2),(.p,4),(.p,5),(.t,0),(.t,3),(.t,6),(.o,7),(.p,8),(.p,9),(.p,10),(.p,11),(.l,12),(.p,13),(.p,14)] [12] (by kernel_rfl) rfl ?_
| refine zdq (id:=21) rfl (by kernel_rfl) [(.p,1),(.p,2),(.p,4),(.p,5),(.p,7),(.p,8),(.t,0),(.t,3),(.t,6),(.t,9),(.o,10),(.p,11),(.p,12),(.p,13),(.p,14),(.p,15),(.l,16),(.p,17),(.p,18)] [16] (by kernel_rfl) rfl ?_
| refine zdq (id:=23) rfl (by kernel_rfl) [(.p,1),(.p,2),(.p,4),(.p,5),(.p,7),(.p,8),(.p,10),(.p,11),(.p,13),(.p,14),(.p,16),(.p,17),(.p,19),(.p,20),(.t,0),(.t,3),(.t,6),(.t,9),(.t,12),(.t,15),(.t,18),(.t,21),(.o,22),(.p,23),(.p,24),(.p,25),(.p,26),(.l,27),(.p,28),(.p,29)] [27] (by kernel_rfl) rfl ?_
| refine zdq (id:=25) rfl (by kernel_rfl) [(.p,1),(.p,2),(.p,4),(.p,5),(.p,7),(.p,8),(.p,10),(.p,11),(.t,0),(.t,3),(.t,6),(.t,9),(.t,12),(.o,13),(.p,14),(.p,15),(.p,16),(.p,17),(.l,18),(.p,19),(.p,20)] [18] (by kernel_rfl) rfl ?_
| refine zdq (id:=27) rfl (by kernel_rfl) [(.p,1),(.p,2),(.p,4),(.p,5),(.p,7),(.p,8),(.p,10),(.p,11),(.t,0),(.t,3),(.t,6),(.t,9),(.t,12),(.o,13),(.p,14),(.p,15),(.p,16),(.p,17),(.l,18),(.p,19),(.p,20)] [18] (by kernel_rfl) rfl ?_
| apply ycp;rfl;(first | exact ap | exact pF);rfl
| fail)
  all_goals first | (exfalso;exact c0 ⟨by assumption,by assumption⟩) | exact ak [0,1,2,3,4,5,10,11,12,13,14] rfl rfl rfl rfl rfl rfl
 obtain ⟨hok,hco⟩:=Classical.not_not.1 c0
 have hc:=cU k
 have hl:=hco.1
 obtain rfl | rfl | rfl | rfl | rfl | rfl | rfl | rfl | rfl | rfl | rfl:k = 1 ∨ k = 2 ∨ k = 3 ∨ k = 4 ∨ k = 5 ∨ k = 6 ∨ k = 7 ∨ k = 8 ∨ k = 9 ∨ k = 10 ∨ k = 11:=by omega
 have hn:a.length = 2:=by omega
 have e:=Bm (b:=⟨ba,bi,bb,bl,bt,bn⟩) (a:=a) rfl
 by_cases c1:(cJ ⟨ba,bi,bb,bl,bt,bn⟩ 1 a).2.2 = 0
 rw [gS (b:=⟨ba,bi,bb,bl,bt,bn⟩) c0 (fun h => h c1),e]
 rw [e] at c1
 try dsimp only at c1
 rotate_left
 rw [gR (b:=⟨ba,bi,bb,bl,bt,bn⟩) c0 c1,e]
 rw [e] at c1
 try dsimp only at c1
 rotate_left
 have hn:a.length = 2:=by omega
 have e:=Bn (b:=⟨ba,bi,bb,bl,bt,bn⟩) (a:=a) (by decide) rfl
 by_cases c1:(cJ ⟨ba,bi,bb,bl,bt,bn⟩ 2 a).2.2 = 0
 rw [gS (b:=⟨ba,bi,bb,bl,bt,bn⟩) c0 (fun h => h c1),e]
 rw [e] at c1
 try dsimp only at c1
 rotate_left
 rw [gR (b:=⟨ba,bi,bb,bl,bt,bn⟩) c0 c1,e]
 rw [e] at c1
 try dsimp only at c1
 rotate_left
 have hn:a.length = 5:=by omega
 have e:=Bo (b:=⟨ba,bi,bb,bl,bt,bn⟩) (a:=a) (by decide) (by decide) rfl
 by_cases c1:(cJ ⟨ba,bi,bb,bl,bt,bn⟩ 3 a).2.2 = 0
 rw [gS (b:=⟨ba,bi,bb,bl,bt,bn⟩) c0 (fun h => h c1),e]
 rw [e] at c1
 try dsimp only at c1
 rotate_left
 rw [gR (b:=⟨ba,bi,bb,bl,bt,bn⟩) c0 c1,e]
 rw [e] at c1
 try dsimp only at c1
 rotate_left
 have hn:a.length = 5:=by omega
 have e:=Bp (b:=⟨ba,bi,bb,bl,bt,bn⟩) (a:=a) (by decide) (by decide) (by decide) rfl
 by_cases c1:(cJ ⟨ba,bi,bb,bl,bt,bn⟩ 4 a).2.2 = 0
 rw [gS (b:=⟨ba,bi,bb,bl,bt,bn⟩) c0 (fun h => h c1),e]
 rw [e] at c1
 try dsimp only at c1
 rotate_left
 rw [gR (b:=⟨ba,bi,bb,bl,bt,bn⟩) c0 c1,e]
 rw [e] at c1
 try dsimp only at c1
 rotate_left
 have hn:a.length = 7:=by omega
 have e:=Bq (b:=⟨ba,bi,bb,bl,bt,bn⟩) (a:=a) (by decide) (by decide) (by decide) (by decide) rfl
 by_cases c1:(cJ ⟨ba,bi,bb,bl,bt,bn⟩ 5 a).2.2 = 0
 rw [gS (b:=⟨ba,bi,bb,bl,bt,bn⟩) c0 (fun h => h c1),e]
 rw [e] at c1
 try dsimp only at c1
 rotate_left
 rw [gR (b:=⟨ba,bi,bb,bl,bt,bn⟩) c0 c1,e]
 rw [e] at c1
 try dsimp only at c1
 rotate_left
 have hn:a.length = 1:=by omega
 have e:=Br (b:=⟨ba,bi,bb,bl,bt,bn⟩) (a:=a) (by decide) (by decide) (by decide) (by decide) (by decide) rfl
 by_cases c1:(cJ ⟨ba,bi,bb,bl,bt,bn⟩ 6 a).2.2 = 0
 rw [gS (b:=⟨ba,bi,bb,bl,bt,bn⟩) c0 (fun h => h c1),e]
 rw [e] at c1
 try dsimp only at c1
 rotate_left
 rw [gR (b:=⟨ba,bi,bb,bl,bt,bn⟩) c0 c1,e]
 rw [e] at c1
 try dsimp only at c1
 rotate_left
 have hn:a.length = 2:=by omega
 have e:=Bs (b:=⟨ba,bi,bb,bl,bt,bn⟩) (a:=a) (by decide) (by decide) (by decide) (by decide) (by decide) (by decide) rfl
 by_cases c1:(cJ ⟨ba,bi,bb,bl,bt,bn⟩ 7 a).2.2 = 0
 rw [gS (b:=⟨ba,bi,bb,bl,bt,bn⟩) c0 (fun h => h c1),e]
 rw [e] at c1
 try dsimp only at c1
 rotate_left
 rw [gR (b:=⟨ba,bi,bb,bl,bt,bn⟩) c0 c1,e]
 rw [e] at c1
 try dsimp only at c1
 rotate_left
 have hn:a.length = 3:=by omega
 have e:=Bt (b:=⟨ba,bi,bb,bl,bt,bn⟩) (a:=a) (by decide) (by decide) (by decide) (by decide) (by decide) (by decide) (by decide) rfl
 by_cases c1:(cJ ⟨ba,bi,bb,bl,bt,bn⟩ 8 a).2.2 = 0
 rw [gS (b:=⟨ba,bi,bb,bl,bt,bn⟩) c0 (fun h => h c1),e]
 rw [e] at c1
 try dsimp only at c1
 rotate_left
 rw [gR (b:=⟨ba,bi,bb,bl,bt,bn⟩) c0 c1,e]
 rw [e] at c1
 try dsimp only at c1
 rotate_left
 have hn:a.length = 7:=by omega
 have e:=Bu (b:=⟨ba,bi,bb,bl,bt,bn⟩) (a:=a) (by decide) (by decide) (by decide) (by decide) (by decide) (by decide) (by decide) (by decide) rfl
 by_cases c1:(cJ ⟨ba,bi,bb,bl,bt,bn⟩ 9 a).2.2 = 0
 rw [gS (b:=⟨ba,bi,bb,bl,bt,bn⟩) c0 (fun h => h c1),e]
 rw [e] at c1
 try dsimp only at c1
 rotate_left
 rw [gR (b:=⟨ba,bi,bb,bl,bt,bn⟩) c0 c1,e]
 rw [e] at c1
 try dsimp only at c1
 rotate_left
 have hn:a.length = 4:=by omega
 have e:=Bv (b:=⟨ba,bi,bb,bl,bt,bn⟩) (a:=a) (by decide) (by decide) (by decide) (by decide) (by decide) (by decide) (by decide) (by decide) (by decide) rfl
 by_cases c1:(cJ ⟨ba,bi,bb,bl,bt,bn⟩ 10 a).2.2 = 0
 rw [gS (b:=⟨ba,bi,bb,bl,bt,bn⟩) c0 (fun h => h c1),e]
 rw [e] at c1
 try dsimp only at c1
 rotate_left
 rw [gR (b:=⟨ba,bi,bb,bl,bt,bn⟩) c0 c1,e]
 rw [e] at c1
 try dsimp only at c1
 rotate_left
 have hn:a.length = 4:=by omega
 have e:=zK (b:=⟨ba,bi,bb,bl,bt,bn⟩) (a:=a) (by decide) (by decide) (by decide) (by decide) (by decide) (by decide) (by decide) (by decide) (by decide) (by decide) rfl
 by_cases c1:(cJ ⟨ba,bi,bb,bl,bt,bn⟩ 11 a).2.2 = 0
 rw [gS (b:=⟨ba,bi,bb,bl,bt,bn⟩) c0 (fun h => h c1),e]
 rw [e] at c1
 try dsimp only at c1
 rotate_left
 rw [gR (b:=⟨ba,bi,bb,bl,bt,bn⟩) c0 c1,e]
 rw [e] at c1
 try dsimp only at c1
 rotate_left
 repeat' (first
| intro h9;exfalso;contradiction
| apply yds;rfl
| apply yd;rfl
| intro _
| refine nv ?_
| apply wct rfl
| apply wcf rfl
| apply yeq;rfl
| apply yne;rfl
| apply yix;rfl;omega
| apply yle;rfl;omega
| refine zdq (id:=7) rfl (by kernel_rfl) [(.p,1),(.p,2),(.p,4),(.p,5),(.t,0),(.t,3),(.t,6),(.o,7),(.p,8),(.p,9),(.p,10),(.l,11),(.p,12)] [11] (by kernel_rfl) rfl ?_
| refine zdq (id:=9) rfl (by kernel_rfl) [(.p,1),(.p,2),(.p,4),(.p,5),(.t,0),(.t,3),(.t,6),(.o,7),(.p,8),(.p,9),(.p,10),(.l,11),(.p,12)] [11] (by kernel_rfl) rfl ?_
| refine zdq (id:=11) rfl (by kernel_rfl) [(.p,1),(.p,2),(.p,4),(.p,5),(.p,7),(.p,8),(.p,10),(.p,11),(.p,13),(.p,14),(.t,0),(.t,3),(.t,6),(.t,9),(.t,12),(.t,15),(.o,16),(.p,17),(.p,18),(.p,19),(.l,20),(.p,21)] [20] (by kernel_rfl) rfl ?_
| refine zdq (id:=13) rfl (by kernel_rfl) [(.p,1),(.p,2),(.p,4),(.p,5),(.p,7),(.p,8),(.p,10),(.p,11),(.p,13),(.p,14),(.t,0),(.t,3),(.t,6),(.t,9),(.t,12),(.t,15),(.o,16),(.p,17),(.p,18),(.p,19),(.p,20),(.l,21),(.p,22),(.p,23)] [21] (by kernel_rfl) rfl ?_
| refine zdq (id:=15) rfl (by kernel_rfl) [(.p,1),(.p,2),(.p,4),(.p,5),(.p,7),(.p,8),(.p,10),(.p,11),(.p,13),(.p,14),(.p,16),(.p,17),(.p,19),(.p,20),(.t,0),(.t,3),(.t,6),(.t,9),(.t,12),(.t,15),(.t,18),(.t,21),(.o,22),(.p,23),(.p,24),(.p,25),(.l,26),(.p,27)] [26] (by kernel_rfl) rfl ?_
| refine zdq (id:=17) rfl (by kernel_rfl) [(.p,1),(.p,2),(.t,0),(.t,3),(.o,4),(.p,5),(.p,6),(.p,7),(.l,8),(.p,9)] [8] (by kernel_rfl) rfl ?_
| refine zdq (id:=19) rfl (by kernel_rfl) [(.p,1),(.p,2),(.p,4),(.p,5),(.t,0),(.t,3),(.t,6),(.o,7),(.p,8),(.p,9),(.p,10),(.p,11),(.l,12),(.p,13),(.p,14)] [12] (by kernel_rfl) rfl ?_
| refine zdq (id:=21) rfl (by kernel_rfl) [(.p,1),(.p,2),(.p,4),(.p,5),(.p,7),(.p,8),(.t,0),(.t,3),(.t,6),(.t,9),(.o,10),(.p,11),(.p,12),(.p,13),(.p,14),(.p,15),(.l,16),(.p,17),(.p,18)] [16] (by kernel_rfl) rfl ?_
| refine zdq (id:=23) rfl (by kernel_rfl) [(.p,1),(.p,2),(.p,4),(.p,5),(.p,7),(.p,8),(.p,10),(.p,11),(.p,13),(.p,14),(.p,16),(.p,17),(.p,19),(.p,20),(.t,0),(.t,3),(.t,6),(.t,9),(.t,12),(.t,15),(.t,18),(.t,21),(.o,22),(.p,23),(.p,24),(.p,25),(.p,26),(.l,27),(.p,28),(.p,29)] [27] (by kernel_rfl) rfl ?_
| refine zdq (id:=25) rfl (by kernel_rfl) [(.p,1),(.p,2),(.p,4),(.p,5),(.p,7),(.p,8),(.p,10),(.p,11),(.t,0),(.t,3),(.t,6),(.t,9),(.t,12),(.o,13),(.p,14),(.p,15),(.p,16),(.p,17),(.l,18),(.p,19),(.p,20)] [18] (by kernel_rfl) rfl ?_
| refine zdq (id:=27) rfl (by kernel_rfl) [(.p,1),(.p,2),(.p,4),(.p,5),(.p,7),(.p,8),(.p,10),(.p,11),(.t,0),(.t,3),(.t,6),(.t,9),(.t,12),(.o,13),(.p,14),(.p,15),(.p,16),(.p,17),(.l,18),(.p,19),(.p,20)] [18] (by kernel_rfl) rfl ?_
| apply ycp;rfl;(first | exact ap | exact pF);rfl
| apply ycf;rfl;(first | exact nC | exact pD | exact kC | exact lq | exact kD | exact nY | exact eo | exact rV | exact tJ | exact pE | exact mF);rfl
| fail)
 all_goals (exact ak [0,1,2,3,4,5,11,12,13,14,15] rfl rfl rfl rfl rfl rfl)
end
section
open Go.RowKit
theorem vf {b:Books} {k:Int} {a:List Int}:aW (cJ b k a).1:=by
 unfold cJ
 exact ay (P:=fun R:Books × Int × Int => aW R.1) (fun _ => oP) fun _ => ay (P:=fun R:Books × Int × Int => aW R.1) (fun _ => qX) fun _ => ay (P:=fun R:Books × Int × Int => aW R.1) (fun _ => qY) fun _ => ay (P:=fun R:Books × Int × Int => aW R.1) (fun _ => sy) fun _ => ay (P:=fun R:Books × Int × Int => aW R.1) (fun _ => ra) fun _ => ay (P:=fun R:Books × Int × Int => aW R.1) (fun _ => pV) fun _ => ay (P:=fun R:Books × Int × Int => aW R.1) (fun _ => lf) fun _ => ay (P:=fun R:Books × Int × Int => aW R.1) (fun _ => ug) fun _ => ay (P:=fun R:Books × Int × Int => aW R.1) (fun _ => wr) fun _ => ay (P:=fun R:Books × Int × Int => aW R.1) (fun _ => qZ) fun _ => ay (P:=fun R:Books × Int × Int => aW R.1) (fun _ => uh) fun _ => lS
theorem vd {b:Books} {k:Int} {a:List Int}:aW (fC b k a).1:=by
 unfold fC
 exact ay (P:=fun R:Books × Int × Int => aW R.1) (fun _ => lS) fun _ => ay (P:=fun R:Books × Int × Int => aW R.1) (fun _ => vf) fun _ => vf
end
end Go.Proofs.YtgehbhkfehmdkaaGreat.Sh
